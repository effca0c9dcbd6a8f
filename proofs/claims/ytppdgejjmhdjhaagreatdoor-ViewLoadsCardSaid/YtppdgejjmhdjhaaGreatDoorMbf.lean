/- Parts of the proof, joined; conditions: those that its theorems name. -/
import Derived.Test.YtppdgejjmhdjhaaGreatDoorMbc
import Derived.Test.YtppdgejjmhdjhaaGreatDoorMbd
set_option linter.unusedVariables false
set_option linter.unusedSimpArgs false
set_option maxHeartbeats 4000000
namespace Go.Proofs.YtppdgejjmhdjhaaGreatDoor
section
theorem mU(op:Int):aA Tryz.prog 130 [.int .i64 op] St.none (fun r _=>r=.int .i64 (parts op)):=by
 refine(aA.body 11 [.tmp 2] Tryz.func130 rfl rfl rfl rfl ?_)
 repeat' (first|(with_reducible first|(refine wN fun nl hnl=>?_;revert hnl;(repeat refine wS fun _ _=>?_);intro hnl)|refine wD (by decide +kernel) ?_|refine wI (fun h=>?_) fun h=>?_|refine wF (fun h=>?_) fun h=>?_|refine wG (fun h=>?_) fun h=>?_|refine wH (fun h=>?_) fun h=>?_|((first|refine aG (fun h=>?_) fun h=>?_|refine aE (fun h=>?_) fun h=>?_)<;>simp only[h]))|simp(maxSteps:=4000000) (disch:=first|decide|assumption|omega|(simp only[wL];omega)) only[go_sem,simprocAttr,Tryz.f130])
 all_goals simp[parts, *]
theorem qE(kd n:Int)(s:ByteArray):aA Tryz.prog 129 [.agg [.int .i64 kd,.int .i64 n,.str s]] St.none (fun r _=>r=.bool (eC ⟨kd,n,s⟩)):=by
 refine(aA.body 41 [.tmp 2] Tryz.func129 rfl rfl rfl rfl ?_)
 repeat' (first|(with_reducible first|(refine wN fun nl hnl=>?_;revert hnl;(repeat refine wS fun _ _=>?_);intro hnl)|refine wD (by decide +kernel) ?_|refine wI (fun h=>?_) fun h=>?_|refine wF (fun h=>?_) fun h=>?_|refine wG (fun h=>?_) fun h=>?_|refine wH (fun h=>?_) fun h=>?_|((first|refine aG (fun h=>?_) fun h=>?_|refine aE (fun h=>?_) fun h=>?_)<;>simp only[h]))|simp(maxSteps:=4000000) (disch:=first|decide|assumption|omega|(simp only[wL];omega)) only[go_sem,simprocAttr,Tryz.f129])
 all_goals simp[eC,va0, *]
 all_goals omega
set_option maxHeartbeats 2000000 in
theorem Fv (x:ND):aA Tryz.prog 57 [.agg x.c] St.none (fun r _=>r=.bool (eG x)):=by
 refine(aA.body 86 [.tmp 2] Tryz.func57 rfl rfl rfl rfl ?_)
 obtain⟨op,n,kd,vn,s⟩:=x
 repeat' (first|(with_reducible refine aQ (qE _ _ _) ?_)|(with_reducible first|(refine wN fun nl hnl=>?_;revert hnl;(repeat refine wS fun _ _=>?_);intro hnl)|refine wD (by decide +kernel) ?_|refine wI (fun h=>?_) fun h=>?_|refine wF (fun h=>?_) fun h=>?_|refine wG (fun h=>?_) fun h=>?_|refine wH (fun h=>?_) fun h=>?_|((first|refine aG (fun h=>?_) fun h=>?_|refine aE (fun h=>?_) fun h=>?_)<;>simp only[h]))|simp(maxSteps:=4000000) (disch:=first|decide|assumption|omega|(simp only[wL];omega)) only[go_sem,simprocAttr,Tryz.f57])
 all_goals first
  | (simp[eG,va0, *];done)
  | (simp[eG,va0, *];omega)
  | (simp[eG,va0, *];rintro rfl rfl rfl;rename_i h;revert h;simp[eC,va0])
theorem yP{l:List ND}{n j:Nat}(h:j<l.length):gS (n+1) (l.drop j)=(gS (n+parts (l.getD j nd0).op) (l.drop (j+1))).map (·+1):=by
 rw[List.drop_eq_getElem_cons h]
 have:l.getD j nd0=l[j]:=by simp[List.getD,h]
 rw[this]
 rfl
theorem nP(l:List ND)(hl:l.length≤1000000)(t:Bool)(i:Int):aA Tryz.prog 58 [.lst 5 (l.map ND.c) t,.int .i64 i] St.none (fun r _=>r=.int .i64 (gD l i)):=by
 refine(aA.body 30 [.tmp 4] Tryz.func58 rfl rfl rfl rfl ?_)
 by_cases hi:i<0
 ·repeat' (first|(with_reducible first|(refine wN fun nl hnl=>?_;revert hnl;(repeat refine wS fun _ _=>?_);intro hnl)|refine wD (by decide +kernel) ?_|refine wI (fun h=>?_) fun h=>?_|refine wF (fun h=>?_) fun h=>?_|refine wG (fun h=>?_) fun h=>?_|refine wH (fun h=>?_) fun h=>?_|((first|refine aG (fun h=>?_) fun h=>?_|refine aE (fun h=>?_) fun h=>?_)<;>simp only[h]))|simp(maxSteps:=4000000) (disch:=first|decide|assumption|omega|(simp only[wL];omega)) only[go_sem,simprocAttr,Tryz.f58])
  simp[gD,hi]
 ·obtain⟨i,rfl⟩:∃k:Nat,i=k:=⟨i.toNat,by omega⟩
  repeat' (first|(with_reducible first|(refine wN fun nl hnl=>?_;revert hnl;(repeat refine wS fun _ _=>?_);intro hnl)|refine wD (by decide +kernel) ?_|refine wI (fun h=>?_) fun h=>?_|refine wF (fun h=>?_) fun h=>?_|refine wG (fun h=>?_) fun h=>?_|refine wH (fun h=>?_) fun h=>?_|((first|refine aG (fun h=>?_) fun h=>?_|refine aE (fun h=>?_) fun h=>?_)<;>simp only[h]))|simp(maxSteps:=4000000) (disch:=first|decide|assumption|omega|(simp only[wL];omega)) only[go_sem,simprocAttr,Tryz.f58])
  refine aF (α:=Nat × Nat) (fun a=>⟨30,[(5,.int .i64 (a.2:Int)),(0,.lst 5 (l.map ND.c) t),(1,.int .i64 (a.1:Int))],[]⟩) (fun _=>St.none)
   (fun a=>i≤a.1∧a.1≤max i l.length∧a.2≤1+a.1∧gS 1 (l.drop i)=(gS a.2 (l.drop a.1)).map (·+(a.1 - i))) (fun a=>l.length - a.1) (.of (.less ?_ (St.le_refl _)) ⟨(i,1),rfl,rfl,?_⟩) ?_
  ·simp(maxSteps:=4000000) (disch:=first|decide|assumption|omega|(simp only[wL];omega)) only[go_sem,simprocAttr,aC,aB]
   all_goals rfl
  ·simp
   omega
  ·rintro⟨j,n⟩ ⟨h1,h2,h3,h4⟩
   simp only at h1 h2 h3 h4 ⊢
   by_cases hj:j<l.length
   ·rcases Nat.eq_zero_or_pos n with hn|hn
    ·subst hn
     repeat' (first|(with_reducible first|(refine wN fun nl hnl=>?_;revert hnl;(repeat refine wS fun _ _=>?_);intro hnl)|refine wD (by decide +kernel) ?_|refine wI (fun h=>?_) fun h=>?_|refine wF (fun h=>?_) fun h=>?_|refine wG (fun h=>?_) fun h=>?_|refine wH (fun h=>?_) fun h=>?_|((first|refine aG (fun h=>?_) fun h=>?_|refine aE (fun h=>?_) fun h=>?_)<;>simp only[h]))|simp(maxSteps:=4000000) (disch:=first|decide|assumption|omega|(simp only[wL];omega)) only[go_sem,simprocAttr,bE nd0,ND.c])
     simp only[gD,h4,gS,Option.map_some,Int.toNat_natCast]
     rw[if_neg hi]
     simp only[MV.int.injEq,true_and]
     omega
    ·obtain⟨m,rfl⟩:∃m,n=m+1:=⟨n - 1,by omega⟩
     have hp:=iO (l.getD j nd0).op
     repeat' (first|(with_reducible refine aQ (mU _) ?_)|(with_reducible first|(refine wN fun nl hnl=>?_;revert hnl;(repeat refine wS fun _ _=>?_);intro hnl)|refine wD (by decide +kernel) ?_|refine wI (fun h=>?_) fun h=>?_|refine wF (fun h=>?_) fun h=>?_|refine wG (fun h=>?_) fun h=>?_|refine wH (fun h=>?_) fun h=>?_|((first|refine aG (fun h=>?_) fun h=>?_|refine aE (fun h=>?_) fun h=>?_)<;>simp only[h]))|simp(maxSteps:=4000000) (disch:=first|decide|assumption|omega|(simp only[wL];omega)) only[go_sem,simprocAttr,bE nd0,ND.c])
     refine .of (.less (l1:=[(5,.int .i64 ((m+parts (l.getD j nd0).op:Nat):Int)),(0,.lst 5 (l.map ND.c) t),(1,.int .i64 ((j+1:Nat):Int))]) ?_ (St.le_refl _)) ⟨(j+1,m+parts (l.getD j nd0).op),rfl,rfl,⟨by simp only;omega,by simp only;omega,by simp only;omega,?_⟩,by simp only;omega⟩
     ·simp(maxSteps:=4000000) (disch:=first|decide|assumption|omega|(simp only[wL];omega)) only[go_sem,simprocAttr,aC,aB]
      all_goals omega
     ·rw[h4,yP hj]
      simp only[Option.map_map]
      congr 1
      funext k
      simp only[Function.comp]
      omega
   ·have hd:l.drop j=[]:=List.drop_eq_nil_of_le (by omega)
    rw[hd] at h4
    rcases Nat.eq_zero_or_pos n with hn|hn
    ·subst hn
     repeat' (first|(with_reducible first|(refine wN fun nl hnl=>?_;revert hnl;(repeat refine wS fun _ _=>?_);intro hnl)|refine wD (by decide +kernel) ?_|refine wI (fun h=>?_) fun h=>?_|refine wF (fun h=>?_) fun h=>?_|refine wG (fun h=>?_) fun h=>?_|refine wH (fun h=>?_) fun h=>?_|((first|refine aG (fun h=>?_) fun h=>?_|refine aE (fun h=>?_) fun h=>?_)<;>simp only[h]))|simp(maxSteps:=4000000) (disch:=first|decide|assumption|omega|(simp only[wL];omega)) only[go_sem,simprocAttr,bE nd0,ND.c])
     simp only[gD,h4,gS,Option.map_some,Int.toNat_natCast]
     rw[if_neg hi]
     simp only[MV.int.injEq,true_and]
     omega
    ·obtain⟨m,rfl⟩:∃m,n=m+1:=⟨n - 1,by omega⟩
     repeat' (first|(with_reducible first|(refine wN fun nl hnl=>?_;revert hnl;(repeat refine wS fun _ _=>?_);intro hnl)|refine wD (by decide +kernel) ?_|refine wI (fun h=>?_) fun h=>?_|refine wF (fun h=>?_) fun h=>?_|refine wG (fun h=>?_) fun h=>?_|refine wH (fun h=>?_) fun h=>?_|((first|refine aG (fun h=>?_) fun h=>?_|refine aE (fun h=>?_) fun h=>?_)<;>simp only[h]))|simp(maxSteps:=4000000) (disch:=first|decide|assumption|omega|(simp only[wL];omega)) only[go_sem,simprocAttr,bE nd0,ND.c])
     simp only[gD,h4,gS,Option.map_none,Int.toNat_natCast]
     rw[if_neg hi]
end

section
theorem mT(a b:Int):aA Tryz.prog 303 [.int .i64 a,.int .i64 b] St.none (fun r _=>r=.int .i64 (lM (cmpL [a] [b]))):=by
 refine(aA.body 11 [.tmp 4] Tryz.func303 rfl rfl rfl rfl ?_)
 repeat' (first|(with_reducible first|(refine wN fun nl hnl=>?_;revert hnl;(repeat refine wS fun _ _=>?_);intro hnl)|refine wD (by decide +kernel) ?_|refine wI (fun h=>?_) fun h=>?_|refine wF (fun h=>?_) fun h=>?_|refine wG (fun h=>?_) fun h=>?_|refine wH (fun h=>?_) fun h=>?_|((first|refine aG (fun h=>?_) fun h=>?_|refine aE (fun h=>?_) fun h=>?_)<;>simp only[h]))|simp(maxSteps:=4000000) (disch:=first|exact ddL|fail) only[go_sem,simprocAttr,Tryz.f303])
 all_goals simp[cmpL,lM, *]
theorem v8(a b:VA)(ha:a.s.size≤1000000)(hb:b.s.size≤1000000):aA Tryz.prog 276 [.agg a.c,.agg b.c] St.none (fun r _=>r=.int .i64 (lM (cmpL a.key b.key))):=by
 refine(aA.body 67 [.tmp 4] Tryz.func276 rfl rfl rfl rfl ?_)
 repeat' (first|(with_reducible refine aQ (mT _ _) ?_)|(with_reducible first|(refine wN fun nl hnl=>?_;revert hnl;(repeat refine wS fun _ _=>?_);intro hnl)|refine wD (by decide +kernel) ?_|refine wI (fun h=>?_) fun h=>?_|refine wF (fun h=>?_) fun h=>?_|refine wG (fun h=>?_) fun h=>?_|refine wH (fun h=>?_) fun h=>?_|((first|refine aG (fun h=>?_) fun h=>?_|refine aE (fun h=>?_) fun h=>?_)<;>simp only[h]))|simp(maxSteps:=4000000) (disch:=first|exact ddL|fail) only[go_sem,simprocAttr,Tryz.f276])
 ·rw[show cmpL a.key b.key=cmpL [a.kd] [b.kd] from pQ h]
 ·have h1:=Classical.not_not.1 ‹¬¬a.kd=b.kd›
  have:cmpL a.key b.key=cmpL [a.n] [b.n]:=by
   rw[VA.key,VA.key,h1,jI,pQ h]
  rw[this]
 ·have h1:=Classical.not_not.1 ‹¬¬a.kd=b.kd›
  have h2:=Classical.not_not.1 ‹¬¬a.n=b.n›
  have hk:cmpL a.key b.key=cmpL (bk a.s) (bk b.s):=by
   rw[VA.key,VA.key,h1,jI,h2,jI];rfl
  rw[hk]
  rename_i pa hpa _ _ _
  refine aF (α:=Nat) (fun i=>⟨67,[(5,.int .i64 (i:Int)),(3,.ptr nl 0 0),(2,.ptr pa 0 0)],[]⟩) (fun _=>(St.none.set pa (.row 54 3 [a.c])).set nl (.row 54 3 [b.c]))
   (fun i=>i≤a.s.size∧i≤b.s.size∧cmpL (bk a.s) (bk b.s)=cmpL ((bk a.s).drop i) ((bk b.s).drop i)) (fun i=>a.s.size - i) (.of (.less ?_ (St.le_refl _)) ⟨0,rfl,rfl,by simp⟩) ?_
  ·simp(maxSteps:=4000000) (disch:=first|exact ddL|fail) only[go_sem,simprocAttr,aC,aB]
   all_goals rfl
  ·rintro i ⟨h3,h4,h5⟩
   by_cases hi:i<a.s.size∧i<b.s.size
   ·obtain⟨hi1,hi2⟩:=hi
    rw[sV hi1,sV hi2] at h5
    have hc1:((a.s.toList.getD i 0).toNat:Int)≤255:=by have:=(a.s.toList.getD i 0).toNat_lt;omega
    have hc2:((b.s.toList.getD i 0).toNat:Int)≤255:=by have:=(b.s.toList.getD i 0).toNat_lt;omega
    have hc3:0≤((a.s.toList.getD i 0).toNat:Int):=by omega
    have hc4:0≤((b.s.toList.getD i 0).toNat:Int):=by omega
    obtain⟨ca,hca⟩:∃c:Int,((a.s.toList.getD i 0).toNat:Int)=c:=⟨_,rfl⟩
    obtain⟨cb,hcb⟩:∃c:Int,((b.s.toList.getD i 0).toNat:Int)=c:=⟨_,rfl⟩
    rw[hca] at h5 hc1 hc3
    rw[hcb] at h5 hc2 hc4
    by_cases hcc:ca=cb
    ·rw[hcc,jI] at h5
     repeat' (first|(with_reducible first|(refine wN fun nl hnl=>?_;revert hnl;(repeat refine wS fun _ _=>?_);intro hnl)|refine wD (by decide +kernel) ?_|refine wI (fun h=>?_) fun h=>?_|refine wF (fun h=>?_) fun h=>?_|refine wG (fun h=>?_) fun h=>?_|refine wH (fun h=>?_) fun h=>?_|((first|refine aG (fun h=>?_) fun h=>?_|refine aE (fun h=>?_) fun h=>?_)<;>simp only[h]))|simp(maxSteps:=4000000) (disch:=first|exact ddL|fail) only[go_sem,simprocAttr,hca,hcb])
     refine .of (.less (l1:=[(5,.int .i64 ((i+1:Nat):Int)),(3,.ptr nl 0 0),(2,.ptr pa 0 0)]) ?_ (St.le_refl _)) ⟨i+1,rfl,rfl,⟨by omega,by omega,h5⟩,by omega⟩
     simp(maxSteps:=4000000) (disch:=first|exact ddL|fail) only[go_sem,simprocAttr,aC,aB]
     all_goals omega
    ·repeat' (first|(with_reducible refine aK mixed (by decide +kernel) (fun g ms=>if g=303 then some ⟨[],fun v=>v=.int .i64 (lM (cmpL [ca] [cb])),none⟩ else none) ?_)|(with_reducible refine aI rfl (mT _ _) ?_)|(with_reducible first|(refine wN fun nl hnl=>?_;revert hnl;(repeat refine wS fun _ _=>?_);intro hnl)|refine wD (by decide +kernel) ?_|refine wI (fun h=>?_) fun h=>?_|refine wF (fun h=>?_) fun h=>?_|refine wG (fun h=>?_) fun h=>?_|refine wH (fun h=>?_) fun h=>?_|((first|refine aG (fun h=>?_) fun h=>?_|refine aE (fun h=>?_) fun h=>?_)<;>simp only[h]))|simp(maxSteps:=4000000) (disch:=first|exact ddL|fail) only[go_sem,simprocAttr,hca,hcb])
     rw[h5,pQ (x:=(bk a.s).drop (i+1)) (y:=(bk b.s).drop (i+1)) hcc]
   ·have key:cmpL (bk a.s) (bk b.s)=cmpL [(a.s.size:Int)] [(b.s.size:Int)]:=by
     rw[h5]
     by_cases h6:i<a.s.size
     ·have h7:i=b.s.size:=by omega
      rw[sV h6,l9 (s:=b.s) (n:=i) (by omega)]
      simp only[cmpL]
      rw[if_neg (by omega),if_pos (by omega)]
     ·have h7:i=a.s.size:=by omega
      rw[l9 (s:=a.s) (n:=i) (by omega)]
      by_cases h8:i<b.s.size
      ·rw[sV h8]
       simp only[cmpL]
       rw[if_pos (by omega)]
      ·rw[l9 (s:=b.s) (n:=i) (by omega)]
       simp only[cmpL]
       rw[if_neg (by omega),if_neg (by omega)]
    repeat' (first|(with_reducible refine aQ (mT _ _) ?_)|(with_reducible first|(refine wN fun nl hnl=>?_;revert hnl;(repeat refine wS fun _ _=>?_);intro hnl)|refine wD (by decide +kernel) ?_|refine wI (fun h=>?_) fun h=>?_|refine wF (fun h=>?_) fun h=>?_|refine wG (fun h=>?_) fun h=>?_|refine wH (fun h=>?_) fun h=>?_|((first|refine aG (fun h=>?_) fun h=>?_|refine aE (fun h=>?_) fun h=>?_)<;>simp only[h]))|simp(maxSteps:=4000000) (disch:=first|exact ddL|fail) only[go_sem,simprocAttr])
    all_goals rw[key]
end

section
theorem fV(op:Int):aA Tryz.prog 204 [.int .i64 op] St.none (fun r _=>r=.int .i64 (parts op)):=by
 refine(aA.body 9 [.tmp 2] Tryz.func204 rfl rfl rfl rfl ?_)
 repeat' (first|(with_reducible first|(refine wN fun nl hnl=>?_;revert hnl;(repeat refine wS fun _ _=>?_);intro hnl)|refine wD (by decide +kernel) ?_|refine wI (fun h=>?_) fun h=>?_|refine wF (fun h=>?_) fun h=>?_|refine wG (fun h=>?_) fun h=>?_|refine wH (fun h=>?_) fun h=>?_|((first|refine aG (fun h=>?_) fun h=>?_|refine aE (fun h=>?_) fun h=>?_)<;>simp only[h]))|simp(maxSteps:=4000000) (disch:=first|decide|assumption|omega|(simp only[wL];omega)) only[go_sem,simprocAttr,Tryz.f204])
 all_goals simp[parts, *]
theorem nD(kd n:Int)(s:ByteArray):aA Tryz.prog 211 [.agg [.int .i64 kd,.int .i64 n,.str s]] St.none (fun r _=>r=.bool (eC ⟨kd,n,s⟩)):=by
 refine(aA.body 36 [.tmp 2] Tryz.func211 rfl rfl rfl rfl ?_)
 repeat' (first|(with_reducible first|(refine wN fun nl hnl=>?_;revert hnl;(repeat refine wS fun _ _=>?_);intro hnl)|refine wD (by decide +kernel) ?_|refine wI (fun h=>?_) fun h=>?_|refine wF (fun h=>?_) fun h=>?_|refine wG (fun h=>?_) fun h=>?_|refine wH (fun h=>?_) fun h=>?_|((first|refine aG (fun h=>?_) fun h=>?_|refine aE (fun h=>?_) fun h=>?_)<;>simp only[h]))|simp(maxSteps:=4000000) (disch:=first|decide|assumption|omega|(simp only[wL];omega)) only[go_sem,simprocAttr,Tryz.f211])
 all_goals first
  | (simp[eC,va0, *];done)
  | (simp[eC,va0, *];omega)
theorem rY(a:Int):aA Tryz.prog 299 [.int .i64 a] St.none (fun r _=>r=.bool false):=by
 refine(aA.body 6 [.tmp 2] Tryz.func299 rfl rfl rfl rfl ?_)
 repeat' (first|(with_reducible first|(refine wN fun nl hnl=>?_;revert hnl;(repeat refine wS fun _ _=>?_);intro hnl)|refine wD (by decide +kernel) ?_|refine wI (fun h=>?_) fun h=>?_|refine wF (fun h=>?_) fun h=>?_|refine wG (fun h=>?_) fun h=>?_|refine wH (fun h=>?_) fun h=>?_|((first|refine aG (fun h=>?_) fun h=>?_|refine aE (fun h=>?_) fun h=>?_)<;>simp only[h]))|simp(maxSteps:=4000000) (disch:=first|decide|assumption|omega|(simp only[wL];omega)) only[go_sem,simprocAttr,Tryz.f299,lC])
theorem CO(a:ByteArray):aA Tryz.prog 330 [.str a] St.none (fun r _=>r=.bool false):=by
 refine(aA.body 6 [.tmp 2] Tryz.func330 rfl rfl rfl rfl ?_)
 repeat' (first|(with_reducible first|(refine wN fun nl hnl=>?_;revert hnl;(repeat refine wS fun _ _=>?_);intro hnl)|refine wD (by decide +kernel) ?_|refine wI (fun h=>?_) fun h=>?_|refine wF (fun h=>?_) fun h=>?_|refine wG (fun h=>?_) fun h=>?_|refine wH (fun h=>?_) fun h=>?_|((first|refine aG (fun h=>?_) fun h=>?_|refine aE (fun h=>?_) fun h=>?_)<;>simp only[h]))|simp(maxSteps:=4000000) (disch:=first|decide|assumption|omega|(simp only[wL];omega)) only[go_sem,simprocAttr,Tryz.f330,lC])
theorem mB(a b:Int):aA Tryz.prog 268 [.int .i64 a,.int .i64 b] St.none (fun r _=>r=.int .i64 (lM (cmpL [a] [b]))):=by
 refine(aA.body 20 [.tmp 4] Tryz.func268 rfl rfl rfl rfl ?_)
 repeat' (first|(with_reducible refine aQ (rY _) ?_)|(with_reducible first|(refine wN fun nl hnl=>?_;revert hnl;(repeat refine wS fun _ _=>?_);intro hnl)|refine wD (by decide +kernel) ?_|refine wI (fun h=>?_) fun h=>?_|refine wF (fun h=>?_) fun h=>?_|refine wG (fun h=>?_) fun h=>?_|refine wH (fun h=>?_) fun h=>?_|((first|refine aG (fun h=>?_) fun h=>?_|refine aE (fun h=>?_) fun h=>?_)<;>simp only[h]))|simp(maxSteps:=4000000) (disch:=first|decide|assumption|omega|(simp only[wL];omega)) only[go_sem,simprocAttr,Tryz.f268])
 all_goals simp[cmpL,lM, *]
theorem mC(a b:ByteArray):aA Tryz.prog 318 [.str a,.str b] St.none (fun r _=>r=.int .i64 (lM (cmpL (bk a) (bk b)))):=by
 refine(aA.body 20 [.tmp 4] Tryz.func318 rfl rfl rfl rfl ?_)
 have hb:=nZ a.toList b.toList
 change _=decide (cmpL (bk a) (bk b)=.lt) at hb
 repeat' (first|(with_reducible refine aQ (CO _) ?_)|(with_reducible first|(refine wN fun nl hnl=>?_;revert hnl;(repeat refine wS fun _ _=>?_);intro hnl)|refine wD (by decide +kernel) ?_|refine wI (fun h=>?_) fun h=>?_|refine wF (fun h=>?_) fun h=>?_|refine wG (fun h=>?_) fun h=>?_|refine wH (fun h=>?_) fun h=>?_|((first|refine aG (fun h=>?_) fun h=>?_|refine aE (fun h=>?_) fun h=>?_)<;>simp only[h]))|simp(maxSteps:=4000000) (disch:=first|decide|assumption|omega|(simp only[wL];omega)) only[go_sem,simprocAttr,Tryz.f318])
 ·rw[hb] at h
  simp only[decide_eq_true_eq] at h
  rw[h];rfl
 ·rename_i h0
  rw[hb] at h0
  simp only[decide_eq_false_iff_not] at h0
  simp only[Bool.not_eq_true',Bool.or_eq_false_iff,decide_eq_false_iff_not] at h
  have h1:cmpL (bk a) (bk b)≠.eq:=fun e=>h.2 (bytes_inj (cmpL_eq.1 e))
  cases e:cmpL (bk a) (bk b)
  ·exact absurd e h0
  ·exact absurd e h1
  ·rfl
 ·rename_i h0
  simp only[h0,Bool.false_or,Bool.not_eq_false',decide_eq_true_eq] at h
  rw[h,qS];rfl
theorem Mr{l:List ND}{i:Int}(h:¬(i<0∨(l.length:Int)≤i)):gD l i=match gS 1 (l.drop i.toNat) with
  | none=>-1
  | some k=>i+k:=by
 unfold gD
 rw[if_neg (by omega)]
 cases gS 1 (l.drop i.toNat)<;>rfl
theorem zM(l:List ND)(hl:l.length≤1000000)(t:Bool)(i:Int):aA Tryz.prog 196 [.lst 5 (l.map ND.c) t,.int .i64 i] St.none (fun r _=>r=.int .i64 (gD l i)):=by
 refine(aA.body 38 [.tmp 4] Tryz.func196 rfl rfl rfl rfl ?_)
 by_cases hi:i<0∨(l.length:Int)≤i
 ·have he:gD l i = -1:=by
   unfold gD
   by_cases h0:i<0
   ·rw[if_pos h0]
   ·rw[if_neg h0,List.drop_eq_nil_of_le (by omega)];rfl
  rw[he]
  repeat' (first|(with_reducible first|(refine wN fun nl hnl=>?_;revert hnl;(repeat refine wS fun _ _=>?_);intro hnl)|refine wD (by decide +kernel) ?_|refine wI (fun h=>?_) fun h=>?_|refine wF (fun h=>?_) fun h=>?_|refine wG (fun h=>?_) fun h=>?_|refine wH (fun h=>?_) fun h=>?_|((first|refine aG (fun h=>?_) fun h=>?_|refine aE (fun h=>?_) fun h=>?_)<;>simp only[h]))|simp(maxSteps:=4000000) (disch:=first|decide|assumption|omega|(simp only[wL];omega)) only[go_sem,simprocAttr,Tryz.f196])
 ·obtain⟨m,hm⟩:∃m,l.drop i.toNat=m:=⟨_,rfl⟩
  have hml:l.length - i.toNat=m.length:=by rw[←hm];simp
  have hm0:m.length≤1000000:=by omega
  have hb:i+m.length≤1000000:=by omega
  have h0:0≤i:=by omega
  rw[Mr hi,hm]
  repeat' (first|(with_reducible first|(refine wN fun nl hnl=>?_;revert hnl;(repeat refine wS fun _ _=>?_);intro hnl)|refine wD (by decide +kernel) ?_|refine wI (fun h=>?_) fun h=>?_|refine wF (fun h=>?_) fun h=>?_|refine wG (fun h=>?_) fun h=>?_|refine wH (fun h=>?_) fun h=>?_|((first|refine aG (fun h=>?_) fun h=>?_|refine aE (fun h=>?_) fun h=>?_)<;>simp only[h]))|simp(maxSteps:=4000000) (disch:=first|decide|assumption|omega|(simp only[wL];omega)) only[go_sem,simprocAttr,Tryz.f196,hm,hml])
  refine aF (α:=Nat × Nat) (fun a=>⟨38,[(20,.int .i64 (a.1:Int)),(19,.int .i64 (m.length:Int)),(18,.lst 5 (m.map ND.c) t),(5,.int .i64 (a.2:Int)),(1,.int .i64 i)],[]⟩) (fun _=>St.none)
   (fun a=>a.1≤m.length∧1≤a.2∧a.2≤1+a.1∧gS 1 m=(gS a.2 (m.drop a.1)).map (·+a.1)) (fun a=>m.length - a.1) (.of (.less ?_ (St.le_refl _)) ⟨(0,1),rfl,rfl,by simp⟩) ?_
  ·simp(maxSteps:=4000000) (disch:=first|decide|assumption|omega|(simp only[wL];omega)) only[go_sem,simprocAttr,aC,aB]
   all_goals omega
  ·rintro⟨k,n⟩ ⟨h1,h2,h3,h4⟩
   simp only at h1 h2 h3 h4 ⊢
   obtain⟨q,rfl⟩:∃q,n=q+1:=⟨n - 1,by omega⟩
   by_cases hk:k<m.length
   ·have hp:=iO (m.getD k nd0).op
    rw[yP hk] at h4
    obtain⟨pp,hpp⟩:∃pp:Nat,parts (m.getD k nd0).op=pp:=⟨_,rfl⟩
    rw[hpp] at h4 hp
    by_cases hz:q+pp=0
    ·rw[hz] at h4
     have hq:q=0:=by omega
     have hpz:pp=0:=by omega
     subst hq
     rw[hpz] at hpp
     repeat' (first|(with_reducible refine aQ (fV _) ?_)|(with_reducible first|(refine wN fun nl hnl=>?_;revert hnl;(repeat refine wS fun _ _=>?_);intro hnl)|refine wD (by decide +kernel) ?_|refine wI (fun h=>?_) fun h=>?_|refine wF (fun h=>?_) fun h=>?_|refine wG (fun h=>?_) fun h=>?_|refine wH (fun h=>?_) fun h=>?_|((first|refine aG (fun h=>?_) fun h=>?_|refine aE (fun h=>?_) fun h=>?_)<;>simp only[h]))|simp(maxSteps:=4000000) (disch:=first|decide|assumption|omega|(simp only[wL];omega)) only[go_sem,simprocAttr,bE nd0,hpp])
     rw[h4]
     simp only[gS,Option.map_some,MV.int.injEq,true_and]
     have e1:((0+1+k:Nat):Int)=(k:Int)+1:=by omega
     rw[e1,Int.add_assoc]
    ·repeat' (first|(with_reducible refine aQ (fV _) ?_)|(with_reducible first|(refine wN fun nl hnl=>?_;revert hnl;(repeat refine wS fun _ _=>?_);intro hnl)|refine wD (by decide +kernel) ?_|refine wI (fun h=>?_) fun h=>?_|refine wF (fun h=>?_) fun h=>?_|refine wG (fun h=>?_) fun h=>?_|refine wH (fun h=>?_) fun h=>?_|((first|refine aG (fun h=>?_) fun h=>?_|refine aE (fun h=>?_) fun h=>?_)<;>simp only[h]))|simp(maxSteps:=4000000) (disch:=first|decide|assumption|omega|(simp only[wL];omega)) only[go_sem,simprocAttr,bE nd0,hpp])
     refine .of (.less (l1:=[(20,.int .i64 ((k+1:Nat):Int)),(19,.int .i64 (m.length:Int)),(18,.lst 5 (m.map ND.c) t),(5,.int .i64 ((q+pp:Nat):Int)),(1,.int .i64 i)]) ?_ (St.none_le _)) ⟨(k+1,q+pp),rfl,rfl,⟨by simp only;omega,by simp only;omega,by simp only;omega,?_⟩,by simp only;omega⟩
     ·simp(maxSteps:=4000000) (disch:=first|decide|assumption|omega|(simp only[wL];omega)) only[go_sem,simprocAttr,aC,aB]
      all_goals omega
     ·rw[h4]
      simp only[Option.map_map]
      congr 1
      funext k
      simp only[Function.comp]
      omega
   ·rw[List.drop_eq_nil_of_le (by omega)] at h4
    rw[h4]
    repeat' (first|(with_reducible first|(refine wN fun nl hnl=>?_;revert hnl;(repeat refine wS fun _ _=>?_);intro hnl)|refine wD (by decide +kernel) ?_|refine wI (fun h=>?_) fun h=>?_|refine wF (fun h=>?_) fun h=>?_|refine wG (fun h=>?_) fun h=>?_|refine wH (fun h=>?_) fun h=>?_|((first|refine aG (fun h=>?_) fun h=>?_|refine aE (fun h=>?_) fun h=>?_)<;>simp only[h]))|simp(maxSteps:=4000000) (disch:=first|decide|assumption|omega|(simp only[wL];omega)) only[go_sem,simprocAttr,bE nd0])
    rfl
theorem Et(p:ND→Bool)(g:FuncId)(l:List ND)(hl:l.length≤1000000)(t:Bool)(hg:∀x,x∈l→aA Tryz.prog g [.agg x.c] St.none (fun r _=>r=.bool (p x))) :
  aA Tryz.prog 245 [.lst 5 (l.map ND.c) t,.fn (.func g) [] []] St.none (fun r _=>r=.int .i64 (if l.any p then(l.findIdx p:Int) else -1)):=by
 refine(aA.body 19 [.tmp 4] Tryz.func245 rfl rfl rfl rfl ?_)
 repeat' (first|(with_reducible first|(refine wN fun nl hnl=>?_;revert hnl;(repeat refine wS fun _ _=>?_);intro hnl)|refine wD (by decide +kernel) ?_|refine wI (fun h=>?_) fun h=>?_|refine wF (fun h=>?_) fun h=>?_|refine wG (fun h=>?_) fun h=>?_|refine wH (fun h=>?_) fun h=>?_|((first|refine aG (fun h=>?_) fun h=>?_|refine aE (fun h=>?_) fun h=>?_)<;>simp only[h]))|simp(maxSteps:=4000000) (disch:=first|decide|assumption|omega|(simp only[wL];omega)) only[go_sem,simprocAttr,Tryz.f245])
 refine aF (α:=Nat) (fun k=>⟨19,[(8,.int .i64 (k:Int)),(7,.int .i64 (l.length:Int)),(6,.lst 5 (l.map ND.c) t),(0,.lst 5 (l.map ND.c) t),(1,.fn (.func g) [] [])],[]⟩) (fun _=>St.none)
  (fun k=>k≤l.length∧(l.take k).any p=false) (fun k=>l.length - k) (.of (.less ?_ (St.le_refl _)) ⟨0,rfl,rfl,by simp⟩) ?_
 ·simp(maxSteps:=4000000) (disch:=first|decide|assumption|omega|(simp only[wL];omega)) only[go_sem,simprocAttr,aC,aB]
  all_goals rfl
 ·rintro k ⟨h1,h2⟩
  by_cases hk:k<l.length
  ·have hgk:=hg _ (dJ nd0 hk)
   cases hp:p (l.getD k nd0)
   ·rw[hp] at hgk
    repeat' (first|(with_reducible refine aQ hgk ?_)|(with_reducible first|(refine wN fun nl hnl=>?_;revert hnl;(repeat refine wS fun _ _=>?_);intro hnl)|refine wD (by decide +kernel) ?_|refine wI (fun h=>?_) fun h=>?_|refine wF (fun h=>?_) fun h=>?_|refine wG (fun h=>?_) fun h=>?_|refine wH (fun h=>?_) fun h=>?_|((first|refine aG (fun h=>?_) fun h=>?_|refine aE (fun h=>?_) fun h=>?_)<;>simp only[h]))|simp(maxSteps:=4000000) (disch:=first|decide|assumption|omega|(simp only[wL];omega)) only[go_sem,simprocAttr,bE nd0])
    refine .of (.less (l1:=[(8,.int .i64 ((k+1:Nat):Int)),(7,.int .i64 (l.length:Int)),(6,.lst 5 (l.map ND.c) t),(0,.lst 5 (l.map ND.c) t),(1,.fn (.func g) [] [])]) ?_ (St.le_refl _)) ⟨k+1,rfl,rfl,⟨by omega,?_⟩,by omega⟩
    ·simp(maxSteps:=4000000) (disch:=first|decide|assumption|omega|(simp only[wL];omega)) only[go_sem,simprocAttr,aC,aB]
     all_goals omega
    ·rw[kF hk,h2,←bG nd0 hk,hp];rfl
   ·rw[hp] at hgk
    have hany:l.any p=true:=List.any_eq_true.2 ⟨_,dJ nd0 hk,hp⟩
    have hf:l.findIdx p=k:=by
     rw[List.findIdx_eq hk]
     refine⟨by rw[←bG nd0 hk];exact hp,fun j hj=>?_⟩
     have:=List.any_eq_false.1 h2 l[j] (by rw[List.mem_take_iff_getElem];exact⟨j,by omega,rfl⟩)
     simpa using this
    rw[hany,hf]
    repeat' (first|(with_reducible refine aQ hgk ?_)|(with_reducible first|(refine wN fun nl hnl=>?_;revert hnl;(repeat refine wS fun _ _=>?_);intro hnl)|refine wD (by decide +kernel) ?_|refine wI (fun h=>?_) fun h=>?_|refine wF (fun h=>?_) fun h=>?_|refine wG (fun h=>?_) fun h=>?_|refine wH (fun h=>?_) fun h=>?_|((first|refine aG (fun h=>?_) fun h=>?_|refine aE (fun h=>?_) fun h=>?_)<;>simp only[h]))|simp(maxSteps:=4000000) (disch:=first|decide|assumption|omega|(simp only[wL];omega)) only[go_sem,simprocAttr,bE nd0])
  ·have:k=l.length:=by omega
   subst this
   rw[List.take_length] at h2
   rw[h2]
   repeat' (first|(with_reducible first|(refine wN fun nl hnl=>?_;revert hnl;(repeat refine wS fun _ _=>?_);intro hnl)|refine wD (by decide +kernel) ?_|refine wI (fun h=>?_) fun h=>?_|refine wF (fun h=>?_) fun h=>?_|refine wG (fun h=>?_) fun h=>?_|refine wH (fun h=>?_) fun h=>?_|((first|refine aG (fun h=>?_) fun h=>?_|refine aE (fun h=>?_) fun h=>?_)<;>simp only[h]))|simp(maxSteps:=4000000) (disch:=first|decide|assumption|omega|(simp only[wL];omega)) only[go_sem,simprocAttr,bE nd0])
theorem xI(p:ND→Bool)(g:FuncId)(l:List ND)(hl:l.length≤1000000)(t:Bool)(hg:∀x,x∈l→aA Tryz.prog g [.agg x.c] St.none (fun r _=>r=.bool (p x))) :
  aA Tryz.prog 197 [.lst 5 (l.map ND.c) t,.fn (.func g) [] []] St.none (fun r _=>r=.bool (l.any p)):=by
 refine(aA.body 9 [.tmp 4] Tryz.func197 rfl rfl rfl rfl ?_)
 have hi:=Et p g l hl t hg
 cases hany:l.any p
 ·rw[hany] at hi
  simp only[Bool.false_eq_true,if_false] at hi
  repeat' (first|(with_reducible refine aQ hi ?_)|(with_reducible first|(refine wN fun nl hnl=>?_;revert hnl;(repeat refine wS fun _ _=>?_);intro hnl)|refine wD (by decide +kernel) ?_|refine wI (fun h=>?_) fun h=>?_|refine wF (fun h=>?_) fun h=>?_|refine wG (fun h=>?_) fun h=>?_|refine wH (fun h=>?_) fun h=>?_|((first|refine aG (fun h=>?_) fun h=>?_|refine aE (fun h=>?_) fun h=>?_)<;>simp only[h]))|simp(maxSteps:=4000000) (disch:=first|decide|assumption|omega|(simp only[wL];omega)) only[go_sem,simprocAttr,Tryz.f197])
 ·rw[hany] at hi
  simp only[if_true] at hi
  repeat' (first|(with_reducible refine aQ hi ?_)|(with_reducible first|(refine wN fun nl hnl=>?_;revert hnl;(repeat refine wS fun _ _=>?_);intro hnl)|refine wD (by decide +kernel) ?_|refine wI (fun h=>?_) fun h=>?_|refine wF (fun h=>?_) fun h=>?_|refine wG (fun h=>?_) fun h=>?_|refine wH (fun h=>?_) fun h=>?_|((first|refine aG (fun h=>?_) fun h=>?_|refine aE (fun h=>?_) fun h=>?_)<;>simp only[h]))|simp(maxSteps:=4000000) (disch:=first|decide|assumption|omega|(simp only[wL];omega)) only[go_sem,simprocAttr,Tryz.f197])
  simp
theorem yI(a b:VA):aA Tryz.prog 295 [.agg a.c,.agg b.c] St.none (fun r _=>r=.int .i64 (lM (cmpL a.key b.key))):=by
 refine(aA.body 28 [.tmp 4] Tryz.func295 rfl rfl rfl rfl ?_)
 by_cases h1:a.kd=b.kd
 ·have e1:cmpL a.key b.key=cmpL (a.n::bk a.s) (b.n::bk b.s):=by rw[VA.key,VA.key,h1,jI];rfl
  have c1:lM (cmpL [a.kd] [b.kd])=0:=by rw[h1,qS];rfl
  by_cases h2:a.n=b.n
  ·have e2:cmpL a.key b.key=cmpL (bk a.s) (bk b.s):=by rw[e1,h2,jI]
   have c2:lM (cmpL [a.n] [b.n])=0:=by rw[h2,qS];rfl
   rw[e2]
   repeat' (first|(with_reducible refine aQ (mB _ _) ?_)|(with_reducible refine aQ (mC _ _) ?_)|(with_reducible first|(refine wN fun nl hnl=>?_;revert hnl;(repeat refine wS fun _ _=>?_);intro hnl)|refine wD (by decide +kernel) ?_|refine wI (fun h=>?_) fun h=>?_|refine wF (fun h=>?_) fun h=>?_|refine wG (fun h=>?_) fun h=>?_|refine wH (fun h=>?_) fun h=>?_|((first|refine aG (fun h=>?_) fun h=>?_|refine aE (fun h=>?_) fun h=>?_)<;>simp only[h]))|simp(maxSteps:=4000000) (disch:=first|decide|assumption|omega|(simp only[wL];omega)) only[go_sem,simprocAttr,Tryz.f295,c1,c2])
  ·have e2:cmpL a.key b.key=cmpL [a.n] [b.n]:=by rw[e1,pQ h2]
   have c2:lM (cmpL [a.n] [b.n])≠0:=fun h=>h2 (by have:=cmpL_eq.1 (zI.1 h);simpa using this)
   rw[e2]
   repeat' (first|(with_reducible refine aQ (mB _ _) ?_)|(with_reducible refine aQ (mC _ _) ?_)|(with_reducible first|(refine wN fun nl hnl=>?_;revert hnl;(repeat refine wS fun _ _=>?_);intro hnl)|refine wD (by decide +kernel) ?_|refine wI (fun h=>?_) fun h=>?_|refine wF (fun h=>?_) fun h=>?_|refine wG (fun h=>?_) fun h=>?_|refine wH (fun h=>?_) fun h=>?_|((first|refine aG (fun h=>?_) fun h=>?_|refine aE (fun h=>?_) fun h=>?_)<;>simp only[h]))|simp(maxSteps:=4000000) (disch:=first|decide|assumption|omega|(simp only[wL];omega)) only[go_sem,simprocAttr,Tryz.f295,c1])
 ·have e1:cmpL a.key b.key=cmpL [a.kd] [b.kd]:=by rw[VA.key,VA.key,pQ h1]
  have c1:lM (cmpL [a.kd] [b.kd])≠0:=fun h=>h1 (by have:=cmpL_eq.1 (zI.1 h);simpa using this)
  rw[e1]
  repeat' (first|(with_reducible refine aQ (mB _ _) ?_)|(with_reducible refine aQ (mC _ _) ?_)|(with_reducible first|(refine wN fun nl hnl=>?_;revert hnl;(repeat refine wS fun _ _=>?_);intro hnl)|refine wD (by decide +kernel) ?_|refine wI (fun h=>?_) fun h=>?_|refine wF (fun h=>?_) fun h=>?_|refine wG (fun h=>?_) fun h=>?_|refine wH (fun h=>?_) fun h=>?_|((first|refine aG (fun h=>?_) fun h=>?_|refine aE (fun h=>?_) fun h=>?_)<;>simp only[h]))|simp(maxSteps:=4000000) (disch:=first|decide|assumption|omega|(simp only[wL];omega)) only[go_sem,simprocAttr,Tryz.f295])
end
end Go.Proofs.YtppdgejjmhdjhaaGreatDoor
