/- Parts of the proof; conditions: as its theorems name them. -/
import Derived.Test.YtppdgejjmhdjhaaGreatDoorMac
import Derived.Test.YtppdgejjmhdjhaaGreatDoorMad
set_option linter.unusedVariables false
set_option linter.unusedSimpArgs false
set_option maxHeartbeats 8000000
set_option maxRecDepth 100000
namespace Go.Proofs.YtppdgejjmhdjhaaGreatDoor
section
theorem qE(op:Int):aA Tryz.prog 130 [.int .i64 op] St.none (fun r _=>r=.int .i64 (parts op)):=by
 refine(mB 11 [.tmp 2] Tryz.func130 ?_)
 repeat' first|(refine wY ?_ ?_<;>intro h)|refine wZ1 @Tryz.f130.eq_1 ?_|fail
 all_goals simp[parts, *]
theorem uJ(kd n:Int)(s:ByteArray):aA Tryz.prog 129 [.agg [.int .i64 kd,.int .i64 n,.str s]] St.none (fun r _=>r=.bool (fF ⟨kd,n,s⟩)):=by
 refine(mB 41 [.tmp 2] Tryz.func129 ?_)
 repeat' first|(refine wM ?_;intro nl;intros)|(refine wY ?_ ?_<;>intro h)|refine wZ1 @Tryz.f129.eq_1 ?_|fail
 all_goals simp[fF,va0, *]
 all_goals omega
set_option maxHeartbeats 2000000 in
theorem Km (x:ND):aA Tryz.prog 57 [.agg x.c] St.none (fun r _=>r=.bool (fM x)):=by
 refine(mB 86 [.tmp 2] Tryz.func57 ?_)
 obtain⟨op,n,kd,vn,s⟩:=x
 repeat' first|(with_reducible refine aC (uJ _ _ _) ?_)|(refine wM ?_;intro nl;intros;rename_i hnl)|(refine wY ?_ ?_<;>intro h)|refine wZ1 @Tryz.f57.eq_1 ?_|fail
 all_goals first
  | (simp[fM,va0, *];done)
  | (simp[fM,va0, *];omega)
  | (simp[fM,va0, *];rintro rfl rfl rfl;rename_i h;revert h;simp[fF,va0])
theorem Ci{l:List ND}{n j:Nat}(h:j<l.length):jI (n+1) (l.drop j)=(jI (n+parts (l.getD j nd0).op) (l.drop (j+1))).map (·+1):=by
 rw[List.drop_eq_getElem_cons h]
 have:l.getD j nd0=l[j]:=by simp[List.getD,h]
 rw[this]
 rfl
theorem rC(l:List ND)(hl:l.length≤1000000)(t:Bool)(i:Int):aA Tryz.prog 58 [.lst 5 (l.map ND.c) t,.int .i64 i] St.none (fun r _=>r=.int .i64 (iR l i)):=by
 refine(mB 30 [.tmp 4] Tryz.func58 ?_)
 by_cases hi:i<0
 ·repeat' first|refine wZ1 @Tryz.f58.eq_1 ?_|fail
  simp[iR,hi]
 ·obtain⟨i,rfl⟩:∃k:Nat,i=k:=⟨i.toNat,by omega⟩
  repeat' first|refine wZ1 @Tryz.f58.eq_1 ?_|fail
  refine aF (α:=Nat × Nat) (fun a=>⟨30,[(5,.int .i64 (a.2:Int)),(0,.lst 5 (l.map ND.c) t),(1,.int .i64 (a.1:Int))],[]⟩) (fun _=>St.none)
   (fun a=>i≤a.1∧a.1≤max i l.length∧a.2≤1+a.1∧jI 1 (l.drop i)=(jI a.2 (l.drop a.1)).map (·+(a.1 - i))) (fun a=>l.length - a.1) (.of (.less ?_ (St.le_refl _)) ⟨(i,1),rfl,rfl,?_⟩) ?_
  ·exact wW
  ·simp
   omega
  ·rintro⟨j,n⟩ ⟨h1,h2,h3,h4⟩
   simp only at h1 h2 h3 h4 ⊢
   by_cases hj:j<l.length
   ·rcases Nat.eq_zero_or_pos n with hn|hn
    ·subst hn
     repeat' (first|(with_reducible first|(refine wN fun nl hnl=>?_;revert hnl;(repeat refine wS fun _ _=>?_);intro hnl)|refine wD dK ?_|refine wI (fun h=>?_) fun h=>?_|refine wF (fun h=>?_) fun h=>?_|refine wG (fun h=>?_) fun h=>?_|refine wH (fun h=>?_) fun h=>?_|((first|refine cK (fun h=>?_) fun h=>?_|refine cC (fun h=>?_) fun h=>?_)<;>simp only[h]))|simp(maxSteps:=4000000) (disch:=first|decide|assumption|omega|(simp only[wL];omega)) only[go_sem,simprocAttr,bW nd0,ND.c])
     simp only[iR,h4,jI,Option.map_some,Int.toNat_natCast]
     rw[if_neg hi]
     simp only[MV.int.injEq,true_and]
     omega
    ·obtain⟨m,rfl⟩:∃m,n=m+1:=⟨n - 1,by omega⟩
     have hp:=kP (l.getD j nd0).op
     repeat' (first|(with_reducible refine aC (qE _) ?_)|(with_reducible first|(refine wN fun nl hnl=>?_;revert hnl;(repeat refine wS fun _ _=>?_);intro hnl)|refine wD dK ?_|refine wI (fun h=>?_) fun h=>?_|refine wF (fun h=>?_) fun h=>?_|refine wG (fun h=>?_) fun h=>?_|refine wH (fun h=>?_) fun h=>?_|((first|refine cK (fun h=>?_) fun h=>?_|refine cC (fun h=>?_) fun h=>?_)<;>simp only[h]))|simp(maxSteps:=4000000) (disch:=first|decide|assumption|omega|(simp only[wL];omega)) only[go_sem,simprocAttr,bW nd0,ND.c])
     refine .of (.less (l1:=[(5,.int .i64 ((m+parts (l.getD j nd0).op:Nat):Int)),(0,.lst 5 (l.map ND.c) t),(1,.int .i64 ((j+1:Nat):Int))]) ?_ (St.le_refl _)) ⟨(j+1,m+parts (l.getD j nd0).op),rfl,rfl,⟨by simp only;omega,by simp only;omega,by simp only;omega,?_⟩,by simp only;omega⟩
     ·simp(maxSteps:=4000000) (disch:=first|decide|assumption|omega|(simp only[wL];omega)) only[go_sem,simprocAttr,aU,aN]
      all_goals omega
     ·rw[h4,Ci hj]
      simp only[Option.map_map]
      congr 1
      funext k
      simp only[Function.comp]
      omega
   ·have hd:l.drop j=[]:=List.drop_eq_nil_of_le oM
    rw[hd] at h4
    rcases Nat.eq_zero_or_pos n with hn|hn
    ·subst hn
     repeat' (first|(with_reducible first|(refine wN fun nl hnl=>?_;revert hnl;(repeat refine wS fun _ _=>?_);intro hnl)|refine wD dK ?_|refine wI (fun h=>?_) fun h=>?_|refine wF (fun h=>?_) fun h=>?_|refine wG (fun h=>?_) fun h=>?_|refine wH (fun h=>?_) fun h=>?_|((first|refine cK (fun h=>?_) fun h=>?_|refine cC (fun h=>?_) fun h=>?_)<;>simp only[h]))|simp(maxSteps:=4000000) (disch:=first|decide|assumption|omega|(simp only[wL];omega)) only[go_sem,simprocAttr,bW nd0,ND.c])
     simp only[iR,h4,jI,Option.map_some,Int.toNat_natCast]
     rw[if_neg hi]
     simp only[MV.int.injEq,true_and]
     omega
    ·obtain⟨m,rfl⟩:∃m,n=m+1:=⟨n - 1,by omega⟩
     repeat' (first|(with_reducible first|(refine wN fun nl hnl=>?_;revert hnl;(repeat refine wS fun _ _=>?_);intro hnl)|refine wD dK ?_|refine wI (fun h=>?_) fun h=>?_|refine wF (fun h=>?_) fun h=>?_|refine wG (fun h=>?_) fun h=>?_|refine wH (fun h=>?_) fun h=>?_|((first|refine cK (fun h=>?_) fun h=>?_|refine cC (fun h=>?_) fun h=>?_)<;>simp only[h]))|simp(maxSteps:=4000000) (disch:=first|decide|assumption|omega|(simp only[wL];omega)) only[go_sem,simprocAttr,bW nd0,ND.c])
     simp only[iR,h4,jI,Option.map_none,Int.toNat_natCast]
     rw[if_neg hi]
end

section
theorem qD(a b:Int):aA Tryz.prog 303 [.int .i64 a,.int .i64 b] St.none (fun r _=>r=.int .i64 (oJ (cmpL [a] [b]))):=by
 refine(mB 11 [.tmp 4] Tryz.func303 ?_)
 repeat' first|(refine wY ?_ ?_<;>intro h)|refine wZ1 @Tryz.f303.eq_1 ?_|fail
 all_goals simp[cmpL,oJ, *]
theorem AY(a b:VA)(ha:a.s.size≤1000000)(hb:b.s.size≤1000000):aA Tryz.prog 276 [.agg a.c,.agg b.c] St.none (fun r _=>r=.int .i64 (oJ (cmpL a.key b.key))):=by
 refine(mB 67 [.tmp 4] Tryz.func276 ?_)
 repeat' first|(with_reducible refine aC (qD _ _) ?_)|(refine wM ?_;intro nl;intros;rename_i hnl)|(refine wY ?_ ?_<;>intro h)|refine wZ1 @Tryz.f276.eq_1 ?_|fail
 ·rw[show cmpL a.key b.key=cmpL [a.kd] [b.kd] from tE h]
 ·have h1:=Classical.not_not.1 ‹¬¬a.kd=b.kd›
  have:cmpL a.key b.key=cmpL [a.n] [b.n]:=by
   rw[VA.key,VA.key,h1,lM,tE h]
  rw[this]
 ·have h1:=Classical.not_not.1 ‹¬¬a.kd=b.kd›
  have h2:=Classical.not_not.1 ‹¬¬a.n=b.n›
  have hk:cmpL a.key b.key=cmpL (bk a.s) (bk b.s):=by
   rw[VA.key,VA.key,h1,lM,h2,lM];rfl
  rw[hk]
  rename_i pa hpa _ _ _
  refine aF (α:=Nat) (fun i=>⟨67,[(5,.int .i64 (i:Int)),(3,.ptr nl 0 0),(2,.ptr pa 0 0)],[]⟩) (fun _=>(St.none.set pa (.row 54 3 [a.c])).set nl (.row 54 3 [b.c]))
   (fun i=>i≤a.s.size∧i≤b.s.size∧cmpL (bk a.s) (bk b.s)=cmpL ((bk a.s).drop i) ((bk b.s).drop i)) (fun i=>a.s.size - i) (.of (.less ?_ (St.le_refl _)) ⟨0,rfl,rfl,by simp⟩) ?_
  ·exact wW
  ·rintro i ⟨h3,h4,h5⟩
   by_cases hi:i<a.s.size∧i<b.s.size
   ·obtain⟨hi1,hi2⟩:=hi
    rw[yN hi1,yN hi2] at h5
    have hc1:((a.s.toList.getD i 0).toNat:Int)≤255:=by have:=(a.s.toList.getD i 0).toNat_lt;omega
    have hc2:((b.s.toList.getD i 0).toNat:Int)≤255:=by have:=(b.s.toList.getD i 0).toNat_lt;omega
    have hc3:0≤((a.s.toList.getD i 0).toNat:Int):=by omega
    have hc4:0≤((b.s.toList.getD i 0).toNat:Int):=by omega
    obtain⟨ca,hca⟩:∃c:Int,((a.s.toList.getD i 0).toNat:Int)=c:=⟨_,rfl⟩
    obtain⟨cb,hcb⟩:∃c:Int,((b.s.toList.getD i 0).toNat:Int)=c:=⟨_,rfl⟩
    rw[hca] at h5 hc1 hc3
    rw[hcb] at h5 hc2 hc4
    by_cases hcc:ca=cb
    ·rw[hcc,lM] at h5
     repeat' first|refine wV ?_|refine wZ2 @hca @hcb ?_|fail
     refine .of (.less (l1:=[(5,.int .i64 ((i+1:Nat):Int)),(3,.ptr nl 0 0),(2,.ptr pa 0 0)]) ?_ (St.le_refl _)) ⟨i+1,rfl,rfl,⟨by omega,by omega,h5⟩,by omega⟩
     simp(maxSteps:=4000000) (disch:=first|exact ddL|fail) only[go_sem,simprocAttr,aU,aN]
     all_goals omega
    ·repeat' first|(with_reducible refine aJ mixed dK (fun g ms=>if g=303 then some ⟨[],fun v=>v=.int .i64 (oJ (cmpL [ca] [cb])),none⟩ else none) ?_)|(with_reducible refine aH rfl (qD _ _) ?_)|refine wZ2 @hca @hcb ?_|fail
     rw[h5,tE (x:=(bk a.s).drop (i+1)) (y:=(bk b.s).drop (i+1)) hcc]
   ·have key:cmpL (bk a.s) (bk b.s)=cmpL [(a.s.size:Int)] [(b.s.size:Int)]:=by
     rw[h5]
     by_cases h6:i<a.s.size
     ·have h7:i=b.s.size:=by omega
      rw[yN h6,o7 (s:=b.s) (n:=i) oM]
      simp only[cmpL]
      rw[if_neg oM,if_pos oM]
     ·have h7:i=a.s.size:=by omega
      rw[o7 (s:=a.s) (n:=i) oM]
      by_cases h8:i<b.s.size
      ·rw[yN h8]
       simp only[cmpL]
       rw[if_pos oM]
      ·rw[o7 (s:=b.s) (n:=i) oM]
       simp only[cmpL]
       rw[if_neg oM,if_neg oM]
    repeat' first|(with_reducible refine aC (qD _ _) ?_)|(refine wY ?_ ?_<;>intro h)|refine wZ0 ?_|fail
    all_goals rw[key]
end

section
theorem iD(op:Int):aA Tryz.prog 204 [.int .i64 op] St.none (fun r _=>r=.int .i64 (parts op)):=by
 refine(mB 9 [.tmp 2] Tryz.func204 ?_)
 repeat' first|(refine wY ?_ ?_<;>intro h)|refine wZ1 @Tryz.f204.eq_1 ?_|fail
 all_goals simp[parts, *]
theorem yD(kd n:Int)(s:ByteArray):aA Tryz.prog 211 [.agg [.int .i64 kd,.int .i64 n,.str s]] St.none (fun r _=>r=.bool (fF ⟨kd,n,s⟩)):=by
 refine(mB 36 [.tmp 2] Tryz.func211 ?_)
 repeat' first|(refine wM ?_;intro nl;intros)|(refine wY ?_ ?_<;>intro h)|refine wZ1 @Tryz.f211.eq_1 ?_|fail
 all_goals first
  | (simp[fF,va0, *];done)
  | (simp[fF,va0, *];omega)
theorem mR(a:Int):aA Tryz.prog 299 [.int .i64 a] St.none (fun r _=>r=.bool false):=by
 refine(mB 6 [.tmp 2] Tryz.func299 ?_)
 repeat' first|refine wZ2 @Tryz.f299.eq_1 @gM.{1} ?_|exact wC2 @Tryz.f299.eq_1 @gM.{1}|fail
theorem GP(a:ByteArray):aA Tryz.prog 330 [.str a] St.none (fun r _=>r=.bool false):=by
 refine(mB 6 [.tmp 2] Tryz.func330 ?_)
 repeat' first|refine wZ2 @Tryz.f330.eq_1 @gM.{1} ?_|exact wC2 @Tryz.f330.eq_1 @gM.{1}|fail
theorem pD(a b:Int):aA Tryz.prog 268 [.int .i64 a,.int .i64 b] St.none (fun r _=>r=.int .i64 (oJ (cmpL [a] [b]))):=by
 refine(mB 20 [.tmp 4] Tryz.func268 ?_)
 repeat' first|(with_reducible refine aC (mR _) ?_)|(refine wY ?_ ?_<;>intro h)|refine wZ1 @Tryz.f268.eq_1 ?_|fail
 all_goals simp[cmpL,oJ, *]
theorem pE(a b:ByteArray):aA Tryz.prog 318 [.str a,.str b] St.none (fun r _=>r=.int .i64 (oJ (cmpL (bk a) (bk b)))):=by
 refine(mB 20 [.tmp 4] Tryz.func318 ?_)
 have hb:=rK a.toList b.toList
 change _=decide (cmpL (bk a) (bk b)=.lt) at hb
 repeat' first|(with_reducible refine aC (GP _) ?_)|(refine wY ?_ ?_<;>intro h)|refine wZ1 @Tryz.f318.eq_1 ?_|fail
 ·rw[hb] at h
  simp only[decide_eq_true_eq] at h
  rw[h];rfl
 ·rename_i h0
  rw[hb] at h0
  simp only[decide_eq_false_iff_not] at h0
  simp only[Bool.not_eq_true',Bool.or_eq_false_iff,decide_eq_false_iff_not] at h
  have h1:cmpL (bk a) (bk b)≠.eq:=fun e=>h.2 (bytes_inj (cmpL_eq.1 e))
  cases e:cmpL (bk a) (bk b)
  ·exact absurd e h0
  ·exact absurd e h1
  ·rfl
 ·rename_i h0
  simp only[h0,Bool.false_or,Bool.not_eq_false',decide_eq_true_eq] at h
  rw[h,vF];rfl
theorem SQ{l:List ND}{i:Int}(h:¬(i<0∨(l.length:Int)≤i)):iR l i=match jI 1 (l.drop i.toNat) with
  | none=>-1
  | some k=>i+k:=by
 unfold iR
 rw[if_neg oM]
 cases jI 1 (l.drop i.toNat)<;>rfl
theorem CX(l:List ND)(hl:l.length≤1000000)(t:Bool)(i:Int):aA Tryz.prog 196 [.lst 5 (l.map ND.c) t,.int .i64 i] St.none (fun r _=>r=.int .i64 (iR l i)):=by
 refine(mB 38 [.tmp 4] Tryz.func196 ?_)
 by_cases hi:i<0∨(l.length:Int)≤i
 ·have he:iR l i = -1:=by
   unfold iR
   by_cases h0:i<0
   ·rw[if_pos h0]
   ·rw[if_neg h0,List.drop_eq_nil_of_le oM];rfl
  rw[he]
  repeat' first|(refine wY ?_ ?_<;>intro h)|refine wZ1 @Tryz.f196.eq_1 ?_|exact wC1 @Tryz.f196.eq_1|fail
 ·obtain⟨m,hm⟩:∃m,l.drop i.toNat=m:=⟨_,rfl⟩
  have hml:l.length - i.toNat=m.length:=by rw[←hm];simp
  have hm0:m.length≤1000000:=by omega
  have hb:i+m.length≤1000000:=by omega
  have h0:0≤i:=by omega
  rw[SQ hi,hm]
  repeat' first|refine wZ3 @Tryz.f196.eq_1 @hm @hml ?_|fail
  refine aF (α:=Nat × Nat) (fun a=>⟨38,[(20,.int .i64 (a.1:Int)),(19,.int .i64 (m.length:Int)),(18,.lst 5 (m.map ND.c) t),(5,.int .i64 (a.2:Int)),(1,.int .i64 i)],[]⟩) (fun _=>St.none)
   (fun a=>a.1≤m.length∧1≤a.2∧a.2≤1+a.1∧jI 1 m=(jI a.2 (m.drop a.1)).map (·+a.1)) (fun a=>m.length - a.1) (.of (.less ?_ (St.le_refl _)) ⟨(0,1),rfl,rfl,by simp⟩) ?_
  ·simp(maxSteps:=4000000) (disch:=first|decide|assumption|omega|(simp only[wL];omega)) only[go_sem,simprocAttr,aU,aN]
   all_goals omega
  ·rintro⟨k,n⟩ ⟨h1,h2,h3,h4⟩
   simp only at h1 h2 h3 h4 ⊢
   obtain⟨q,rfl⟩:∃q,n=q+1:=⟨n - 1,by omega⟩
   by_cases hk:k<m.length
   ·have hp:=kP (m.getD k nd0).op
    rw[Ci hk] at h4
    obtain⟨pp,hpp⟩:∃pp:Nat,parts (m.getD k nd0).op=pp:=⟨_,rfl⟩
    rw[hpp] at h4 hp
    by_cases hz:q+pp=0
    ·rw[hz] at h4
     have hq:q=0:=by omega
     have hpz:pp=0:=by omega
     subst hq
     rw[hpz] at hpp
     repeat' (first|(with_reducible refine aC (iD _) ?_)|(with_reducible first|(refine wN fun nl hnl=>?_;revert hnl;(repeat refine wS fun _ _=>?_);intro hnl)|refine wD dK ?_|refine wI (fun h=>?_) fun h=>?_|refine wF (fun h=>?_) fun h=>?_|refine wG (fun h=>?_) fun h=>?_|refine wH (fun h=>?_) fun h=>?_|((first|refine cK (fun h=>?_) fun h=>?_|refine cC (fun h=>?_) fun h=>?_)<;>simp only[h]))|simp(maxSteps:=4000000) (disch:=first|decide|assumption|omega|(simp only[wL];omega)) only[go_sem,simprocAttr,bW nd0,hpp])
     rw[h4]
     simp only[jI,Option.map_some,MV.int.injEq,true_and]
     have e1:((0+1+k:Nat):Int)=(k:Int)+1:=by omega
     rw[e1,Int.add_assoc]
    ·repeat' (first|(with_reducible refine aC (iD _) ?_)|(with_reducible first|(refine wN fun nl hnl=>?_;revert hnl;(repeat refine wS fun _ _=>?_);intro hnl)|refine wD dK ?_|refine wI (fun h=>?_) fun h=>?_|refine wF (fun h=>?_) fun h=>?_|refine wG (fun h=>?_) fun h=>?_|refine wH (fun h=>?_) fun h=>?_|((first|refine cK (fun h=>?_) fun h=>?_|refine cC (fun h=>?_) fun h=>?_)<;>simp only[h]))|simp(maxSteps:=4000000) (disch:=first|decide|assumption|omega|(simp only[wL];omega)) only[go_sem,simprocAttr,bW nd0,hpp])
     refine .of (.less (l1:=[(20,.int .i64 ((k+1:Nat):Int)),(19,.int .i64 (m.length:Int)),(18,.lst 5 (m.map ND.c) t),(5,.int .i64 ((q+pp:Nat):Int)),(1,.int .i64 i)]) ?_ (St.none_le _)) ⟨(k+1,q+pp),rfl,rfl,⟨by simp only;omega,by simp only;omega,by simp only;omega,?_⟩,by simp only;omega⟩
     ·simp(maxSteps:=4000000) (disch:=first|decide|assumption|omega|(simp only[wL];omega)) only[go_sem,simprocAttr,aU,aN]
      all_goals omega
     ·rw[h4]
      simp only[Option.map_map]
      congr 1
      funext k
      simp only[Function.comp]
      omega
   ·rw[List.drop_eq_nil_of_le oM] at h4
    rw[h4]
    repeat' (first|(with_reducible first|(refine wN fun nl hnl=>?_;revert hnl;(repeat refine wS fun _ _=>?_);intro hnl)|refine wD dK ?_|refine wI (fun h=>?_) fun h=>?_|refine wF (fun h=>?_) fun h=>?_|refine wG (fun h=>?_) fun h=>?_|refine wH (fun h=>?_) fun h=>?_|((first|refine cK (fun h=>?_) fun h=>?_|refine cC (fun h=>?_) fun h=>?_)<;>simp only[h]))|simp(maxSteps:=4000000) (disch:=first|decide|assumption|omega|(simp only[wL];omega)) only[go_sem,simprocAttr,bW nd0])
    rfl
theorem IQ(p:ND→Bool)(g:FuncId)(l:List ND)(hl:l.length≤1000000)(t:Bool)(hg:∀x,x∈l→aA Tryz.prog g [.agg x.c] St.none (fun r _=>r=.bool (p x))) :
  aA Tryz.prog 245 [.lst 5 (l.map ND.c) t,.fn (.func g) [] []] St.none (fun r _=>r=.int .i64 (if l.any p then(l.findIdx p:Int) else -1)):=by
 refine(mB 19 [.tmp 4] Tryz.func245 ?_)
 repeat' first|refine wZ1 @Tryz.f245.eq_1 ?_|fail
 refine aF (α:=Nat) (fun k=>⟨19,[(8,.int .i64 (k:Int)),(7,.int .i64 (l.length:Int)),(6,.lst 5 (l.map ND.c) t),(0,.lst 5 (l.map ND.c) t),(1,.fn (.func g) [] [])],[]⟩) (fun _=>St.none)
  (fun k=>k≤l.length∧(l.take k).any p=false) (fun k=>l.length - k) (.of (.less ?_ (St.le_refl _)) ⟨0,rfl,rfl,by simp⟩) ?_
 ·exact wW
 ·rintro k ⟨h1,h2⟩
  by_cases hk:k<l.length
  ·have hgk:=hg _ (gT nd0 hk)
   cases hp:p (l.getD k nd0)
   ·rw[hp] at hgk
    repeat' (first|(with_reducible refine aC hgk ?_)|(with_reducible first|(refine wN fun nl hnl=>?_;revert hnl;(repeat refine wS fun _ _=>?_);intro hnl)|refine wD dK ?_|refine wI (fun h=>?_) fun h=>?_|refine wF (fun h=>?_) fun h=>?_|refine wG (fun h=>?_) fun h=>?_|refine wH (fun h=>?_) fun h=>?_|((first|refine cK (fun h=>?_) fun h=>?_|refine cC (fun h=>?_) fun h=>?_)<;>simp only[h]))|simp(maxSteps:=4000000) (disch:=first|decide|assumption|omega|(simp only[wL];omega)) only[go_sem,simprocAttr,bW nd0])
    refine .of (.less (l1:=[(8,.int .i64 ((k+1:Nat):Int)),(7,.int .i64 (l.length:Int)),(6,.lst 5 (l.map ND.c) t),(0,.lst 5 (l.map ND.c) t),(1,.fn (.func g) [] [])]) ?_ (St.le_refl _)) ⟨k+1,rfl,rfl,⟨by omega,?_⟩,by omega⟩
    ·simp(maxSteps:=4000000) (disch:=first|decide|assumption|omega|(simp only[wL];omega)) only[go_sem,simprocAttr,aU,aN]
     all_goals omega
    ·rw[rJ hk,h2,←b9 nd0 hk,hp];rfl
   ·rw[hp] at hgk
    have hany:l.any p=true:=List.any_eq_true.2 ⟨_,gT nd0 hk,hp⟩
    have hf:l.findIdx p=k:=by
     rw[List.findIdx_eq hk]
     refine⟨by rw[←b9 nd0 hk];exact hp,fun j hj=>?_⟩
     have:=List.any_eq_false.1 h2 l[j] (by rw[List.mem_take_iff_getElem];exact⟨j,by omega,rfl⟩)
     simpa using this
    rw[hany,hf]
    repeat' (first|(with_reducible refine aC hgk ?_)|(with_reducible first|(refine wN fun nl hnl=>?_;revert hnl;(repeat refine wS fun _ _=>?_);intro hnl)|refine wD dK ?_|refine wI (fun h=>?_) fun h=>?_|refine wF (fun h=>?_) fun h=>?_|refine wG (fun h=>?_) fun h=>?_|refine wH (fun h=>?_) fun h=>?_|((first|refine cK (fun h=>?_) fun h=>?_|refine cC (fun h=>?_) fun h=>?_)<;>simp only[h]))|simp(maxSteps:=4000000) (disch:=first|decide|assumption|omega|(simp only[wL];omega)) only[go_sem,simprocAttr,bW nd0])
  ·have:k=l.length:=by omega
   subst this
   rw[List.take_length] at h2
   rw[h2]
   repeat' (first|(with_reducible first|(refine wN fun nl hnl=>?_;revert hnl;(repeat refine wS fun _ _=>?_);intro hnl)|refine wD dK ?_|refine wI (fun h=>?_) fun h=>?_|refine wF (fun h=>?_) fun h=>?_|refine wG (fun h=>?_) fun h=>?_|refine wH (fun h=>?_) fun h=>?_|((first|refine cK (fun h=>?_) fun h=>?_|refine cC (fun h=>?_) fun h=>?_)<;>simp only[h]))|simp(maxSteps:=4000000) (disch:=first|decide|assumption|omega|(simp only[wL];omega)) only[go_sem,simprocAttr,bW nd0])
theorem Bn(p:ND→Bool)(g:FuncId)(l:List ND)(hl:l.length≤1000000)(t:Bool)(hg:∀x,x∈l→aA Tryz.prog g [.agg x.c] St.none (fun r _=>r=.bool (p x))) :
  aA Tryz.prog 197 [.lst 5 (l.map ND.c) t,.fn (.func g) [] []] St.none (fun r _=>r=.bool (l.any p)):=by
 refine(mB 9 [.tmp 4] Tryz.func197 ?_)
 have hi:=IQ p g l hl t hg
 cases hany:l.any p
 ·rw[hany] at hi
  simp only[Bool.false_eq_true,if_false] at hi
  repeat' first|(with_reducible refine aC hi ?_)|refine wZ1 @Tryz.f197.eq_1 ?_|exact wC1 @Tryz.f197.eq_1|fail
 ·rw[hany] at hi
  simp only[if_true] at hi
  repeat' first|(with_reducible refine aC hi ?_)|refine wZ1 @Tryz.f197.eq_1 ?_|fail
  simp
theorem B4(a b:VA):aA Tryz.prog 295 [.agg a.c,.agg b.c] St.none (fun r _=>r=.int .i64 (oJ (cmpL a.key b.key))):=by
 refine(mB 28 [.tmp 4] Tryz.func295 ?_)
 by_cases h1:a.kd=b.kd
 ·have e1:cmpL a.key b.key=cmpL (a.n::bk a.s) (b.n::bk b.s):=by rw[VA.key,VA.key,h1,lM];rfl
  have c1:oJ (cmpL [a.kd] [b.kd])=0:=by rw[h1,vF];rfl
  by_cases h2:a.n=b.n
  ·have e2:cmpL a.key b.key=cmpL (bk a.s) (bk b.s):=by rw[e1,h2,lM]
   have c2:oJ (cmpL [a.n] [b.n])=0:=by rw[h2,vF];rfl
   rw[e2]
   repeat' first|(with_reducible refine aC (pD _ _) ?_)|(with_reducible refine aC (pE _ _) ?_)|(refine wM ?_;intro nl;intros)|refine wZ3 @Tryz.f295.eq_1 @c1 @c2 ?_|exact wC3 @Tryz.f295.eq_1 @c1 @c2|fail
  ·have e2:cmpL a.key b.key=cmpL [a.n] [b.n]:=by rw[e1,tE h2]
   have c2:oJ (cmpL [a.n] [b.n])≠0:=fun h=>h2 (by have:=cmpL_eq.1 (CS.1 h);simpa using this)
   rw[e2]
   repeat' first|(with_reducible refine aC (pD _ _) ?_)|(with_reducible refine aC (pE _ _) ?_)|(refine wM ?_;intro nl;intros)|refine wZ2 @Tryz.f295.eq_1 @c1 ?_|exact wC2 @Tryz.f295.eq_1 @c1|fail
 ·have e1:cmpL a.key b.key=cmpL [a.kd] [b.kd]:=by rw[VA.key,VA.key,tE h1]
  have c1:oJ (cmpL [a.kd] [b.kd])≠0:=fun h=>h1 (by have:=cmpL_eq.1 (CS.1 h);simpa using this)
  rw[e1]
  repeat' first|(with_reducible refine aC (pD _ _) ?_)|(with_reducible refine aC (pE _ _) ?_)|(refine wM ?_;intro nl;intros)|refine wZ1 @Tryz.f295.eq_1 ?_|exact wC1 @Tryz.f295.eq_1|fail
end
end Go.Proofs.YtppdgejjmhdjhaaGreatDoor
