/- Parts of the proof, joined; conditions: those that its theorems name. -/
import Derived.Test.YtaojijkdamfbnaaGreatDoorMfz
set_option linter.unusedVariables false
set_option linter.unusedSimpArgs false
set_option maxHeartbeats 4000000
namespace Go.Proofs.YtaojijkdamfbnaaGreatDoor
set_option maxRecDepth 100000
set_option maxHeartbeats 8000000
def cM(l:List Int)(x:Int):Nat:=(l.filter fun y=>decide (y<x)).length
theorem sC{l:List Int}{x:Int}{i:Nat}(hi:i≤l.length)(h1:∀q,q<i→l.getD q 0<x)(h2:∀q,i≤q→q<l.length→¬l.getD q 0<x):cM l x=i:=by
 unfold cM
 rw[←List.take_append_drop i l,List.filter_append,List.filter_eq_self.2,List.filter_eq_nil_iff.2,List.append_nil,List.length_take]
 ·omega
 ·intro y hy
  obtain⟨k,hk⟩:=List.mem_iff_getElem?.1 hy
  rw[List.getElem?_drop] at hk
  have:=(List.getElem?_eq_some_iff.1 hk).1
  have h:=h2 (i+k) (by omega) this
  rw[List.getD_eq_getElem?_getD,hk] at h
  simpa using h
 ·intro y hy
  obtain⟨k,hk⟩:=List.mem_iff_getElem?.1 hy
  rw[List.getElem?_take] at hk
  split at hk
  ·rename_i hki
   have h:=h1 k hki
   rw[List.getD_eq_getElem?_getD,hk] at h
   simpa using h
  ·cases hk
theorem wW{l:List Int}{x:Int}{i:Nat}(hu:UpI l)(h1:∀q,q<i→l.getD q 0<x)(h2:∀q,i≤q→q<l.length→¬l.getD q 0<x):x∈l↔i<l.length∧l.getD i 0=x:=by
 constructor
 ·intro hm
  obtain⟨p,hp,hx⟩:=List.mem_iff_getElem.1 hm
  have e:l.getD p 0=x:=by rw[List.getD_eq_getElem?_getD,List.getElem?_eq_getElem hp,←hx];rfl
  have hip:i≤p:=Nat.le_of_not_lt fun hlt=>by have:=h1 p hlt;omega
  rcases Nat.lt_or_ge i p with hlt|hge
  ·have h3:=List.pairwise_iff_getElem.1 hu i p (by omega) hp hlt
   have h4:=h2 i (Nat.le_refl _) (by omega)
   rw[List.getD_eq_getElem?_getD,List.getElem?_eq_getElem (by omega:i<l.length)] at h4
   simp at h4
   omega
  ·have:i=p:=by omega
   subst this
   exact⟨hp,e⟩
 ·rintro⟨hi,e⟩
  rw[←e,List.getD_eq_getElem?_getD,List.getElem?_eq_getElem hi]
  exact List.getElem_mem hi
theorem Dg(a b:Int):aA Tryz.prog 141 [.int .i64 a,.int .i64 b] St.none (fun r _=>r=.bool (decide (a<b))):=by
 refine(aA.body 17 [.tmp 4] Tryz.func141 rfl rfl rfl rfl ?_)
 have h:=j0 a
 repeat' (first|(with_reducible first|refine up h ?_)|(with_reducible first|(refine wN fun _ hnl=>?_;revert hnl;(repeat refine wS fun _ _=>?_);intro hnl)|refine wE ?_|(refine wK ?_ ?_<;>intro h)|(refine wB ?_ ?_<;>intro h<;>simp only[h]))|simp(maxSteps:=4000000) (disch:=first|exact ddL|fail) only[go_sem,simprocAttr,Tryz.f141])
theorem tH(a:Int):aA Tryz.prog 142 [.int .i64 a] St.none (fun r _=>r=.bool false):=by
 refine(aA.body 6 [.tmp 2] Tryz.func142 rfl rfl rfl rfl ?_)
 repeat' (first|(with_reducible first|(refine wN fun _ hnl=>?_;revert hnl;(repeat refine wS fun _ _=>?_);intro hnl)|refine wE ?_|(refine wK ?_ ?_<;>intro h)|(refine wB ?_ ?_<;>intro h<;>simp only[h]))|simp(maxSteps:=4000000) (disch:=first|exact ddL|fail) only[go_sem,simprocAttr,Tryz.f142,kS])
theorem xA(l:List Int){m:Nat}(h:m<l.length):(l.map aJ).getD m []=aJ (l.getD m 0):=by
 obtain⟨x,hx⟩:=bO l h
 rw[bF (f:=aJ) hx,List.getD_eq_getElem?_getD,hx];rfl
theorem tT(l:List Int)(hl:l.length≤1000000)(hu:UpI l)(x:Int)(t:Bool):aA Tryz.prog 101 [.lst 1 (l.map aJ) t,.int .i64 x] St.none (fun r _=>r=.tup [.int .i64 (cM l x:Int),.bool (decide (x∈l))]):=by
 refine(aA.body 54 [.tmp 4,.tmp 5] Tryz.func101 rfl rfl rfl rfl ?_)
 repeat' (first|(with_reducible first|(refine wN fun _ hnl=>?_;revert hnl;(repeat refine wS fun _ _=>?_);intro hnl)|refine wE ?_|(refine wK ?_ ?_<;>intro h)|(refine wB ?_ ?_<;>intro h<;>simp only[h]))|simp(maxSteps:=4000000) (disch:=first|exact ddL|fail) only[go_sem,simprocAttr,Tryz.f101])
 refine aH (α:=Nat × Nat) (fun a=>⟨54,[(7,.int .i64 (a.1:Int)),(8,.int .i64 (a.2:Int)),(6,.int .i64 (l.length:Int)),(1,.int .i64 x),(0,.lst 1 (l.map aJ) t)],[]⟩)
  (fun _=>St.none) (fun a=>a.1≤a.2∧a.2≤l.length∧(∀q,q<a.1→l.getD q 0<x)∧(∀q,a.2≤q→q<l.length→¬l.getD q 0<x)) (fun a=>a.2 - a.1) (.of (.less ?_ (St.le_refl _)) ⟨(0,l.length),rfl,rfl,by simp;omega⟩) ?_
 ·simp(maxSteps:=4000000) (disch:=first|exact ddL|fail) only[go_sem,simprocAttr,aC,aB]
  all_goals first|rfl|omega|simp
 ·rintro⟨i,j⟩ ⟨h1,h2,h3,h4⟩
  simp only at h1 h2 h3 h4 ⊢
  by_cases hij:i<j
  ·have hh:=half i j
   have hm1:i≤(i+j) / 2:=by omega
   have hm2:(i+j) / 2<j:=by omega
   obtain⟨m,hm⟩:∃m,(i+j) / 2=m:=⟨_,rfl⟩
   rw[hm] at hh hm1 hm2
   have hml:m<l.length:=by omega
   have hat:=xA l hml
   have hup:∀a b,a<b→b<l.length→l.getD a 0<l.getD b 0:=fun a b hab hb=>by
    have:=List.pairwise_iff_getElem.1 hu a b (by omega) hb hab
    rw[List.getD_eq_getElem?_getD,List.getD_eq_getElem?_getD,List.getElem?_eq_getElem (by omega:a<l.length),List.getElem?_eq_getElem hb]
    exact this
   have hord:=Dg (l.getD m 0) x
   by_cases hless:l.getD m 0<x
   ·have hnew:∀q,q<m+1→l.getD q 0<x:=fun q hq=>by
     rcases Nat.lt_or_ge q m with hlt|hge
     ·have:=hup q m hlt hml;omega
     ·have:q=m:=by omega
      rw[this];exact hless
    obtain⟨y,hy⟩:∃y,l.getD m 0=y:=⟨_,rfl⟩
    rw[hy] at hat hord hless
    repeat' (first|(with_reducible first|refine up hord ?_)|(with_reducible first|(refine wN fun _ hnl=>?_;revert hnl;(repeat refine wS fun _ _=>?_);intro hnl)|refine wE ?_|(refine wK ?_ ?_<;>intro h)|(refine wB ?_ ?_<;>intro h<;>simp only[h]))|simp(maxSteps:=4000000) (disch:=first|exact ddL|fail) only[go_sem,simprocAttr,hat,hh])
    all_goals (try (exfalso;omega))
    refine .of (.less (l1:=[(7,.int .i64 ((m+1:Nat):Int)),(8,.int .i64 (j:Int)),(6,.int .i64 (l.length:Int)),(1,.int .i64 x),(0,.lst 1 (l.map aJ) t)]) ?_ (St.le_refl _)) ⟨(m+1,j),rfl,rfl,⟨by simp only;omega,h2,hnew,h4⟩,by simp only;omega⟩
    simp(maxSteps:=4000000) (disch:=first|exact ddL|fail) only[go_sem,simprocAttr,aC,aB]
    all_goals omega
   ·have hnew:∀q,m≤q→q<l.length→¬l.getD q 0<x:=fun q hq hql=>by
     rcases Nat.lt_or_ge m q with hlt|hge
     ·have:=hup m q hlt hql;omega
     ·have:q=m:=by omega
      rw[this];exact hless
    obtain⟨y,hy⟩:∃y,l.getD m 0=y:=⟨_,rfl⟩
    rw[hy] at hat hord hless
    repeat' (first|(with_reducible first|refine up hord ?_)|(with_reducible first|(refine wN fun _ hnl=>?_;revert hnl;(repeat refine wS fun _ _=>?_);intro hnl)|refine wE ?_|(refine wK ?_ ?_<;>intro h)|(refine wB ?_ ?_<;>intro h<;>simp only[h]))|simp(maxSteps:=4000000) (disch:=first|exact ddL|fail) only[go_sem,simprocAttr,hat,hh])
    all_goals (try (exfalso;omega))
    refine .of (.less (l1:=[(7,.int .i64 (i:Int)),(8,.int .i64 (m:Int)),(6,.int .i64 (l.length:Int)),(1,.int .i64 x),(0,.lst 1 (l.map aJ) t)]) ?_ (St.le_refl _)) ⟨(i,m),rfl,rfl,⟨hm1,by simp only;omega,h3,hnew⟩,by simp only;omega⟩
    simp(maxSteps:=4000000) (disch:=first|exact ddL|fail) only[go_sem,simprocAttr,aC,aB]
  ·have:i=j:=by omega
   subst this
   have hp:=wW hu h3 h4
   rw[sC h2 h3 h4]
   by_cases hil:i<l.length
   ·have hat:=xA l hil
    have hn:=tH (l.getD i 0)
    have hnx:=tH x
    by_cases he:l.getD i 0=x
    ·rw[decide_eq_true (hp.2 ⟨hil,he⟩)]
     obtain⟨y,hy⟩:∃y,l.getD i 0=y:=⟨_,rfl⟩
     rw[hy] at hat hn he
     repeat' (first|(with_reducible first|refine up hn ?_|refine up hnx ?_)|(with_reducible first|(refine wN fun _ hnl=>?_;revert hnl;(repeat refine wS fun _ _=>?_);intro hnl)|refine wE ?_|(refine wK ?_ ?_<;>intro h)|(refine wB ?_ ?_<;>intro h<;>simp only[h]))|simp(maxSteps:=4000000) (disch:=first|exact ddL|fail) only[go_sem,simprocAttr,hat])
     all_goals (try (exfalso;omega))
     all_goals (first|rfl|(simp;omega))
    ·rw[decide_eq_false fun h=>he (hp.1 h).2]
     obtain⟨y,hy⟩:∃y,l.getD i 0=y:=⟨_,rfl⟩
     rw[hy] at hat hn he
     repeat' (first|(with_reducible first|refine up hn ?_|refine up hnx ?_)|(with_reducible first|(refine wN fun _ hnl=>?_;revert hnl;(repeat refine wS fun _ _=>?_);intro hnl)|refine wE ?_|(refine wK ?_ ?_<;>intro h)|(refine wB ?_ ?_<;>intro h<;>simp only[h]))|simp(maxSteps:=4000000) (disch:=first|exact ddL|fail) only[go_sem,simprocAttr,hat])
     all_goals (try (exfalso;omega))
     all_goals (first|rfl|(simp;omega))
   ·rw[decide_eq_false fun h=>hil (hp.1 h).1]
    repeat' (first|(with_reducible first|(refine wN fun _ hnl=>?_;revert hnl;(repeat refine wS fun _ _=>?_);intro hnl)|refine wE ?_|(refine wK ?_ ?_<;>intro h)|(refine wB ?_ ?_<;>intro h<;>simp only[h]))|simp(maxSteps:=4000000) (disch:=first|exact ddL|fail) only[go_sem,simprocAttr])
    all_goals (try (exfalso;omega))
    all_goals (first|rfl|(simp;omega))
theorem rB(l:List Int)(hl:l.length≤1000000)(hu:UpI l)(x:Int)(t:Bool):aA Tryz.prog 133 [.lst 1 (l.map aJ) t,.int .i64 x] St.none (fun r _=>r=.bool (decide (x∈l))):=by
 refine(aA.body 14 [.tmp 4] Tryz.func133 rfl rfl rfl rfl ?_)
 have h:=tT l hl hu x t
 repeat' (first|(with_reducible first|refine up h ?_)|(with_reducible first|(refine wN fun _ hnl=>?_;revert hnl;(repeat refine wS fun _ _=>?_);intro hnl)|refine wE ?_|(refine wK ?_ ?_<;>intro h)|(refine wB ?_ ?_<;>intro h<;>simp only[h]))|simp(maxSteps:=4000000) (disch:=first|exact ddL|fail) only[go_sem,simprocAttr,Tryz.f133])
theorem nQ(l:List Int)(hl:l.length≤1000000)(hu:UpI l)(x:Int)(t:Bool):aA Tryz.prog 59 [.lst 1 (l.map aJ) t,.int .i64 x] St.none (fun r _=>r=.int .i64 (cM l x:Int)):=by
 refine(aA.body 14 [.tmp 4] Tryz.func59 rfl rfl rfl rfl ?_)
 have h:=tT l hl hu x t
 repeat' (first|(with_reducible first|refine up h ?_)|(with_reducible first|(refine wN fun _ hnl=>?_;revert hnl;(repeat refine wS fun _ _=>?_);intro hnl)|refine wE ?_|(refine wK ?_ ?_<;>intro h)|(refine wB ?_ ?_<;>intro h<;>simp only[h]))|simp(maxSteps:=4000000) (disch:=first|exact ddL|fail) only[go_sem,simprocAttr,Tryz.f59])
theorem BM(s n:Nat)(hs:s<4294967296)(hn:n<32):aA Tryz.prog 134 [.int .u32 (s:Int),.int .i64 (n:Int)] St.none (fun r _=>r=.int .u32 ((s ||| 2 ^ n:Nat):Int)):=by
 refine(aA.body 9 [.tmp 4] Tryz.func134 rfl rfl rfl rfl ?_)
 have h:=xQ n hn
 have ho:=Oq s (2 ^ n) hs (Nat.pow_lt_pow_right (a:=2) (n:=32) (by decide) hn)
 generalize ((2 ^ n:Nat):Int)=y at h ho
 repeat' (first|(with_reducible first|refine up h ?_)|(with_reducible first|(refine wN fun _ hnl=>?_;revert hnl;(repeat refine wS fun _ _=>?_);intro hnl)|refine wE ?_|(refine wK ?_ ?_<;>intro h)|(refine wB ?_ ?_<;>intro h<;>simp only[h]))|simp(maxSteps:=4000000) (disch:=first|exact ddL|fail) only[go_sem,simprocAttr,Tryz.f134,ho])
theorem D4(l:List GR)(tt:Bool)(hl:l.length≤1000000)(hm:∀g,g∈l→g.mem.length≤1000000)(hok:dN (-1) l=true)(id:Int):aA Tryz.prog 91 [.lst 2 (l.map GR.c) tt,.int .i64 id] St.none (fun r _=>r=.int .u32 (grB l id:Int)):=by
 refine aA.cI (aA.body 24 [.tmp 4] Tryz.func91 rfl rfl rfl rfl ?_)
 repeat' (first|(with_reducible first|(refine wN fun _ hnl=>?_;revert hnl;(repeat refine wS fun _ _=>?_);intro hnl)|refine wE ?_|(refine wK ?_ ?_<;>intro h)|(refine wB ?_ ?_<;>intro h<;>simp only[h]))|simp(maxSteps:=4000000) (disch:=first|exact ddL|fail) only[go_sem,simprocAttr,Tryz.f91])
 refine aH (α:=Nat) (fun i=>⟨24,[(10,.int .i64 (i:Int)),(9,.int .i64 (l.length:Int)),(8,.lst 2 (l.map GR.c) tt),(5,.int .u32 (grB (l.take i) id:Int)),(1,.int .i64 id)],[]⟩)
  (fun _=>St.none) (fun i=>i≤l.length) (fun i=>l.length - i) (.of (.less ?_ (St.le_refl _)) ⟨0,rfl,rfl,Nat.zero_le _⟩) ?_
 ·simp(maxSteps:=4000000) (disch:=first|exact ddL|fail) only[go_sem,simprocAttr,aC,aB]
  all_goals rfl
 ·intro i hi
  have hi:i≤l.length:=hi
  by_cases hlt:i<l.length
  ·obtain⟨x,hx⟩:=bO l hlt
   have hat:=bF (f:=GR.c) hx
   obtain⟨g1,g2,g3,g4⟩:=C3 hok hx id
   have hsn:=AM hx id
   unfold grF at hsn
   obtain⟨n,hn⟩:∃n:Nat,x.no=n:=⟨x.no.toNat,by omega⟩
   have hh:=rB x.mem (hm x (dP hx)) (Ag g4).1 id false
   have g5:grB (l.take i) id<4294967296:=Nat.lt_trans g1 (Nat.pow_lt_pow_right (a:=2) (n:=32) (by decide) (by omega))
   have hw:=BM (grB (l.take i) id) n g5 (by omega)
   obtain⟨s,hs⟩:∃s,grB (l.take i) id=s:=⟨_,rfl⟩
   rw[hs] at hsn hw ⊢
   rw[hn,Int.toNat_natCast] at hsn
   by_cases hin:id∈x.mem
   ·rw[if_pos hin] at hsn
    rw[decide_eq_true hin] at hh
    repeat' (first|(with_reducible first|refine up hh ?_|refine up hw ?_)|(with_reducible first|(refine wN fun _ hnl=>?_;revert hnl;(repeat refine wS fun _ _=>?_);intro hnl)|refine wE ?_|(refine wK ?_ ?_<;>intro h)|(refine wB ?_ ?_<;>intro h<;>simp only[h]))|simp(maxSteps:=4000000) (disch:=first|exact ddL|fail) only[go_sem,simprocAttr,hat,hn])
    all_goals (try (exfalso;omega))
    all_goals
     refine .of (.less ?_ (St.none_le _)) ⟨i+1,rfl,rfl,(by omega:i+1≤l.length),by omega⟩
     rw[hsn]
     simp(maxSteps:=4000000) (disch:=first|exact ddL|fail) only[go_sem,simprocAttr,aC,aB]
     all_goals first|rfl|(simp;done)
   ·rw[if_neg hin] at hsn
    rw[decide_eq_false hin] at hh
    repeat' (first|(with_reducible first|refine up hh ?_)|(with_reducible first|(refine wN fun _ hnl=>?_;revert hnl;(repeat refine wS fun _ _=>?_);intro hnl)|refine wE ?_|(refine wK ?_ ?_<;>intro h)|(refine wB ?_ ?_<;>intro h<;>simp only[h]))|simp(maxSteps:=4000000) (disch:=first|exact ddL|fail) only[go_sem,simprocAttr,hat,hn])
    all_goals (try (exfalso;omega))
    all_goals
     refine .of (.less ?_ (St.none_le _)) ⟨i+1,rfl,rfl,(by omega:i+1≤l.length),by omega⟩
     rw[hsn]
     simp(maxSteps:=4000000) (disch:=first|exact ddL|fail) only[go_sem,simprocAttr,aC,aB]
     all_goals first|rfl|(simp;done)
  ·have:i=l.length:=by omega
   subst this
   rw[List.take_length]
   repeat' (first|(with_reducible first|(refine wN fun _ hnl=>?_;revert hnl;(repeat refine wS fun _ _=>?_);intro hnl)|refine wE ?_|(refine wK ?_ ?_<;>intro h)|(refine wB ?_ ?_<;>intro h<;>simp only[h]))|simp(maxSteps:=4000000) (disch:=first|exact ddL|fail) only[go_sem,simprocAttr])
   all_goals first|exact⟨_,St.le_refl _,rfl⟩|exact⟨_,St.le_refl _⟩
end Go.Proofs.YtaojijkdamfbnaaGreatDoor
