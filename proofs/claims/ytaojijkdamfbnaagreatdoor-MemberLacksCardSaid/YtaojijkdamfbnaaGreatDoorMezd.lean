/- Parts of the proof, joined; conditions: those that its theorems name. -/
import Derived.Test.YtaojijkdamfbnaaGreatDoorMeza
import Derived.Test.YtaojijkdamfbnaaGreatDoorMezc
set_option linter.unusedVariables false
set_option linter.unusedSimpArgs false
set_option maxHeartbeats 4000000
namespace Go.Proofs.YtaojijkdamfbnaaGreatDoor
section
set_option maxRecDepth 100000
set_option maxHeartbeats 8000000
def cN(l:List Int)(x:Int):Nat:=(l.filter fun y=>decide (y<x)).length
theorem sP{l:List Int}{x:Int}{i:Nat}(hi:i≤l.length)(h1:∀q,q<i→l.getD q 0<x)(h2:∀q,i≤q→q<l.length→¬l.getD q 0<x):cN l x=i:=by
 unfold cN
 rw[←List.take_append_drop i l,List.filter_append,List.filter_eq_self.2,List.filter_eq_nil_iff.2,List.append_nil,List.length_take]
 ·omega
 ·intro y hy
  obtain⟨k,hk⟩:=List.mem_iff_getElem?.1 hy
  rw[List.getElem?_drop] at hk
  have:=(List.getElem?_eq_some_iff.1 hk).1
  have h:=h2 (i+k) (by omega) this
  rw[List.getD_eq_getElem?_getD,hk] at h
  simpa using h
 ·intro y hy
  obtain⟨k,hk⟩:=List.mem_iff_getElem?.1 hy
  rw[List.getElem?_take] at hk
  split at hk
  ·rename_i hki
   have h:=h1 k hki
   rw[List.getD_eq_getElem?_getD,hk] at h
   simpa using h
  ·cases hk
theorem xQ{l:List Int}{x:Int}{i:Nat}(hu:UpI l)(h1:∀q,q<i→l.getD q 0<x)(h2:∀q,i≤q→q<l.length→¬l.getD q 0<x):x∈l↔i<l.length∧l.getD i 0=x:=by
 constructor
 ·intro hm
  obtain⟨p,hp,hx⟩:=List.mem_iff_getElem.1 hm
  have e:l.getD p 0=x:=by rw[List.getD_eq_getElem?_getD,List.getElem?_eq_getElem hp,←hx];rfl
  have hip:i≤p:=Nat.le_of_not_lt fun hlt=>by have:=h1 p hlt;omega
  rcases Nat.lt_or_ge i p with hlt|hge
  ·have h3:=List.pairwise_iff_getElem.1 hu i p (by omega) hp hlt
   have h4:=h2 i (Nat.le_refl _) (by omega)
   rw[List.getD_eq_getElem?_getD,List.getElem?_eq_getElem (by omega:i<l.length)] at h4
   simp at h4
   omega
  ·have:i=p:=by omega
   subst this
   exact⟨hp,e⟩
 ·rintro⟨hi,e⟩
  rw[←e,List.getD_eq_getElem?_getD,List.getElem?_eq_getElem hi]
  exact List.getElem_mem hi
theorem DD(a b:Int):aA Tryz.prog 141 [.int .i64 a,.int .i64 b] St.none (fun r _=>r=.bool (decide (a<b))):=by
 refine(aA.body 17 [.tmp 4] Tryz.func141 rfl rfl rfl rfl ?_)
 have h:=j7 a
 repeat' (first|(with_reducible first|refine up h ?_)|(with_reducible first|(refine wN fun _ hnl=>?_;revert hnl;(repeat refine wS fun _ _=>?_);intro hnl)|refine wE ?_|(refine wK ?_ ?_<;>intro h)|(refine wB ?_ ?_<;>intro h<;>simp only[h]))|simp(maxSteps:=4000000) (disch:=first|exact ddL|fail) only[go_sem,simprocAttr,Tryz.f141])
theorem uB(a:Int):aA Tryz.prog 142 [.int .i64 a] St.none (fun r _=>r=.bool false):=by
 refine(aA.body 6 [.tmp 2] Tryz.func142 rfl rfl rfl rfl ?_)
 repeat' (first|(with_reducible first|(refine wN fun _ hnl=>?_;revert hnl;(repeat refine wS fun _ _=>?_);intro hnl)|refine wE ?_|(refine wK ?_ ?_<;>intro h)|(refine wB ?_ ?_<;>intro h<;>simp only[h]))|simp(maxSteps:=4000000) (disch:=first|exact ddL|fail) only[go_sem,simprocAttr,Tryz.f142,kX])
theorem xU(l:List Int){m:Nat}(h:m<l.length):(l.map aL).getD m []=aL (l.getD m 0):=by
 obtain⟨x,hx⟩:=bK l h
 rw[bE (f:=aL) hx,List.getD_eq_getElem?_getD,hx];rfl
theorem uL(l:List Int)(hl:l.length≤1000000)(hu:UpI l)(x:Int)(t:Bool):aA Tryz.prog 101 [.lst 1 (l.map aL) t,.int .i64 x] St.none (fun r _=>r=.tup [.int .i64 (cN l x:Int),.bool (decide (x∈l))]):=by
 refine(aA.body 54 [.tmp 4,.tmp 5] Tryz.func101 rfl rfl rfl rfl ?_)
 repeat' (first|(with_reducible first|(refine wN fun _ hnl=>?_;revert hnl;(repeat refine wS fun _ _=>?_);intro hnl)|refine wE ?_|(refine wK ?_ ?_<;>intro h)|(refine wB ?_ ?_<;>intro h<;>simp only[h]))|simp(maxSteps:=4000000) (disch:=first|exact ddL|fail) only[go_sem,simprocAttr,Tryz.f101])
 refine aH (α:=Nat × Nat) (fun a=>⟨54,[(7,.int .i64 (a.1:Int)),(8,.int .i64 (a.2:Int)),(6,.int .i64 (l.length:Int)),(1,.int .i64 x),(0,.lst 1 (l.map aL) t)],[]⟩)
  (fun _=>St.none) (fun a=>a.1≤a.2∧a.2≤l.length∧(∀q,q<a.1→l.getD q 0<x)∧(∀q,a.2≤q→q<l.length→¬l.getD q 0<x)) (fun a=>a.2 - a.1) (.of (.less ?_ (St.le_refl _)) ⟨(0,l.length),rfl,rfl,by simp;omega⟩) ?_
 ·simp(maxSteps:=4000000) (disch:=first|exact ddL|fail) only[go_sem,simprocAttr,aC,aB]
  all_goals first|rfl|omega|simp
 ·rintro⟨i,j⟩ ⟨h1,h2,h3,h4⟩
  simp only at h1 h2 h3 h4 ⊢
  by_cases hij:i<j
  ·have hh:=half i j
   have hm1:i≤(i+j) / 2:=by omega
   have hm2:(i+j) / 2<j:=by omega
   obtain⟨m,hm⟩:∃m,(i+j) / 2=m:=⟨_,rfl⟩
   rw[hm] at hh hm1 hm2
   have hml:m<l.length:=by omega
   have hat:=xU l hml
   have hup:∀a b,a<b→b<l.length→l.getD a 0<l.getD b 0:=fun a b hab hb=>by
    have:=List.pairwise_iff_getElem.1 hu a b (by omega) hb hab
    rw[List.getD_eq_getElem?_getD,List.getD_eq_getElem?_getD,List.getElem?_eq_getElem (by omega:a<l.length),List.getElem?_eq_getElem hb]
    exact this
   have hord:=DD (l.getD m 0) x
   by_cases hless:l.getD m 0<x
   ·have hnew:∀q,q<m+1→l.getD q 0<x:=fun q hq=>by
     rcases Nat.lt_or_ge q m with hlt|hge
     ·have:=hup q m hlt hml;omega
     ·have:q=m:=by omega
      rw[this];exact hless
    obtain⟨y,hy⟩:∃y,l.getD m 0=y:=⟨_,rfl⟩
    rw[hy] at hat hord hless
    repeat' (first|(with_reducible first|refine up hord ?_)|(with_reducible first|(refine wN fun _ hnl=>?_;revert hnl;(repeat refine wS fun _ _=>?_);intro hnl)|refine wE ?_|(refine wK ?_ ?_<;>intro h)|(refine wB ?_ ?_<;>intro h<;>simp only[h]))|simp(maxSteps:=4000000) (disch:=first|exact ddL|fail) only[go_sem,simprocAttr,hat,hh])
    all_goals (try (exfalso;omega))
    refine .of (.less (l1:=[(7,.int .i64 ((m+1:Nat):Int)),(8,.int .i64 (j:Int)),(6,.int .i64 (l.length:Int)),(1,.int .i64 x),(0,.lst 1 (l.map aL) t)]) ?_ (St.le_refl _)) ⟨(m+1,j),rfl,rfl,⟨by simp only;omega,h2,hnew,h4⟩,by simp only;omega⟩
    simp(maxSteps:=4000000) (disch:=first|exact ddL|fail) only[go_sem,simprocAttr,aC,aB]
    all_goals omega
   ·have hnew:∀q,m≤q→q<l.length→¬l.getD q 0<x:=fun q hq hql=>by
     rcases Nat.lt_or_ge m q with hlt|hge
     ·have:=hup m q hlt hql;omega
     ·have:q=m:=by omega
      rw[this];exact hless
    obtain⟨y,hy⟩:∃y,l.getD m 0=y:=⟨_,rfl⟩
    rw[hy] at hat hord hless
    repeat' (first|(with_reducible first|refine up hord ?_)|(with_reducible first|(refine wN fun _ hnl=>?_;revert hnl;(repeat refine wS fun _ _=>?_);intro hnl)|refine wE ?_|(refine wK ?_ ?_<;>intro h)|(refine wB ?_ ?_<;>intro h<;>simp only[h]))|simp(maxSteps:=4000000) (disch:=first|exact ddL|fail) only[go_sem,simprocAttr,hat,hh])
    all_goals (try (exfalso;omega))
    refine .of (.less (l1:=[(7,.int .i64 (i:Int)),(8,.int .i64 (m:Int)),(6,.int .i64 (l.length:Int)),(1,.int .i64 x),(0,.lst 1 (l.map aL) t)]) ?_ (St.le_refl _)) ⟨(i,m),rfl,rfl,⟨hm1,by simp only;omega,h3,hnew⟩,by simp only;omega⟩
    simp(maxSteps:=4000000) (disch:=first|exact ddL|fail) only[go_sem,simprocAttr,aC,aB]
  ·have:i=j:=by omega
   subst this
   have hp:=xQ hu h3 h4
   rw[sP h2 h3 h4]
   by_cases hil:i<l.length
   ·have hat:=xU l hil
    have hn:=uB (l.getD i 0)
    have hnx:=uB x
    by_cases he:l.getD i 0=x
    ·rw[decide_eq_true (hp.2 ⟨hil,he⟩)]
     obtain⟨y,hy⟩:∃y,l.getD i 0=y:=⟨_,rfl⟩
     rw[hy] at hat hn he
     repeat' (first|(with_reducible first|refine up hn ?_|refine up hnx ?_)|(with_reducible first|(refine wN fun _ hnl=>?_;revert hnl;(repeat refine wS fun _ _=>?_);intro hnl)|refine wE ?_|(refine wK ?_ ?_<;>intro h)|(refine wB ?_ ?_<;>intro h<;>simp only[h]))|simp(maxSteps:=4000000) (disch:=first|exact ddL|fail) only[go_sem,simprocAttr,hat])
     all_goals (try (exfalso;omega))
     all_goals (first|rfl|(simp;omega))
    ·rw[decide_eq_false fun h=>he (hp.1 h).2]
     obtain⟨y,hy⟩:∃y,l.getD i 0=y:=⟨_,rfl⟩
     rw[hy] at hat hn he
     repeat' (first|(with_reducible first|refine up hn ?_|refine up hnx ?_)|(with_reducible first|(refine wN fun _ hnl=>?_;revert hnl;(repeat refine wS fun _ _=>?_);intro hnl)|refine wE ?_|(refine wK ?_ ?_<;>intro h)|(refine wB ?_ ?_<;>intro h<;>simp only[h]))|simp(maxSteps:=4000000) (disch:=first|exact ddL|fail) only[go_sem,simprocAttr,hat])
     all_goals (try (exfalso;omega))
     all_goals (first|rfl|(simp;omega))
   ·rw[decide_eq_false fun h=>hil (hp.1 h).1]
    repeat' (first|(with_reducible first|(refine wN fun _ hnl=>?_;revert hnl;(repeat refine wS fun _ _=>?_);intro hnl)|refine wE ?_|(refine wK ?_ ?_<;>intro h)|(refine wB ?_ ?_<;>intro h<;>simp only[h]))|simp(maxSteps:=4000000) (disch:=first|exact ddL|fail) only[go_sem,simprocAttr])
    all_goals (try (exfalso;omega))
    all_goals (first|rfl|(simp;omega))
theorem rL(l:List Int)(hl:l.length≤1000000)(hu:UpI l)(x:Int)(t:Bool):aA Tryz.prog 133 [.lst 1 (l.map aL) t,.int .i64 x] St.none (fun r _=>r=.bool (decide (x∈l))):=by
 refine(aA.body 14 [.tmp 4] Tryz.func133 rfl rfl rfl rfl ?_)
 have h:=uL l hl hu x t
 repeat' (first|(with_reducible first|refine up h ?_)|(with_reducible first|(refine wN fun _ hnl=>?_;revert hnl;(repeat refine wS fun _ _=>?_);intro hnl)|refine wE ?_|(refine wK ?_ ?_<;>intro h)|(refine wB ?_ ?_<;>intro h<;>simp only[h]))|simp(maxSteps:=4000000) (disch:=first|exact ddL|fail) only[go_sem,simprocAttr,Tryz.f133])
theorem oA(l:List Int)(hl:l.length≤1000000)(hu:UpI l)(x:Int)(t:Bool):aA Tryz.prog 59 [.lst 1 (l.map aL) t,.int .i64 x] St.none (fun r _=>r=.int .i64 (cN l x:Int)):=by
 refine(aA.body 14 [.tmp 4] Tryz.func59 rfl rfl rfl rfl ?_)
 have h:=uL l hl hu x t
 repeat' (first|(with_reducible first|refine up h ?_)|(with_reducible first|(refine wN fun _ hnl=>?_;revert hnl;(repeat refine wS fun _ _=>?_);intro hnl)|refine wE ?_|(refine wK ?_ ?_<;>intro h)|(refine wB ?_ ?_<;>intro h<;>simp only[h]))|simp(maxSteps:=4000000) (disch:=first|exact ddL|fail) only[go_sem,simprocAttr,Tryz.f59])
theorem Cb(s n:Nat)(hs:s<4294967296)(hn:n<32):aA Tryz.prog 134 [.int .u32 (s:Int),.int .i64 (n:Int)] St.none (fun r _=>r=.int .u32 ((s ||| 2 ^ n:Nat):Int)):=by
 refine(aA.body 9 [.tmp 4] Tryz.func134 rfl rfl rfl rfl ?_)
 have h:=yI n hn
 have ho:=O0 s (2 ^ n) hs (Nat.pow_lt_pow_right (a:=2) (n:=32) (by decide) hn)
 generalize ((2 ^ n:Nat):Int)=y at h ho
 repeat' (first|(with_reducible first|refine up h ?_)|(with_reducible first|(refine wN fun _ hnl=>?_;revert hnl;(repeat refine wS fun _ _=>?_);intro hnl)|refine wE ?_|(refine wK ?_ ?_<;>intro h)|(refine wB ?_ ?_<;>intro h<;>simp only[h]))|simp(maxSteps:=4000000) (disch:=first|exact ddL|fail) only[go_sem,simprocAttr,Tryz.f134,ho])
theorem Eo(l:List GR)(tt:Bool)(hl:l.length≤1000000)(hm:∀g,g∈l→g.mem.length≤1000000)(hok:dF (-1) l=true)(id:Int):aA Tryz.prog 91 [.lst 2 (l.map GR.c) tt,.int .i64 id] St.none (fun r _=>r=.int .u32 (grB l id:Int)):=by
 refine aA.cC (aA.body 24 [.tmp 4] Tryz.func91 rfl rfl rfl rfl ?_)
 repeat' (first|(with_reducible first|(refine wN fun _ hnl=>?_;revert hnl;(repeat refine wS fun _ _=>?_);intro hnl)|refine wE ?_|(refine wK ?_ ?_<;>intro h)|(refine wB ?_ ?_<;>intro h<;>simp only[h]))|simp(maxSteps:=4000000) (disch:=first|exact ddL|fail) only[go_sem,simprocAttr,Tryz.f91])
 refine aH (α:=Nat) (fun i=>⟨24,[(10,.int .i64 (i:Int)),(9,.int .i64 (l.length:Int)),(8,.lst 2 (l.map GR.c) tt),(5,.int .u32 (grB (l.take i) id:Int)),(1,.int .i64 id)],[]⟩)
  (fun _=>St.none) (fun i=>i≤l.length) (fun i=>l.length - i) (.of (.less ?_ (St.le_refl _)) ⟨0,rfl,rfl,Nat.zero_le _⟩) ?_
 ·simp(maxSteps:=4000000) (disch:=first|exact ddL|fail) only[go_sem,simprocAttr,aC,aB]
  all_goals rfl
 ·intro i hi
  have hi:i≤l.length:=hi
  by_cases hlt:i<l.length
  ·obtain⟨x,hx⟩:=bK l hlt
   have hat:=bE (f:=GR.c) hx
   obtain⟨g1,g2,g3,g4⟩:=zH hok hx id
   have hsn:=tG hx id
   unfold grF at hsn
   obtain⟨n,hn⟩:∃n:Nat,x.no=n:=⟨x.no.toNat,by omega⟩
   have hh:=rL x.mem (hm x (dC hx)) (AJ g4).1 id false
   have g5:grB (l.take i) id<4294967296:=Nat.lt_trans g1 (Nat.pow_lt_pow_right (a:=2) (n:=32) (by decide) (by omega))
   have hw:=Cb (grB (l.take i) id) n g5 (by omega)
   obtain⟨s,hs⟩:∃s,grB (l.take i) id=s:=⟨_,rfl⟩
   rw[hs] at hsn hw ⊢
   rw[hn,Int.toNat_natCast] at hsn
   by_cases hin:id∈x.mem
   ·rw[if_pos hin] at hsn
    rw[decide_eq_true hin] at hh
    repeat' (first|(with_reducible first|refine up hh ?_|refine up hw ?_)|(with_reducible first|(refine wN fun _ hnl=>?_;revert hnl;(repeat refine wS fun _ _=>?_);intro hnl)|refine wE ?_|(refine wK ?_ ?_<;>intro h)|(refine wB ?_ ?_<;>intro h<;>simp only[h]))|simp(maxSteps:=4000000) (disch:=first|exact ddL|fail) only[go_sem,simprocAttr,hat,hn])
    all_goals (try (exfalso;omega))
    all_goals
     refine .of (.less ?_ (St.none_le _)) ⟨i+1,rfl,rfl,(by omega:i+1≤l.length),by omega⟩
     rw[hsn]
     simp(maxSteps:=4000000) (disch:=first|exact ddL|fail) only[go_sem,simprocAttr,aC,aB]
     all_goals first|rfl|(simp;done)
   ·rw[if_neg hin] at hsn
    rw[decide_eq_false hin] at hh
    repeat' (first|(with_reducible first|refine up hh ?_)|(with_reducible first|(refine wN fun _ hnl=>?_;revert hnl;(repeat refine wS fun _ _=>?_);intro hnl)|refine wE ?_|(refine wK ?_ ?_<;>intro h)|(refine wB ?_ ?_<;>intro h<;>simp only[h]))|simp(maxSteps:=4000000) (disch:=first|exact ddL|fail) only[go_sem,simprocAttr,hat,hn])
    all_goals (try (exfalso;omega))
    all_goals
     refine .of (.less ?_ (St.none_le _)) ⟨i+1,rfl,rfl,(by omega:i+1≤l.length),by omega⟩
     rw[hsn]
     simp(maxSteps:=4000000) (disch:=first|exact ddL|fail) only[go_sem,simprocAttr,aC,aB]
     all_goals first|rfl|(simp;done)
  ·have:i=l.length:=by omega
   subst this
   rw[List.take_length]
   repeat' (first|(with_reducible first|(refine wN fun _ hnl=>?_;revert hnl;(repeat refine wS fun _ _=>?_);intro hnl)|refine wE ?_|(refine wK ?_ ?_<;>intro h)|(refine wB ?_ ?_<;>intro h<;>simp only[h]))|simp(maxSteps:=4000000) (disch:=first|exact ddL|fail) only[go_sem,simprocAttr])
   all_goals first|exact⟨_,St.le_refl _,rfl⟩|exact⟨_,St.le_refl _⟩
end

section
set_option maxRecDepth 100000
set_option maxHeartbeats 8000000
theorem uK(sq:Int)(l b:Nat)(gr:List GR)(h3:gr.length≤1000000)(h4:∀g,g∈gr→g.mem.length≤1000000)(hok:dF (-1) gr=true)(id:Int) :
  aA Tryz.prog 48 [.ptr b 0 0,.int .i64 id] (St.none.set b (bX sq l (.lst 2 (gr.map GR.c) false))) (fun v σ'=>v=.int .u32 (grB gr id:Int)∧σ'=St.none.set b (bX sq l (.lst 2 (gr.map GR.c) false))):=by
 refine(aA.body 13 [.tmp 4] Tryz.func48 rfl rfl rfl rfl ?_)
 have h:=Eo gr false h3 h4 hok id
 repeat' (first|(with_reducible first|refine up h ?_)|(with_reducible first|(refine wN fun _ hnl=>?_;revert hnl;(repeat refine wS fun _ _=>?_);intro hnl)|refine wE ?_|(refine wK ?_ ?_<;>intro h)|(refine wB ?_ ?_<;>intro h<;>simp only[h]))|simp(maxSteps:=4000000) (disch:=first|exact ddL|fail) only[go_sem,simprocAttr,Tryz.f48])
 all_goals exact⟨rfl,rfl⟩
theorem wU(nx sq:Int){l m b:Nat}(dead g:MV)(cs:List CA)(hlm:l≠m)(hbm:b≠m)(hbl:b≠l)(hc:Ip cs) :
  aA Tryz.prog 96 [.ptr b 0 0] (((St.none.set m (.mp (cEs cs))).set l (shO nx m dead)).set b (bX sq l g)) (fun v σ'=>v=.lst 27 (cs.map CA.c) false∧σ'=((St.none.set m (.mp (cEs cs))).set l (shO nx m dead)).set b (bX sq l g)):=by
 refine(aA.body 10 [.tmp 2] Tryz.func96 rfl rfl rfl rfl ?_)
 have h:=AB nx l m dead cs hlm hc
 have hml:=Ne.symm hlm
 have hmb:=Ne.symm hbm
 have hlb:=Ne.symm hbl
 repeat' (first|(refine mW h (le2 (by simp[St.set, *]) (by simp[St.set, *])) ?_)|(with_reducible first|(refine wN fun _ hnl=>?_;revert hnl;(repeat refine wS fun _ _=>?_);intro hnl)|refine wE ?_|(refine wK ?_ ?_<;>intro h)|(refine wB ?_ ?_<;>intro h<;>simp only[h]))|simp(maxSteps:=4000000) (disch:=first|exact ddL|fail) only[go_sem,simprocAttr,Tryz.f96])
 all_goals exact⟨rfl,rfl⟩
noncomputable abbrev flD(fl:List ND)(d:Bool):aX:=flO (.lst 5 (fl.map ND.c) false) (if d=true then 1 else 0) 0 (if d=true then iX (mV fl) else .nilfn)
theorem Cj{fl:List ND}(hp:cA fl=0){gr:List GR}(hg:dF (-1) gr=true){c:CA}(hc:dO c=true)(f:Nat)(d:Bool) :
  aA Tryz.prog 47 [.ptr f 0 0,.agg c.c,.int .u32 (grB gr c.id:Int)] (St.none.set f (flD fl d)) (fun v σ'=>v=.bool (gJ gr fl c)∧σ'=St.none.set f (flD fl true)):=by
 obtain⟨h1,h2,h3⟩:=sI hp
 have h:=zF h1 (by rw[h2];omega) c (fun k=>?_) (grB gr c.id) (Nat.lt_of_lt_of_le (Fm hg c.id) (by decide)) f false d
 ·rw[h2] at h
  exact h
 ·by_cases hk:k<8
  ·exact sS hc _ (by
    unfold F8.get
    exact eO _ (by rw[c.f.h];exact hk))
  ·unfold F8.get
   rw[List.getD_eq_getElem?_getD,List.getElem?_eq_none (by rw[c.f.h];omega)]
   decide
theorem uW{nx:Int}{cs:List CA}(h:dD nx 0 cs=true)(hn:nx≤1073741824)(hl:cs.length≤1000000):Ip cs:=by
 obtain⟨h1,h2⟩:=jY h
 exact⟨h2,fun c hc=>by have:=h1 c hc;omega,hl⟩
end

section
set_option maxRecDepth 100000
set_option maxHeartbeats 8000000
noncomputable def shC(B:BK)(fl:List ND):List CA:=B.cards.filter (gJ B.gr fl)
structure Pd (f sm v:Nat):Prop where
 sf:sm≠f
 vf:v≠f
 vs:v≠sm
end

section
set_option maxRecDepth 100000
set_option maxHeartbeats 8000000
theorem pR{B:BK}(hb:BkR B)(fl:List ND):Ip (shC B fl):=by
 have h:=uW hb.cok hb.nx2 (by have:=hb.nc;omega)
 refine⟨h.1.filter _,fun c hc=>h.2.1 c (List.mem_filter.1 hc).1,Nat.le_trans (List.length_filter_le _ _) h.2.2⟩
end

section
set_option maxRecDepth 100000
set_option maxHeartbeats 8000000
abbrev cdX(cs:List CA):List (List MV):=cs.map fun c=>[.agg c.c]
noncomputable abbrev alI(m l q b:Nat)(B:BK)(ex:List (List MV))(fl:List ND)(f pb pf:Nat)(d:Bool):St:=(((bkS m l q b B ex).set f (flD fl d)).set pb (.row 33 1 [[.ptr b 0 0]])).set pf (.row 36 1 [[.ptr f 0 0]])
structure FT (m l q b f pb pf:Nat):Prop where
 h1:f≠m∧f≠l∧f≠q∧f≠b
 h2:pb≠m∧pb≠l∧pb≠q∧pb≠b∧pb≠f
 h3:pf≠m∧pf≠l∧pf≠q∧pf≠b∧pf≠f∧pf≠pb
theorem Md{g1 g2:FuncId}{r1 r2:List Nat}{q1 q2:MV→Prop}{x2:List aX × (Nat→MV)}:PlU (.these [g2]) (fnF [(g1,⟨r1,q1,none⟩),(g2,⟨r2,q2,some x2⟩)]):=by
 intro g' ms rd q' x' h
 simp only[fnF] at h
 split at h
 ·cases h
 ·split at h
  ·rename_i e
   subst e
   exact .inr (List.mem_singleton.2 rfl)
  ·cases h
theorem uD(c:CA):∀m,m∈[MV.agg c.c]→gO m:=fun m hm=>by
 rw[List.mem_singleton] at hm
 subst hm
 refine .flat (.agg fun x hx=>?_)
 simp only[CA.c,List.mem_cons] at hx
 rcases hx with rfl|rfl|rfl|hx
 ·exact .int _ _
 ·exact .int _ _
 ·exact .int _ _
 ·unfold fc at hx
  obtain⟨v,hv,hx⟩:=List.mem_flatten.1 hx
  obtain⟨a,_,rfl⟩:=List.mem_map.1 hv
  simp only[VA.c,List.mem_cons,List.not_mem_nil,or_false] at hx
  rcases hx with rfl|rfl|rfl
  ·exact .int _ _
  ·exact .int _ _
  ·exact .str _
end

section
set_option maxRecDepth 100000
set_option maxHeartbeats 8000000
def fJ:Int→List Int→List (List MV)
 | _,[]=>[]
 | s,i::r=>[.int .i64 (s+1),.int .i64 i]::fJ (s+1) r
theorem sT:∀(s:Int) (l:List Int),(fJ s l).length=l.length
 | _,[]=>rfl
 | s,i::r=>by simp[fJ,sT]
theorem xJ:∀(s:Int) (l:List Int) (x:Int),fJ s (l++[x])=fJ s l++[[.int .i64 (s+l.length+1),.int .i64 x]]
 | s,[],x=>by simp[fJ]
 | s,i::r,x=>by
  simp only[List.cons_append,fJ,xJ (s+1) r x,List.length_cons]
  have:s+1+(r.length:Int)+1=s+((r.length+1:Nat):Int)+1:=by omega
  rw[this]
theorem rM{sq:Int}(l:Nat)(g:MV){b p:Nat}(hbp:b≠p)(ids:List Int)(h0:0≤sq)(h1:sq≤1099511627776)(hl:ids.length≤1000000) :
  aA Tryz.prog 109 [.ptr b 0 0,.vec 1 p 0 ids.length] ((St.none.set p (.row 3 1 (ids.map aL))).set b (bX sq l g)) (fun v σ'=>v=.lst 2 (fJ sq ids) false∧σ'=St.none.set b (bX (sq+ids.length) l g)):=by
 refine aA.FK (aA.body 32 [.tmp 4] Tryz.func109 rfl rfl rfl rfl ?_)
 have hpb:=Ne.symm hbp
 repeat' (first|(with_reducible first|(refine wT ?_;(first|((fail_if_success (have:=nl1));refine wN fun nl1 hnl=>?_)|((fail_if_success (have:=nl2));refine wN fun nl2 hnl=>?_)|refine wN fun _ hnl=>?_);revert hnl;(repeat refine wS fun _ _=>?_);intro hnl)|refine wE ?_|(refine wK ?_ ?_<;>intro h)|(refine wB ?_ ?_<;>intro h<;>simp only[h]))|simp(maxSteps:=4000000) (disch:=first|exact ddL|fail) only[go_sem,simprocAttr,Tryz.f109])
 refine aH (α:=Nat × Nat × List (List MV)) (fun z=>⟨32,[(10,.int .i64 (z.1:Int)),(9,.int .i64 (ids.length:Int)),(8,.vec 1 p 0 ids.length),(5,.vec 2 z.2.1 0 z.1),(0,.ptr b 0 0)],[]⟩)
  (fun z=>((St.none.set p (.row 3 1 (ids.map aL))).set b (bX (sq+z.1) l g)).set z.2.1 (.row 194 2 (fJ sq (ids.take z.1)++z.2.2))) (fun z=>z.1≤ids.length∧z.2.1≠p∧z.2.1≠b) (fun z=>ids.length - z.1) ?_ ?_
 ·refine Gh.qS 194 2 (fun r=>[(10,.int .i64 0),(9,.int .i64 (ids.length:Int)),(8,.vec 1 p 0 ids.length),(5,.vec 2 r 0 0),(0,.ptr b 0 0)]) (fun k=>by(repeat' (refine And.intro ?_ ?_))<;>first|exact trivial|exact .inl rfl|exact .inr ⟨rfl,.inl rfl⟩|exact .inr ⟨rfl,.inr rfl⟩) fun r hr=>?_
  simp only[aY] at hr
  obtain⟨r1,r2,-⟩:=hr
  exact .done ⟨(0,r,[]),rfl,by simp[fJ],Nat.zero_le _,by assumption,by assumption⟩
 ·rintro⟨i,r,xx⟩ ⟨hi,r1,r2⟩
  simp only at hi r1 r2 ⊢
  have r1':=Ne.symm r1
  have r2':=Ne.symm r2
  by_cases hlt:i<ids.length
  ·obtain⟨x,hx⟩:=bK ids hlt
   have hat:=bE (f:=aL) hx
   have hml:(ids.map aL).length=ids.length:=List.length_map _
   have htk:=a8 hx
   have hLl:(ids.take i).length=i:=by rw[List.length_take];omega
   obtain⟨L,hL⟩:∃L,ids.take i=L:=⟨_,rfl⟩
   rw[hL] at htk hLl ⊢
   have hsn:=xJ sq L x
   rw[hLl] at hsn
   have hcl:=sT sq L
   rw[hLl] at hcl
   obtain⟨Q,hQ⟩:∃Q,fJ sq L=Q:=⟨_,rfl⟩
   rw[hQ] at hsn hcl ⊢
   have hdr:(Q++xx).drop (i+1)=xx.drop 1:=by rw[←hcl,←List.drop_drop,List.drop_left]
   have htk':(Q++xx).take i=Q:=List.take_left' hcl
   have hq1:sq+((i+1:Nat):Int)=sq+(i:Int)+1:=by omega
   repeat' (first|(with_reducible first|(refine wT ?_;(first|((fail_if_success (have:=nl1));refine wN fun nl1 hnl=>?_)|((fail_if_success (have:=nl2));refine wN fun nl2 hnl=>?_)|refine wN fun _ hnl=>?_);revert hnl;(repeat refine wS fun _ _=>?_);intro hnl)|refine wE ?_|(refine wK ?_ ?_<;>intro h)|(refine wB ?_ ?_<;>intro h<;>simp only[h]))|simp(maxSteps:=4000000) (disch:=first|exact ddL|fail) only[go_sem,simprocAttr,hat,hml,hcl,htk',hdr])
   all_goals (try (exfalso;omega))
   all_goals
    clear hat htk' hdr
    have p1:nl2≠p:=by assumption
    have p2:nl2≠b:=by assumption
   ·have hex:xx=[]:=List.eq_nil_of_length_eq_zero (by omega)
    subst hex
    clear h
    refine .of (.less ?_ ?_) ⟨(i+1,nl2,[]),rfl,rfl,⟨by simp only;omega,p1,p2⟩,by simp only;omega⟩
    ·simp(maxSteps:=4000000) (disch:=first|exact ddL|fail) only[go_sem,simprocAttr,aC,aB]
     all_goals first|rfl|(simp;done)
    ·simp only[htk,hsn,hq1]
     exact St.aE (St.aE (St.aE (St.none_le _) (by simp[St.set, *])) (by simp[St.set, *])) (by simp[St.set, *])
   ·clear h
    refine .of (.less ?_ ?_) ⟨(i+1,nl2,xx.drop 1),rfl,rfl,⟨by simp only;omega,p1,p2⟩,by simp only;omega⟩
    ·simp(maxSteps:=4000000) (disch:=first|exact ddL|fail) only[go_sem,simprocAttr,aC,aB]
     all_goals first|rfl|(simp;done)
    ·simp only[htk,hsn,hq1]
     exact St.aE (St.aE (St.aE (St.none_le _) (by simp[St.set, *])) (by simp[St.set, *])) (by simp[St.set, *])
  ·have:i=ids.length:=by omega
   subst this
   rw[List.take_length]
   repeat' (first|(with_reducible first|(refine wT ?_;(first|((fail_if_success (have:=nl1));refine wN fun nl1 hnl=>?_)|((fail_if_success (have:=nl2));refine wN fun nl2 hnl=>?_)|refine wN fun _ hnl=>?_);revert hnl;(repeat refine wS fun _ _=>?_);intro hnl)|refine wE ?_|(refine wK ?_ ?_<;>intro h)|(refine wB ?_ ?_<;>intro h<;>simp only[h]))|simp(maxSteps:=4000000) (disch:=first|exact ddL|fail) only[go_sem,simprocAttr])
   all_goals
    exact⟨St.none.set r (.row 194 2 (fJ sq ids++xx)),St.aE (St.none_le _) (by simp[St.set, *]),St.aE (St.none_le _) (by simp[St.set, *]),fun k o hk=>(aK _ _ _ _ (fun e=>by subst e;simp[St.set,St.none, *] at hk)).trans rfl,bS (aJ _ _ _) (sT _ _).symm⟩
end

section
set_option maxRecDepth 100000
set_option maxHeartbeats 8000000
def vT(a b:Int):Int:=if a<b then -1 else if b<a then 1 else 0
theorem Em(a b:Int):aA Tryz.prog 188 [.int .i64 a,.int .i64 b] St.none (fun r _=>r=.int .i64 (vT a b)):=by
 refine(aA.body 20 [.tmp 4] Tryz.func188 rfl rfl rfl rfl ?_)
 have h1:=j7 a
 have h2:=j7 b
 rcases Int.lt_trichotomy a b with h|h|h
 ·rw[show vT a b = -1 from if_pos h]
  repeat' (first|(with_reducible first|refine up h1 ?_|refine up h2 ?_)|(with_reducible first|(refine wN fun _ hnl=>?_;revert hnl;(repeat refine wS fun _ _=>?_);intro hnl)|refine wE ?_|(refine wK ?_ ?_<;>intro h)|(refine wB ?_ ?_<;>intro h<;>simp only[h]))|simp(maxSteps:=4000000) (disch:=first|exact ddL|fail) only[go_sem,simprocAttr,Tryz.f188])
  all_goals (try (exfalso;omega))
 ·rw[show vT a b=0 from(if_neg (by omega)).trans (if_neg (by omega))]
  repeat' (first|(with_reducible first|refine up h1 ?_|refine up h2 ?_)|(with_reducible first|(refine wN fun _ hnl=>?_;revert hnl;(repeat refine wS fun _ _=>?_);intro hnl)|refine wE ?_|(refine wK ?_ ?_<;>intro h)|(refine wB ?_ ?_<;>intro h<;>simp only[h]))|simp(maxSteps:=4000000) (disch:=first|exact ddL|fail) only[go_sem,simprocAttr,Tryz.f188])
  all_goals (try (exfalso;omega))
 ·rw[show vT a b=1 from(if_neg (by omega)).trans (if_pos h)]
  repeat' (first|(with_reducible first|refine up h1 ?_|refine up h2 ?_)|(with_reducible first|(refine wN fun _ hnl=>?_;revert hnl;(repeat refine wS fun _ _=>?_);intro hnl)|refine wE ?_|(refine wK ?_ ?_<;>intro h)|(refine wB ?_ ?_<;>intro h<;>simp only[h]))|simp(maxSteps:=4000000) (disch:=first|exact ddL|fail) only[go_sem,simprocAttr,Tryz.f188])
  all_goals (try (exfalso;omega))
theorem rJ(x:GR)(g:Int):aA Tryz.prog 187 [.agg x.c,.int .i64 g] St.none (fun r _=>r=.int .i64 (vT x.no g)):=by
 refine aA.cC (aA.body 9 [.tmp 4] Tryz.func187 rfl rfl rfl rfl ?_)
 have h:=Em x.no g
 repeat' (first|(with_reducible first|refine up h ?_)|(with_reducible first|(refine wN fun _ hnl=>?_;revert hnl;(repeat refine wS fun _ _=>?_);intro hnl)|refine wE ?_|(refine wK ?_ ?_<;>intro h)|(refine wB ?_ ?_<;>intro h<;>simp only[h]))|simp(maxSteps:=4000000) (disch:=first|exact ddL|fail) only[go_sem,simprocAttr,Tryz.f187])
 all_goals first|exact⟨_,St.le_refl _,rfl⟩|exact⟨_,St.le_refl _⟩
theorem L4(l:List GR){m:Nat}{x:GR}(h:l[m]?=some x):(l.map GR.no).getD m 0=x.no:=by
 rw[List.getD_eq_getElem?_getD,List.getElem?_map,h];rfl
theorem HK(l:List GR)(hl:l.length≤1000000)(hu:UpI (l.map GR.no))(g:Int)(t:Bool):aA Tryz.prog 186 [.lst 2 (l.map GR.c) t,.int .i64 g,.fn (.func 187) [] []] St.none (fun r _=>r=.tup [.int .i64 (cN (l.map GR.no) g:Int),.bool (decide (g∈l.map GR.no))]):=by
 refine(aA.body 49 [.tmp 6,.tmp 7] Tryz.func186 rfl rfl rfl rfl ?_)
 have hnl:(l.map GR.no).length=l.length:=List.length_map _
 obtain⟨N,hN⟩:∃N,l.map GR.no=N:=⟨_,rfl⟩
 rw[hN] at hnl hu ⊢
 have hgd:∀{m:Nat} {x:GR},l[m]?=some x→N.getD m 0=x.no:=fun h=>hN ▸ L4 l h
 repeat' (first|(with_reducible first|(refine wN fun _ hnl=>?_;revert hnl;(repeat refine wS fun _ _=>?_);intro hnl)|refine wE ?_|(refine wK ?_ ?_<;>intro h)|(refine wB ?_ ?_<;>intro h<;>simp only[h]))|simp(maxSteps:=4000000) (disch:=first|exact ddL|fail) only[go_sem,simprocAttr,Tryz.f186])
 refine aH (α:=Nat × Nat) (fun a=>⟨49,[(9,.int .i64 (a.1:Int)),(10,.int .i64 (a.2:Int)),(8,.int .i64 (l.length:Int)),(2,.fn (.func 187) [] []),(1,.int .i64 g),(0,.lst 2 (l.map GR.c) t)],[]⟩)
  (fun _=>St.none) (fun a=>a.1≤a.2∧a.2≤l.length∧(∀q,q<a.1→N.getD q 0<g)∧(∀q,a.2≤q→q<N.length→¬N.getD q 0<g)) (fun a=>a.2 - a.1) (.of (.less ?_ (St.le_refl _)) ⟨(0,l.length),rfl,rfl,by simp;omega⟩) ?_
 ·simp(maxSteps:=4000000) (disch:=first|exact ddL|fail) only[go_sem,simprocAttr,aC,aB]
  all_goals first|rfl|omega|simp
 ·rintro⟨i,j⟩ ⟨h1,h2,h3,h4⟩
  simp only at h1 h2 h3 h4 ⊢
  by_cases hij:i<j
  ·have hh:=half i j
   have hm1:i≤(i+j) / 2:=by omega
   have hm2:(i+j) / 2<j:=by omega
   obtain⟨m,hm⟩:∃m,(i+j) / 2=m:=⟨_,rfl⟩
   rw[hm] at hh hm1 hm2
   have hml:m<l.length:=by omega
   obtain⟨x,hx⟩:=bK l hml
   have hat:=bE (f:=GR.c) hx
   have hno:=hgd hx
   have hup:∀a b,a<b→b<N.length→N.getD a 0<N.getD b 0:=fun a b hab hb=>by
    have:=List.pairwise_iff_getElem.1 hu a b (by omega) hb hab
    rw[List.getD_eq_getElem?_getD,List.getD_eq_getElem?_getD,List.getElem?_eq_getElem (by omega:a<N.length),List.getElem?_eq_getElem hb]
    exact this
   have hord:=rJ x g
   obtain⟨k,hk⟩:∃k,vT x.no g=k:=⟨_,rfl⟩
   rw[hk] at hord
   by_cases hless:x.no<g
   ·have hnew:∀q,q<m+1→N.getD q 0<g:=fun q hq=>by
     rcases Nat.lt_or_ge q m with hlt|hge
     ·have:=hup q m hlt (by omega);omega
     ·have:q=m:=by omega
      rw[this,hno];exact hless
    have hkn:k<0:=by rw[←hk,show vT x.no g = -1 from if_pos hless];omega
    clear hk hless
    repeat' (first|(with_reducible first|refine up hord ?_)|(with_reducible first|(refine wN fun _ hnl=>?_;revert hnl;(repeat refine wS fun _ _=>?_);intro hnl)|refine wE ?_|(refine wK ?_ ?_<;>intro h)|(refine wB ?_ ?_<;>intro h<;>simp only[h]))|simp(maxSteps:=4000000) (disch:=first|exact ddL|fail) only[go_sem,simprocAttr,hat,hh])
    all_goals (try (exfalso;omega))
    refine .of (.less (l1:=[(9,.int .i64 ((m+1:Nat):Int)),(10,.int .i64 (j:Int)),(8,.int .i64 (l.length:Int)),(2,.fn (.func 187) [] []),(1,.int .i64 g),(0,.lst 2 (l.map GR.c) t)]) ?_ (St.le_refl _)) ⟨(m+1,j),rfl,rfl,⟨by simp only;omega,h2,hnew,h4⟩,by simp only;omega⟩
    simp(maxSteps:=4000000) (disch:=first|exact ddL|fail) only[go_sem,simprocAttr,aC,aB]
    all_goals first|rfl|omega|(simp;done)
   ·have hnew:∀q,m≤q→q<N.length→¬N.getD q 0<g:=fun q hq hql=>by
     rcases Nat.lt_or_ge m q with hlt|hge
     ·have:=hup m q hlt hql;omega
     ·have:q=m:=by omega
      rw[this,hno];exact hless
    have hkn:¬k<0:=by
     rw[←hk];unfold vT;rw[if_neg hless];split<;>omega
    clear hk hless
    repeat' (first|(with_reducible first|refine up hord ?_)|(with_reducible first|(refine wN fun _ hnl=>?_;revert hnl;(repeat refine wS fun _ _=>?_);intro hnl)|refine wE ?_|(refine wK ?_ ?_<;>intro h)|(refine wB ?_ ?_<;>intro h<;>simp only[h]))|simp(maxSteps:=4000000) (disch:=first|exact ddL|fail) only[go_sem,simprocAttr,hat,hh])
    all_goals (try (exfalso;omega))
    refine .of (.less (l1:=[(9,.int .i64 (i:Int)),(10,.int .i64 (m:Int)),(8,.int .i64 (l.length:Int)),(2,.fn (.func 187) [] []),(1,.int .i64 g),(0,.lst 2 (l.map GR.c) t)]) ?_ (St.le_refl _)) ⟨(i,m),rfl,rfl,⟨hm1,by simp only;omega,h3,hnew⟩,by simp only;omega⟩
    simp(maxSteps:=4000000) (disch:=first|exact ddL|fail) only[go_sem,simprocAttr,aC,aB]
    all_goals first|rfl|omega|(simp;done)
  ·have:i=j:=by omega
   subst this
   have hp:=xQ hu h3 h4
   rw[sP (by omega) h3 h4]
   by_cases hil:i<l.length
   ·obtain⟨x,hx⟩:=bK l hil
    have hat:=bE (f:=GR.c) hx
    have hno:=hgd hx
    have hord:=rJ x g
    have hge:=h4 i (Nat.le_refl _) (by omega)
    rw[hno] at hge
    rw[hno] at hp
    by_cases he:x.no=g
    ·rw[decide_eq_true (hp.2 ⟨by omega,he⟩)]
     rw[show vT x.no g=0 from(if_neg (by omega)).trans (if_neg (by omega))] at hord
     repeat' (first|(with_reducible first|refine up hord ?_)|(with_reducible first|(refine wN fun _ hnl=>?_;revert hnl;(repeat refine wS fun _ _=>?_);intro hnl)|refine wE ?_|(refine wK ?_ ?_<;>intro h)|(refine wB ?_ ?_<;>intro h<;>simp only[h]))|simp(maxSteps:=4000000) (disch:=first|exact ddL|fail) only[go_sem,simprocAttr,hat])
     all_goals (try (exfalso;omega))
     all_goals (first|rfl|(simp;omega))
    ·rw[decide_eq_false fun h=>he (hp.1 h).2]
     rw[show vT x.no g=1 from(if_neg (by omega)).trans (if_pos (by omega))] at hord
     repeat' (first|(with_reducible first|refine up hord ?_)|(with_reducible first|(refine wN fun _ hnl=>?_;revert hnl;(repeat refine wS fun _ _=>?_);intro hnl)|refine wE ?_|(refine wK ?_ ?_<;>intro h)|(refine wB ?_ ?_<;>intro h<;>simp only[h]))|simp(maxSteps:=4000000) (disch:=first|exact ddL|fail) only[go_sem,simprocAttr,hat])
     all_goals (try (exfalso;omega))
     all_goals (first|rfl|(simp;omega))
   ·rw[decide_eq_false fun h=>hil (by have:=(hp.1 h).1;omega)]
    repeat' (first|(with_reducible first|(refine wN fun _ hnl=>?_;revert hnl;(repeat refine wS fun _ _=>?_);intro hnl)|refine wE ?_|(refine wK ?_ ?_<;>intro h)|(refine wB ?_ ?_<;>intro h<;>simp only[h]))|simp(maxSteps:=4000000) (disch:=first|exact ddL|fail) only[go_sem,simprocAttr])
    all_goals (try (exfalso;omega))
    all_goals (first|rfl|(simp;omega))
theorem uM(l:List GR)(hl:l.length≤1000000)(hu:UpI (l.map GR.no))(g:Int)(t:Bool):aA Tryz.prog 149 [.lst 2 (l.map GR.c) t,.int .i64 g] St.none (fun r _=>r=.tup [.int .i64 (cN (l.map GR.no) g:Int),.bool (decide (g∈l.map GR.no))]):=by
 refine(aA.body 11 [.tmp 4,.tmp 5] Tryz.func149 rfl rfl rfl rfl ?_)
 have h:=HK l hl hu g t
 repeat' (first|(with_reducible first|refine up h ?_)|(with_reducible first|(refine wN fun _ hnl=>?_;revert hnl;(repeat refine wS fun _ _=>?_);intro hnl)|refine wE ?_|(refine wK ?_ ?_<;>intro h)|(refine wB ?_ ?_<;>intro h<;>simp only[h]))|simp(maxSteps:=4000000) (disch:=first|exact ddL|fail) only[go_sem,simprocAttr,Tryz.f149])
end
end Go.Proofs.YtaojijkdamfbnaaGreatDoor
