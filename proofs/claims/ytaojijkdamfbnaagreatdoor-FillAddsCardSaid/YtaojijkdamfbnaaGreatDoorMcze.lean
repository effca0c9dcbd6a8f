/- Parts of the proof, joined; conditions: those that its theorems name. -/
import Derived.Test.YtaojijkdamfbnaaGreatDoorMczd
set_option linter.unusedVariables false
set_option linter.unusedSimpArgs false
set_option maxHeartbeats 4000000
namespace Go.Proofs.YtaojijkdamfbnaaGreatDoor
section
set_option maxRecDepth 100000
set_option maxHeartbeats 8000000
def Ck(l:List Int)(x:Int):Nat:=(l.filter fun y=>decide (y<x)).length
theorem HN{l:List Int}{x:Int}{i:Nat}(hi:i≤l.length)(h1:∀q,q<i→l.getD q 0<x)(h2:∀q,i≤q→q<l.length→¬l.getD q 0<x):Ck l x=i:=by
 unfold Ck
 rw[←List.take_append_drop i l,List.filter_append,List.filter_eq_self.2,List.filter_eq_nil_iff.2,List.append_nil,List.length_take]
 ·omega
 ·intro y hy
  obtain⟨k,hk⟩:=List.mem_iff_getElem?.1 hy
  rw[List.getElem?_drop] at hk
  have:=(List.getElem?_eq_some_iff.1 hk).1
  have h:=h2 (i+k) (by omega) this
  rw[List.getD_eq_getElem?_getD,hk] at h
  simpa using h
 ·intro y hy
  obtain⟨k,hk⟩:=List.mem_iff_getElem?.1 hy
  rw[List.getElem?_take] at hk
  split at hk
  ·rename_i hki
   have h:=h1 k hki
   rw[List.getD_eq_getElem?_getD,hk] at h
   simpa using h
  ·cases hk
theorem FI{l:List Int}{x:Int}{i:Nat}(hu:UpI l)(h1:∀q,q<i→l.getD q 0<x)(h2:∀q,i≤q→q<l.length→¬l.getD q 0<x):x∈l↔i<l.length∧l.getD i 0=x:=by
 constructor
 ·intro hm
  obtain⟨p,hp,hx⟩:=List.mem_iff_getElem.1 hm
  have e:l.getD p 0=x:=by rw[List.getD_eq_getElem?_getD,List.getElem?_eq_getElem hp,←hx];rfl
  have hip:i≤p:=Nat.le_of_not_lt fun hlt=>by have:=h1 p hlt;omega
  rcases Nat.lt_or_ge i p with hlt|hge
  ·have h3:=List.pairwise_iff_getElem.1 hu i p (by omega) hp hlt
   have h4:=h2 i (Nat.le_refl _) (by omega)
   rw[List.getD_eq_getElem?_getD,List.getElem?_eq_getElem (by omega:i<l.length)] at h4
   simp at h4
   omega
  ·have:i=p:=by omega
   subst this
   exact⟨hp,e⟩
 ·rintro⟨hi,e⟩
  rw[←e,List.getD_eq_getElem?_getD,List.getElem?_eq_getElem hi]
  exact List.getElem_mem hi
theorem C3(a b:Int):aA Tryz.prog 141 [.int .i64 a,.int .i64 b] St.none (fun r _=>r=.bool (decide (a<b))):=by
 refine(aA.body 17 [.tmp 4] Tryz.func141 rfl rfl rfl rfl ?_)
 have h:=qW a
 repeat' (first|(with_reducible first|refine up h ?_)|(with_reducible first|(refine wN fun _ hnl=>?_;revert hnl;(repeat refine wS fun _ _=>?_);intro hnl)|refine wE ?_|(refine wK ?_ ?_<;>intro h)|(refine wB ?_ ?_<;>intro h<;>simp only[h]))|simp(maxSteps:=4000000) (disch:=first|exact ddL|fail) only[go_sem,simprocAttr,Tryz.f141])
theorem tF(a:Int):aA Tryz.prog 142 [.int .i64 a] St.none (fun r _=>r=.bool false):=by
 refine(aA.body 6 [.tmp 2] Tryz.func142 rfl rfl rfl rfl ?_)
 repeat' (first|(with_reducible first|(refine wN fun _ hnl=>?_;revert hnl;(repeat refine wS fun _ _=>?_);intro hnl)|refine wE ?_|(refine wK ?_ ?_<;>intro h)|(refine wB ?_ ?_<;>intro h<;>simp only[h]))|simp(maxSteps:=4000000) (disch:=first|exact ddL|fail) only[go_sem,simprocAttr,Tryz.f142,kP])
theorem wW(l:List Int){m:Nat}(h:m<l.length):(l.map aW).getD m []=aW (l.getD m 0):=by
 obtain⟨x,hx⟩:=bN l h
 rw[bK (f:=aW) hx,List.getD_eq_getElem?_getD,hx];rfl
theorem Jx(l:List Int)(hl:l.length≤1000000)(hu:UpI l)(x:Int)(t:Bool):aA Tryz.prog 101 [.lst 1 (l.map aW) t,.int .i64 x] St.none (fun r _=>r=.tup [.int .i64 (Ck l x:Int),.bool (decide (x∈l))]):=by
 refine(aA.body 54 [.tmp 4,.tmp 5] Tryz.func101 rfl rfl rfl rfl ?_)
 repeat' (first|(with_reducible first|(refine wN fun _ hnl=>?_;revert hnl;(repeat refine wS fun _ _=>?_);intro hnl)|refine wE ?_|(refine wK ?_ ?_<;>intro h)|(refine wB ?_ ?_<;>intro h<;>simp only[h]))|simp(maxSteps:=4000000) (disch:=first|exact ddL|fail) only[go_sem,simprocAttr,Tryz.f101])
 refine aG (α:=Nat × Nat) (fun a=>⟨54,[(7,.int .i64 (a.1:Int)),(8,.int .i64 (a.2:Int)),(6,.int .i64 (l.length:Int)),(1,.int .i64 x),(0,.lst 1 (l.map aW) t)],[]⟩)
  (fun _=>St.none) (fun a=>a.1≤a.2∧a.2≤l.length∧(∀q,q<a.1→l.getD q 0<x)∧(∀q,a.2≤q→q<l.length→¬l.getD q 0<x)) (fun a=>a.2 - a.1) (.of (.less ?_ (St.le_refl _)) ⟨(0,l.length),rfl,rfl,by simp;omega⟩) ?_
 ·simp(maxSteps:=4000000) (disch:=first|exact ddL|fail) only[go_sem,simprocAttr,aC,aB]
  all_goals first|rfl|omega|simp
 ·rintro⟨i,j⟩ ⟨h1,h2,h3,h4⟩
  simp only at h1 h2 h3 h4 ⊢
  by_cases hij:i<j
  ·have hh:=half i j
   have hm1:i≤(i+j) / 2:=by omega
   have hm2:(i+j) / 2<j:=by omega
   obtain⟨m,hm⟩:∃m,(i+j) / 2=m:=⟨_,rfl⟩
   rw[hm] at hh hm1 hm2
   have hml:m<l.length:=by omega
   have hat:=wW l hml
   have hup:∀a b,a<b→b<l.length→l.getD a 0<l.getD b 0:=fun a b hab hb=>by
    have:=List.pairwise_iff_getElem.1 hu a b (by omega) hb hab
    rw[List.getD_eq_getElem?_getD,List.getD_eq_getElem?_getD,List.getElem?_eq_getElem (by omega:a<l.length),List.getElem?_eq_getElem hb]
    exact this
   have hord:=C3 (l.getD m 0) x
   by_cases hless:l.getD m 0<x
   ·have hnew:∀q,q<m+1→l.getD q 0<x:=fun q hq=>by
     rcases Nat.lt_or_ge q m with hlt|hge
     ·have:=hup q m hlt hml;omega
     ·have:q=m:=by omega
      rw[this];exact hless
    obtain⟨y,hy⟩:∃y,l.getD m 0=y:=⟨_,rfl⟩
    rw[hy] at hat hord hless
    repeat' (first|(with_reducible first|refine up hord ?_)|(with_reducible first|(refine wN fun _ hnl=>?_;revert hnl;(repeat refine wS fun _ _=>?_);intro hnl)|refine wE ?_|(refine wK ?_ ?_<;>intro h)|(refine wB ?_ ?_<;>intro h<;>simp only[h]))|simp(maxSteps:=4000000) (disch:=first|exact ddL|fail) only[go_sem,simprocAttr,hat,hh])
    all_goals (try (exfalso;omega))
    refine .of (.less (l1:=[(7,.int .i64 ((m+1:Nat):Int)),(8,.int .i64 (j:Int)),(6,.int .i64 (l.length:Int)),(1,.int .i64 x),(0,.lst 1 (l.map aW) t)]) ?_ (St.le_refl _)) ⟨(m+1,j),rfl,rfl,⟨by simp only;omega,h2,hnew,h4⟩,by simp only;omega⟩
    simp(maxSteps:=4000000) (disch:=first|exact ddL|fail) only[go_sem,simprocAttr,aC,aB]
    all_goals omega
   ·have hnew:∀q,m≤q→q<l.length→¬l.getD q 0<x:=fun q hq hql=>by
     rcases Nat.lt_or_ge m q with hlt|hge
     ·have:=hup m q hlt hql;omega
     ·have:q=m:=by omega
      rw[this];exact hless
    obtain⟨y,hy⟩:∃y,l.getD m 0=y:=⟨_,rfl⟩
    rw[hy] at hat hord hless
    repeat' (first|(with_reducible first|refine up hord ?_)|(with_reducible first|(refine wN fun _ hnl=>?_;revert hnl;(repeat refine wS fun _ _=>?_);intro hnl)|refine wE ?_|(refine wK ?_ ?_<;>intro h)|(refine wB ?_ ?_<;>intro h<;>simp only[h]))|simp(maxSteps:=4000000) (disch:=first|exact ddL|fail) only[go_sem,simprocAttr,hat,hh])
    all_goals (try (exfalso;omega))
    refine .of (.less (l1:=[(7,.int .i64 (i:Int)),(8,.int .i64 (m:Int)),(6,.int .i64 (l.length:Int)),(1,.int .i64 x),(0,.lst 1 (l.map aW) t)]) ?_ (St.le_refl _)) ⟨(i,m),rfl,rfl,⟨hm1,by simp only;omega,h3,hnew⟩,by simp only;omega⟩
    simp(maxSteps:=4000000) (disch:=first|exact ddL|fail) only[go_sem,simprocAttr,aC,aB]
  ·have:i=j:=by omega
   subst this
   have hp:=FI hu h3 h4
   rw[HN h2 h3 h4]
   by_cases hil:i<l.length
   ·have hat:=wW l hil
    have hn:=tF (l.getD i 0)
    have hnx:=tF x
    by_cases he:l.getD i 0=x
    ·rw[decide_eq_true (hp.2 ⟨hil,he⟩)]
     obtain⟨y,hy⟩:∃y,l.getD i 0=y:=⟨_,rfl⟩
     rw[hy] at hat hn he
     repeat' (first|(with_reducible first|refine up hn ?_|refine up hnx ?_)|(with_reducible first|(refine wN fun _ hnl=>?_;revert hnl;(repeat refine wS fun _ _=>?_);intro hnl)|refine wE ?_|(refine wK ?_ ?_<;>intro h)|(refine wB ?_ ?_<;>intro h<;>simp only[h]))|simp(maxSteps:=4000000) (disch:=first|exact ddL|fail) only[go_sem,simprocAttr,hat])
     all_goals (try (exfalso;omega))
     all_goals (first|rfl|(simp;omega))
    ·rw[decide_eq_false fun h=>he (hp.1 h).2]
     obtain⟨y,hy⟩:∃y,l.getD i 0=y:=⟨_,rfl⟩
     rw[hy] at hat hn he
     repeat' (first|(with_reducible first|refine up hn ?_|refine up hnx ?_)|(with_reducible first|(refine wN fun _ hnl=>?_;revert hnl;(repeat refine wS fun _ _=>?_);intro hnl)|refine wE ?_|(refine wK ?_ ?_<;>intro h)|(refine wB ?_ ?_<;>intro h<;>simp only[h]))|simp(maxSteps:=4000000) (disch:=first|exact ddL|fail) only[go_sem,simprocAttr,hat])
     all_goals (try (exfalso;omega))
     all_goals (first|rfl|(simp;omega))
   ·rw[decide_eq_false fun h=>hil (hp.1 h).1]
    repeat' (first|(with_reducible first|(refine wN fun _ hnl=>?_;revert hnl;(repeat refine wS fun _ _=>?_);intro hnl)|refine wE ?_|(refine wK ?_ ?_<;>intro h)|(refine wB ?_ ?_<;>intro h<;>simp only[h]))|simp(maxSteps:=4000000) (disch:=first|exact ddL|fail) only[go_sem,simprocAttr])
    all_goals (try (exfalso;omega))
    all_goals (first|rfl|(simp;omega))
theorem BE(l:List Int)(hl:l.length≤1000000)(hu:UpI l)(x:Int)(t:Bool):aA Tryz.prog 133 [.lst 1 (l.map aW) t,.int .i64 x] St.none (fun r _=>r=.bool (decide (x∈l))):=by
 refine(aA.body 14 [.tmp 4] Tryz.func133 rfl rfl rfl rfl ?_)
 have h:=Jx l hl hu x t
 repeat' (first|(with_reducible first|refine up h ?_)|(with_reducible first|(refine wN fun _ hnl=>?_;revert hnl;(repeat refine wS fun _ _=>?_);intro hnl)|refine wE ?_|(refine wK ?_ ?_<;>intro h)|(refine wB ?_ ?_<;>intro h<;>simp only[h]))|simp(maxSteps:=4000000) (disch:=first|exact ddL|fail) only[go_sem,simprocAttr,Tryz.f133])
theorem By(s n:Nat)(hs:s<4294967296)(hn:n<32):aA Tryz.prog 134 [.int .u32 (s:Int),.int .i64 (n:Int)] St.none (fun r _=>r=.int .u32 ((s ||| 2 ^ n:Nat):Int)):=by
 refine(aA.body 9 [.tmp 4] Tryz.func134 rfl rfl rfl rfl ?_)
 have h:=xL n hn
 have ho:=Ob s (2 ^ n) hs (Nat.pow_lt_pow_right (a:=2) (n:=32) (by decide) hn)
 generalize ((2 ^ n:Nat):Int)=y at h ho
 repeat' (first|(with_reducible first|refine up h ?_)|(with_reducible first|(refine wN fun _ hnl=>?_;revert hnl;(repeat refine wS fun _ _=>?_);intro hnl)|refine wE ?_|(refine wK ?_ ?_<;>intro h)|(refine wB ?_ ?_<;>intro h<;>simp only[h]))|simp(maxSteps:=4000000) (disch:=first|exact ddL|fail) only[go_sem,simprocAttr,Tryz.f134,ho])
theorem DO(l:List GR)(tt:Bool)(hl:l.length≤1000000)(hm:∀g,g∈l→g.mem.length≤1000000)(hok:dE (-1) l=true)(id:Int):aA Tryz.prog 91 [.lst 2 (l.map GR.c) tt,.int .i64 id] St.none (fun r _=>r=.int .u32 (grB l id:Int)):=by
 refine aA.cP (aA.body 24 [.tmp 4] Tryz.func91 rfl rfl rfl rfl ?_)
 repeat' (first|(with_reducible first|(refine wN fun _ hnl=>?_;revert hnl;(repeat refine wS fun _ _=>?_);intro hnl)|refine wE ?_|(refine wK ?_ ?_<;>intro h)|(refine wB ?_ ?_<;>intro h<;>simp only[h]))|simp(maxSteps:=4000000) (disch:=first|exact ddL|fail) only[go_sem,simprocAttr,Tryz.f91])
 refine aG (α:=Nat) (fun i=>⟨24,[(10,.int .i64 (i:Int)),(9,.int .i64 (l.length:Int)),(8,.lst 2 (l.map GR.c) tt),(5,.int .u32 (grB (l.take i) id:Int)),(1,.int .i64 id)],[]⟩)
  (fun _=>St.none) (fun i=>i≤l.length) (fun i=>l.length - i) (.of (.less ?_ (St.le_refl _)) ⟨0,rfl,rfl,Nat.zero_le _⟩) ?_
 ·simp(maxSteps:=4000000) (disch:=first|exact ddL|fail) only[go_sem,simprocAttr,aC,aB]
  all_goals rfl
 ·intro i hi
  have hi:i≤l.length:=hi
  by_cases hlt:i<l.length
  ·obtain⟨x,hx⟩:=bN l hlt
   have hat:=bK (f:=GR.c) hx
   obtain⟨g1,g2,g3,g4⟩:=yF hok hx id
   have hsn:=sQ hx id
   unfold grF at hsn
   obtain⟨n,hn⟩:∃n:Nat,x.no=n:=⟨x.no.toNat,by omega⟩
   have hh:=BE x.mem (hm x (cH hx)) (Ed g4).1 id false
   have g5:grB (l.take i) id<4294967296:=Nat.lt_trans g1 (Nat.pow_lt_pow_right (a:=2) (n:=32) (by decide) (by omega))
   have hw:=By (grB (l.take i) id) n g5 (by omega)
   obtain⟨s,hs⟩:∃s,grB (l.take i) id=s:=⟨_,rfl⟩
   rw[hs] at hsn hw ⊢
   rw[hn,Int.toNat_natCast] at hsn
   by_cases hin:id∈x.mem
   ·rw[if_pos hin] at hsn
    rw[decide_eq_true hin] at hh
    repeat' (first|(with_reducible first|refine up hh ?_|refine up hw ?_)|(with_reducible first|(refine wN fun _ hnl=>?_;revert hnl;(repeat refine wS fun _ _=>?_);intro hnl)|refine wE ?_|(refine wK ?_ ?_<;>intro h)|(refine wB ?_ ?_<;>intro h<;>simp only[h]))|simp(maxSteps:=4000000) (disch:=first|exact ddL|fail) only[go_sem,simprocAttr,hat,hn])
    all_goals (try (exfalso;omega))
    all_goals
     refine .of (.less ?_ (St.none_le _)) ⟨i+1,rfl,rfl,(by omega:i+1≤l.length),by omega⟩
     rw[hsn]
     simp(maxSteps:=4000000) (disch:=first|exact ddL|fail) only[go_sem,simprocAttr,aC,aB]
     all_goals first|rfl|(simp;done)
   ·rw[if_neg hin] at hsn
    rw[decide_eq_false hin] at hh
    repeat' (first|(with_reducible first|refine up hh ?_)|(with_reducible first|(refine wN fun _ hnl=>?_;revert hnl;(repeat refine wS fun _ _=>?_);intro hnl)|refine wE ?_|(refine wK ?_ ?_<;>intro h)|(refine wB ?_ ?_<;>intro h<;>simp only[h]))|simp(maxSteps:=4000000) (disch:=first|exact ddL|fail) only[go_sem,simprocAttr,hat,hn])
    all_goals (try (exfalso;omega))
    all_goals
     refine .of (.less ?_ (St.none_le _)) ⟨i+1,rfl,rfl,(by omega:i+1≤l.length),by omega⟩
     rw[hsn]
     simp(maxSteps:=4000000) (disch:=first|exact ddL|fail) only[go_sem,simprocAttr,aC,aB]
     all_goals first|rfl|(simp;done)
  ·have:i=l.length:=by omega
   subst this
   rw[List.take_length]
   repeat' (first|(with_reducible first|(refine wN fun _ hnl=>?_;revert hnl;(repeat refine wS fun _ _=>?_);intro hnl)|refine wE ?_|(refine wK ?_ ?_<;>intro h)|(refine wB ?_ ?_<;>intro h<;>simp only[h]))|simp(maxSteps:=4000000) (disch:=first|exact ddL|fail) only[go_sem,simprocAttr])
   all_goals first|exact⟨_,St.le_refl _,rfl⟩|exact⟨_,St.le_refl _⟩
end

section
set_option maxRecDepth 100000
set_option maxHeartbeats 8000000
theorem mB(sq:Int)(l b:Nat)(gr:List GR)(h3:gr.length≤1000000)(h4:∀g,g∈gr→g.mem.length≤1000000)(hok:dE (-1) gr=true)(id:Int) :
  aA Tryz.prog 48 [.ptr b 0 0,.int .i64 id] (St.none.set b (cG sq l (.lst 2 (gr.map GR.c) false))) (fun v σ'=>v=.int .u32 (grB gr id:Int)∧σ'=St.none.set b (cG sq l (.lst 2 (gr.map GR.c) false))):=by
 refine(aA.body 13 [.tmp 4] Tryz.func48 rfl rfl rfl rfl ?_)
 have h:=DO gr false h3 h4 hok id
 repeat' (first|(with_reducible first|refine up h ?_)|(with_reducible first|(refine wN fun _ hnl=>?_;revert hnl;(repeat refine wS fun _ _=>?_);intro hnl)|refine wE ?_|(refine wK ?_ ?_<;>intro h)|(refine wB ?_ ?_<;>intro h<;>simp only[h]))|simp(maxSteps:=4000000) (disch:=first|exact ddL|fail) only[go_sem,simprocAttr,Tryz.f48])
 all_goals exact⟨rfl,rfl⟩
theorem vO(nx sq:Int){l m b:Nat}(dead g:MV)(cs:List CA)(hlm:l≠m)(hbm:b≠m)(hbl:b≠l)(hc:HJ cs) :
  aA Tryz.prog 96 [.ptr b 0 0] (((St.none.set m (.mp (cEs cs))).set l (shO nx m dead)).set b (cG sq l g)) (fun v σ'=>v=.lst 27 (cs.map CA.c) false∧σ'=((St.none.set m (.mp (cEs cs))).set l (shO nx m dead)).set b (cG sq l g)):=by
 refine(aA.body 10 [.tmp 2] Tryz.func96 rfl rfl rfl rfl ?_)
 have h:=zX nx l m dead cs hlm hc
 have hml:=Ne.symm hlm
 have hmb:=Ne.symm hbm
 have hlb:=Ne.symm hbl
 repeat' (first|(refine gI h (le2 (by simp[St.set, *]) (by simp[St.set, *])) ?_)|(with_reducible first|(refine wN fun _ hnl=>?_;revert hnl;(repeat refine wS fun _ _=>?_);intro hnl)|refine wE ?_|(refine wK ?_ ?_<;>intro h)|(refine wB ?_ ?_<;>intro h<;>simp only[h]))|simp(maxSteps:=4000000) (disch:=first|exact ddL|fail) only[go_sem,simprocAttr,Tryz.f96])
 all_goals exact⟨rfl,rfl⟩
theorem Bx{B:BK}(hd:B.dead.length≤1000000){m l q b:Nat}(D:nA m l q b)(ex:List (List MV))(id:Int) :
  aA Tryz.prog 46 [.ptr b 0 0,.int .i64 id] (bkS m l q b B ex) (fun v σ'=>v=.tup [.agg (gM B.cards B.dead id).1.c,.int .i64 (gM B.cards B.dead id).2]∧σ'=bkS m l q b B ex):=by
 refine aA.less (Q':=fun v σ'=>v=.tup [.agg (gM B.cards B.dead id).1.c,.int .i64 (gM B.cards B.dead id).2]∧(bkS m l q b B ex).le σ') (aA.body 17 [.cell 4 42,.tmp 5] Tryz.func46 rfl rfl rfl rfl ?_) fun v σ' h=>⟨_,h.2,h.1,rfl⟩
 have h:=uF B.nx D.lm D.qm D.ql B.cards B.dead hd ex id
 obtain⟨d1,d2,d3,d4,d5,d6⟩:=D
 have e1:=Ne.symm d1
 have e2:=Ne.symm d2
 have e3:=Ne.symm d3
 have e4:=Ne.symm d4
 have e5:=Ne.symm d5
 have e6:=Ne.symm d6
 generalize gM B.cards B.dead id=g at h ⊢
 obtain⟨gc,ge⟩:=g
 simp only at h ⊢
 repeat' (first|(refine gI h (St.aH (St.aH (St.aH (St.none_le _) (by simp[St.set, *])) (by simp[St.set, *])) (by simp[St.set, *])) ?_)|(with_reducible first|(refine wN fun _ hnl=>?_;revert hnl;(repeat refine wS fun _ _=>?_);intro hnl)|refine wE ?_|(refine wK ?_ ?_<;>intro h)|(refine wB ?_ ?_<;>intro h<;>simp only[h]))|simp(maxSteps:=4000000) (disch:=first|exact ddL|fail) only[go_sem,simprocAttr,Tryz.f46,FXs])
 all_goals
  first
  | exact⟨rfl,St.aH (St.aH (St.aH (St.aH (St.none_le _) (by simp[St.set, *])) (by simp[St.set, *])) (by simp[St.set, *])) (by simp[St.set, *])⟩
  | exact St.aH (St.aH (St.aH (St.aH (St.none_le _) (by simp[St.set, *])) (by simp[St.set, *])) (by simp[St.set, *])) (by simp[St.set, *])
noncomputable abbrev flD(fl:List ND)(d:Bool):aX:=flO (.lst 5 (fl.map ND.c) false) (if d=true then 1 else 0) 0 (if d=true then iU (mK fl) else .nilfn)
theorem qY{fl:List ND}(hp:bW fl=0){gr:List GR}(hg:dE (-1) gr=true){c:CA}(hc:dN c=true)(f:Nat)(d:Bool) :
  aA Tryz.prog 47 [.ptr f 0 0,.agg c.c,.int .u32 (grB gr c.id:Int)] (St.none.set f (flD fl d)) (fun v σ'=>v=.bool (gH gr fl c)∧σ'=St.none.set f (flD fl true)):=by
 obtain⟨h1,h2,h3⟩:=rW hp
 have h:=yD h1 (by rw[h2];omega) c (fun k=>?_) (grB gr c.id) (Nat.lt_of_lt_of_le (EJ hg c.id) (by decide)) f false d
 ·rw[h2] at h
  exact h
 ·by_cases hk:k<8
  ·exact sC hc _ (by
    unfold F8.get
    exact eN _ (by rw[c.f.h];exact hk))
  ·unfold F8.get
   rw[List.getD_eq_getElem?_getD,List.getElem?_eq_none (by rw[c.f.h];omega)]
   decide
theorem tV{nx:Int}{cs:List CA}(h:dC nx 0 cs=true)(hn:nx≤1073741824)(hl:cs.length≤1000000):HJ cs:=by
 obtain⟨h1,h2⟩:=iE h
 exact⟨h2,fun c hc=>by have:=h1 c hc;omega,hl⟩
end

section
set_option maxRecDepth 100000
set_option maxHeartbeats 8000000
noncomputable def shC(B:BK)(fl:List ND):List CA:=B.cards.filter (gH B.gr fl)
structure Ot (f sm v:Nat):Prop where
 sf:sm≠f
 vf:v≠f
 vs:v≠sm
end

section
set_option maxRecDepth 100000
set_option maxHeartbeats 8000000
theorem tW{B:BK}(hb:BkR B)(fl:List ND):HJ (shC B fl):=by
 have h:=tV hb.cok hb.nx2 (by have:=hb.nc;omega)
 refine⟨h.1.filter _,fun c hc=>h.2.1 c (List.mem_filter.1 hc).1,Nat.le_trans (List.length_filter_le _ _) h.2.2⟩
end

section
set_option maxRecDepth 100000
set_option maxHeartbeats 8000000
abbrev cdX(cs:List CA):List (List MV):=cs.map fun c=>[.agg c.c]
noncomputable abbrev alI(m l q b:Nat)(B:BK)(ex:List (List MV))(fl:List ND)(f pb pf:Nat)(d:Bool):St:=(((bkS m l q b B ex).set f (flD fl d)).set pb (.row 33 1 [[.ptr b 0 0]])).set pf (.row 36 1 [[.ptr f 0 0]])
structure Kf (m l q b f pb pf:Nat):Prop where
 h1:f≠m∧f≠l∧f≠q∧f≠b
 h2:pb≠m∧pb≠l∧pb≠q∧pb≠b∧pb≠f
 h3:pf≠m∧pf≠l∧pf≠q∧pf≠b∧pf≠f∧pf≠pb
theorem zL{g1 g2:FuncId}{r1 r2:List Nat}{q1 q2:MV→Prop}{x2:List aX × (Nat→MV)}:PlU (.these [g2]) (fnF [(g1,⟨r1,q1,none⟩),(g2,⟨r2,q2,some x2⟩)]):=by
 intro g' ms rd q' x' h
 simp only[fnF] at h
 split at h
 ·cases h
 ·split at h
  ·rename_i e
   subst e
   exact .inr (List.mem_singleton.2 rfl)
  ·cases h
theorem tH(c:CA):∀m,m∈[MV.agg c.c]→gN m:=fun m hm=>by
 rw[List.mem_singleton] at hm
 subst hm
 refine .flat (.agg fun x hx=>?_)
 simp only[CA.c,List.mem_cons] at hx
 rcases hx with rfl|rfl|rfl|hx
 ·exact .int _ _
 ·exact .int _ _
 ·exact .int _ _
 ·unfold fc at hx
  obtain⟨v,hv,hx⟩:=List.mem_flatten.1 hx
  obtain⟨a,_,rfl⟩:=List.mem_map.1 hv
  simp only[VA.c,List.mem_cons,List.not_mem_nil,or_false] at hx
  rcases hx with rfl|rfl|rfl
  ·exact .int _ _
  ·exact .int _ _
  ·exact .str _
end

section
set_option maxRecDepth 100000
set_option maxHeartbeats 8000000
theorem KF{D:Nat→Prop}(l:List Int):∀x,x∈l.map (fun i=>[MV.int .i64 i])→∀m,m∈x→InD D m:=fun x hx m hm=>by
 obtain⟨i,_,rfl⟩:=List.mem_map.1 hx
 rw[List.mem_singleton] at hm
 subst hm
 exact .flat (.int _ _)
theorem Ij{D:Nat→Prop}(x:ND):∀m,m∈x.c→InD D m:=fun m hm=>by
 simp only[ND.c,List.mem_cons,List.not_mem_nil,or_false] at hm
 rcases hm with rfl|rfl|rfl|rfl|rfl<;>first|exact .flat (.int _ _)|exact .flat (.str _)
theorem Ii{D:Nat→Prop}(x:ND):InD D (xA x):=by
 unfold xA wZ
 refine .fn (fun m hm=>by cases hm) fun m hm=>?_
 split at hm
 ·rw[List.mem_singleton] at hm
  subst hm
  exact .cptr (Ij x)
 ·cases hm
theorem rR{D:Nat→Prop}:∀t:T,InD D (iU t)
 | .leaf x=>Ii x
 | .one _ a=>.fn (fun m hm=>by cases hm) fun m hm=>by
  rw[List.mem_singleton] at hm
  subst hm
  exact .cptr fun m hm=>by
   rw[List.mem_singleton] at hm
   subst hm
   exact rR a
 | .two x a b=>.fn (fun m hm=>by cases hm) fun m hm=>by
  simp only[List.mem_cons,List.not_mem_nil,or_false] at hm
  rcases hm with rfl|rfl
  ·exact .cptr fun m hm=>by
    rw[List.mem_singleton] at hm
    subst hm
    exact rR a
  ·exact .cptr fun m hm=>by
    rw[List.mem_singleton] at hm
    subst hm
    exact rR b
theorem Nl{D:Nat→Prop}(x:DE):∀m,m∈x.c→InD D m:=fun m hm=>by
 simp only[DE.c,List.mem_cons,List.not_mem_nil,or_false] at hm
 rcases hm with rfl|rfl|rfl<;>exact .flat (.int _ _)
theorem Nn{D:Nat→Prop}(x:GR):∀m,m∈x.c→InD D m:=fun m hm=>by
 simp only[GR.c,List.mem_cons,List.not_mem_nil,or_false] at hm
 rcases hm with rfl|rfl
 ·exact .flat (.int _ _)
 ·exact .lst (KF _)
theorem Ha{B:BK}(hb:BkR B)(h3:B.gr.length≤1000000)(h4:∀g,g∈B.gr→g.mem.length≤1000000){m l q b f pb pf:Nat}(D:nA m l q b)(DI:Kf m l q b f pb pf)(ex:List (List MV)){fl:List ND}(hp:bW fl=0)(d:Bool) :
  Ae Tryz.prog 95 [.ptr pb 0 0,.ptr pf 0 0] (alI m l q b B ex fl f pb pf d) (cdX (shC B fl)) (fun τ=>(alI m l q b B ex fl f pb pf (d || decide (0<B.cards.length))).le τ):=by
 refine Ae.jZ 27 Tryz.func95 rfl rfl rfl rfl fun C hC hspec=>?_
 have hri:=tV hb.cok hb.nx2 (by have:=hb.nc;omega)
 have hcs:=vO B.nx B.sq (.vec 3 q 0 B.dead.length) (.lst 2 (B.gr.map GR.c) false) B.cards D.lm D.bm D.bl hri
 have hgr:=mB B.sq l b B.gr h3 h4 hb.gok
 have hnc:=hb.nc
 have hxl:(cdX (shC B fl)).length=(shC B fl).length:=List.length_map _
 rw[hxl]
 obtain⟨d1,d2,d3,d4,d5,d6⟩:=D
 obtain⟨⟨f1,f2,f3,f4⟩,⟨p1,p2,p3,p4,p5⟩,⟨r1,r2,r3,r4,r5,r6⟩⟩:=DI
 have e1:=Ne.symm d1
 have e2:=Ne.symm d2
 have e3:=Ne.symm d3
 have e4:=Ne.symm d4
 have e5:=Ne.symm d5
 have e6:=Ne.symm d6
 have f1':=Ne.symm f1
 have f2':=Ne.symm f2
 have f3':=Ne.symm f3
 have f4':=Ne.symm f4
 have p1':=Ne.symm p1
 have p2':=Ne.symm p2
 have p3':=Ne.symm p3
 have p4':=Ne.symm p4
 have p5':=Ne.symm p5
 have r1':=Ne.symm r1
 have r2':=Ne.symm r2
 have r3':=Ne.symm r3
 have r4':=Ne.symm r4
 have r5':=Ne.symm r5
 have r6':=Ne.symm r6
 obtain⟨PB,hPB⟩:∃PB,PB=gH B.gr fl:=⟨_,rfl⟩
 refine fD (gK (jQ ?_))
 repeat' (first|(refine gI hcs (St.aH (le2 (by simp[St.set, *]) (by simp[St.set, *])) (by simp[St.set, *])) ?_)|(with_reducible first|(refine wN fun _ hnl=>?_;revert hnl;(repeat refine wS fun _ _=>?_);intro hnl)|refine wE ?_|(refine wK ?_ ?_<;>intro h)|(refine wB ?_ ?_<;>intro h<;>simp only[h]))|simp(maxSteps:=4000000) (disch:=first|decide|assumption|omega|(simp only[wL];omega)) only[go_sem,simprocAttr,Tryz.f95])
 refine fD (mZ (Cf (α:=Nat × Nat × Bool) (fun a=>⟨27,[(0,.fn (.yield C.l) [] []),(9,.int .i64 (a.1:Int)),(8,.int .i64 (B.cards.length:Int)),(7,.lst 27 (B.cards.map CA.c) false),(1,.ptr pb 0 0),(2,.ptr pf 0 0)],[]⟩) (fun a=>alI m l q b B ex fl f pb pf a.2.2) (fun a=>some a.2.1)
   (fun a=>a.1≤B.cards.length∧((B.cards.take a.1).filter PB).length=a.2.1∧a.2.2=(d || decide (0<a.1))) (fun a=>B.cards.length - a.1) ?_ ?_))
 ·refine .of (.less ?_ (St.le_refl _)) ⟨(0,0,d),rfl,rfl,rfl,Nat.zero_le _,rfl,by simp⟩
  simp(maxSteps:=4000000) (disch:=first|decide|assumption|omega|(simp only[wL];omega)) only[go_sem,simprocAttr,aC,aB]
  all_goals first|rfl|(simp;done)
 ·rintro⟨i,j,d1⟩ ⟨hi,hj,hd1⟩
  simp only at hi hj hd1 ⊢
  refine gK (jQ ?_)
  repeat' (first|(with_reducible first|(refine wN fun _ hnl=>?_;revert hnl;(repeat refine wS fun _ _=>?_);intro hnl)|refine wE ?_|(refine wK ?_ ?_<;>intro h)|(refine wB ?_ ?_<;>intro h<;>simp only[h]))|simp(maxSteps:=4000000) (disch:=first|decide|assumption|omega|(simp only[wL];omega)) only[go_sem,simprocAttr])
  by_cases hlt:i<B.cards.length
  ·obtain⟨x,hx⟩:=bN B.cards hlt
   have hat:=bK (f:=CA.c) hx
   refine fD (gK (jQ ?_))
   repeat' (first|(with_reducible first|(refine wN fun _ hnl=>?_;revert hnl;(repeat refine wS fun _ _=>?_);intro hnl)|refine wE ?_|(refine wK ?_ ?_<;>intro h)|(refine wB ?_ ?_<;>intro h<;>simp only[h]))|simp(maxSteps:=4000000) (disch:=first|decide|assumption|omega|(simp only[wL];omega)) only[go_sem,simprocAttr,hat])
   refine fD (gK (mZ (gK (jQ ?_))))
   repeat' (first|(with_reducible first|(refine wN fun _ hnl=>?_;revert hnl;(repeat refine wS fun _ _=>?_);intro hnl)|refine wE ?_|(refine wK ?_ ?_<;>intro h)|(refine wB ?_ ?_<;>intro h<;>simp only[h]))|simp(maxSteps:=4000000) (disch:=first|decide|assumption|omega|(simp only[wL];omega)) only[go_sem,simprocAttr,hat,FXs])
   have hmt:=qY hp hb.gok (oN hb (cH hx)).1 f d1
   have hgx:=hgr x.id
   obtain⟨g,hg⟩:∃g:Int,(grB B.gr x.id:Int)=g:=⟨_,rfl⟩
   rw[hg] at hmt hgx
   rw[←hPB] at hmt
   have htk:=bB hx
   have hsp:=mH B.cards hx
   obtain⟨sb,hsb⟩:∃sb,PB x=sb:=⟨_,rfl⟩
   rw[hsb] at hmt
   obtain⟨DK,hDK,c1,c2⟩:∃DK:cB,PlU (.these [47]) DK∧(∀ms,DK 48 ms=some ⟨[b],fun v=>v=.int .u32 g,none⟩)∧∀ms,DK 47 ms=some ⟨[f],fun _=>True,some ([flD fl true],fun _=>.bool sb)⟩ :=
    ⟨fnF [(48,⟨[b],fun v=>v=.int .u32 g,none⟩),(47,⟨[f],fun _=>True,some ([flD fl true],fun _=>.bool sb)⟩)],zL,fun _=>eU,fun _=>sL eU⟩
   refine fD (gK (Ek mixed [47] DK hDK [_,_,_,_,_,_,_,_,_,_] [_,_] rfl (by decide +kernel) hspec ?_))
   cases sb
   ·repeat' (first|(refine oW [b] [cG B.sq l (.lst 2 (B.gr.map GR.c) false)] (c1 _) (by simp[St.set, *]) hgx ?_)|(refine mS (c2 _) (by simp[St.set, *]) hmt ?_)|(with_reducible first|(refine wN fun _ hnl=>?_;revert hnl;(repeat refine wS fun _ _=>?_);intro hnl)|refine wE ?_|(refine wK ?_ ?_<;>intro h)|(refine wB ?_ ?_<;>intro h<;>simp only[h]))|simp(maxSteps:=4000000) (disch:=first|decide|assumption|omega|(simp only[wL];omega)) only[go_sem,simprocAttr,FXs])
    refine fD (jQ ?_)
    repeat' (first|(with_reducible first|(refine wN fun _ hnl=>?_;revert hnl;(repeat refine wS fun _ _=>?_);intro hnl)|refine wE ?_|(refine wK ?_ ?_<;>intro h)|(refine wB ?_ ?_<;>intro h<;>simp only[h]))|simp(maxSteps:=4000000) (disch:=first|decide|assumption|omega|(simp only[wL];omega)) only[go_sem,simprocAttr])
    refine fD (jQ ?_)
    repeat' (first|(with_reducible first|(refine wN fun _ hnl=>?_;revert hnl;(repeat refine wS fun _ _=>?_);intro hnl)|refine wE ?_|(refine wK ?_ ?_<;>intro h)|(refine wB ?_ ?_<;>intro h<;>simp only[h]))|simp(maxSteps:=4000000) (disch:=first|decide|assumption|omega|(simp only[wL];omega)) only[go_sem,simprocAttr])
    refine .of (.less ?_ (fC (by simp only[aY];exact⟨by assumption,by assumption,by assumption,by assumption,by assumption,by assumption,by assumption,rfl⟩))) ⟨(i+1,j,true),rfl,rfl,rfl,⟨by simp only;omega,?_,by simp⟩,by simp only;omega⟩
    ·simp(maxSteps:=4000000) (disch:=first|decide|assumption|omega|(simp only[wL];omega)) only[go_sem,simprocAttr,aC,aB]
     all_goals first|rfl|(simp;done)
    ·simp only
     rw[htk,List.filter_append,List.length_append,hj]
     simp[hsb]
   ·repeat' (first|(refine oW [b] [cG B.sq l (.lst 2 (B.gr.map GR.c) false)] (c1 _) (by simp[St.set, *]) hgx ?_)|(refine mS (c2 _) (by simp[St.set, *]) hmt ?_)|(with_reducible first|(refine wN fun _ hnl=>?_;revert hnl;(repeat refine wS fun _ _=>?_);intro hnl)|refine wE ?_|(refine wK ?_ ?_<;>intro h)|(refine wB ?_ ?_<;>intro h<;>simp only[h]))|simp(maxSteps:=4000000) (disch:=first|decide|assumption|omega|(simp only[wL];omega)) only[go_sem,simprocAttr,FXs])
    have hxs:C.xs[j]?=some [.agg x.c]:=by
     rw[hC,List.getElem?_map,shC,←hPB,hsp,List.filter_append,List.getElem?_append_right (by omega),hj,Nat.sub_self,List.filter_cons_of_pos (by simpa using hsb)]
     rfl
    refine Ce rfl hxs (tH x) rfl ?_ ?_
    ·repeat' (first|(with_reducible first|(refine wN fun _ hnl=>?_;revert hnl;(repeat refine wS fun _ _=>?_);intro hnl)|refine wE ?_|(refine wK ?_ ?_<;>intro h)|(refine wB ?_ ?_<;>intro h<;>simp only[h]))|simp(maxSteps:=4000000) (disch:=first|decide|assumption|omega|(simp only[wL];omega)) only[go_sem,simprocAttr])
     refine fD (jQ ?_)
     repeat' (first|(with_reducible first|(refine wN fun _ hnl=>?_;revert hnl;(repeat refine wS fun _ _=>?_);intro hnl)|refine wE ?_|(refine wK ?_ ?_<;>intro h)|(refine wB ?_ ?_<;>intro h<;>simp only[h]))|simp(maxSteps:=4000000) (disch:=first|decide|assumption|omega|(simp only[wL];omega)) only[go_sem,simprocAttr])
     refine fD (jQ ?_)
     repeat' (first|(with_reducible first|(refine wN fun _ hnl=>?_;revert hnl;(repeat refine wS fun _ _=>?_);intro hnl)|refine wE ?_|(refine wK ?_ ?_<;>intro h)|(refine wB ?_ ?_<;>intro h<;>simp only[h]))|simp(maxSteps:=4000000) (disch:=first|decide|assumption|omega|(simp only[wL];omega)) only[go_sem,simprocAttr])
     refine .of (.less ?_ (fC (by simp only[aY];exact⟨by assumption,by assumption,by assumption,by assumption,by assumption,by assumption,by assumption,rfl⟩))) ⟨(i+1,j+1,true),rfl,rfl,rfl,⟨by simp only;omega,?_,by simp⟩,by simp only;omega⟩
     ·simp(maxSteps:=4000000) (disch:=first|decide|assumption|omega|(simp only[wL];omega)) only[go_sem,simprocAttr,aC,aB]
      all_goals first|rfl|(simp;done)
     ·simp only
      rw[htk,List.filter_append,List.length_append,hj]
      simp[hsb]
    ·repeat' (first|(with_reducible first|(refine wN fun _ hnl=>?_;revert hnl;(repeat refine wS fun _ _=>?_);intro hnl)|refine wE ?_|(refine wK ?_ ?_<;>intro h)|(refine wB ?_ ?_<;>intro h<;>simp only[h]))|simp(maxSteps:=4000000) (disch:=first|decide|assumption|omega|(simp only[wL];omega)) only[go_sem,simprocAttr])
     refine fD (jQ ?_)
     repeat' (first|(with_reducible first|(refine wN fun _ hnl=>?_;revert hnl;(repeat refine wS fun _ _=>?_);intro hnl)|refine wE ?_|(refine wK ?_ ?_<;>intro h)|(refine wB ?_ ?_<;>intro h<;>simp only[h]))|simp(maxSteps:=4000000) (disch:=first|decide|assumption|omega|(simp only[wL];omega)) only[go_sem,simprocAttr])
     rw[show(d || decide (0<B.cards.length))=true by rw[decide_eq_true (by omega)];simp]
     exact⟨rfl,.inr rfl,fC (by simp only[aY];exact⟨by assumption,by assumption,by assumption,by assumption,by assumption,by assumption,by assumption,rfl⟩)⟩
  ·have:i=B.cards.length:=by omega
   subst this
   rw[List.take_length,hPB] at hj
   refine fD (gK (jQ ?_))
   repeat' (first|(with_reducible first|(refine wN fun _ hnl=>?_;revert hnl;(repeat refine wS fun _ _=>?_);intro hnl)|refine wE ?_|(refine wK ?_ ?_<;>intro h)|(refine wB ?_ ?_<;>intro h<;>simp only[h]))|simp(maxSteps:=4000000) (disch:=first|decide|assumption|omega|(simp only[wL];omega)) only[go_sem,simprocAttr])
   rw[hd1]
   exact⟨rfl,.inl (by rw[←hj];rfl),St.le_refl _⟩
theorem Mn{m l q b f pb pf:Nat}{B:BK}{ex:List (List MV)}{fl:List ND}(d d0:Bool)(hex:∀x,x∈ex→∀y,y∈x→InD (fun k=>alI m l q b B ex fl f pb pf d0 k≠none) y){τ:St}(hτ:(alI m l q b B ex fl f pb pf d).le τ) :
  ∀k o,alI m l q b B ex fl f pb pf d0 k≠none→τ k=some o→InO (fun k=>alI m l q b B ex fl f pb pf d0 k≠none) o:=by
 intro k o hk ho
 obtain⟨o',ho'⟩:∃o',alI m l q b B ex fl f pb pf d k=some o':=by
  cases e:alI m l q b B ex fl f pb pf d k with
  | some o'=>exact⟨o',rfl⟩
  | none =>
   exfalso
   simp only[oE] at hk
   rw[aY] at e
   obtain⟨e1,e⟩:=e
   rw[aY] at e
   obtain⟨e2,e⟩:=e
   rw[aY] at e
   obtain⟨e3,e⟩:=e
   rw[aY] at e
   obtain⟨e4,e⟩:=e
   rw[aY] at e
   obtain⟨e5,e⟩:=e
   rw[aY] at e
   obtain⟨e6,e⟩:=e
   rw[aY] at e
   obtain⟨e7,e⟩:=e
   rcases hk with h|h|h|h|h|h|h|h
   ·exact e1 h
   ·exact e2 h
   ·exact e3 h
   ·exact e4 h
   ·exact e5 h
   ·exact e6 h
   ·exact e7 h
   ·exact h rfl
 have e:=hτ k o' ho'
 rw[ho] at e
 obtain rfl:=Option.some.inj e
 have one:∀{D:Nat→Prop} {a c:Nat} {x:MV},InD D x→InO D (.row a c [[x]]):=fun hx y hy z hz=>by
  rw[List.mem_singleton] at hy
  subst hy
  rw[List.mem_singleton] at hz
  subst hz
  exact hx
 rcases gG ho' with⟨rfl,rfl⟩|⟨_,h⟩
 ·exact one (.ptr (by simp only[oE];simp))
 rcases gG h with⟨rfl,rfl⟩|⟨_,h⟩
 ·exact one (.ptr (by simp only[oE];simp))
 rcases gG h with⟨rfl,rfl⟩|⟨_,h⟩
 ·intro y hy z hz
  rw[List.mem_singleton] at hy
  subst hy
  simp only[List.mem_cons,List.not_mem_nil,or_false] at hz
  rcases hz with rfl|rfl|rfl|rfl|rfl
  ·exact .lst fun x hx=>by
    obtain⟨n,_,rfl⟩:=List.mem_map.1 hx
    exact Ij n
  ·exact .flat (.int _ _)
  ·exact .flat (.int _ _)
  ·exact .flat (.int _ _)
  ·split
   ·exact rR _
   ·exact .flat .nilfn
 rcases gG h with⟨rfl,rfl⟩|⟨_,h⟩
 ·intro y hy z hz
  rw[List.mem_singleton] at hy
  subst hy
  simp only[List.mem_cons,List.not_mem_nil,or_false] at hz
  rcases hz with rfl|rfl|rfl
  ·exact .flat (.int _ _)
  ·exact .ptr (by simp only[oE];simp)
  ·exact .lst fun x hx=>by
    obtain⟨n,_,rfl⟩:=List.mem_map.1 hx
    exact Nn n
 rcases gG h with⟨rfl,rfl⟩|⟨_,h⟩
 ·intro y hy
  rcases List.mem_append.1 hy with hy|hy
  ·obtain⟨n,_,rfl⟩:=List.mem_map.1 hy
   exact Nl n
  ·exact hex y hy
 rcases gG h with⟨rfl,rfl⟩|⟨_,h⟩
 ·intro y hy z hz
  rw[List.mem_singleton] at hy
  subst hy
  simp only[List.mem_cons,List.not_mem_nil,or_false] at hz
  rcases hz with rfl|rfl|rfl
  ·exact .flat (.int _ _)
  ·exact .mapv (by simp only[oE];simp)
  ·exact .vec (by simp only[oE];simp)
 rcases gG h with⟨rfl,rfl⟩|⟨_,h⟩
 ·intro z hz
  obtain⟨c,_,rfl⟩:=List.mem_map.1 hz
  exact⟨.flat (.int _ _),.of (tH c _ (List.mem_singleton.2 rfl))⟩
 ·cases h
end

section
set_option maxRecDepth 100000
set_option maxHeartbeats 8000000
theorem G9(b f:Nat):aA Tryz.prog 52 [.ptr b 0 0,.ptr f 0 0] St.none (fun v σ'=>∃m l,l≠m∧v=.fn (.func 95) [] [.ptr m 0 0,.ptr l 0 0]∧σ'=(St.none.set m (.row 33 1 [[.ptr b 0 0]])).set l (.row 36 1 [[.ptr f 0 0]])):=by
 refine(aA.body 6 [.tmp 4] Tryz.func52 rfl rfl rfl rfl ?_)
 repeat' (first|(with_reducible first|(refine wN fun _ hnl=>?_;revert hnl;(repeat refine wS fun _ _=>?_);intro hnl)|refine wE ?_|(refine wK ?_ ?_<;>intro h)|(refine wB ?_ ?_<;>intro h<;>simp only[h]))|simp(maxSteps:=4000000) (disch:=first|exact ddL|fail) only[go_sem,simprocAttr,Tryz.f52])
 all_goals exact⟨_,_,by assumption,rfl,rfl⟩
end

section
set_option maxRecDepth 100000
set_option maxHeartbeats 8000000
def Small(p:Prop)(r:MV):Prop:=∃b:Bool,r=.bool b∧(b=false→p)
theorem rV{p:Prop}:Small p (.bool true):=⟨true,rfl,fun h=>by cases h⟩
theorem E5{p:Prop}(h:p):Small p (.bool false):=⟨false,rfl,fun _=>h⟩
theorem Ke(l:List GR)(tt:Bool):aA Tryz.prog 65 [.lst 2 (l.map GR.c) tt] St.none (fun r _=>Small (l.length≤1000000∧∀g,g∈l→g.mem.length≤1000000) r):=by
 refine aA.cP (aA.body 20 [.tmp 2] Tryz.func65 rfl rfl rfl rfl ?_)
 repeat' (first|(with_reducible first|(refine wN fun _ hnl=>?_;revert hnl;(repeat refine wS fun _ _=>?_);intro hnl)|refine wE ?_|(refine wK ?_ ?_<;>intro h)|(refine wB ?_ ?_<;>intro h<;>simp only[h]))|simp(maxSteps:=4000000) (disch:=first|exact ddL|fail) only[go_sem,simprocAttr,Tryz.f65])
 all_goals first|exact⟨_,St.le_refl _,rV⟩|skip
 refine aG (α:=Nat) (fun i=>⟨20,[(3,.int .i64 (i:Int)),(0,.lst 2 (l.map GR.c) tt)],[]⟩) (fun _=>St.none) (fun i=>i≤l.length∧∀g,g∈l.take i→g.mem.length≤1000000) (fun i=>l.length - i) (.of (.less ?_ (St.le_refl _)) ⟨0,rfl,rfl,Nat.zero_le _,by simp⟩) ?_
 ·simp(maxSteps:=4000000) (disch:=first|exact ddL|fail) only[go_sem,simprocAttr,aC,aB]
  all_goals first|rfl|(simp;done)
 ·rintro i ⟨hi,hq⟩
  by_cases hlt:i<l.length
  ·obtain⟨x,hx⟩:=bN l hlt
   have hat:=bK (f:=GR.c) hx
   repeat' (first|(with_reducible first|(refine wN fun _ hnl=>?_;revert hnl;(repeat refine wS fun _ _=>?_);intro hnl)|refine wE ?_|(refine wK ?_ ?_<;>intro h)|(refine wB ?_ ?_<;>intro h<;>simp only[h]))|simp(maxSteps:=4000000) (disch:=first|exact ddL|fail) only[go_sem,simprocAttr,hat])
   all_goals first|exact⟨_,St.le_refl _,rV⟩|skip
   all_goals (try (exfalso;omega))
   all_goals
    refine .of (.less ?_ (St.le_refl _)) ⟨i+1,rfl,rfl,⟨by omega,fun g hg=>?_⟩,by omega⟩
    ·simp(maxSteps:=4000000) (disch:=first|exact ddL|fail) only[go_sem,simprocAttr,aC,aB]
     all_goals first|rfl|(simp;done)
    ·rw[bB hx,List.mem_append,List.mem_singleton] at hg
     rcases hg with hg|rfl
     ·exact hq g hg
     ·omega
  ·have:i=l.length:=by omega
   subst this
   rw[List.take_length] at hq
   repeat' (first|(with_reducible first|(refine wN fun _ hnl=>?_;revert hnl;(repeat refine wS fun _ _=>?_);intro hnl)|refine wE ?_|(refine wK ?_ ?_<;>intro h)|(refine wB ?_ ?_<;>intro h<;>simp only[h]))|simp(maxSteps:=4000000) (disch:=first|exact ddL|fail) only[go_sem,simprocAttr])
   all_goals exact⟨_,St.le_refl _,E5 ⟨by omega,hq⟩⟩
theorem J9(B:BK):aA Tryz.prog 35 [.agg B.c] St.none (fun r _=>Small (B.cards.length≤60∧B.dead.length≤60∧B.gr.length≤1000000∧∀g,g∈B.gr→g.mem.length≤1000000) r):=by
 refine aA.cP (aA.body 33 [.tmp 2] Tryz.func35 rfl rfl rfl rfl ?_)
 have hg:=Ke B.gr false
 repeat' (first|((refine fA hg ?_;rintro _ ⟨gb,rfl,hgb⟩))|(with_reducible first|(refine wT ?_;(first|((fail_if_success (have:=nl1));refine wN fun nl1 hnl=>?_)|refine wN fun _ hnl=>?_);revert hnl;(repeat refine wS fun _ _=>?_);intro hnl)|refine wE ?_|(refine wK ?_ ?_<;>intro h)|(refine wB ?_ ?_<;>intro h<;>simp only[h]))|simp(maxSteps:=4000000) (disch:=first|exact ddL|fail) only[go_sem,simprocAttr,Tryz.f35])
 all_goals first|exact⟨_,St.le_refl _,rV⟩|skip
 all_goals (try (exfalso;omega))
 all_goals
  refine aG (α:=Nat) (fun i=>⟨33,[(3,.int .i64 (i:Int)),(1,.ptr nl1 0 0)],[]⟩) (fun _=>St.none.set nl1 (.row 26 5 [B.c])) (fun i=>i≤B.cards.length) (fun i=>B.cards.length - i) (.of (.less ?_ (St.le_refl _)) ⟨0,rfl,rfl,Nat.zero_le _⟩) ?_
  ·simp(maxSteps:=4000000) (disch:=first|exact ddL|fail) only[go_sem,simprocAttr,aC,aB]
   all_goals first|rfl|(simp;done)
  ·intro i hi
   have hi:i≤B.cards.length:=hi
   by_cases hlt:i<B.cards.length
   ·obtain⟨x,hx⟩:=bN B.cards hlt
    have hat:=bK (f:=CA.c) hx
    have hc:=zM x.f
    repeat' (first|(with_reducible first|refine up hc ?_)|(with_reducible first|(refine wT ?_;(first|((fail_if_success (have:=nl1));refine wN fun nl1 hnl=>?_)|refine wN fun _ hnl=>?_);revert hnl;(repeat refine wS fun _ _=>?_);intro hnl)|refine wE ?_|(refine wK ?_ ?_<;>intro h)|(refine wB ?_ ?_<;>intro h<;>simp only[h]))|simp(maxSteps:=4000000) (disch:=first|exact ddL|fail) only[go_sem,simprocAttr,FXs,hat])
    all_goals first|exact⟨_,St.le_refl _,rV⟩|skip
    all_goals (try (exfalso;omega))
    all_goals
     refine .of (.less ?_ (St.le_refl _)) ⟨i+1,rfl,rfl,(by omega:i+1≤B.cards.length),by omega⟩
     simp(maxSteps:=4000000) (disch:=first|exact ddL|fail) only[go_sem,simprocAttr,aC,aB]
     all_goals first|rfl|(simp;done)
   ·have:i=B.cards.length:=by omega
    subst this
    repeat' (first|(with_reducible first|(refine wT ?_;(first|((fail_if_success (have:=nl1));refine wN fun nl1 hnl=>?_)|refine wN fun _ hnl=>?_);revert hnl;(repeat refine wS fun _ _=>?_);intro hnl)|refine wE ?_|(refine wK ?_ ?_<;>intro h)|(refine wB ?_ ?_<;>intro h<;>simp only[h]))|simp(maxSteps:=4000000) (disch:=first|exact ddL|fail) only[go_sem,simprocAttr])
    all_goals exact⟨_,St.le_refl _,E5 ⟨by omega,by omega,hgb (by simp_all)⟩⟩
end

section
set_option maxRecDepth 100000
set_option maxHeartbeats 8000000
theorem Fl{B:BK}(h1:B.cards.length≤1000000)(h2:B.dead.length≤1000000)(h3:B.gr.length≤1000000)(h4:∀g,g∈B.gr→g.mem.length≤1000000)(h:j6 B=true) :
  aA Tryz.prog 11 [.agg B.c] St.none (fun v σ'=>∃m l q b ex,nA m l q b∧v=.tup [.ptr b 0 0,.bool true]∧σ'=bkS m l q b B ex) :=
 (Ai B h1 h2 h3 h4).mono fun v σ' q=>by
  rcases q with⟨_,q⟩|⟨q,_⟩
  ·exact q
  ·rw[h] at q;cases q
end

section
open Go.ChangeShapes Go.WideShapes Go.RowKit
set_option maxRecDepth 100000
theorem Nu{n:Nat}{x:List MV}(h:CT Tryz.prog (n+2) 46 x):∃l:List Int,x=[.lst 1 (l.map aW) false]:=by
 obtain⟨xs,hm,_,hx⟩:=lS (by rw[MN]) h
 obtain⟨l,rfl⟩:=l3 (f:=aW) fun x hx'=>(o5 (hx x hx')).imp fun _ h=>h.1
 rw[td3] at hm
 exact⟨l,hm⟩
theorem Mx{n:Nat}{x:List MV}(h:CT Tryz.prog (n+5) 22 x):∃l:List CA,x=[.lst 27 (l.map CA.c) false]:=by
 obtain⟨xs,hm,_,hx⟩:=lS (by rw[MJ]) h
 obtain⟨l,rfl⟩:=l3 fun x hx'=>Ns (hx x hx')
 rw[JZ] at hm
 exact⟨l,hm⟩
theorem Nt{n:Nat}{x:List MV}(h:CT Tryz.prog (n+2) 90 x):∃d:DE,x=d.c:=by
 obtain⟨hl,hf⟩:=gS (congrArg TD.k LD) h
 rw[LD] at hl
 obtain⟨a,ha,_⟩:=o5 (hf (0,3) (by simp))
 obtain⟨b,hb,_⟩:=o5 (hf (1,3) (by simp))
 obtain⟨c,hc,_⟩:=o5 (hf (2,3) (by simp))
 simp only[td3] at ha hb hc
 refine⟨⟨a,b,c⟩,?_⟩
 rw[j5 hl [(0,1),(1,1),(2,1)] rfl]
 simp only[qE,ha,hb,hc]
 rfl
theorem My{n:Nat}{x:List MV}(h:CT Tryz.prog (n+3) 23 x):∃l:List DE,x=[.lst 3 (l.map DE.c) false]:=by
 obtain⟨xs,hm,_,hx⟩:=lS (by rw[MK]) h
 obtain⟨l,rfl⟩:=l3 fun x hx'=>Nt (hx x hx')
 rw[LD] at hm
 exact⟨l,hm⟩
theorem Mz{n:Nat}{x:List MV}(h:CT Tryz.prog (n+3) 94 x):∃g:GR,x=g.c:=by
 obtain⟨hl,hf⟩:=gS (congrArg TD.k LF) h
 rw[LF] at hl
 obtain⟨a,ha,_⟩:=o5 (hf (0,3) (by simp))
 obtain⟨b,hb⟩:=Nu (hf (1,46) (by simp))
 simp only[td3,MN] at ha hb
 refine⟨⟨a,b⟩,?_⟩
 rw[j5 hl [(0,1),(1,1)] rfl]
 simp only[qE,ha,hb]
 rfl
theorem Ll{n:Nat}{x:List MV}(h:CT Tryz.prog (n+4) 24 x):∃l:List GR,x=[.lst 2 (l.map GR.c) false]:=by
 obtain⟨xs,hm,_,hx⟩:=lS (by rw[ML]) h
 obtain⟨l,rfl⟩:=l3 fun x hx'=>Mz (hx x hx')
 rw[LF] at hm
 exact⟨l,hm⟩
theorem Nr{n:Nat}{x:List MV}(h:CT Tryz.prog (n+6) 26 x):∃b:BK,x=b.c:=by
 obtain⟨hl,hf⟩:=gS (congrArg TD.k Ly) h
 rw[Ly] at hl
 obtain⟨a,ha,_⟩:=o5 (hf (0,3) (by simp))
 obtain⟨b,hb,_⟩:=o5 (hf (1,3) (by simp))
 obtain⟨c,hc⟩:=Mx (hf (2,22) (by simp))
 obtain⟨d,hd⟩:=My (hf (3,23) (by simp))
 obtain⟨g,hg⟩:=Ll (hf (4,24) (by simp))
 simp only[td3,MJ,MK,ML] at ha hb hc hd hg
 refine⟨⟨a,b,c,d,g⟩,?_⟩
 rw[j5 hl [(0,1),(1,1),(2,1),(3,1),(4,1)] rfl]
 simp only[qE,ha,hb,hc,hd,hg]
 rfl
end
end Go.Proofs.YtaojijkdamfbnaaGreatDoor
