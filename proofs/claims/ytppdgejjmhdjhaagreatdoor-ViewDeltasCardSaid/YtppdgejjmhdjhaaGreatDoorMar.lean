/- Parts of the proof; conditions: as its theorems name them. -/
import Derived.Test.YtppdgejjmhdjhaaGreatDoorMaq
set_option linter.unusedVariables false
set_option linter.unusedSimpArgs false
set_option maxHeartbeats 8000000
set_option maxRecDepth 100000
namespace Go.Proofs.YtppdgejjmhdjhaaGreatDoor
section
theorem tN{n:Int}{v:MV}:∀{es:List (MV × MV)},(es.all fun p=>isK .i64 p.1)=true→((dG .i64 n v es).all fun p=>isK .i64 p.1)=true
 | [],_=>by simp[dG,isK]
 | (x,u)::es,h=>by
  simp only[List.all_cons,Bool.and_eq_true] at h
  obtain⟨m,rfl⟩:=mN h.1
  by_cases hm:m=n
  ·subst hm
   simp only[dG,if_true,List.all_cons,Bool.and_eq_true]
   exact⟨by simp[isK],h.2⟩
  ·simp only[dG,if_neg hm,List.all_cons,Bool.and_eq_true]
   exact⟨by simp[isK],tN h.2⟩
theorem qU{n m:Int}{v:MV}:∀{es:List (MV × MV)},(es.all fun p=>isK .i64 p.1)=true→dQ m (dG .i64 n v es)=if m=n then some v else dQ m es
 | [],_=>by
  by_cases h:m=n
  ·subst h;simp[dG,dQ]
  ·rw[if_neg h];simp[dG,dQ,Ne.symm h]
 | (x,u)::es,h=>by
  simp only[List.all_cons,Bool.and_eq_true] at h
  obtain⟨k,rfl⟩:=mN h.1
  have ih:=qU (n:=n) (m:=m) (v:=v) h.2
  by_cases hk:k=n
  ·subst hk
   by_cases hm:m=k
   ·subst hm;simp[dG,dQ]
   ·simp[dG,dQ,hm,Ne.symm hm]
  ·by_cases hm:m=n
   ·subst hm
    rw[if_pos rfl] at ih ⊢
    simp only[dG,if_neg hk,dQ,ih]
   ·rw[if_neg hm] at ih ⊢
    simp only[dG,if_neg hk,dQ,ih]
theorem Ab{n:Int}{v:MV}:∀{es:List (MV × MV)},(dG .i64 n v es).length≤es.length+1
 | []=>by simp[dG]
 | (.int k m,u)::es=>by
  simp only[dG]
  split
  ·simp
  ·simpa using Ab (es:=es)
 | (.junk,u)::es|(.bool _,u)::es|(.str _,u)::es|(.nilp,u)::es|(.ptr _ _ _,u)::es|(.cptr _,u)::es|(.aM,u)::es|(.lst _ _ _,u)::es|(.vec _ _ _ _,u)::es|(.nilm,u)::es|(.mapv _,u)::es|(.nilfn,u)::es|(.fn _ _ _,u)::es|(.nili,u)::es|(.iface _ _,u)::es|(.agg _,u)::es|(.tup _,u)::es=>by
  simpa[dG] using Ab (es:=es)
def L0(es:List (MV × MV)):Prop:=(eV es).Nodup
theorem qX{es:List (MV × MV)}(h:(es.all fun p=>isK .i64 p.1)=true){n:Int}:n∈eV es↔dQ n es≠none:=by
 induction es with
 | nil=>simp[eV,dQ]
 | cons p es ih =>
  obtain⟨x,u⟩:=p
  simp only[List.all_cons,Bool.and_eq_true] at h
  obtain⟨k,rfl⟩:=mN h.1
  have ih:=ih h.2
  have e:eV ((MV.int .i64 k,u)::es)=k::eV es:=rfl
  rw[e,List.mem_cons,dQ]
  by_cases hk:k=n
  ·subst hk;simp
  ·rw[if_neg hk,←ih]
   exact⟨fun h=>h.elim (fun e=>absurd e.symm hk) id,.inr⟩
theorem CR{n:Int}{v:MV}:∀{es:List (MV × MV)},(es.all fun p=>isK .i64 p.1)=true→L0 es→L0 (dG .i64 n v es)
 | [],_,_=>by simp[L0,dG,eV]
 | (x,u)::es,h,ho=>by
  simp only[List.all_cons,Bool.and_eq_true] at h
  obtain⟨k,rfl⟩:=mN h.1
  have e:∀(u:MV) (es:List (MV × MV)),eV ((MV.int .i64 k,u)::es)=k::eV es:=fun _ _=>rfl
  unfold L0 at ho ⊢
  rw[e] at ho
  obtain⟨h1,h2⟩:=List.nodup_cons.1 ho
  by_cases hk:k=n
  ·simp only[dG,if_pos hk]
   rw[e]
   exact List.nodup_cons.2 ⟨h1,h2⟩
  ·simp only[dG,if_neg hk]
   rw[e]
   refine List.nodup_cons.2 ⟨fun hm=>?_,CR h.2 h2⟩
   rw[qX (tN h.2),qU h.2,if_neg hk,←qX h.2] at hm
   exact h1 hm
def vEs(cs:List CA):List (MV × MV):=cs.map fun c=>(.int .i64 c.id,.int .i64 c.ver)
theorem Ti(cs:List CA):((vEs cs).all fun p=>isK .i64 p.1)=true:=by
 simp[vEs,isK]
theorem FQ{c:CA}:∀{cs:List CA},c.id∉cs.map CA.id→dG .i64 c.id (.int .i64 c.ver) (vEs cs)=vEs (cs++[c])
 | [],_=>rfl
 | d::cs,h=>by
  simp only[List.map_cons,List.mem_cons,not_or] at h
  have ih:=FQ h.2
  simp only[vEs,List.map_cons,List.cons_append,dG] at ih ⊢
  rw[if_neg (Ne.symm h.1),ih]
end

section
def aR(l:List Int)(x:Int):Nat:=(l.filter fun y=>decide (y<x)).length
theorem E9{l:List Int}{x:Int}{i:Nat}(hi:i≤l.length)(h1:∀q,q<i→l.getD q 0<x)(h2:∀q,i≤q→q<l.length→¬l.getD q 0<x):aR l x=i:=by
 unfold aR
 rw[←List.take_append_drop i l,List.filter_append,List.filter_eq_self.2,List.filter_eq_nil_iff.2,List.append_nil,List.length_take]
 ·omega
 ·intro y hy
  obtain⟨k,hk⟩:=List.mem_iff_getElem?.1 hy
  rw[List.getElem?_drop] at hk
  have:=(List.getElem?_eq_some_iff.1 hk).1
  have h:=h2 (i+k) oM this
  rw[List.getD_eq_getElem?_getD,hk] at h
  simpa using h
 ·intro y hy
  obtain⟨k,hk⟩:=List.mem_iff_getElem?.1 hy
  rw[List.getElem?_take] at hk
  split at hk
  ·rename_i hki
   have h:=h1 k hki
   rw[List.getD_eq_getElem?_getD,hk] at h
   simpa using h
  ·cases hk
theorem Co{l:List Int}{x:Int}{i:Nat}(hu:UpI l)(h1:∀q,q<i→l.getD q 0<x)(h2:∀q,i≤q→q<l.length→¬l.getD q 0<x):x∈l↔i<l.length∧l.getD i 0=x:=by
 constructor
 ·intro hm
  obtain⟨p,hp,hx⟩:=List.mem_iff_getElem.1 hm
  have e:l.getD p 0=x:=by rw[List.getD_eq_getElem?_getD,List.getElem?_eq_getElem hp,←hx];rfl
  have hip:i≤p:=Nat.le_of_not_lt fun hlt=>by have:=h1 p hlt;omega
  rcases Nat.lt_or_ge i p with hlt|hge
  ·have h3:=List.pairwise_iff_getElem.1 hu i p oM hp hlt
   have h4:=h2 i (Nat.le_refl _) oM
   rw[List.getD_eq_getElem?_getD,List.getElem?_eq_getElem (by omega:i<l.length)] at h4
   simp at h4
   omega
  ·have:i=p:=by omega
   subst this
   exact⟨hp,e⟩
 ·rintro⟨hi,e⟩
  rw[←e,List.getD_eq_getElem?_getD,List.getElem?_eq_getElem hi]
  exact List.getElem_mem hi
theorem I3(a b:Int):aA Tryz.prog 284 [.int .i64 a,.int .i64 b] St.none (fun r _=>r=.bool (decide (a<b))):=by
 refine(mB 17 [.tmp 4] Tryz.func284 ?_)
 have h:=mR a
 repeat' first|(with_reducible first|refine up h ?_)|refine wZ1 @Tryz.f284.eq_1 ?_|exact wC1 @Tryz.f284.eq_1|fail
theorem Ax(a:Int):aA Tryz.prog 298 [.int .i64 a] St.none (fun r _=>r=.bool false):=by
 refine(mB 6 [.tmp 2] Tryz.func298 ?_)
 repeat' first|refine wZ2 @Tryz.f298.eq_1 @gM.{1} ?_|exact wC2 @Tryz.f298.eq_1 @gM.{1}|fail
theorem Ct(l:List Int){m:Nat}(h:m<l.length):(l.map aP).getD m []=aP (l.getD m 0):=by
 obtain⟨x,hx⟩:=bU l h
 rw[bN (f:=aP) hx,List.getD_eq_getElem?_getD,hx];rfl
theorem tZ(l:List Int)(hl:l.length≤1000000)(hu:UpI l)(x:Int)(t:Bool):aA Tryz.prog 263 [.lst 1 (l.map aP) t,.int .i64 x] St.none (fun r _=>r=.tup [.int .i64 (aR l x:Int),.bool (decide (x∈l))]):=by
 refine(mB 54 [.tmp 4,.tmp 5] Tryz.func263 ?_)
 repeat' first|refine wZ1 @Tryz.f263.eq_1 ?_|fail
 refine aF (α:=Nat × Nat) (fun a=>⟨54,[(7,.int .i64 (a.1:Int)),(8,.int .i64 (a.2:Int)),(6,.int .i64 (l.length:Int)),(1,.int .i64 x),(0,.lst 1 (l.map aP) t)],[]⟩)
  (fun _=>St.none) (fun a=>a.1≤a.2∧a.2≤l.length∧(∀q,q<a.1→l.getD q 0<x)∧(∀q,a.2≤q→q<l.length→¬l.getD q 0<x)) (fun a=>a.2 - a.1) (.of (.less ?_ (St.le_refl _)) ⟨(0,l.length),rfl,rfl,by simp;omega⟩) ?_
 ·simp(maxSteps:=4000000) (disch:=first|exact ddL|fail) only[go_sem,simprocAttr,aU,aN]
  all_goals first|rfl|omega|simp
 ·rintro⟨i,j⟩ ⟨h1,h2,h3,h4⟩
  simp only at h1 h2 h3 h4 ⊢
  by_cases hij:i<j
  ·have hh:=half i j
   have hm1:i≤(i+j) / 2:=by omega
   have hm2:(i+j) / 2<j:=by omega
   obtain⟨m,hm⟩:∃m,(i+j) / 2=m:=⟨_,rfl⟩
   rw[hm] at hh hm1 hm2
   have hml:m<l.length:=by omega
   have hat:=Ct l hml
   have hup:∀a b,a<b→b<l.length→l.getD a 0<l.getD b 0:=fun a b hab hb=>by
    have:=List.pairwise_iff_getElem.1 hu a b oM hb hab
    rw[List.getD_eq_getElem?_getD,List.getD_eq_getElem?_getD,List.getElem?_eq_getElem (by omega:a<l.length),List.getElem?_eq_getElem hb]
    exact this
   have hord:=I3 (l.getD m 0) x
   by_cases hless:l.getD m 0<x
   ·have hnew:∀q,q<m+1→l.getD q 0<x:=fun q hq=>by
     rcases Nat.lt_or_ge q m with hlt|hge
     ·have:=hup q m hlt hml;omega
     ·have:q=m:=by omega
      rw[this];exact hless
    obtain⟨y,hy⟩:∃y,l.getD m 0=y:=⟨_,rfl⟩
    rw[hy] at hat hord hless
    repeat' first|(with_reducible first|refine up hord ?_)|refine wZ2 @hat @hh ?_|fail
    all_goals (try (exfalso;omega))
    refine .of (.less (l1:=[(7,.int .i64 ((m+1:Nat):Int)),(8,.int .i64 (j:Int)),(6,.int .i64 (l.length:Int)),(1,.int .i64 x),(0,.lst 1 (l.map aP) t)]) ?_ (St.le_refl _)) ⟨(m+1,j),rfl,rfl,⟨by simp only;omega,h2,hnew,h4⟩,by simp only;omega⟩
    simp(maxSteps:=4000000) (disch:=first|exact ddL|fail) only[go_sem,simprocAttr,aU,aN]
    all_goals omega
   ·have hnew:∀q,m≤q→q<l.length→¬l.getD q 0<x:=fun q hq hql=>by
     rcases Nat.lt_or_ge m q with hlt|hge
     ·have:=hup m q hlt hql;omega
     ·have:q=m:=by omega
      rw[this];exact hless
    obtain⟨y,hy⟩:∃y,l.getD m 0=y:=⟨_,rfl⟩
    rw[hy] at hat hord hless
    repeat' first|(with_reducible first|refine up hord ?_)|refine wZ2 @hat @hh ?_|fail
    all_goals (try (exfalso;omega))
    refine .of (.less (l1:=[(7,.int .i64 (i:Int)),(8,.int .i64 (m:Int)),(6,.int .i64 (l.length:Int)),(1,.int .i64 x),(0,.lst 1 (l.map aP) t)]) ?_ (St.le_refl _)) ⟨(i,m),rfl,rfl,⟨hm1,by simp only;omega,h3,hnew⟩,by simp only;omega⟩
    simp(maxSteps:=4000000) (disch:=first|exact ddL|fail) only[go_sem,simprocAttr,aU,aN]
  ·have:i=j:=by omega
   subst this
   have hp:=Co hu h3 h4
   rw[E9 h2 h3 h4]
   by_cases hil:i<l.length
   ·have hat:=Ct l hil
    have hn:=Ax (l.getD i 0)
    have hnx:=Ax x
    by_cases he:l.getD i 0=x
    ·rw[decide_eq_true (hp.2 ⟨hil,he⟩)]
     obtain⟨y,hy⟩:∃y,l.getD i 0=y:=⟨_,rfl⟩
     rw[hy] at hat hn he
     repeat' first|(with_reducible first|refine up hn ?_|refine up hnx ?_)|refine wZ1 @hat ?_|exact wC1 @hat|fail
     all_goals (try (exfalso;omega))
     all_goals (first|rfl|(simp;omega))
    ·rw[decide_eq_false fun h=>he (hp.1 h).2]
     obtain⟨y,hy⟩:∃y,l.getD i 0=y:=⟨_,rfl⟩
     rw[hy] at hat hn he
     repeat' first|(with_reducible first|refine up hn ?_|refine up hnx ?_)|refine wZ1 @hat ?_|exact wC1 @hat|fail
     all_goals (try (exfalso;omega))
     all_goals (first|rfl|(simp;omega))
   ·rw[decide_eq_false fun h=>hil (hp.1 h).1]
    repeat' first|refine wZ0 ?_|exact wC0|fail
    all_goals (try (exfalso;omega))
    all_goals (first|rfl|(simp;omega))
theorem p9(l:List Int)(hl:l.length≤1000000)(hu:UpI l)(x:Int)(t:Bool):aA Tryz.prog 209 [.lst 1 (l.map aP) t,.int .i64 x] St.none (fun r _=>r=.bool (decide (x∈l))):=by
 refine(mB 14 [.tmp 4] Tryz.func209 ?_)
 have h:=tZ l hl hu x t
 repeat' first|(with_reducible first|refine up h ?_)|refine wZ1 @Tryz.f209.eq_1 ?_|exact wC1 @Tryz.f209.eq_1|fail
theorem G9(s n:Nat)(hs:s<4294967296)(hn:n<32):aA Tryz.prog 210 [.int .u32 (s:Int),.int .i64 (n:Int)] St.none (fun r _=>r=.int .u32 ((s ||| 2 ^ n:Nat):Int)):=by
 refine(mB 9 [.tmp 4] Tryz.func210 ?_)
 have h:=CW n hn
 have ho:=Xs s (2 ^ n) hs (Nat.pow_lt_pow_right (a:=2) (n:=32) (by decide) hn)
 generalize ((2 ^ n:Nat):Int)=y at h ho
 repeat' first|(with_reducible first|refine up h ?_)|refine wZ2 @Tryz.f210.eq_1 @ho ?_|exact wC2 @Tryz.f210.eq_1 @ho|fail
theorem J2(l:List GR)(tt:Bool)(hl:l.length≤1000000)(hm:∀g,g∈l→g.mem.length≤1000000)(hok:iI (-1) l=true)(id:Int):aA Tryz.prog 139 [.lst 2 (l.map GR.c) tt,.int .i64 id] St.none (fun r _=>r=.int .u32 (grB l id:Int)):=by
 refine aA.bS (mB 24 [.tmp 4] Tryz.func139 ?_)
 repeat' first|refine wZ1 @Tryz.f139.eq_1 ?_|fail
 refine aF (α:=Nat) (fun i=>⟨24,[(10,.int .i64 (i:Int)),(9,.int .i64 (l.length:Int)),(8,.lst 2 (l.map GR.c) tt),(5,.int .u32 (grB (l.take i) id:Int)),(1,.int .i64 id)],[]⟩)
  (fun _=>St.none) (fun i=>i≤l.length) (fun i=>l.length - i) (.of (.less ?_ (St.le_refl _)) ⟨0,rfl,rfl,Nat.zero_le _⟩) ?_
 ·exact wW
 ·intro i hi
  have hi:i≤l.length:=hi
  by_cases hlt:i<l.length
  ·obtain⟨x,hx⟩:=bU l hlt
   have hat:=bN (f:=GR.c) hx
   obtain⟨g1,g2,g3,g4⟩:=IL hok hx id
   have hsn:=z8 hx id
   unfold grF at hsn
   obtain⟨n,hn⟩:∃n:Nat,x.no=n:=⟨x.no.toNat,by omega⟩
   have hh:=p9 x.mem (hm x (dY hx)) (EY g4).1 id false
   have g5:grB (l.take i) id<4294967296:=Nat.lt_trans g1 (Nat.pow_lt_pow_right (a:=2) (n:=32) (by decide) oM)
   have hw:=G9 (grB (l.take i) id) n g5 oM
   obtain⟨s,hs⟩:∃s,grB (l.take i) id=s:=⟨_,rfl⟩
   rw[hs] at hsn hw ⊢
   rw[hn,Int.toNat_natCast] at hsn
   by_cases hin:id∈x.mem
   ·rw[if_pos hin] at hsn
    rw[decide_eq_true hin] at hh
    repeat' first|(with_reducible first|refine up hh ?_|refine up hw ?_)|(refine wO ?_;intros)|refine wZ2 @hat @hn ?_|fail
    all_goals (try (exfalso;omega))
    all_goals
     refine .of (.less ?_ (St.none_le _)) ⟨i+1,rfl,rfl,(by omega:i+1≤l.length),by omega⟩
     rw[hsn]
     exact wW
   ·rw[if_neg hin] at hsn
    rw[decide_eq_false hin] at hh
    repeat' first|(with_reducible first|refine up hh ?_)|(refine wO ?_;intros)|refine wZ2 @hat @hn ?_|fail
    all_goals (try (exfalso;omega))
    all_goals
     refine .of (.less ?_ (St.none_le _)) ⟨i+1,rfl,rfl,(by omega:i+1≤l.length),by omega⟩
     rw[hsn]
     exact wW
  ·have:i=l.length:=by omega
   subst this
   rw[List.take_length]
   repeat' first|refine wZ0 ?_|fail
   all_goals exact lE
end

section
theorem G8(sq:Int)(l b:Nat)(g:MV):aA Tryz.prog 64 [.ptr b 0 0] (St.none.set b (bG sq l g)) (fun v σ'=>v=.int .i64 sq∧σ'=St.none.set b (bG sq l g)):=by
 refine(mB 9 [.tmp 2] Tryz.func64 ?_)
 repeat' first|refine wZ1 @Tryz.f64.eq_1 ?_|exact wC1 @Tryz.f64.eq_1|fail
 all_goals exact⟨rfl,rfl⟩
theorem p8(sq:Int)(l b:Nat)(gr:List GR)(h3:gr.length≤1000000)(h4:∀g,g∈gr→g.mem.length≤1000000)(hok:iI (-1) gr=true)(id:Int) :
  aA Tryz.prog 67 [.ptr b 0 0,.int .i64 id] (St.none.set b (bG sq l (.lst 2 (gr.map GR.c) false))) (fun v σ'=>v=.int .u32 (grB gr id:Int)∧σ'=St.none.set b (bG sq l (.lst 2 (gr.map GR.c) false))):=by
 refine(mB 13 [.tmp 4] Tryz.func67 ?_)
 have h:=J2 gr false h3 h4 hok id
 repeat' first|(with_reducible first|refine up h ?_)|refine wZ1 @Tryz.f67.eq_1 ?_|exact wC1 @Tryz.f67.eq_1|fail
 all_goals exact⟨rfl,rfl⟩
theorem BH(nx sq:Int){l m b:Nat}(dead g:MV)(cs:List CA)(hlm:l≠m)(hbm:b≠m)(hbl:b≠l)(hc:SJ cs) :
  aA Tryz.prog 65 [.ptr b 0 0] (((St.none.set m (.mp (cEs cs))).set l (shO nx m dead)).set b (bG sq l g)) (fun v σ'=>v=.lst 27 (cs.map CA.c) false∧σ'=((St.none.set m (.mp (cEs cs))).set l (shO nx m dead)).set b (bG sq l g)):=by
 refine(mB 10 [.tmp 2] Tryz.func65 ?_)
 have h:=EN nx l m dead cs hlm hc
 have hml:=Ne.symm hlm
 have hmb:=Ne.symm hbm
 have hlb:=Ne.symm hbl
 repeat' first|(refine b6 h (le2 sS sS) ?_)|refine wZ1 @Tryz.f65.eq_1 ?_|exact wC1 @Tryz.f65.eq_1|fail
 all_goals exact⟨rfl,rfl⟩
theorem G7{B:BK}(hd:B.dead.length≤1000000){m l q b:Nat}(D:dM m l q b)(ex:List (List MV))(id:Int) :
  aA Tryz.prog 154 [.ptr b 0 0,.int .i64 id] (bkS m l q b B ex) (fun v σ'=>v=.tup [.agg (bB B.cards B.dead id).1.c,.int .i64 (bB B.cards B.dead id).2]∧σ'=bkS m l q b B ex):=by
 refine aA.less (Q':=fun v σ'=>v=.tup [.agg (bB B.cards B.dead id).1.c,.int .i64 (bB B.cards B.dead id).2]∧(bkS m l q b B ex).le σ') (mB 17 [.cell 4 126,.tmp 5] Tryz.func154 ?_) fun v σ' h=>⟨_,h.2,h.1,rfl⟩
 have h:=iE B.nx D.lm D.qm D.ql B.cards B.dead hd ex id
 obtain⟨d1,d2,d3,d4,d5,d6⟩:=D
 have e1:=Ne.symm d1
 have e2:=Ne.symm d2
 have e3:=Ne.symm d3
 have e4:=Ne.symm d4
 have e5:=Ne.symm d5
 have e6:=Ne.symm d6
 generalize bB B.cards B.dead id=g at h ⊢
 obtain⟨gc,ge⟩:=g
 simp only at h ⊢
 repeat' first|(refine b6 h (St.aB (St.aB (St.aB (St.none_le _) sS) sS) sS) ?_)|(refine wO ?_;intros)|refine wZ2 @Tryz.f154.eq_1 @FXs ?_|fail
 all_goals
  first
  | exact⟨rfl,St.aB (St.aB (St.aB (St.aB (St.none_le _) sS) sS) sS) sS⟩
  | exact St.aB (St.aB (St.aB (St.aB (St.none_le _) sS) sS) sS) sS
noncomputable abbrev flD(fl:List ND)(d:Bool):aT:=flO (.lst 5 (fl.map ND.c) false) (if d=true then 1 else 0) 0 (if d=true then lP (qK fl) else .nilfn)
theorem xR{fl:List ND}(hp:cR fl=0){gr:List GR}(hg:iI (-1) gr=true){c:CA}(hc:hJ c=true)(f:Nat)(d:Bool) :
  aA Tryz.prog 66 [.ptr f 0 0,.agg c.c,.int .u32 (grB gr c.id:Int)] (St.none.set f (flD fl d)) (fun v σ'=>v=.bool (eR gr fl c)∧σ'=St.none.set f (flD fl true)):=by
 obtain⟨h1,h2,h3⟩:=y6 hp
 have h:=DB h1 (by rw[h2];omega) c (fun k=>?_) (grB gr c.id) (Nat.lt_of_lt_of_le (Le hg c.id) (by decide)) f false d
 ·rw[h2] at h
  exact h
 ·by_cases hk:k<8
  ·exact zJ hc _ (by
    unfold F8.get
    exact gT _ (by rw[c.f.h];exact hk))
  ·unfold F8.get
   rw[List.getD_eq_getElem?_getD,List.getElem?_eq_none (by rw[c.f.h];omega)]
   decide
abbrev vwO(f:Nat)(mk:UInt32)(sm:Nat)(floor now:Int)(log:MV):aT:=.row 133 6 [[.ptr f 0 0,.int .u32 (mk.toNat:Int),.mapv sm,.int .i64 floor,.int .i64 now,log]]
theorem Kk{nx:Int}{cs:List CA}(h:j0 nx 0 cs=true)(hn:nx≤1073741824)(hl:cs.length≤1000000):SJ cs:=by
 obtain⟨h1,h2⟩:=mH h
 exact⟨h2,fun c hc=>by have:=h1 c hc;omega,hl⟩
end

section
def dA:Int→List Int→List (List MV)
 | _,[]=>[]
 | s,i::r=>[.int .i64 (s+1),.int .i64 i]::dA (s+1) r
theorem pB:∀(s:Int) (l:List Int),(dA s l).length=l.length
 | _,[]=>rfl
 | s,i::r=>by simp[dA,pB]
theorem qP:∀(s:Int) (l:List Int) (x:Int),dA s (l++[x])=dA s l++[[.int .i64 (s+l.length+1),.int .i64 x]]
 | s,[],x=>by simp[dA]
 | s,i::r,x=>by
  simp only[List.cons_append,dA,qP (s+1) r x,List.length_cons]
  have:s+1+(r.length:Int)+1=s+((r.length+1:Nat):Int)+1:=by omega
  rw[this]
theorem qB{sq:Int}(l:Nat)(g:MV){b p:Nat}(hbp:b≠p)(ids:List Int)(h0:0≤sq)(h1:sq≤1099511627776)(hl:ids.length≤1000000) :
  aA Tryz.prog 143 [.ptr b 0 0,.vec 1 p 0 ids.length] ((St.none.set p (.row 3 1 (ids.map aP))).set b (bG sq l g)) (fun v σ'=>v=.lst 2 (dA sq ids) false∧σ'=St.none.set b (bG (sq+ids.length) l g)):=by
 refine aA.C0 (mB 32 [.tmp 4] Tryz.func143 ?_)
 have hpb:=Ne.symm hbp
 repeat' first|refine wZ1 @Tryz.f143.eq_1 ?_|fail
 refine aF (α:=Nat × Nat × List (List MV)) (fun z=>⟨32,[(10,.int .i64 (z.1:Int)),(9,.int .i64 (ids.length:Int)),(8,.vec 1 p 0 ids.length),(5,.vec 2 z.2.1 0 z.1),(0,.ptr b 0 0)],[]⟩)
  (fun z=>((St.none.set p (.row 3 1 (ids.map aP))).set b (bG (sq+z.1) l g)).set z.2.1 (.row 73 2 (dA sq (ids.take z.1)++z.2.2))) (fun z=>z.1≤ids.length∧z.2.1≠p∧z.2.1≠b) (fun z=>ids.length - z.1) ?_ ?_
 ·refine Gh.AU 73 2 (fun r=>[(10,.int .i64 0),(9,.int .i64 (ids.length:Int)),(8,.vec 1 p 0 ids.length),(5,.vec 2 r 0 0),(0,.ptr b 0 0)]) (fun k=>by(repeat' (refine And.intro ?_ ?_))<;>first|exact trivial|exact .inl rfl|exact .inr ⟨rfl,.inl rfl⟩|exact .inr ⟨rfl,.inr rfl⟩) fun r hr=>?_
  simp only[aV] at hr
  obtain⟨r1,r2,-⟩:=hr
  exact .done ⟨(0,r,[]),rfl,by simp[dA],Nat.zero_le _,by assumption,by assumption⟩
 ·rintro⟨i,r,xx⟩ ⟨hi,r1,r2⟩
  simp only at hi r1 r2 ⊢
  have r1':=Ne.symm r1
  have r2':=Ne.symm r2
  by_cases hlt:i<ids.length
  ·obtain⟨x,hx⟩:=bU ids hlt
   have hat:=bN (f:=aP) hx
   have hml:(ids.map aP).length=ids.length:=List.length_map _
   have htk:=aZ hx
   have hLl:(ids.take i).length=i:=by rw[List.length_take];omega
   obtain⟨L,hL⟩:∃L,ids.take i=L:=⟨_,rfl⟩
   rw[hL] at htk hLl ⊢
   have hsn:=qP sq L x
   rw[hLl] at hsn
   have hcl:=pB sq L
   rw[hLl] at hcl
   obtain⟨Q,hQ⟩:∃Q,dA sq L=Q:=⟨_,rfl⟩
   rw[hQ] at hsn hcl ⊢
   have hdr:(Q++xx).drop (i+1)=xx.drop 1:=by rw[←hcl,←List.drop_drop,List.drop_left]
   have htk':(Q++xx).take i=Q:=List.take_left' hcl
   have hq1:sq+((i+1:Nat):Int)=sq+(i:Int)+1:=by omega
   repeat' first|(refine wM ?_;(first|(have _:=nl2)|(have _:=nl1;intro nl2)|(intro nl1));intros)|(refine wY ?_ ?_<;>intro h)|refine wZ5 @hat @hml @hcl @htk' @hdr ?_|fail
   all_goals (try (exfalso;omega))
   all_goals
    clear hat htk' hdr
    have p1:nl2≠p:=by assumption
    have p2:nl2≠b:=by assumption
   ·have hex:xx=[]:=List.eq_nil_of_length_eq_zero oM
    subst hex
    clear h
    refine .of (.less ?_ ?_) ⟨(i+1,nl2,[]),rfl,rfl,⟨by simp only;omega,p1,p2⟩,by simp only;omega⟩
    ·exact wW
    ·simp only[htk,hsn,hq1]
     exact St.aB (St.aB (St.aB (St.none_le _) sS) sS) sS
   ·clear h
    refine .of (.less ?_ ?_) ⟨(i+1,nl2,xx.drop 1),rfl,rfl,⟨by simp only;omega,p1,p2⟩,by simp only;omega⟩
    ·exact wW
    ·simp only[htk,hsn,hq1]
     exact St.aB (St.aB (St.aB (St.none_le _) sS) sS) sS
  ·have:i=ids.length:=by omega
   subst this
   rw[List.take_length]
   repeat' first|refine wZ0 ?_|fail
   all_goals
    exact⟨St.none.set r (.row 73 2 (dA sq ids++xx)),St.aB (St.none_le _) sS,St.aB (St.none_le _) sS,fun k o hk=>(aG _ _ _ _ (fun e=>by subst e;simp[St.set,St.none, *] at hk)).trans rfl,fN (aD _ _ _) (pB _ _).symm⟩
end

section
open Go.MapKept
def tL(n:Int):List (MV × MV)→List (MV × MV)
 | []=>[]
 | (.int k m,v)::r=>if m=n then r else(.int k m,v)::tL n r
 | x::r=>x::tL n r
theorem Ck{k:IntKind}{n:Int}{Φ:Phi}:∀(l:List MapEntry) (es:List (MV × MV)) (i0:Nat),l.length=es.length→(es.all fun x=>isK k x.1)=true→(∀(i:Nat) (x:MV × MV),es[i]?=some x→∃e:MapEntry,l[i]?=some e∧Rel Φ e.key x.1) →
  (Instr.findNow (.int k) (.int k n) l i0=some none∧tL n es=es)∨∃(j:Nat) (e:MapEntry),Instr.findNow (.int k) (.int k n) l i0=some (some (i0+j,e.val))∧j<es.length∧tL n es=es.eraseIdx j
 | [],[],_,_,_,_=>.inl ⟨rfl,rfl⟩
 | [],_::_,_,h,_,_=>by simp at h
 | _::_,[],_,h,_,_=>by simp at h
 | e::l,(x,u)::es,i0,hl,hk,hr=>by
  simp only[List.all_cons,Bool.and_eq_true] at hk
  obtain⟨m,rfl⟩:=mN hk.1
  obtain⟨e',he',hrel⟩:=hr 0 _ rfl
  simp only[List.getElem?_cons_zero,Option.some.injEq] at he'
  subst he'
  have hkey:=hrel.aS
  have q:=Ck (n:=n) l es (i0+1) (by simpa using hl) hk.2 fun i x hx=>hr (i+1) x (by simpa using hx)
  by_cases hmn:m=n
  ·subst hmn
   exact .inr ⟨0,e,by simp[Instr.findNow,Instr.sameNow,hkey],by simp,by simp[tL]⟩
  ·have hf:Instr.findNow (.int k) (.int k n) (e::l) i0=Instr.findNow (.int k) (.int k n) l (i0+1):=by
    have:(n==m)=false:=by simpa using Ne.symm hmn
    simp[Instr.findNow,Instr.sameNow,hkey,this]
   rw[hf]
   rcases q with⟨a,b⟩|⟨j,e2,a,b,c⟩
   ·exact .inl ⟨a,by simp[tL,hmn,b]⟩
   ·refine .inr ⟨j+1,e2,?_,by simpa using b,by simp[tL,hmn,c]⟩
    rw[a];simp;omega
theorem Fv{α:Type _}{l:List α}{j i:Nat}:(l.eraseIdx j)[i]?=l[if i<j then i else i+1]?:=by
 rw[List.getElem?_eraseIdx]
 split<;>rfl
theorem kB{P:Program}{o:Oper}{f:FR}{σ:St}{k:MV→St→Prop}{t kt et kt':TypeId}{m x:Operand}(ho:o.op=.call { callee:=.builtin .delete,args:=#[m,x],argTypes:=#[t,kt'] })(ht:(td P t).k=.map kt et){kd:IntKind}(hkt:(td P kt).k=.int kd)
 {l:Nat}{es:List (MV × MV)}(hm:aE f m=.mapv l)(hl:σ l=some (.mp es)){n:Int}(hx:aE f x=.int kd n)(he:(es.all fun p=>isK kd p.1)=true)
 (hk:k .junk (σ.set l (.mp (tL n es)))):sop P o f σ k:=by
 intro Φ w a K Q' hi hr hK
 have hum:=rE ht
 have huk:=kC hkt
 have rm:=aI hr m
 have rx:=aI hr x
 rw[hm] at rm
 rw[hx] at rx
 obtain⟨p,R,hp,hR,hmv⟩:=rm.nI
 have hxv:=rx.aS
 obtain⟨p',R',c,clock,hp',hR',hh,hs,hst,hrel⟩:=(hi.own l _ hl).F9
 rw[hp] at hp';cases hp'
 rw[hR] at hR';cases hR'
 have hrt:=(Array.getElem?_eq_some_iff.1 hh).1
 have hop:∀r w',(Builtin.delete_ #[t,kt'] o.type #[a.eval m,a.eval x]).run P w=.ok r w'→(execOp a.eval o).run P w=.ok (.value r) w':=fun r w' h=>by
  unfold execOp
  simp only[ho,resolve,List.map_toArray,List.map_cons,List.map_nil,Sem.run_bind,Sem.run_pure,Result.andThen_ok,invoke]
  show Sem.run P (do pure (Next.value (←Builtin.delete_ #[t,kt'] o.type #[a.eval m,a.eval x]))) w=_
  simp only[Sem.run_bind,h,Result.andThen_ok,Sem.run_pure]
 rcases Ck (n:=n) c.toList es 0 (by simpa using hs) he fun i z hz=>by
  obtain⟨e,h1,h2,_⟩:=hrel i z hz
  exact⟨e,h1,h2⟩ with⟨h1,h2⟩|⟨j,e,h1,hj,h2⟩
 ·have hrun:=hop (.tuple #[]) (fU w R (.map c clock)) (by
   rw[hmv,hxv]
   simp[Builtin.delete_,run_underlying hum,Go.MapKept.run_getObj_map hh,run_checkKey (d:=.int kd) (k:=.int kd n) huk rfl,run_findKey (d:=.int kd) huk h1,run_setObj_map _ hh,Result.andThen,fU])
  have hw:fU w R (.map c clock)=w:=C9 hh
  rw[hw] at hrun
  have hσ:σ.set l (.mp (tL n es))=σ:=by
   rw[h2];funext q;by_cases hq:q=l
   ·subst hq;simp[St.set,hl]
   ·simp[St.set,hq]
  rw[hσ] at hk
  exact bJ hrun (hK _ .junk _ Φ w (.junk _) hi (.refl _ _ _) hk)
 ·obtain⟨c',hc'⟩:∃c',c'=c.eraseIdxIfInBounds j:=⟨_,rfl⟩
  have hjs:j<c.size:=by omega
  have hl':c'.toList=c.toList.eraseIdx j:=by
   rw[hc']
   unfold Array.eraseIdxIfInBounds
   rw[dif_pos hjs]
   simp
  have hrun:=hop (.tuple #[]) (fU w R (.map c' clock)) (by
   rw[hmv,hxv]
   simp[Builtin.delete_,run_underlying hum,Go.MapKept.run_getObj_map hh,run_checkKey (d:=.int kd) (k:=.int kd n) huk rfl,run_findKey (d:=.int kd) huk h1,run_setObj_map _ hh,Result.andThen,fU,hc'])
  have hsz:c'.size=c.size - 1:=by
   rw[←Array.length_toList,hl',List.length_eraseIdx_of_lt (by simpa using hjs),Array.length_toList]
  obtain⟨i1,s1⟩:=hi.EX (w':=fU w R (.map c' clock)) l hl (.mp (es.eraseIdx j)) hp hR iQ (fun q hq=>eT hq) rfl rfl rfl (Nat.le_refl _)
   ⟨p,R,hp,hR,c',clock,gS hrt,⟨by rw[hsz,List.length_eraseIdx_of_lt hj,hs],by rw[hc'];exact stamped_erase hst j⟩,fun i z hz=>by
    rw[Fv] at hz
    obtain⟨e,q1,q2,q3⟩:=hrel _ z hz
    have:c'.getD i default=e:=by
     rw[Array.getD_eq_getD_getElem?,←Array.getElem?_toList,hl',Fv,q1];rfl
    rw[this]
    exact⟨q2,q3⟩⟩
  rw[←h2] at i1 s1
  exact bJ hrun (hK _ .junk _ _ _ (.junk _) i1 s1 hk)
end
end Go.Proofs.YtppdgejjmhdjhaaGreatDoor
