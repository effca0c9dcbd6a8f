/- Parts of the proof, joined; conditions: those that its theorems name. -/
import Derived.Test.YtppdgejjmhdjhaaGreatDoorMazb
import Derived.Test.YtppdgejjmhdjhaaGreatDoorMaze
set_option linter.unusedVariables false
set_option linter.unusedSimpArgs false
set_option maxHeartbeats 4000000
namespace Go.Proofs.YtppdgejjmhdjhaaGreatDoor
section
set_option maxRecDepth 100000
set_option maxHeartbeats 8000000
theorem EE{nx:Int}{m l:Nat}(hlm:l≠m)(D:MV)(cs:List CA)(p:PA)(hp:bP p=0)(hn:cs.length<48)(hx0:0≤nx)(hx:nx<1073741824)(hnew:nx∉cs.map CA.id) :
  aA Tryz.prog 142 [.ptr l 0 0,.agg p.c] ((St.none.set m (.mp (cEs cs))).set l (shO nx m D)) (fun v σ'=>v=.tup [.agg (b5 nx p).c,.int .i64 0]∧σ'=(St.none.set m (.mp (cEs (cs++[b5 nx p])))).set l (shO (nx+1) m D)):=by
 refine aA.less (Q':=fun v σ'=>v=.tup [.agg (b5 nx p).c,.int .i64 0]∧((St.none.set m (.mp (cEs (cs++[b5 nx p])))).set l (shO (nx+1) m D)).le σ') ?_ fun v σ' h=>⟨_,h.2,h.1,rfl⟩
 refine(aA.kO 52 [.cell 4 126,.tmp 5] Tryz.func142 rfl rfl rfl rfl ?_)
 have hcp:=jI p
 rw[hp] at hcp
 have hfr:=zA nx p
 have hid:(b5 nx p).id=nx:=rfl
 have hput:gH .i64 nx (.agg (b5 nx p).c) (cEs cs)=cEs (cs++[b5 nx p]):=xL (c:=b5 nx p) hnew
 have hik:=mE cs
 have hlen:(cEs cs).length=cs.length:=List.length_map _
 have hml:=Ne.symm hlm
 obtain⟨c,hc⟩:∃c,b5 nx p=c:=⟨_,rfl⟩
 rw[hc] at hfr hid hput ⊢
 obtain⟨C,c1⟩:∃C:bJ,∀ms,C 212 ms=some ⟨[],fun v=>v=.agg c.c,none⟩:=⟨JN 212 (.agg c.c),fun _=>Fw⟩
 refine gL (lB ?_)
 repeat' (first|(with_reducible first|(refine wN fun _ hnl=>?_;revert hnl;(repeat refine wS fun _ _=>?_);intro hnl)|refine wE ?_|(refine wK ?_ ?_<;>intro h)|(refine wB ?_ ?_<;>intro h<;>simp only[h]))|simp(maxSteps:=4000000) (disch:=first|exact ddL|fail) only[go_sem,simprocAttr,FXs])
 refine iV (gL (lB ?_))
 repeat' (first|(with_reducible first|(refine wN fun _ hnl=>?_;revert hnl;(repeat refine wS fun _ _=>?_);intro hnl)|refine wE ?_|(refine wK ?_ ?_<;>intro h)|(refine wB ?_ ?_<;>intro h<;>simp only[h]))|simp(maxSteps:=4000000) (disch:=first|exact ddL|fail) only[go_sem,simprocAttr,FXs])
 refine iV (gL (lB ?_))
 repeat' (first|(refine aT hcp ?_)|(with_reducible first|(refine wN fun _ hnl=>?_;revert hnl;(repeat refine wS fun _ _=>?_);intro hnl)|refine wE ?_|(refine wK ?_ ?_<;>intro h)|(refine wB ?_ ?_<;>intro h<;>simp only[h]))|simp(maxSteps:=4000000) (disch:=first|exact ddL|fail) only[go_sem,simprocAttr,FXs])
 refine iV (gL (gL (kC [_,_,_,_] _ [_,_,_,_,_,_,_,_] rfl rfl ?_)))
 repeat' (first|(with_reducible first|(refine wN fun _ hnl=>?_;revert hnl;(repeat refine wS fun _ _=>?_);intro hnl)|refine wE ?_|(refine wK ?_ ?_<;>intro h)|(refine wB ?_ ?_<;>intro h<;>simp only[h]))|simp(maxSteps:=4000000) (disch:=first|exact ddL|fail) only[go_sem,simprocAttr,FXs])
 refine iV (BO (t:=249) (l:=m) (es:=cEs cs) rfl (by rw[Ju]) rfl (by simp[St.set, *]) ?_)
 show R _
 repeat' (first|(with_reducible first|(refine wN fun _ hnl=>?_;revert hnl;(repeat refine wS fun _ _=>?_);intro hnl)|refine wE ?_|(refine wK ?_ ?_<;>intro h)|(refine wB ?_ ?_<;>intro h<;>simp only[h]))|simp(maxSteps:=4000000) (disch:=first|exact ddL|fail) only[go_sem,simprocAttr,FXs,hlen])
 all_goals (try (exfalso;omega))
 refine iV (lB ?_)
 repeat' (first|(with_reducible first|(refine wN fun _ hnl=>?_;revert hnl;(repeat refine wS fun _ _=>?_);intro hnl)|refine wE ?_|(refine wK ?_ ?_<;>intro h)|(refine wB ?_ ?_<;>intro h<;>simp only[h]))|simp(maxSteps:=4000000) (disch:=first|exact ddL|fail) only[go_sem,simprocAttr,FXs])
 refine iV (lB ?_)
 repeat' (first|((with_reducible refine bL mixed ?chk C ?_);(case chk=>decide +kernel))|(with_reducible refine aY (c1 _) hfr ?_)|(with_reducible first|(refine wN fun _ hnl=>?_;revert hnl;(repeat refine wS fun _ _=>?_);intro hnl)|refine wE ?_|(refine wK ?_ ?_<;>intro h)|(refine wB ?_ ?_<;>intro h<;>simp only[h]))|simp(maxSteps:=4000000) (disch:=first|exact ddL|fail) only[go_sem,simprocAttr,FXs,hput,hik,hid])
 have hcc:(.int .i64 nx::.int .i64 c.ver::.int .u32 (c.lab.toNat:Int)::fc c.f:List MV)=c.c:=by rw[←hid]
 rw[hcc,hput]
 refine⟨rfl,St.aC (St.aC (St.none_le _) ?_) ?_⟩
 ·simp[St.set, *]
 ·simp[St.set, *]
end

section
set_option maxRecDepth 100000
set_option maxHeartbeats 8000000
def bk1:BK:=⟨0,1,[],[],[]⟩
theorem vY:aA Tryz.prog 60 [] St.none (fun v σ'=>∃m l q b,mX m l q b∧v=.ptr b 0 0∧σ'=bkS m l q b bk1 []):=by
 refine aA.gh (Ai.mono ?_)
 rintro _ _ ⟨m,l,b,hlm,hbm,hbl,rfl,rfl⟩
 have hlb:=Ne.symm hbl
 refine Gh.CJ (b:=l) (t:=251) (e:=3) (pre:=[.int .i64 1,.mapv m]) (post:=[]) 197 3 (by simp[St.set,hlb]) fun q hq=>?_
 simp only[bB] at hq
 obtain⟨q1,q2,q3,-⟩:=hq
 have q1':=Ne.symm q1
 have q2':=Ne.symm q2
 have q3':=Ne.symm q3
 refine Gh.CJ (b:=b) (t:=140) (e:=3) (pre:=[.int .i64 0,.ptr l 0 0]) (post:=[]) 200 2 (by simp[St.set, *]) fun z hz=>?_
 simp only[bB] at hz
 obtain⟨zq,zl,z1,-,zm,-⟩:=hz
 have zq':=Ne.symm zq
 have zl':=Ne.symm zl
 have z1':=Ne.symm z1
 have zm':=Ne.symm zm
 refine .of (bU.Di z b [.int .i64 0,.ptr l 0 0] [] (aH _ _ _) (by simp[St.set, *]) z1' (View.vecAll (aH _ _ _) rfl) rfl (σ1:=bkS m l q b bk1 []) (l1:=[(0,.ptr b 0 0)]) (aH _ _ _) (fun k o hk=>?_)
  (fun p hp=>by simp only[List.mem_singleton] at hp;subst hp;exact .same _)) ⟨_,rfl,m,l,q,b,⟨hlm,q3,q2,hbm,hbl,q1'⟩,rfl,rfl⟩
 by_cases k1:k=b
 ·subst k1;exact⟨z1',.inl rfl⟩
 ·have hk:shS 1 m l q [] [] [] k=some o:=(aI _ _ _ _ k1).symm.trans hk
  have k2:k≠z:=fun e=>by
   subst e
   simp[St.set,St.none, *] at hk
  refine⟨k2,.inr ?_⟩
  rw[aI _ _ _ _ k2,aI _ _ _ _ k1]
  by_cases k3:k=q
  ·subst k3;simpa[St.set] using hk
  ·by_cases k4:k=l
   ·subst k4;simpa[St.set,k3] using hk
   ·by_cases k5:k=m
    ·subst k5;simpa[St.set,k3,k4,k1,cEs] using hk
    ·simp[St.set,St.none,k3,k4,k5] at hk
end

section
set_option maxRecDepth 100000
set_option maxHeartbeats 8000000
theorem vE{g1:FuncId}{r1:List Nat}{q1:MV→Prop}{x1:List aO × (Nat→MV)}:PlU (.these [g1]) (fnF [(g1,⟨r1,q1,some x1⟩)]):=by
 intro g' ms rd q' x' h
 simp only[fnF] at h
 split at h
 ·rename_i e
  subst e
  exact .inr (List.mem_singleton.2 rfl)
 ·cases h
theorem z8{P:Program}{g:FuncId}{ms:List MV}{σ:St}{p b:Nat}{op ob ob':aO}{r:MV}{k:MV→St→Prop}(hbp:b≠p)(hp:σ p=some op)(hb:σ b=some ob)
 (h:aA P g ms ((St.none.set p op).set b ob) fun v σ'=>v=r∧σ'=St.none.set b ob')(hk:R (bF r ((σ.del p).set b ob') k)):R (cN P g ms σ k) :=
 bM h (St.aC (St.aC (St.none_le _) hp) hb) fun v σ' hv _=>by
  obtain⟨rfl,rfl⟩:=hv
  have e:(St.none.set b ob').over (σ.minus ((St.none.set p op).set b ob))=(σ.del p).set b ob':=by
   funext j
   by_cases h1:j=b
   ·subst h1;simp[St.over,St.set]
   ·by_cases h2:j=p
    ·subst h2;simp[St.over,St.set,St.none,St.minus,St.del,h1]
    ·simp[St.over,St.set,St.none,St.minus,St.del,h1,h2]
  rw[e];exact hk
theorem vD{nx sq:Int}{m l b:Nat}(hlm:l≠m)(hbm:b≠m)(hbl:b≠l)(D g:MV)(cs:List CA)(p:PA)(hp:bP p=0)(hn:cs.length<48)(hx0:0≤nx)(hx:nx<1073741824)(hnew:nx∉cs.map CA.id)(h0:0≤sq)(h1:sq≤1099511627776) :
  aA Tryz.prog 69 [.ptr b 0 0,.agg (ED.mk 1 0 0 p).c] (((St.none.set m (.mp (cEs cs))).set l (shO nx m D)).set b (bA sq l g)) (fun v σ'=>v=.tup [.lst 2 (hE sq [nx]) false,.int .i64 0]∧σ'=((St.none.set m (.mp (cEs (cs++[b5 nx p])))).set l (shO (nx+1) m D)).set b (bA (sq+1) l g)):=by
 refine aA.less (Q':=fun v σ'=>v=.tup [.lst 2 (hE sq [nx]) false,.int .i64 0]∧(((St.none.set m (.mp (cEs (cs++[b5 nx p])))).set l (shO (nx+1) m D)).set b (bA (sq+1) l g)).le σ') (aA.body 26 [.tmp 4,.tmp 5] Tryz.func69 rfl rfl rfl rfl ?_) fun v σ' h=>⟨_,h.2,h.1,rfl⟩
 have hadd:=EE hlm D cs p hp hn hx0 hx hnew
 have hml:=Ne.symm hlm
 have hmb:=Ne.symm hbm
 have hlb:=Ne.symm hbl
 have hst:=fun {k:Nat} (hk:b≠k)=>oJ (sq:=sq) l g hk [(b5 nx p).id] h0 h1 (by simp)
 simp only[List.map_cons,List.map_nil,List.length_cons,List.length_nil] at hst
 have hid:(b5 nx p).id=nx:=rfl
 obtain⟨c,hc⟩:∃c,b5 nx p=c:=⟨_,rfl⟩
 rw[hc] at hadd hid ⊢
 simp only[hc] at hst
 obtain⟨K,hK,c1⟩:∃K:bJ,PlU (.these [142]) K∧∀ms,K 142 ms=some ⟨[l,m],fun _=>True,some ([shO (nx+1) m D,.mp (cEs (cs++[c]))],fun _=>.tup [.agg c.c,.int .i64 0])⟩ :=
  ⟨fnF [(142,⟨[l,m],fun _=>True,some ([shO (nx+1) m D,.mp (cEs (cs++[c]))],fun _=>.tup [.agg c.c,.int .i64 0])⟩)],vE,fun _=>cV⟩
 have hadd':aA Tryz.prog 142 [.ptr l 0 0,.agg p.c] (St.ofList [l,m] [shO nx m D,.mp (cEs cs)]) (fun v σ'=>v=.tup [.agg c.c,.int .i64 0]∧σ'=((St.ofList [l,m] [shO nx m D,.mp (cEs cs)]).set m (.mp (cEs (cs++[c])))).set l (shO (nx+1) m D)):=hadd.mono (by
  rintro v σ' ⟨h1,rfl⟩
  refine⟨h1,funext fun j=>?_⟩
  by_cases h1:j=l
  ·subst h1;simp[St.set]
  ·by_cases h2:j=m
   ·subst h2;simp[St.set,h1]
   ·simp[St.ofList,St.set,h1,h2])
 repeat' (first|(refine cA mixed [142] (by decide +kernel) K hK ?_)|(refine xQ (os:=[shO nx m D,.mp (cEs cs)]) (c1 _) (by simp[St.set, *]) hadd' ?_)|(with_reducible first|(refine wT ?_;(first|((fail_if_success (have:=nl1));refine wN fun nl1 hnl=>?_)|((fail_if_success (have:=nl2));refine wN fun nl2 hnl=>?_)|((fail_if_success (have:=nl3));refine wN fun nl3 hnl=>?_)|refine wN fun _ hnl=>?_);revert hnl;(repeat refine wS fun _ _=>?_);intro hnl)|refine wE ?_|(refine wK ?_ ?_<;>intro h)|(refine wB ?_ ?_<;>intro h<;>simp only[h]))|simp(maxSteps:=4000000) (disch:=first|exact ddL|fail) only[go_sem,simprocAttr,Tryz.f69,FXs])
 have n1:b≠nl3:=by assumption
 refine z8 n1 (aH _ _ _) (by simp[St.set, *]) (hst n1) ?_
 repeat' (first|(with_reducible first|(refine wT ?_;(first|((fail_if_success (have:=nl1));refine wN fun nl1 hnl=>?_)|((fail_if_success (have:=nl2));refine wN fun nl2 hnl=>?_)|((fail_if_success (have:=nl3));refine wN fun nl3 hnl=>?_)|refine wN fun _ hnl=>?_);revert hnl;(repeat refine wS fun _ _=>?_);intro hnl)|refine wE ?_|(refine wK ?_ ?_<;>intro h)|(refine wB ?_ ?_<;>intro h<;>simp only[h]))|simp(maxSteps:=4000000) (disch:=first|exact ddL|fail) only[go_sem,simprocAttr])
 refine⟨by rw[hid],St.aC (St.aC (St.aC (St.none_le _) ?_) ?_) ?_⟩
 all_goals simp[St.set,St.del, *]
end

section
set_option maxRecDepth 100000
set_option maxHeartbeats 8000000
theorem aA.B3{P:Program}{g:FuncId}{ms:List MV}{τ τ1:St}{n:Nat}{o:aO}{r:MV}(hn:τ n=none)(h1:τ1 n=none)(h:aA P g ms τ fun v σ'=>v=r∧σ'=τ1):aA P g ms (τ.set n o) fun v σ'=>v=r∧σ'=τ1.set n o :=
 (h.frame (St.lM (St.le_refl _) hn)).mono (by
  rintro v σ1 ⟨σ',⟨hv,rfl⟩,rfl,-⟩
  refine⟨hv,funext fun j=>?_⟩
  by_cases hj:j=n
  ·subst hj;simp[St.over,St.minus,St.set,hn,h1]
  ·simp only[St.over,St.minus,St.set,if_neg hj]
   cases σ' j with
   | some o=>rfl
   | none=>cases τ j<;>rfl)
theorem EH{nx sq:Int}{m l b:Nat}(hlm:l≠m)(hbm:b≠m)(hbl:b≠l)(D g:MV)(cs:List CA)(p:PA)(hp:bP p=0)(hn:cs.length<48)(hx0:0≤nx)(hx:nx<1073741824)(hnew:nx∉cs.map CA.id)(h0:0≤sq)(h1:sq≤1000000000000) :
  aA Tryz.prog 17 [.ptr b 0 0,.agg (ED.mk 1 0 0 p).c] (((St.none.set m (.mp (cEs cs))).set l (shO nx m D)).set b (bA sq l g)) (fun v σ'=>v=.tup [.lst 2 (hE sq [nx]) false,.int .i64 0]∧σ'=((St.none.set m (.mp (cEs (cs++[b5 nx p])))).set l (shO (nx+1) m D)).set b (bA (sq+1) l g)):=by
 refine aA.less (Q':=fun v σ'=>v=.tup [.lst 2 (hE sq [nx]) false,.int .i64 0]∧(((St.none.set m (.mp (cEs (cs++[b5 nx p])))).set l (shO (nx+1) m D)).set b (bA (sq+1) l g)).le σ') (aA.body 31 [.tmp 4,.tmp 5] Tryz.func17 rfl rfl rfl rfl ?_) fun v σ' h=>⟨_,h.2,h.1,rfl⟩
 have hck:=mM (ED.mk 1 0 0 p)
 have he:gE (ED.mk 1 0 0 p)=0:=by
  unfold gE
  simp[edG,edI,edP,hp]
 rw[he] at hck
 have hcr:=vD hlm hbm hbl D g cs p hp hn hx0 hx hnew h0 (by omega)
 have hml:=Ne.symm hlm
 have hmb:=Ne.symm hbm
 have hlb:=Ne.symm hbl
 generalize hE sq [nx]=R1 at hcr ⊢
 obtain⟨c,hc⟩:∃c,b5 nx p=c:=⟨_,rfl⟩
 rw[hc] at hcr ⊢
 repeat' (first|(refine aT hck ?_)|(refine iC mixed (fun _ _=>none) [_,_,_,_,_,_,_] [_,_,_,_] rfl (by decide +kernel) ?_)|(with_reducible first|(refine wN fun _ hnl=>?_;revert hnl;(repeat refine wS fun _ _=>?_);intro hnl)|refine wE ?_|(refine wK ?_ ?_<;>intro h)|(refine wB ?_ ?_<;>intro h<;>simp only[h]))|simp(maxSteps:=4000000) (disch:=first|exact ddL|fail) only[go_sem,simprocAttr,Tryz.f17,FXs])
 all_goals (try (exfalso;omega))
 refine kT (aA.B3 (by simp[St.set,St.none, *]) (by simp[St.set,St.none, *]) (aA.B3 (by simp[St.set,St.none, *]) (by simp[St.set,St.none, *]) hcr)) ?_
 repeat' (first|(with_reducible first|(refine wN fun _ hnl=>?_;revert hnl;(repeat refine wS fun _ _=>?_);intro hnl)|refine wE ?_|(refine wK ?_ ?_<;>intro h)|(refine wB ?_ ?_<;>intro h<;>simp only[h]))|simp(maxSteps:=4000000) (disch:=first|exact ddL|fail) only[go_sem,simprocAttr])
 exact St.lM (St.lM (St.le_refl _) (by simp[St.set,St.none, *])) (by simp[St.set,St.none, *])
end
end Go.Proofs.YtppdgejjmhdjhaaGreatDoor
