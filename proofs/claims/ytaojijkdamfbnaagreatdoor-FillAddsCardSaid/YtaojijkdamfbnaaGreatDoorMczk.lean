/- Parts of the proof, joined; conditions: those that its theorems name. -/
import Derived.Test.YtaojijkdamfbnaaGreatDoorMczi
import Derived.Test.YtaojijkdamfbnaaGreatDoorMczj
set_option linter.unusedVariables false
set_option linter.unusedSimpArgs false
set_option maxHeartbeats 4000000
namespace Go.Proofs.YtaojijkdamfbnaaGreatDoor
section
set_option maxRecDepth 100000
set_option maxHeartbeats 8000000
theorem Lo{g1:FuncId}{r1:List Nat}{q1:MV→Prop}{x1:List aX × (Nat→MV)}:PlU (.these [g1]) (fnF [(g1,⟨r1,q1,some x1⟩)]):=by
 intro g' ms rd q' x' h
 simp only[fnF] at h
 split at h
 ·rename_i e
  subst e
  exact .inr (List.mem_singleton.2 rfl)
 ·cases h
theorem J5{P:Program}{g:FuncId}{ms:List MV}{σ:St}{p b:Nat}{op ob ob':aX}{r:MV}{k:MV→St→Prop}(hbp:b≠p)(hp:σ p=some op)(hb:σ b=some ob)
 (h:aA P g ms ((St.none.set p op).set b ob) fun v σ'=>v=r∧σ'=St.none.set b ob')(hk:R (bU r ((σ.del p).set b ob') k)):R (dZ P g ms σ k) :=
 cL h (St.aH (St.aH (St.none_le _) hp) hb) fun v σ' hv _=>by
  obtain⟨rfl,rfl⟩:=hv
  have e:(St.none.set b ob').over (σ.minus ((St.none.set p op).set b ob))=(σ.del p).set b ob':=by
   funext j
   by_cases h1:j=b
   ·subst h1;simp[St.over,St.set]
   ·by_cases h2:j=p
    ·subst h2;simp[St.over,St.set,St.none,St.minus,St.del,h1]
    ·simp[St.over,St.set,St.none,St.minus,St.del,h1,h2]
  rw[e];exact hk
theorem zI{nx sq:Int}{m l b:Nat}(hlm:l≠m)(hbm:b≠m)(hbl:b≠l)(D g:MV)(cs:List CA)(p:PA)(hp:dH p=0)(hn:cs.length<48)(hx0:0≤nx)(hx:nx<1073741824)(hnew:nx∉cs.map CA.id)(h0:0≤sq)(h1:sq≤1099511627776) :
  aA Tryz.prog 72 [.ptr b 0 0,.agg (ED.mk 1 0 0 p).c] (((St.none.set m (.mp (cEs cs))).set l (shO nx m D)).set b (cG sq l g)) (fun v σ'=>v=.tup [.lst 2 (lF sq [nx]) false,.int .i64 0]∧σ'=((St.none.set m (.mp (cEs (cs++[cN nx p])))).set l (shO (nx+1) m D)).set b (cG (sq+1) l g)):=by
 refine aA.less (Q':=fun v σ'=>v=.tup [.lst 2 (lF sq [nx]) false,.int .i64 0]∧(((St.none.set m (.mp (cEs (cs++[cN nx p])))).set l (shO (nx+1) m D)).set b (cG (sq+1) l g)).le σ') (aA.body 26 [.tmp 4,.tmp 5] Tryz.func72 rfl rfl rfl rfl ?_) fun v σ' h=>⟨_,h.2,h.1,rfl⟩
 have hadd:=G7 hlm D cs p hp hn hx0 hx hnew
 have hml:=Ne.symm hlm
 have hmb:=Ne.symm hbm
 have hlb:=Ne.symm hbl
 have hst:=fun {k:Nat} (hk:b≠k)=>BJ (sq:=sq) l g hk [(cN nx p).id] h0 h1 (by simp)
 simp only[List.map_cons,List.map_nil,List.length_cons,List.length_nil] at hst
 have hid:(cN nx p).id=nx:=rfl
 obtain⟨c,hc⟩:∃c,cN nx p=c:=⟨_,rfl⟩
 rw[hc] at hadd hid ⊢
 simp only[hc] at hst
 obtain⟨K,hK,c1⟩:∃K:cB,PlU (.these [108]) K∧∀ms,K 108 ms=some ⟨[l,m],fun _=>True,some ([shO (nx+1) m D,.mp (cEs (cs++[c]))],fun _=>.tup [.agg c.c,.int .i64 0])⟩ :=
  ⟨fnF [(108,⟨[l,m],fun _=>True,some ([shO (nx+1) m D,.mp (cEs (cs++[c]))],fun _=>.tup [.agg c.c,.int .i64 0])⟩)],Lo,fun _=>eU⟩
 have hadd':aA Tryz.prog 108 [.ptr l 0 0,.agg p.c] (St.ofList [l,m] [shO nx m D,.mp (cEs cs)]) (fun v σ'=>v=.tup [.agg c.c,.int .i64 0]∧σ'=((St.ofList [l,m] [shO nx m D,.mp (cEs cs)]).set m (.mp (cEs (cs++[c])))).set l (shO (nx+1) m D)):=hadd.mono (by
  rintro v σ' ⟨h1,rfl⟩
  refine⟨h1,funext fun j=>?_⟩
  by_cases h1:j=l
  ·subst h1;simp[St.set]
  ·by_cases h2:j=m
   ·subst h2;simp[St.set,h1]
   ·simp[St.ofList,St.set,h1,h2])
 repeat' (first|(refine jW mixed [108] (by decide +kernel) K hK ?_)|(refine AN (os:=[shO nx m D,.mp (cEs cs)]) (c1 _) (by simp[St.set, *]) hadd' ?_)|(with_reducible first|(refine wT ?_;(first|((fail_if_success (have:=nl1));refine wN fun nl1 hnl=>?_)|((fail_if_success (have:=nl2));refine wN fun nl2 hnl=>?_)|((fail_if_success (have:=nl3));refine wN fun nl3 hnl=>?_)|refine wN fun _ hnl=>?_);revert hnl;(repeat refine wS fun _ _=>?_);intro hnl)|refine wE ?_|(refine wK ?_ ?_<;>intro h)|(refine wB ?_ ?_<;>intro h<;>simp only[h]))|simp(maxSteps:=4000000) (disch:=first|exact ddL|fail) only[go_sem,simprocAttr,Tryz.f72,FXs])
 have n1:b≠nl3:=by assumption
 refine J5 n1 (aJ _ _ _) (by simp[St.set, *]) (hst n1) ?_
 repeat' (first|(with_reducible first|(refine wT ?_;(first|((fail_if_success (have:=nl1));refine wN fun nl1 hnl=>?_)|((fail_if_success (have:=nl2));refine wN fun nl2 hnl=>?_)|((fail_if_success (have:=nl3));refine wN fun nl3 hnl=>?_)|refine wN fun _ hnl=>?_);revert hnl;(repeat refine wS fun _ _=>?_);intro hnl)|refine wE ?_|(refine wK ?_ ?_<;>intro h)|(refine wB ?_ ?_<;>intro h<;>simp only[h]))|simp(maxSteps:=4000000) (disch:=first|exact ddL|fail) only[go_sem,simprocAttr])
 refine⟨by rw[hid],St.aH (St.aH (St.aH (St.none_le _) ?_) ?_) ?_⟩
 all_goals simp[St.set,St.del, *]
end

section
set_option maxRecDepth 100000
set_option maxHeartbeats 8000000
theorem aA.LQ{P:Program}{g:FuncId}{ms:List MV}{τ τ1:St}{n:Nat}{o:aX}{r:MV}(hn:τ n=none)(h1:τ1 n=none)(h:aA P g ms τ fun v σ'=>v=r∧σ'=τ1):aA P g ms (τ.set n o) fun v σ'=>v=r∧σ'=τ1.set n o :=
 (h.frame (St.yL (St.le_refl _) hn)).mono (by
  rintro v σ1 ⟨σ',⟨hv,rfl⟩,rfl,-⟩
  refine⟨hv,funext fun j=>?_⟩
  by_cases hj:j=n
  ·subst hj;simp[St.over,St.minus,St.set,hn,h1]
  ·simp only[St.over,St.minus,St.set,if_neg hj]
   cases σ' j with
   | some o=>rfl
   | none=>cases τ j<;>rfl)
theorem Hb{nx sq:Int}{m l b:Nat}(hlm:l≠m)(hbm:b≠m)(hbl:b≠l)(D g:MV)(cs:List CA)(p:PA)(hp:dH p=0)(hn:cs.length<48)(hx0:0≤nx)(hx:nx<1073741824)(hnew:nx∉cs.map CA.id)(h0:0≤sq)(h1:sq≤1000000000000) :
  aA Tryz.prog 39 [.ptr b 0 0,.agg (ED.mk 1 0 0 p).c] (((St.none.set m (.mp (cEs cs))).set l (shO nx m D)).set b (cG sq l g)) (fun v σ'=>v=.tup [.lst 2 (lF sq [nx]) false,.int .i64 0]∧σ'=((St.none.set m (.mp (cEs (cs++[cN nx p])))).set l (shO (nx+1) m D)).set b (cG (sq+1) l g)):=by
 refine aA.less (Q':=fun v σ'=>v=.tup [.lst 2 (lF sq [nx]) false,.int .i64 0]∧(((St.none.set m (.mp (cEs (cs++[cN nx p])))).set l (shO (nx+1) m D)).set b (cG (sq+1) l g)).le σ') (aA.body 31 [.tmp 4,.tmp 5] Tryz.func39 rfl rfl rfl rfl ?_) fun v σ' h=>⟨_,h.2,h.1,rfl⟩
 have hck:=zJ (ED.mk 1 0 0 p)
 have he:kS (ED.mk 1 0 0 p)=0:=by
  unfold kS
  simp[edG,edI,edP,hp]
 rw[he] at hck
 have hcr:=zI hlm hbm hbl D g cs p hp hn hx0 hx hnew h0 (by omega)
 have hml:=Ne.symm hlm
 have hmb:=Ne.symm hbm
 have hlb:=Ne.symm hbl
 generalize lF sq [nx]=R1 at hcr ⊢
 obtain⟨c,hc⟩:∃c,cN nx p=c:=⟨_,rfl⟩
 rw[hc] at hcr ⊢
 repeat' (first|(refine aO hck ?_)|(refine eR mixed (fun _ _=>none) [_,_,_,_,_,_,_] [_,_,_,_] rfl (by decide +kernel) ?_)|(with_reducible first|(refine wN fun _ hnl=>?_;revert hnl;(repeat refine wS fun _ _=>?_);intro hnl)|refine wE ?_|(refine wK ?_ ?_<;>intro h)|(refine wB ?_ ?_<;>intro h<;>simp only[h]))|simp(maxSteps:=4000000) (disch:=first|exact ddL|fail) only[go_sem,simprocAttr,Tryz.f39,FXs])
 all_goals (try (exfalso;omega))
 refine qL (aA.LQ (by simp[St.set,St.none, *]) (by simp[St.set,St.none, *]) (aA.LQ (by simp[St.set,St.none, *]) (by simp[St.set,St.none, *]) hcr)) ?_
 repeat' (first|(with_reducible first|(refine wN fun _ hnl=>?_;revert hnl;(repeat refine wS fun _ _=>?_);intro hnl)|refine wE ?_|(refine wK ?_ ?_<;>intro h)|(refine wB ?_ ?_<;>intro h<;>simp only[h]))|simp(maxSteps:=4000000) (disch:=first|exact ddL|fail) only[go_sem,simprocAttr])
 exact St.yL (St.yL (St.le_refl _) (by simp[St.set,St.none, *])) (by simp[St.set,St.none, *])
end

section
set_option maxRecDepth 100000
set_option maxHeartbeats 8000000
theorem LU:∀t:T,t.fl≠[]:=fun t=>by cases t<;>simp[T.fl]
theorem J1{x:ND}(h:bW [x]=0):mK [x]=.leaf x:=by
 have ht:=(rW h).2.1
 cases hc:mK [x] with
 | leaf y=>rw[hc] at ht;simp only[T.fl,List.cons.injEq,and_true] at ht;rw[ht]
 | one y a=>rw[hc] at ht;simp only[T.fl,List.cons.injEq] at ht;exact absurd ht.2 (LU a)
 | two y a b=>rw[hc] at ht;simp only[T.fl,List.cons.injEq,List.append_eq_nil_iff] at ht;exact absurd ht.2.1 (LU a)
theorem D3{x:ND}(h:bW [x]=0)(gr:List GR)(c:CA):gH gr [x] c=if x.op=1 then true else if x.op=2 then false else bQ (lP c) (grB gr c.id) x:=by
 unfold gH
 rw[J1 h];rfl
def pa1:PA:=⟨1,0,f80⟩
def ex1:CA:=cN 1 pa1
def ex2:CA:=cN 2 pa1
end

section
set_option maxRecDepth 100000
set_option maxHeartbeats 8000000
theorem J7{P:Program}{g:FuncId}{ms:List MV}{σ τ:St}{m l b:Nat}{om ol ob:aX}{r:MV}{k:MV→St→Prop}(h:aA P g ms τ fun v σ'=>v=r∧σ'=((τ.set m om).set l ol).set b ob)(hle:τ.le σ)(hk:R (bU r (((σ.set m om).set l ol).set b ob) k)):R (dZ P g ms σ k) :=
 cL h hle fun v σ' hv _=>by
  obtain⟨rfl,rfl⟩:=hv
  rw[bV,bV,bV,nY hle];exact hk
abbrev mlb(m l b:Nat)(om ol ob:aX):St:=((St.none.set m om).set l ol).set b ob
theorem Mu{m l b:Nat}{om ol ob om' ol' ob':aX}:mlb m l b om' ol' ob'=(((mlb m l b om ol ob).set m om').set l ol').set b ob':=by
 funext j
 by_cases h1:j=b
 ·simp[St.set,h1]
 ·by_cases h2:j=l
  ·simp[St.set,h1,h2]
  ·by_cases h3:j=m<;>simp[St.set,h1,h2,h3]
def exE:ED:=⟨1,0,0,pa1⟩
theorem Ni:exE.c=.int .i64 1::.int .i64 0::.int .i64 0::.int .u32 1::.int .u32 0::fc f80:=rfl
theorem LS{nx sq:Int}{m l b:Nat}(hlm:l≠m)(hbm:b≠m)(hbl:b≠l)(D g:MV)(cs:List CA)(hn:cs.length<48)(hx0:0≤nx)(hx:nx<1073741824)(hnew:nx∉cs.map CA.id)(h0:0≤sq)(h1:sq≤1000000000000) :
  aA Tryz.prog 39 [.ptr b 0 0,.agg (.int .i64 1::.int .i64 0::.int .i64 0::.int .u32 1::.int .u32 0::fc f80)] (mlb m l b (.mp (cEs cs)) (shO nx m D) (cG sq l g)) (fun v σ'=>v=.tup [.lst 2 (lF sq [nx]) false,.int .i64 0]∧σ'=(((mlb m l b (.mp (cEs cs)) (shO nx m D) (cG sq l g)).set m (.mp (cEs (cs++[cN nx pa1])))).set l (shO (nx+1) m D)).set b (cG (sq+1) l g)):=by
 rw[←Ni]
 refine(Hb hlm hbm hbl D g cs pa1 (by decide +kernel) hn hx0 hx hnew h0 h1).mono ?_
 rintro v σ' ⟨q1,q2⟩
 exact⟨q1,q2.trans Mu⟩
theorem I3{σ:St}{m l b:Nat}{om ol ob:aX}(hm:σ m=some om)(hl:σ l=some ol)(hb:σ b=some ob):(mlb m l b om ol ob).le σ:=St.aH (St.aH (St.aH (St.none_le _) hm) hl) hb
theorem J6{P:Program}{g:FuncId}{ms:List MV}{σ:St}{n:Nat}{on o:aX}{u:Nat→MV}{k:MV→St→Prop}(hn:σ n=some on)(h:aA P g ms (St.none.set n on) fun v σ'=>∃q,v=u q∧σ'=St.none.set q o)(hk:∀q,(σ.del n) q=none→R (bU (u q) ((σ.del n).set q o) k)):R (dZ P g ms σ k) :=
 cL h (St.aH (St.none_le _) hn) fun v σ' hv hf=>by
  obtain⟨q,rfl,rfl⟩:=hv
  have e:(St.none.set q o).over (σ.minus (St.none.set n on))=(σ.del n).set q o:=by
   rw[bV,dU]
   congr 1
   funext j
   by_cases h2:j=n
   ·subst h2;simp[St.set,St.minus,St.del]
   ·simp[St.set,St.none,St.minus,St.del,h2]
  rw[e]
  refine hk q ?_
  rcases hf q o (aJ _ _ _) with h|⟨o',h⟩
  ·simp[St.del,h]
  ·by_cases h2:q=n
   ·subst h2;simp[St.del]
   ·rw[aP _ _ _ _ h2] at h;cases h
theorem BA(x:ND)(h:bW [x]=0)(n:Nat):aA Tryz.prog 12 [.vec 5 n 0 1] (St.none.set n (.row 84 5 [x.c])) (fun v σ'=>∃q,v=.ptr q 0 0∧σ'=St.none.set q (flD [x] false)) :=
 aA.pre (ms':=[.lst 5 ([x].map ND.c) false]) rfl (bD.freeze (St.none.set n (.row 84 5 [x.c])) (St.le_refl _) (St.none_le _) (fun k o hk=>by cases hk) (fun p hp=>by
  simp only[kA,List.mem_singleton] at hp
  subst hp
  exact View.vecAll (aJ _ _ _) rfl)) (qX [x] (by simp) false h)
end
end Go.Proofs.YtaojijkdamfbnaaGreatDoor
