/- Parts of the proof, joined; conditions: those that its theorems name. -/
import Derived.Test.YtaojijkdamfbnaaGreatDoorMfzh
import Derived.Test.YtaojijkdamfbnaaGreatDoorMfzi
set_option linter.unusedVariables false
set_option linter.unusedSimpArgs false
set_option maxHeartbeats 4000000
namespace Go.Proofs.YtaojijkdamfbnaaGreatDoor
section
set_option maxRecDepth 100000
set_option maxHeartbeats 8000000
theorem Hi{nx:Int}{m l:Nat}(hlm:l≠m)(D:MV)(cs:List CA)(p:PA)(hp:dG p=0)(hn:cs.length<48)(hx0:0≤nx)(hx:nx<1073741824)(hnew:nx∉cs.map CA.id) :
  aA Tryz.prog 108 [.ptr l 0 0,.agg p.c] ((St.none.set m (.mp (cEs cs))).set l (shO nx m D)) (fun v σ'=>v=.tup [.agg (cN nx p).c,.int .i64 0]∧σ'=(St.none.set m (.mp (cEs (cs++[cN nx p])))).set l (shO (nx+1) m D)):=by
 refine aA.less (Q':=fun v σ'=>v=.tup [.agg (cN nx p).c,.int .i64 0]∧((St.none.set m (.mp (cEs (cs++[cN nx p])))).set l (shO (nx+1) m D)).le σ') ?_ fun v σ' h=>⟨_,h.2,h.1,rfl⟩
 refine(aA.k7 52 [.cell 4 42,.tmp 5] Tryz.func108 rfl rfl rfl rfl ?_)
 have hcp:=pA p
 rw[hp] at hcp
 have hfr:=BP nx p
 have hid:(cN nx p).id=nx:=rfl
 have hput:l3 .i64 nx (.agg (cN nx p).c) (cEs cs)=cEs (cs++[cN nx p]):=sT (c:=cN nx p) hnew
 have hik:=oY cs
 have hlen:(cEs cs).length=cs.length:=List.length_map _
 have hml:=Ne.symm hlm
 obtain⟨c,hc⟩:∃c,cN nx p=c:=⟨_,rfl⟩
 rw[hc] at hfr hid hput ⊢
 obtain⟨C,c1⟩:∃C:b9,∀ms,C 144 ms=some ⟨[],fun v=>v=.agg c.c,none⟩:=⟨AH 144 (.agg c.c),fun _=>kB⟩
 refine hZ (iR ?_)
 repeat' (first|(with_reducible first|(refine wN fun _ hnl=>?_;revert hnl;(repeat refine wS fun _ _=>?_);intro hnl)|refine wE ?_|(refine wK ?_ ?_<;>intro h)|(refine wB ?_ ?_<;>intro h<;>simp only[h]))|simp(maxSteps:=4000000) (disch:=first|exact ddL|fail) only[go_sem,simprocAttr,FXs])
 refine fD (hZ (iR ?_))
 repeat' (first|(with_reducible first|(refine wN fun _ hnl=>?_;revert hnl;(repeat refine wS fun _ _=>?_);intro hnl)|refine wE ?_|(refine wK ?_ ?_<;>intro h)|(refine wB ?_ ?_<;>intro h<;>simp only[h]))|simp(maxSteps:=4000000) (disch:=first|exact ddL|fail) only[go_sem,simprocAttr,FXs])
 refine fD (hZ (iR ?_))
 repeat' (first|(refine aK hcp ?_)|(with_reducible first|(refine wN fun _ hnl=>?_;revert hnl;(repeat refine wS fun _ _=>?_);intro hnl)|refine wE ?_|(refine wK ?_ ?_<;>intro h)|(refine wB ?_ ?_<;>intro h<;>simp only[h]))|simp(maxSteps:=4000000) (disch:=first|exact ddL|fail) only[go_sem,simprocAttr,FXs])
 refine fD (hZ (hZ (tG [_,_,_,_] _ [_,_,_,_,_,_,_,_] rfl rfl ?_)))
 repeat' (first|(with_reducible first|(refine wN fun _ hnl=>?_;revert hnl;(repeat refine wS fun _ _=>?_);intro hnl)|refine wE ?_|(refine wK ?_ ?_<;>intro h)|(refine wB ?_ ?_<;>intro h<;>simp only[h]))|simp(maxSteps:=4000000) (disch:=first|exact ddL|fail) only[go_sem,simprocAttr,FXs])
 refine fD (Eh (t:=143) (l:=m) (es:=cEs cs) rfl (by rw[Mj]) rfl (by simp[St.set, *]) ?_)
 show R _
 repeat' (first|(with_reducible first|(refine wN fun _ hnl=>?_;revert hnl;(repeat refine wS fun _ _=>?_);intro hnl)|refine wE ?_|(refine wK ?_ ?_<;>intro h)|(refine wB ?_ ?_<;>intro h<;>simp only[h]))|simp(maxSteps:=4000000) (disch:=first|exact ddL|fail) only[go_sem,simprocAttr,FXs,hlen])
 all_goals (try (exfalso;omega))
 refine fD (iR ?_)
 repeat' (first|(with_reducible first|(refine wN fun _ hnl=>?_;revert hnl;(repeat refine wS fun _ _=>?_);intro hnl)|refine wE ?_|(refine wK ?_ ?_<;>intro h)|(refine wB ?_ ?_<;>intro h<;>simp only[h]))|simp(maxSteps:=4000000) (disch:=first|exact ddL|fail) only[go_sem,simprocAttr,FXs])
 refine fD (iR ?_)
 repeat' (first|((with_reducible refine aZ mixed ?chk C ?_);(case chk=>decide +kernel))|(with_reducible refine aW (c1 _) hfr ?_)|(with_reducible first|(refine wN fun _ hnl=>?_;revert hnl;(repeat refine wS fun _ _=>?_);intro hnl)|refine wE ?_|(refine wK ?_ ?_<;>intro h)|(refine wB ?_ ?_<;>intro h<;>simp only[h]))|simp(maxSteps:=4000000) (disch:=first|exact ddL|fail) only[go_sem,simprocAttr,FXs,hput,hik,hid])
 have hcc:(.int .i64 nx::.int .i64 c.ver::.int .u32 (c.lab.toNat:Int)::fc c.f:List MV)=c.c:=by rw[←hid]
 rw[hcc,hput]
 refine⟨rfl,St.aD (St.aD (St.none_le _) ?_) ?_⟩
 ·simp[St.set, *]
 ·simp[St.set, *]
end

section
set_option maxRecDepth 100000
set_option maxHeartbeats 8000000
def bk1:BK:=⟨0,1,[],[],[]⟩
theorem Ap:aA Tryz.prog 38 [] St.none (fun v σ'=>∃m l q b,jP m l q b∧v=.ptr b 0 0∧σ'=bkS m l q b bk1 []):=by
 refine aA.gh (Cv.mono ?_)
 rintro _ _ ⟨m,l,b,hlm,hbm,hbl,rfl,rfl⟩
 have hlb:=Ne.symm hbl
 refine Gh.rH (b:=l) (t:=145) (e:=3) (pre:=[.int .i64 1,.mapv m]) (post:=[]) 90 3 (by simp[St.set,hlb]) fun q hq=>?_
 simp only[aX] at hq
 obtain⟨q1,q2,q3,-⟩:=hq
 have q1':=Ne.symm q1
 have q2':=Ne.symm q2
 have q3':=Ne.symm q3
 refine Gh.rH (b:=b) (t:=92) (e:=3) (pre:=[.int .i64 0,.ptr l 0 0]) (post:=[]) 94 2 (by simp[St.set, *]) fun z hz=>?_
 simp only[aX] at hz
 obtain⟨zq,zl,z1,-,zm,-⟩:=hz
 have zq':=Ne.symm zq
 have zl':=Ne.symm zl
 have z1':=Ne.symm z1
 have zm':=Ne.symm zm
 refine .of (bD.wX z b [.int .i64 0,.ptr l 0 0] [] (aF _ _ _) (by simp[St.set, *]) z1' (View.vecAll (aF _ _ _) rfl) rfl (σ1:=bkS m l q b bk1 []) (l1:=[(0,.ptr b 0 0)]) (aF _ _ _) (fun k o hk=>?_)
  (fun p hp=>by simp only[List.mem_singleton] at hp;subst hp;exact .same _)) ⟨_,rfl,m,l,q,b,⟨hlm,q3,q2,hbm,hbl,q1'⟩,rfl,rfl⟩
 by_cases k1:k=b
 ·subst k1;exact⟨z1',.inl rfl⟩
 ·have hk:shS 1 m l q [] [] [] k=some o:=(aG _ _ _ _ k1).symm.trans hk
  have k2:k≠z:=fun e=>by
   subst e
   simp[St.set,St.none, *] at hk
  refine⟨k2,.inr ?_⟩
  rw[aG _ _ _ _ k2,aG _ _ _ _ k1]
  by_cases k3:k=q
  ·subst k3;simpa[St.set] using hk
  ·by_cases k4:k=l
   ·subst k4;simpa[St.set,k3] using hk
   ·by_cases k5:k=m
    ·subst k5;simpa[St.set,k3,k4,k1,cEs] using hk
    ·simp[St.set,St.none,k3,k4,k5] at hk
end

section
set_option maxRecDepth 100000
set_option maxHeartbeats 8000000
theorem LD{g1:FuncId}{r1:List Nat}{q1:MV→Prop}{x1:List aV × (Nat→MV)}:PlU (.these [g1]) (fnF [(g1,⟨r1,q1,some x1⟩)]):=by
 intro g' ms rd q' x' h
 simp only[fnF] at h
 split at h
 ·rename_i e
  subst e
  exact .inr (List.mem_singleton.2 rfl)
 ·cases h
theorem uT{P:Program}{g:FuncId}{ms:List MV}{σ:St}{p b:Nat}{op ob ob':aV}{r:MV}{k:MV→St→Prop}(hbp:b≠p)(hp:σ p=some op)(hb:σ b=some ob)
 (h:aA P g ms ((St.none.set p op).set b ob) fun v σ'=>v=r∧σ'=St.none.set b ob')(hk:R (bR r ((σ.del p).set b ob') k)):R (cX P g ms σ k) :=
 cA h (St.aD (St.aD (St.none_le _) hp) hb) fun v σ' hv _=>by
  obtain⟨rfl,rfl⟩:=hv
  have e:(St.none.set b ob').over (σ.minus ((St.none.set p op).set b ob))=(σ.del p).set b ob':=by
   funext j
   by_cases h1:j=b
   ·subst h1;simp[St.over,St.set]
   ·by_cases h2:j=p
    ·subst h2;simp[St.over,St.set,St.none,St.minus,St.del,h1]
    ·simp[St.over,St.set,St.none,St.minus,St.del,h1,h2]
  rw[e];exact hk
theorem nR{sq:Int}(l:Nat)(g:MV){b p:Nat}(hbp:b≠p)(G:List (List MV))(x:Int)(h0:0≤sq)(h1:sq≤1099511627776) :
  aA Tryz.prog 112 [.ptr b 0 0,.lst 2 G false,.int .i64 0,.vec 1 p 0 1] ((St.none.set p (.row 3 1 [aJ x])).set b (bV sq l g)) (fun v σ'=>v=.tup [.lst 2 (fF sq [x]) false,.int .i64 0]∧σ'=St.none.set b (bV (sq+1) l (.lst 2 G false))):=by
 refine(aA.body 20 [.tmp 8,.tmp 9] Tryz.func112 rfl rfl rfl rfl ?_)
 have h:=rD l (.lst 2 G false) hbp [x] h0 h1 (by simp)
 simp only[List.map_cons,List.map_nil,List.length_cons,List.length_nil] at h
 have hpb:=Ne.symm hbp
 repeat' (first|(refine eU h ?_)|(with_reducible first|(refine wN fun _ hnl=>?_;revert hnl;(repeat refine wS fun _ _=>?_);intro hnl)|refine wE ?_|(refine wK ?_ ?_<;>intro h)|(refine wB ?_ ?_<;>intro h<;>simp only[h]))|simp(maxSteps:=4000000) (disch:=first|exact ddL|fail) only[go_sem,simprocAttr,Tryz.f112])
theorem zT{nx sq:Int}{m l b:Nat}(hlm:l≠m)(hbm:b≠m)(hbl:b≠l)(D g:MV)(cs:List CA)(p:PA)(hp:dG p=0)(hn:cs.length<48)(hx0:0≤nx)(hx:nx<1073741824)(hnew:nx∉cs.map CA.id)(h0:0≤sq)(h1:sq≤1099511627776) :
  aA Tryz.prog 72 [.ptr b 0 0,.agg (ED.mk 1 0 0 p).c] (((St.none.set m (.mp (cEs cs))).set l (shO nx m D)).set b (bV sq l g)) (fun v σ'=>v=.tup [.lst 2 (fF sq [nx]) false,.int .i64 0]∧σ'=((St.none.set m (.mp (cEs (cs++[cN nx p])))).set l (shO (nx+1) m D)).set b (bV (sq+1) l g)):=by
 refine aA.less (Q':=fun v σ'=>v=.tup [.lst 2 (fF sq [nx]) false,.int .i64 0]∧(((St.none.set m (.mp (cEs (cs++[cN nx p])))).set l (shO (nx+1) m D)).set b (bV (sq+1) l g)).le σ') (aA.body 26 [.tmp 4,.tmp 5] Tryz.func72 rfl rfl rfl rfl ?_) fun v σ' h=>⟨_,h.2,h.1,rfl⟩
 have hadd:=Hi hlm D cs p hp hn hx0 hx hnew
 have hml:=Ne.symm hlm
 have hmb:=Ne.symm hbm
 have hlb:=Ne.symm hbl
 have hst:=fun {k:Nat} (hk:b≠k)=>rD (sq:=sq) l g hk [(cN nx p).id] h0 h1 (by simp)
 simp only[List.map_cons,List.map_nil,List.length_cons,List.length_nil] at hst
 have hid:(cN nx p).id=nx:=rfl
 obtain⟨c,hc⟩:∃c,cN nx p=c:=⟨_,rfl⟩
 rw[hc] at hadd hid ⊢
 simp only[hc] at hst
 obtain⟨K,hK,c1⟩:∃K:b9,PlU (.these [108]) K∧∀ms,K 108 ms=some ⟨[l,m],fun _=>True,some ([shO (nx+1) m D,.mp (cEs (cs++[c]))],fun _=>.tup [.agg c.c,.int .i64 0])⟩ :=
  ⟨fnF [(108,⟨[l,m],fun _=>True,some ([shO (nx+1) m D,.mp (cEs (cs++[c]))],fun _=>.tup [.agg c.c,.int .i64 0])⟩)],LD,fun _=>gZ⟩
 have hadd':aA Tryz.prog 108 [.ptr l 0 0,.agg p.c] (St.ofList [l,m] [shO nx m D,.mp (cEs cs)]) (fun v σ'=>v=.tup [.agg c.c,.int .i64 0]∧σ'=((St.ofList [l,m] [shO nx m D,.mp (cEs cs)]).set m (.mp (cEs (cs++[c])))).set l (shO (nx+1) m D)):=hadd.mono (by
  rintro v σ' ⟨h1,rfl⟩
  refine⟨h1,funext fun j=>?_⟩
  by_cases h1:j=l
  ·subst h1;simp[St.set]
  ·by_cases h2:j=m
   ·subst h2;simp[St.set,h1]
   ·simp[St.ofList,St.set,h1,h2])
 repeat' (first|(refine Bf mixed [108] (by decide +kernel) K hK ?_)|(refine AW (os:=[shO nx m D,.mp (cEs cs)]) (c1 _) (by simp[St.set, *]) hadd' ?_)|(with_reducible first|(refine wT ?_;(first|((fail_if_success (have:=nl1));refine wN fun nl1 hnl=>?_)|((fail_if_success (have:=nl2));refine wN fun nl2 hnl=>?_)|((fail_if_success (have:=nl3));refine wN fun nl3 hnl=>?_)|refine wN fun _ hnl=>?_);revert hnl;(repeat refine wS fun _ _=>?_);intro hnl)|refine wE ?_|(refine wK ?_ ?_<;>intro h)|(refine wB ?_ ?_<;>intro h<;>simp only[h]))|simp(maxSteps:=4000000) (disch:=first|exact ddL|fail) only[go_sem,simprocAttr,Tryz.f72,FXs])
 have n1:b≠nl3:=by assumption
 refine uT n1 (aF _ _ _) (by simp[St.set, *]) (hst n1) ?_
 repeat' (first|(with_reducible first|(refine wT ?_;(first|((fail_if_success (have:=nl1));refine wN fun nl1 hnl=>?_)|((fail_if_success (have:=nl2));refine wN fun nl2 hnl=>?_)|((fail_if_success (have:=nl3));refine wN fun nl3 hnl=>?_)|refine wN fun _ hnl=>?_);revert hnl;(repeat refine wS fun _ _=>?_);intro hnl)|refine wE ?_|(refine wK ?_ ?_<;>intro h)|(refine wB ?_ ?_<;>intro h<;>simp only[h]))|simp(maxSteps:=4000000) (disch:=first|exact ddL|fail) only[go_sem,simprocAttr])
 refine⟨by rw[hid],St.aD (St.aD (St.aD (St.none_le _) ?_) ?_) ?_⟩
 all_goals simp[St.set,St.del, *]
end

section
set_option maxRecDepth 100000
set_option maxHeartbeats 8000000
theorem zU(id:Int)(k:Nat)(h1:1≤id)(h2:id<1073741824):aA Tryz.prog 154 [.lst 1 [] false,.ptr k 0 0] (St.none.set k (.row 3 1 [[.int .i64 id]])) (fun r σ'=>r=.tup [.lst 1 [aJ id] false,.int .i64 0]∧σ'=St.none.set k (.row 3 1 [[.int .i64 id]])):=by
 refine(aA.body 11 [.tmp 3,.tmp 4] Tryz.func154 rfl rfl rfl rfl ?_)
 have hh:=rB [] (Nat.zero_le _) List.Pairwise.nil id false
 have hp:=D9 id h1 h2 false
 simp only[List.map_nil,List.not_mem_nil,decide_false] at hh
 repeat' (first|(refine aK hh ?_)|(refine aK hp ?_)|(with_reducible first|(refine wN fun _ hnl=>?_;revert hnl;(repeat refine wS fun _ _=>?_);intro hnl)|refine wE ?_|(refine wK ?_ ?_<;>intro h)|(refine wB ?_ ?_<;>intro h<;>simp only[h]))|simp(maxSteps:=4000000) (disch:=first|exact ddL|fail) only[go_sem,simprocAttr,Tryz.f154])
 all_goals exact⟨rfl,rfl⟩
theorem zX(no id:Int)(k:Nat)(h1:1≤id)(h2:id<1073741824)(h3:0≤no)(h4:no<16):aA Tryz.prog 153 [.lst 2 [(GR.mk no []).c] false,.int .i64 no,.int .i64 id,.fn (.func 154) [] [.ptr k 0 0]] (St.none.set k (.row 3 1 [[.int .i64 id]])) (fun r σ'=>r=.tup [.lst 2 [(GR.mk no [id]).c] false,.int .i64 0]∧σ'=St.none):=by
 refine aA.Fi (aA.body 58 [.tmp 8,.tmp 9] Tryz.func153 rfl rfl rfl rfl ?_)
 have hf:=tU [GR.mk no []] (by simp) (List.pairwise_singleton _ _) no false
 have hb:cM [no] no=0:=by simp[cM]
 have hm:decide (no∈[no])=true:=by simp
 simp only[List.map_cons,List.map_nil,hb,hm] at hf
 have hj:=zU id k h1 h2
 have hc:=zS (GR.mk no []) [] (by simp) (by simp) false
 simp only[List.map_cons,List.map_nil,List.length_nil] at hc
 repeat' (first|(refine aK hf ?_)|(refine eU hj ?_)|((refine lH hc ?_;intro q hq;have hqk:=(eL hq).1;have hkq:=Ne.symm hqk))|(with_reducible first|(refine wN fun _ hnl=>?_;revert hnl;(repeat refine wS fun _ _=>?_);intro hnl)|refine wE ?_|(refine wK ?_ ?_<;>intro h)|(refine wB ?_ ?_<;>intro h<;>simp only[h]))|simp(maxSteps:=4000000) (disch:=first|exact ddL|fail) only[go_sem,simprocAttr,Tryz.f153])
 all_goals (try (exfalso;omega))
 exact⟨St.none.set q (.row 94 2 [(GR.mk no [id]).c]),St.aD (St.none_le _) (aF _ _ _),St.none_le _,fun k o hk=>hk.elim,xX (View.vecAll (aF _ _ _) rfl)⟩
theorem BQ(no id:Int)(h1:1≤id)(h2:id<1073741824)(h3:0≤no)(h4:no<16):aA Tryz.prog 117 [.lst 2 [(GR.mk no []).c] false,.int .i64 no,.int .i64 id] St.none (fun r _=>r=.tup [.lst 2 [(GR.mk no [id]).c] false,.int .i64 0]):=by
 refine aA.cI (aA.body 15 [.tmp 6,.tmp 7] Tryz.func117 rfl rfl rfl rfl ?_)
 have h:=fun k=>zX no id k h1 h2 h3 h4
 repeat' (first|(refine eU (h _) ?_)|(with_reducible first|(refine wN fun _ hnl=>?_;revert hnl;(repeat refine wS fun _ _=>?_);intro hnl)|refine wE ?_|(refine wK ?_ ?_<;>intro h)|(refine wB ?_ ?_<;>intro h<;>simp only[h]))|simp(maxSteps:=4000000) (disch:=first|exact ddL|fail) only[go_sem,simprocAttr,Tryz.f117])
 all_goals first|exact⟨_,St.le_refl _,rfl⟩|exact⟨_,St.le_refl _⟩
theorem BJ{sq:Int}(l b:Nat)(g:Int)(h0:0≤sq)(h1:sq≤1099511627776)(h3:0≤g)(h4:g<16) :
  aA Tryz.prog 75 [.ptr b 0 0,.agg (ED.mk 4 0 g pa0).c] (St.none.set b (bV sq l (.lst 2 [] false))) (fun v σ'=>v=.tup [.lst 2 (fF sq [0]) false,.int .i64 0]∧σ'=St.none.set b (bV (sq+1) l (.lst 2 [(GR.mk g []).c] false))):=by
 refine aA.less (Q':=fun v σ'=>v=.tup [.lst 2 (fF sq [0]) false,.int .i64 0]∧(St.none.set b (bV (sq+1) l (.lst 2 [(GR.mk g []).c] false))).le σ') (aA.body 25 [.tmp 4,.tmp 5] Tryz.func75 rfl rfl rfl rfl ?_) fun v σ' h=>⟨_,h.2,h.1,rfl⟩
 have ho:=BU g h3 h4 false
 have hr:=fun {p:Nat} (hp:b≠p)=>nR l (.lst 2 [] false) hp [(GR.mk g []).c] 0 h0 h1
 obtain⟨C,c1⟩:∃C:b9,∀ms,C 114 ms=some ⟨[],fun v=>v=.tup [.lst 2 [(GR.mk g []).c] false,.int .i64 0],none⟩:=⟨AH 114 (.tup [.lst 2 [(GR.mk g []).c] false,.int .i64 0]),fun _=>kB⟩
 repeat' (first|((with_reducible refine aZ mixed ?chk C ?_);(case chk=>decide +kernel))|(with_reducible refine aW (c1 _) ho ?_)|(with_reducible first|(refine wT ?_;(first|((fail_if_success (have:=nl1));refine wN fun nl1 hnl=>?_)|((fail_if_success (have:=nl2));refine wN fun nl2 hnl=>?_)|refine wN fun _ hnl=>?_);revert hnl;(repeat refine wS fun _ _=>?_);intro hnl)|refine wE ?_|(refine wK ?_ ?_<;>intro h)|(refine wB ?_ ?_<;>intro h<;>simp only[h]))|simp(maxSteps:=4000000) (disch:=first|exact ddL|fail) only[go_sem,simprocAttr,Tryz.f75,FXs])
 have n1:b≠nl2:=by assumption
 refine uT n1 (aF _ _ _) (by simp[St.set, *]) (hr n1) ?_
 repeat' (first|(with_reducible first|(refine wT ?_;(first|((fail_if_success (have:=nl1));refine wN fun nl1 hnl=>?_)|((fail_if_success (have:=nl2));refine wN fun nl2 hnl=>?_)|refine wN fun _ hnl=>?_);revert hnl;(repeat refine wS fun _ _=>?_);intro hnl)|refine wE ?_|(refine wK ?_ ?_<;>intro h)|(refine wB ?_ ?_<;>intro h<;>simp only[h]))|simp(maxSteps:=4000000) (disch:=first|exact ddL|fail) only[go_sem,simprocAttr])
 exact St.aD (St.none_le _) (by simp[St.set,St.del, *])
theorem BI{nx sq:Int}{m l q b:Nat}(D:jP m l q b)(cs:List CA)(ds:List DE)(hd:ds.length≤1000000)(no id:Int)(hid:∃c,c∈cs∧c.id=id)(h0:0≤sq)(h1:sq≤1099511627776)(h2:1≤id)(h5:id<1073741824)(h3:0≤no)(h4:no<16) :
  aA Tryz.prog 77 [.ptr b 0 0,.agg (ED.mk 6 id no pa0).c] (bkS m l q b ⟨sq,nx,cs,ds,[⟨no,[]⟩]⟩ []) (fun v σ'=>v=.tup [.lst 2 (fF sq [id]) false,.int .i64 0]∧σ'=bkS m l q b ⟨sq+1,nx,cs,ds,[⟨no,[id]⟩]⟩ []):=by
 refine aA.less (Q':=fun v σ'=>v=.tup [.lst 2 (fF sq [id]) false,.int .i64 0]∧(bkS m l q b ⟨sq+1,nx,cs,ds,[⟨no,[id]⟩]⟩ []).le σ') ?_ fun v σ' h=>⟨_,h.2,h.1,rfl⟩
 simp only[bkS,shS,List.append_nil]
 refine(aA.body 44 [.tmp 4,.tmp 5] Tryz.func77 rfl rfl rfl rfl ?_)
 have hg:=uH nx D.lm D.qm D.ql cs ds hd [] id
 obtain⟨c,hc⟩:∃c,sS cs ds id=(c,0):=by
  unfold sS
  cases hf:cs.find? (fun c=>decide (c.id=id)) with
  | some c=>exact⟨c,rfl⟩
  | none =>
   obtain⟨c,h1,h2⟩:=hid
   have:=List.find?_eq_none.1 hf c h1
   simp[h2] at this
 rw[hc] at hg
 simp only[shS,List.append_nil] at hg
 have hg:aA Tryz.prog 80 [.ptr l 0 0,.int .i64 id] (St.ofList [q,l,m] [.row 90 3 (ds.map DE.c),shO nx m (.vec 3 q 0 ds.length),.mp (cEs cs)]) (fun v σ'=>v=.tup [.agg c.c,.int .i64 0]∧σ'=St.ofList [q,l,m] [.row 90 3 (ds.map DE.c),shO nx m (.vec 3 q 0 ds.length),.mp (cEs cs)]):=hg
 have hj:=BQ no id h2 h5 h3 h4
 have hr:=fun {p:Nat} (hp:b≠p)=>nR (sq:=sq) l (.lst 2 [(GR.mk no []).c] false) hp [(GR.mk no [id]).c] id h0 h1
 obtain⟨d1,d2,d3,d4,d5,d6⟩:=D
 have e1:=Ne.symm d1
 have e2:=Ne.symm d2
 have e3:=Ne.symm d3
 have e4:=Ne.symm d4
 have e5:=Ne.symm d5
 have e6:=Ne.symm d6
 obtain⟨C,c1,c2⟩:∃C:b9,(∀ms,C 80 ms=some ⟨[q,l,m],fun v=>v=.tup [.agg c.c,.int .i64 0],none⟩)∧∀ms,C 117 ms=some ⟨[],fun v=>v=.tup [.lst 2 [(GR.mk no [id]).c] false,.int .i64 0],none⟩ :=
  ⟨fnF [(80,⟨[q,l,m],fun v=>v=.tup [.agg c.c,.int .i64 0],none⟩),(117,⟨[],fun v=>v=.tup [.lst 2 [(GR.mk no [id]).c] false,.int .i64 0],none⟩)],fun _=>gZ,fun _=>AI gZ⟩
 repeat' (first|((with_reducible refine aZ mixed ?chk C ?_);(case chk=>decide +kernel))|(refine KW [q,l,m] [.row 90 3 (ds.map DE.c),shO nx m (.vec 3 q 0 ds.length),.mp (cEs cs)] (c1 _) (by simp[St.set, *]) hg ?_)|(with_reducible refine aW (c2 _) hj ?_)|(with_reducible first|(refine wT ?_;(first|((fail_if_success (have:=nl1));refine wN fun nl1 hnl=>?_)|((fail_if_success (have:=nl2));refine wN fun nl2 hnl=>?_)|((fail_if_success (have:=nl3));refine wN fun nl3 hnl=>?_)|refine wN fun _ hnl=>?_);revert hnl;(repeat refine wS fun _ _=>?_);intro hnl)|refine wE ?_|(refine wK ?_ ?_<;>intro h)|(refine wB ?_ ?_<;>intro h<;>simp only[h]))|simp(maxSteps:=4000000) (disch:=first|exact ddL|fail) only[go_sem,simprocAttr,Tryz.f77,FXs,List.append_nil,List.map_cons,List.map_nil])
 have n1:b≠nl3:=by assumption
 refine uT n1 (aF _ _ _) (by simp[St.set, *]) (hr n1) ?_
 repeat' (first|(with_reducible first|(refine wT ?_;(first|((fail_if_success (have:=nl1));refine wN fun nl1 hnl=>?_)|((fail_if_success (have:=nl2));refine wN fun nl2 hnl=>?_)|((fail_if_success (have:=nl3));refine wN fun nl3 hnl=>?_)|refine wN fun _ hnl=>?_);revert hnl;(repeat refine wS fun _ _=>?_);intro hnl)|refine wE ?_|(refine wK ?_ ?_<;>intro h)|(refine wB ?_ ?_<;>intro h<;>simp only[h]))|simp(maxSteps:=4000000) (disch:=first|exact ddL|fail) only[go_sem,simprocAttr])
 exact St.aD (St.aD (St.aD (St.aD (St.none_le _) (by simp[St.set,St.del, *])) (by simp[St.set,St.del, *])) (by simp[St.set,St.del, *])) (by simp[St.set,St.del, *])
end
end Go.Proofs.YtaojijkdamfbnaaGreatDoor
