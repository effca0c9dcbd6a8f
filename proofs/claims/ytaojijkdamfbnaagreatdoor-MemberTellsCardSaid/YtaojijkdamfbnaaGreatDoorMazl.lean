/- Parts of the proof, joined; conditions: those that its theorems name. -/
import Derived.Test.YtaojijkdamfbnaaGreatDoorMazj
import Derived.Test.YtaojijkdamfbnaaGreatDoorMazk
set_option linter.unusedVariables false
set_option linter.unusedSimpArgs false
set_option maxHeartbeats 4000000
namespace Go.Proofs.YtaojijkdamfbnaaGreatDoor
section
set_option maxRecDepth 100000
set_option maxHeartbeats 8000000
theorem Mb{g1:FuncId}{r1:List Nat}{q1:MV→Prop}{x1:List aY × (Nat→MV)}:PlU (.these [g1]) (fnF [(g1,⟨r1,q1,some x1⟩)]):=by
 intro g' ms rd q' x' h
 simp only[fnF] at h
 split at h
 ·rename_i e
  subst e
  exact .inr (List.mem_singleton.2 rfl)
 ·cases h
theorem vL{P:Program}{g:FuncId}{ms:List MV}{σ:St}{p b:Nat}{op ob ob':aY}{r:MV}{k:MV→St→Prop}(hbp:b≠p)(hp:σ p=some op)(hb:σ b=some ob)
 (h:aA P g ms ((St.none.set p op).set b ob) fun v σ'=>v=r∧σ'=St.none.set b ob')(hk:R (bR r ((σ.del p).set b ob') k)):R (dA P g ms σ k) :=
 cE h (St.aG (St.aG (St.none_le _) hp) hb) fun v σ' hv _=>by
  obtain⟨rfl,rfl⟩:=hv
  have e:(St.none.set b ob').over (σ.minus ((St.none.set p op).set b ob))=(σ.del p).set b ob':=by
   funext j
   by_cases h1:j=b
   ·subst h1;simp[St.over,St.set]
   ·by_cases h2:j=p
    ·subst h2;simp[St.over,St.set,St.none,St.minus,St.del,h1]
    ·simp[St.over,St.set,St.none,St.minus,St.del,h1,h2]
  rw[e];exact hk
theorem oG{sq:Int}(l:Nat)(g:MV){b p:Nat}(hbp:b≠p)(G:List (List MV))(x:Int)(h0:0≤sq)(h1:sq≤1099511627776) :
  aA Tryz.prog 112 [.ptr b 0 0,.lst 2 G false,.int .i64 0,.vec 1 p 0 1] ((St.none.set p (.row 3 1 [aS x])).set b (bJ sq l g)) (fun v σ'=>v=.tup [.lst 2 (fN sq [x]) false,.int .i64 0]∧σ'=St.none.set b (bJ (sq+1) l (.lst 2 G false))):=by
 refine(aA.body 20 [.tmp 8,.tmp 9] Tryz.func112 rfl rfl rfl rfl ?_)
 have h:=rV l (.lst 2 G false) hbp [x] h0 h1 (by simp)
 simp only[List.map_cons,List.map_nil,List.length_cons,List.length_nil] at h
 have hpb:=Ne.symm hbp
 repeat' (first|(refine fG h ?_)|(with_reducible first|(refine wN fun _ hnl=>?_;revert hnl;(repeat refine wS fun _ _=>?_);intro hnl)|refine wE ?_|(refine wK ?_ ?_<;>intro h)|(refine wB ?_ ?_<;>intro h<;>simp only[h]))|simp(maxSteps:=4000000) (disch:=first|exact ddL|fail) only[go_sem,simprocAttr,Tryz.f112])
theorem An{nx sq:Int}{m l b:Nat}(hlm:l≠m)(hbm:b≠m)(hbl:b≠l)(D g:MV)(cs:List CA)(p:PA)(hp:dO p=0)(hn:cs.length<48)(hx0:0≤nx)(hx:nx<1073741824)(hnew:nx∉cs.map CA.id)(h0:0≤sq)(h1:sq≤1099511627776) :
  aA Tryz.prog 72 [.ptr b 0 0,.agg (ED.mk 1 0 0 p).c] (((St.none.set m (.mp (cEs cs))).set l (shO nx m D)).set b (bJ sq l g)) (fun v σ'=>v=.tup [.lst 2 (fN sq [nx]) false,.int .i64 0]∧σ'=((St.none.set m (.mp (cEs (cs++[cR nx p])))).set l (shO (nx+1) m D)).set b (bJ (sq+1) l g)):=by
 refine aA.less (Q':=fun v σ'=>v=.tup [.lst 2 (fN sq [nx]) false,.int .i64 0]∧(((St.none.set m (.mp (cEs (cs++[cR nx p])))).set l (shO (nx+1) m D)).set b (bJ (sq+1) l g)).le σ') (aA.body 26 [.tmp 4,.tmp 5] Tryz.func72 rfl rfl rfl rfl ?_) fun v σ' h=>⟨_,h.2,h.1,rfl⟩
 have hadd:=HK hlm D cs p hp hn hx0 hx hnew
 have hml:=Ne.symm hlm
 have hmb:=Ne.symm hbm
 have hlb:=Ne.symm hbl
 have hst:=fun {k:Nat} (hk:b≠k)=>rV (sq:=sq) l g hk [(cR nx p).id] h0 h1 (by simp)
 simp only[List.map_cons,List.map_nil,List.length_cons,List.length_nil] at hst
 have hid:(cR nx p).id=nx:=rfl
 obtain⟨c,hc⟩:∃c,cR nx p=c:=⟨_,rfl⟩
 rw[hc] at hadd hid ⊢
 simp only[hc] at hst
 obtain⟨K,hK,c1⟩:∃K:bT,PlU (.these [108]) K∧∀ms,K 108 ms=some ⟨[l,m],fun _=>True,some ([shO (nx+1) m D,.mp (cEs (cs++[c]))],fun _=>.tup [.agg c.c,.int .i64 0])⟩ :=
  ⟨fnF [(108,⟨[l,m],fun _=>True,some ([shO (nx+1) m D,.mp (cEs (cs++[c]))],fun _=>.tup [.agg c.c,.int .i64 0])⟩)],Mb,fun _=>bN⟩
 have hadd':aA Tryz.prog 108 [.ptr l 0 0,.agg p.c] (St.ofList [l,m] [shO nx m D,.mp (cEs cs)]) (fun v σ'=>v=.tup [.agg c.c,.int .i64 0]∧σ'=((St.ofList [l,m] [shO nx m D,.mp (cEs cs)]).set m (.mp (cEs (cs++[c])))).set l (shO (nx+1) m D)):=hadd.mono (by
  rintro v σ' ⟨h1,rfl⟩
  refine⟨h1,funext fun j=>?_⟩
  by_cases h1:j=l
  ·subst h1;simp[St.set]
  ·by_cases h2:j=m
   ·subst h2;simp[St.set,h1]
   ·simp[St.ofList,St.set,h1,h2])
 repeat' (first|(refine eY mixed [108] (by decide +kernel) K hK ?_)|(refine Bm (os:=[shO nx m D,.mp (cEs cs)]) (c1 _) (by simp[St.set, *]) hadd' ?_)|(with_reducible first|(refine wT ?_;(first|((fail_if_success (have:=nl1));refine wN fun nl1 hnl=>?_)|((fail_if_success (have:=nl2));refine wN fun nl2 hnl=>?_)|((fail_if_success (have:=nl3));refine wN fun nl3 hnl=>?_)|refine wN fun _ hnl=>?_);revert hnl;(repeat refine wS fun _ _=>?_);intro hnl)|refine wE ?_|(refine wK ?_ ?_<;>intro h)|(refine wB ?_ ?_<;>intro h<;>simp only[h]))|simp(maxSteps:=4000000) (disch:=first|exact ddL|fail) only[go_sem,simprocAttr,Tryz.f72,FXs])
 have n1:b≠nl3:=by assumption
 refine vL n1 (aK _ _ _) (by simp[St.set, *]) (hst n1) ?_
 repeat' (first|(with_reducible first|(refine wT ?_;(first|((fail_if_success (have:=nl1));refine wN fun nl1 hnl=>?_)|((fail_if_success (have:=nl2));refine wN fun nl2 hnl=>?_)|((fail_if_success (have:=nl3));refine wN fun nl3 hnl=>?_)|refine wN fun _ hnl=>?_);revert hnl;(repeat refine wS fun _ _=>?_);intro hnl)|refine wE ?_|(refine wK ?_ ?_<;>intro h)|(refine wB ?_ ?_<;>intro h<;>simp only[h]))|simp(maxSteps:=4000000) (disch:=first|exact ddL|fail) only[go_sem,simprocAttr])
 refine⟨by rw[hid],St.aG (St.aG (St.aG (St.none_le _) ?_) ?_) ?_⟩
 all_goals simp[St.set,St.del, *]
end

section
set_option maxRecDepth 100000
set_option maxHeartbeats 8000000
theorem Ao(id:Int)(k:Nat)(h1:1≤id)(h2:id<1073741824):aA Tryz.prog 154 [.lst 1 [] false,.ptr k 0 0] (St.none.set k (.row 3 1 [[.int .i64 id]])) (fun r σ'=>r=.tup [.lst 1 [aS id] false,.int .i64 0]∧σ'=St.none.set k (.row 3 1 [[.int .i64 id]])):=by
 refine(aA.body 11 [.tmp 3,.tmp 4] Tryz.func154 rfl rfl rfl rfl ?_)
 have hh:=rT [] (Nat.zero_le _) List.Pairwise.nil id false
 have hp:=Eu id h1 h2 false
 simp only[List.map_nil,List.not_mem_nil,decide_false] at hh
 repeat' (first|(refine aL hh ?_)|(refine aL hp ?_)|(with_reducible first|(refine wN fun _ hnl=>?_;revert hnl;(repeat refine wS fun _ _=>?_);intro hnl)|refine wE ?_|(refine wK ?_ ?_<;>intro h)|(refine wB ?_ ?_<;>intro h<;>simp only[h]))|simp(maxSteps:=4000000) (disch:=first|exact ddL|fail) only[go_sem,simprocAttr,Tryz.f154])
 all_goals exact⟨rfl,rfl⟩
theorem Av(no id:Int)(k:Nat)(h1:1≤id)(h2:id<1073741824)(h3:0≤no)(h4:no<16):aA Tryz.prog 153 [.lst 2 [(GR.mk no []).c] false,.int .i64 no,.int .i64 id,.fn (.func 154) [] [.ptr k 0 0]] (St.none.set k (.row 3 1 [[.int .i64 id]])) (fun r σ'=>r=.tup [.lst 2 [(GR.mk no [id]).c] false,.int .i64 0]∧σ'=St.none):=by
 refine aA.FM (aA.body 58 [.tmp 8,.tmp 9] Tryz.func153 rfl rfl rfl rfl ?_)
 have hf:=uO [GR.mk no []] (by simp) (List.pairwise_singleton _ _) no false
 have hb:k9 [no] no=0:=by simp[k9]
 have hm:decide (no∈[no])=true:=by simp
 simp only[List.map_cons,List.map_nil,hb,hm] at hf
 have hj:=Ao id k h1 h2
 have hc:=Am (GR.mk no []) [] (by simp) (by simp) false
 simp only[List.map_cons,List.map_nil,List.length_nil] at hc
 repeat' (first|(refine aL hf ?_)|(refine fG hj ?_)|((refine qD hc ?_;intro q hq;have hqk:=(eU hq).1;have hkq:=Ne.symm hqk))|(with_reducible first|(refine wN fun _ hnl=>?_;revert hnl;(repeat refine wS fun _ _=>?_);intro hnl)|refine wE ?_|(refine wK ?_ ?_<;>intro h)|(refine wB ?_ ?_<;>intro h<;>simp only[h]))|simp(maxSteps:=4000000) (disch:=first|exact ddL|fail) only[go_sem,simprocAttr,Tryz.f153])
 all_goals (try (exfalso;omega))
 exact⟨St.none.set q (.row 94 2 [(GR.mk no [id]).c]),St.aG (St.none_le _) (aK _ _ _),St.none_le _,fun k o hk=>hk.elim,yR (View.vecAll (aK _ _ _) rfl)⟩
theorem Cf(no id:Int)(h1:1≤id)(h2:id<1073741824)(h3:0≤no)(h4:no<16):aA Tryz.prog 117 [.lst 2 [(GR.mk no []).c] false,.int .i64 no,.int .i64 id] St.none (fun r _=>r=.tup [.lst 2 [(GR.mk no [id]).c] false,.int .i64 0]):=by
 refine aA.cD (aA.body 15 [.tmp 6,.tmp 7] Tryz.func117 rfl rfl rfl rfl ?_)
 have h:=fun k=>Av no id k h1 h2 h3 h4
 repeat' (first|(refine fG (h _) ?_)|(with_reducible first|(refine wN fun _ hnl=>?_;revert hnl;(repeat refine wS fun _ _=>?_);intro hnl)|refine wE ?_|(refine wK ?_ ?_<;>intro h)|(refine wB ?_ ?_<;>intro h<;>simp only[h]))|simp(maxSteps:=4000000) (disch:=first|exact ddL|fail) only[go_sem,simprocAttr,Tryz.f117])
 all_goals first|exact⟨_,St.le_refl _,rfl⟩|exact⟨_,St.le_refl _⟩
theorem B8{sq:Int}(l b:Nat)(g:Int)(h0:0≤sq)(h1:sq≤1099511627776)(h3:0≤g)(h4:g<16) :
  aA Tryz.prog 75 [.ptr b 0 0,.agg (ED.mk 4 0 g pa0).c] (St.none.set b (bJ sq l (.lst 2 [] false))) (fun v σ'=>v=.tup [.lst 2 (fN sq [0]) false,.int .i64 0]∧σ'=St.none.set b (bJ (sq+1) l (.lst 2 [(GR.mk g []).c] false))):=by
 refine aA.less (Q':=fun v σ'=>v=.tup [.lst 2 (fN sq [0]) false,.int .i64 0]∧(St.none.set b (bJ (sq+1) l (.lst 2 [(GR.mk g []).c] false))).le σ') (aA.body 25 [.tmp 4,.tmp 5] Tryz.func75 rfl rfl rfl rfl ?_) fun v σ' h=>⟨_,h.2,h.1,rfl⟩
 have ho:=Ck g h3 h4 false
 have hr:=fun {p:Nat} (hp:b≠p)=>oG l (.lst 2 [] false) hp [(GR.mk g []).c] 0 h0 h1
 obtain⟨C,c1⟩:∃C:bT,∀ms,C 114 ms=some ⟨[],fun v=>v=.tup [.lst 2 [(GR.mk g []).c] false,.int .i64 0],none⟩:=⟨zG 114 (.tup [.lst 2 [(GR.mk g []).c] false,.int .i64 0]),fun _=>jS⟩
 repeat' (first|((with_reducible refine aT mixed ?chk C ?_);(case chk=>decide +kernel))|(with_reducible refine aP (c1 _) ho ?_)|(with_reducible first|(refine wT ?_;(first|((fail_if_success (have:=nl1));refine wN fun nl1 hnl=>?_)|((fail_if_success (have:=nl2));refine wN fun nl2 hnl=>?_)|refine wN fun _ hnl=>?_);revert hnl;(repeat refine wS fun _ _=>?_);intro hnl)|refine wE ?_|(refine wK ?_ ?_<;>intro h)|(refine wB ?_ ?_<;>intro h<;>simp only[h]))|simp(maxSteps:=4000000) (disch:=first|exact ddL|fail) only[go_sem,simprocAttr,Tryz.f75,FXs])
 have n1:b≠nl2:=by assumption
 refine vL n1 (aK _ _ _) (by simp[St.set, *]) (hr n1) ?_
 repeat' (first|(with_reducible first|(refine wT ?_;(first|((fail_if_success (have:=nl1));refine wN fun nl1 hnl=>?_)|((fail_if_success (have:=nl2));refine wN fun nl2 hnl=>?_)|refine wN fun _ hnl=>?_);revert hnl;(repeat refine wS fun _ _=>?_);intro hnl)|refine wE ?_|(refine wK ?_ ?_<;>intro h)|(refine wB ?_ ?_<;>intro h<;>simp only[h]))|simp(maxSteps:=4000000) (disch:=first|exact ddL|fail) only[go_sem,simprocAttr])
 exact St.aG (St.none_le _) (by simp[St.set,St.del, *])
theorem B7{nx sq:Int}{m l q b:Nat}(D:iT m l q b)(cs:List CA)(ds:List DE)(hd:ds.length≤1000000)(no id:Int)(hid:∃c,c∈cs∧c.id=id)(h0:0≤sq)(h1:sq≤1099511627776)(h2:1≤id)(h5:id<1073741824)(h3:0≤no)(h4:no<16) :
  aA Tryz.prog 77 [.ptr b 0 0,.agg (ED.mk 6 id no pa0).c] (bkS m l q b ⟨sq,nx,cs,ds,[⟨no,[]⟩]⟩ []) (fun v σ'=>v=.tup [.lst 2 (fN sq [id]) false,.int .i64 0]∧σ'=bkS m l q b ⟨sq+1,nx,cs,ds,[⟨no,[id]⟩]⟩ []):=by
 refine aA.less (Q':=fun v σ'=>v=.tup [.lst 2 (fN sq [id]) false,.int .i64 0]∧(bkS m l q b ⟨sq+1,nx,cs,ds,[⟨no,[id]⟩]⟩ []).le σ') ?_ fun v σ' h=>⟨_,h.2,h.1,rfl⟩
 simp only[bkS,shS,List.append_nil]
 refine(aA.body 44 [.tmp 4,.tmp 5] Tryz.func77 rfl rfl rfl rfl ?_)
 have hg:=o6 nx D.lm D.qm D.ql cs ds hd [] id
 obtain⟨c,hc⟩:∃c,gH cs ds id=(c,0):=by
  unfold gH
  cases hf:cs.find? (fun c=>decide (c.id=id)) with
  | some c=>exact⟨c,rfl⟩
  | none =>
   obtain⟨c,h1,h2⟩:=hid
   have:=List.find?_eq_none.1 hf c h1
   simp[h2] at this
 rw[hc] at hg
 simp only[shS,List.append_nil] at hg
 have hg:aA Tryz.prog 80 [.ptr l 0 0,.int .i64 id] (St.ofList [q,l,m] [.row 90 3 (ds.map DE.c),shO nx m (.vec 3 q 0 ds.length),.mp (cEs cs)]) (fun v σ'=>v=.tup [.agg c.c,.int .i64 0]∧σ'=St.ofList [q,l,m] [.row 90 3 (ds.map DE.c),shO nx m (.vec 3 q 0 ds.length),.mp (cEs cs)]):=hg
 have hj:=Cf no id h2 h5 h3 h4
 have hr:=fun {p:Nat} (hp:b≠p)=>oG (sq:=sq) l (.lst 2 [(GR.mk no []).c] false) hp [(GR.mk no [id]).c] id h0 h1
 obtain⟨d1,d2,d3,d4,d5,d6⟩:=D
 have e1:=Ne.symm d1
 have e2:=Ne.symm d2
 have e3:=Ne.symm d3
 have e4:=Ne.symm d4
 have e5:=Ne.symm d5
 have e6:=Ne.symm d6
 obtain⟨C,c1,c2⟩:∃C:bT,(∀ms,C 80 ms=some ⟨[q,l,m],fun v=>v=.tup [.agg c.c,.int .i64 0],none⟩)∧∀ms,C 117 ms=some ⟨[],fun v=>v=.tup [.lst 2 [(GR.mk no [id]).c] false,.int .i64 0],none⟩ :=
  ⟨fnF [(80,⟨[q,l,m],fun v=>v=.tup [.agg c.c,.int .i64 0],none⟩),(117,⟨[],fun v=>v=.tup [.lst 2 [(GR.mk no [id]).c] false,.int .i64 0],none⟩)],fun _=>bN,fun _=>bE bN⟩
 repeat' (first|((with_reducible refine aT mixed ?chk C ?_);(case chk=>decide +kernel))|(refine Fs [q,l,m] [.row 90 3 (ds.map DE.c),shO nx m (.vec 3 q 0 ds.length),.mp (cEs cs)] (c1 _) (by simp[St.set, *]) hg ?_)|(with_reducible refine aP (c2 _) hj ?_)|(with_reducible first|(refine wT ?_;(first|((fail_if_success (have:=nl1));refine wN fun nl1 hnl=>?_)|((fail_if_success (have:=nl2));refine wN fun nl2 hnl=>?_)|((fail_if_success (have:=nl3));refine wN fun nl3 hnl=>?_)|refine wN fun _ hnl=>?_);revert hnl;(repeat refine wS fun _ _=>?_);intro hnl)|refine wE ?_|(refine wK ?_ ?_<;>intro h)|(refine wB ?_ ?_<;>intro h<;>simp only[h]))|simp(maxSteps:=4000000) (disch:=first|exact ddL|fail) only[go_sem,simprocAttr,Tryz.f77,FXs,List.append_nil,List.map_cons,List.map_nil])
 have n1:b≠nl3:=by assumption
 refine vL n1 (aK _ _ _) (by simp[St.set, *]) (hr n1) ?_
 repeat' (first|(with_reducible first|(refine wT ?_;(first|((fail_if_success (have:=nl1));refine wN fun nl1 hnl=>?_)|((fail_if_success (have:=nl2));refine wN fun nl2 hnl=>?_)|((fail_if_success (have:=nl3));refine wN fun nl3 hnl=>?_)|refine wN fun _ hnl=>?_);revert hnl;(repeat refine wS fun _ _=>?_);intro hnl)|refine wE ?_|(refine wK ?_ ?_<;>intro h)|(refine wB ?_ ?_<;>intro h<;>simp only[h]))|simp(maxSteps:=4000000) (disch:=first|exact ddL|fail) only[go_sem,simprocAttr])
 exact St.aG (St.aG (St.aG (St.aG (St.none_le _) (by simp[St.set,St.del, *])) (by simp[St.set,St.del, *])) (by simp[St.set,St.del, *])) (by simp[St.set,St.del, *])
end

section
set_option maxRecDepth 100000
set_option maxHeartbeats 8000000
theorem aA.xH{P:Program}{g:FuncId}{ms:List MV}{τ τ1:St}{n:Nat}{o:aY}{r:MV}(hn:τ n=none)(h1:τ1 n=none)(h:aA P g ms τ fun v σ'=>v=r∧σ'=τ1):aA P g ms (τ.set n o) fun v σ'=>v=r∧σ'=τ1.set n o :=
 (h.frame (St.oQ (St.le_refl _) hn)).mono (by
  rintro v σ1 ⟨σ',⟨hv,rfl⟩,rfl,-⟩
  refine⟨hv,funext fun j=>?_⟩
  by_cases hj:j=n
  ·subst hj;simp[St.over,St.minus,St.set,hn,h1]
  ·simp only[St.over,St.minus,St.set,if_neg hj]
   cases σ' j with
   | some o=>rfl
   | none=>cases τ j<;>rfl)
theorem HM{nx sq:Int}{m l b:Nat}(hlm:l≠m)(hbm:b≠m)(hbl:b≠l)(D g:MV)(cs:List CA)(p:PA)(hp:dO p=0)(hn:cs.length<48)(hx0:0≤nx)(hx:nx<1073741824)(hnew:nx∉cs.map CA.id)(h0:0≤sq)(h1:sq≤1000000000000) :
  aA Tryz.prog 39 [.ptr b 0 0,.agg (ED.mk 1 0 0 p).c] (((St.none.set m (.mp (cEs cs))).set l (shO nx m D)).set b (bJ sq l g)) (fun v σ'=>v=.tup [.lst 2 (fN sq [nx]) false,.int .i64 0]∧σ'=((St.none.set m (.mp (cEs (cs++[cR nx p])))).set l (shO (nx+1) m D)).set b (bJ (sq+1) l g)):=by
 refine aA.less (Q':=fun v σ'=>v=.tup [.lst 2 (fN sq [nx]) false,.int .i64 0]∧(((St.none.set m (.mp (cEs (cs++[cR nx p])))).set l (shO (nx+1) m D)).set b (bJ (sq+1) l g)).le σ') (aA.body 31 [.tmp 4,.tmp 5] Tryz.func39 rfl rfl rfl rfl ?_) fun v σ' h=>⟨_,h.2,h.1,rfl⟩
 have hck:=lQ (ED.mk 1 0 0 p)
 have he:gD (ED.mk 1 0 0 p)=0:=by
  unfold gD
  simp[edG,edI,edP,hp]
 rw[he] at hck
 have hcr:=An hlm hbm hbl D g cs p hp hn hx0 hx hnew h0 (by omega)
 have hml:=Ne.symm hlm
 have hmb:=Ne.symm hbm
 have hlb:=Ne.symm hbl
 generalize fN sq [nx]=R1 at hcr ⊢
 obtain⟨c,hc⟩:∃c,cR nx p=c:=⟨_,rfl⟩
 rw[hc] at hcr ⊢
 repeat' (first|(refine aL hck ?_)|(refine eH mixed (fun _ _=>none) [_,_,_,_,_,_,_] [_,_,_,_] rfl (by decide +kernel) ?_)|(with_reducible first|(refine wN fun _ hnl=>?_;revert hnl;(repeat refine wS fun _ _=>?_);intro hnl)|refine wE ?_|(refine wK ?_ ?_<;>intro h)|(refine wB ?_ ?_<;>intro h<;>simp only[h]))|simp(maxSteps:=4000000) (disch:=first|exact ddL|fail) only[go_sem,simprocAttr,Tryz.f39,FXs])
 all_goals (try (exfalso;omega))
 refine fG (aA.xH (by simp[St.set,St.none, *]) (by simp[St.set,St.none, *]) (aA.xH (by simp[St.set,St.none, *]) (by simp[St.set,St.none, *]) hcr)) ?_
 repeat' (first|(with_reducible first|(refine wN fun _ hnl=>?_;revert hnl;(repeat refine wS fun _ _=>?_);intro hnl)|refine wE ?_|(refine wK ?_ ?_<;>intro h)|(refine wB ?_ ?_<;>intro h<;>simp only[h]))|simp(maxSteps:=4000000) (disch:=first|exact ddL|fail) only[go_sem,simprocAttr])
 exact St.oQ (St.oQ (St.le_refl _) (by simp[St.set,St.none, *])) (by simp[St.set,St.none, *])
theorem HN{sq:Int}(l b:Nat)(g:Int)(h0:0≤sq)(h1:sq≤1000000000000)(h3:0≤g)(h4:g<16) :
  aA Tryz.prog 39 [.ptr b 0 0,.agg (ED.mk 4 0 g pa0).c] (St.none.set b (bJ sq l (.lst 2 [] false))) (fun v σ'=>v=.tup [.lst 2 (fN sq [0]) false,.int .i64 0]∧σ'=St.none.set b (bJ (sq+1) l (.lst 2 [(GR.mk g []).c] false))):=by
 refine aA.less (Q':=fun v σ'=>v=.tup [.lst 2 (fN sq [0]) false,.int .i64 0]∧(St.none.set b (bJ (sq+1) l (.lst 2 [(GR.mk g []).c] false))).le σ') (aA.body 31 [.tmp 4,.tmp 5] Tryz.func39 rfl rfl rfl rfl ?_) fun v σ' h=>⟨_,h.2,h.1,rfl⟩
 have hck:=lQ (ED.mk 4 0 g pa0)
 have he:gD (ED.mk 4 0 g pa0)=0:=by
  unfold gD
  simp[edG,edI,edP]
  omega
 rw[he] at hck
 have hcr:=B8 l b g h0 (by omega) h3 h4
 generalize fN sq [0]=R1 at hcr ⊢
 repeat' (first|(refine aL hck ?_)|(refine eH mixed (fun _ _=>none) [_,_,_,_,_,_,_] [_,_,_,_] rfl (by decide +kernel) ?_)|(with_reducible first|(refine wN fun _ hnl=>?_;revert hnl;(repeat refine wS fun _ _=>?_);intro hnl)|refine wE ?_|(refine wK ?_ ?_<;>intro h)|(refine wB ?_ ?_<;>intro h<;>simp only[h]))|simp(maxSteps:=4000000) (disch:=first|exact ddL|fail) only[go_sem,simprocAttr,Tryz.f39,FXs])
 all_goals (try (exfalso;omega))
 refine fG (aA.xH (by simp[St.set,St.none, *]) (by simp[St.set,St.none, *]) (aA.xH (by simp[St.set,St.none, *]) (by simp[St.set,St.none, *]) hcr)) ?_
 repeat' (first|(with_reducible first|(refine wN fun _ hnl=>?_;revert hnl;(repeat refine wS fun _ _=>?_);intro hnl)|refine wE ?_|(refine wK ?_ ?_<;>intro h)|(refine wB ?_ ?_<;>intro h<;>simp only[h]))|simp(maxSteps:=4000000) (disch:=first|exact ddL|fail) only[go_sem,simprocAttr])
 exact St.oQ (St.oQ (St.le_refl _) (by simp[St.set,St.none, *])) (by simp[St.set,St.none, *])
theorem HO{nx sq:Int}{m l q b:Nat}(D:iT m l q b)(cs:List CA)(ds:List DE)(hd:ds.length≤1000000)(no id:Int)(hid:∃c,c∈cs∧c.id=id)(h0:0≤sq)(h1:sq≤1000000000000)(h2:1≤id)(h5:id<1073741824)(h3:0≤no)(h4:no<16) :
  aA Tryz.prog 39 [.ptr b 0 0,.agg (ED.mk 6 id no pa0).c] (bkS m l q b ⟨sq,nx,cs,ds,[⟨no,[]⟩]⟩ []) (fun v σ'=>v=.tup [.lst 2 (fN sq [id]) false,.int .i64 0]∧σ'=bkS m l q b ⟨sq+1,nx,cs,ds,[⟨no,[id]⟩]⟩ []):=by
 refine aA.less (Q':=fun v σ'=>v=.tup [.lst 2 (fN sq [id]) false,.int .i64 0]∧(bkS m l q b ⟨sq+1,nx,cs,ds,[⟨no,[id]⟩]⟩ []).le σ') ?_ fun v σ' h=>⟨_,h.2,h.1,rfl⟩
 have hcr:=B7 (nx:=nx) (sq:=sq) D cs ds hd no id hid h0 (by omega) h2 h5 h3 h4
 simp only[bkS,shS,List.append_nil] at hcr ⊢
 refine(aA.body 31 [.tmp 4,.tmp 5] Tryz.func39 rfl rfl rfl rfl ?_)
 have hck:=lQ (ED.mk 6 id no pa0)
 have he:gD (ED.mk 6 id no pa0)=0:=by
  unfold gD gI
  simp[edG,edI,edP]
  omega
 rw[he] at hck
 obtain⟨d1,d2,d3,d4,d5,d6⟩:=D
 have e1:=Ne.symm d1
 have e2:=Ne.symm d2
 have e3:=Ne.symm d3
 have e4:=Ne.symm d4
 have e5:=Ne.symm d5
 have e6:=Ne.symm d6
 generalize fN sq [id]=R1 at hcr ⊢
 repeat' (first|(refine aL hck ?_)|(refine eH mixed (fun _ _=>none) [_,_,_,_,_,_,_] [_,_,_,_] rfl (by decide +kernel) ?_)|(with_reducible first|(refine wN fun _ hnl=>?_;revert hnl;(repeat refine wS fun _ _=>?_);intro hnl)|refine wE ?_|(refine wK ?_ ?_<;>intro h)|(refine wB ?_ ?_<;>intro h<;>simp only[h]))|simp(maxSteps:=4000000) (disch:=first|exact ddL|fail) only[go_sem,simprocAttr,Tryz.f39,FXs])
 all_goals (try (exfalso;omega))
 refine fG (aA.xH (by simp[St.set,St.none, *]) (by simp[St.set,St.none, *]) (aA.xH (by simp[St.set,St.none, *]) (by simp[St.set,St.none, *]) hcr)) ?_
 repeat' (first|(with_reducible first|(refine wN fun _ hnl=>?_;revert hnl;(repeat refine wS fun _ _=>?_);intro hnl)|refine wE ?_|(refine wK ?_ ?_<;>intro h)|(refine wB ?_ ?_<;>intro h<;>simp only[h]))|simp(maxSteps:=4000000) (disch:=first|exact ddL|fail) only[go_sem,simprocAttr])
 exact St.oQ (St.oQ (St.le_refl _) (by simp[St.set,St.none, *])) (by simp[St.set,St.none, *])
end

section
set_option maxRecDepth 100000
set_option maxHeartbeats 8000000
theorem MD:∀t:T,t.fl≠[]:=fun t=>by cases t<;>simp[T.fl]
theorem KH{x:ND}(h:b9 [x]=0):nD [x]=.leaf x:=by
 have ht:=(sT h).2.1
 cases hc:nD [x] with
 | leaf y=>rw[hc] at ht;simp only[T.fl,List.cons.injEq,and_true] at ht;rw[ht]
 | one y a=>rw[hc] at ht;simp only[T.fl,List.cons.injEq] at ht;exact absurd ht.2 (MD a)
 | two y a b=>rw[hc] at ht;simp only[T.fl,List.cons.injEq,List.append_eq_nil_iff] at ht;exact absurd ht.2.1 (MD a)
theorem vB{x:ND}(h:b9 [x]=0)(gr:List GR)(c:CA):cU gr [x] c=if x.op=1 then true else if x.op=2 then false else bV (mB c) (grB gr c.id) x:=by
 unfold cU
 rw[KH h];rfl
def pa1:PA:=⟨1,0,f80⟩
def ex1:CA:=cR 1 pa1
def ex2:CA:=cR 2 pa1
def exB:BK:=⟨4,3,[ex1,ex2],[],[⟨3,[2]⟩]⟩
theorem M5:BkR exB:=⟨by decide,by decide,by decide,by decide,by decide +kernel,by decide +kernel,by decide,by decide,by decide +kernel⟩
def exN:ND:=⟨4,3,va0⟩
theorem zA:b9 [exN]=0:=by decide +kernel
theorem IM:(shC exB [exN]).map idX=[aS 2]:=by
 have h1:cU exB.gr [exN] ex1=false:=by rw[vB zA];decide +kernel
 have h2:cU exB.gr [exN] ex2=true:=by rw[vB zA];decide +kernel
 have:shC exB [exN]=[ex2]:=by
  unfold shC
  show List.filter _ [ex1,ex2]=_
  simp[h1,h2]
 rw[this];rfl
end

section
set_option maxRecDepth 100000
set_option maxHeartbeats 8000000
theorem KO{P:Program}{g:FuncId}{ms:List MV}{σ τ:St}{b:Nat}{o:aY}{r:MV}{k:MV→St→Prop}(h:aA P g ms τ fun v σ'=>v=r∧σ'=τ.set b o)(hle:τ.le σ)(hk:R (bR r (σ.set b o) k)):R (dA P g ms σ k) :=
 cE h hle fun v σ' hv _=>by
  obtain⟨rfl,rfl⟩:=hv
  rw[bZ,lP hle];exact hk
theorem KP{P:Program}{g:FuncId}{ms:List MV}{σ τ:St}{m l b:Nat}{om ol ob:aY}{r:MV}{k:MV→St→Prop}(h:aA P g ms τ fun v σ'=>v=r∧σ'=((τ.set m om).set l ol).set b ob)(hle:τ.le σ)(hk:R (bR r (((σ.set m om).set l ol).set b ob) k)):R (dA P g ms σ k) :=
 cE h hle fun v σ' hv _=>by
  obtain⟨rfl,rfl⟩:=hv
  rw[bZ,bZ,bZ,lP hle];exact hk
abbrev mlb(m l b:Nat)(om ol ob:aY):St:=((St.none.set m om).set l ol).set b ob
theorem Nn{m l b:Nat}{om ol ob om' ol' ob':aY}:mlb m l b om' ol' ob'=(((mlb m l b om ol ob).set m om').set l ol').set b ob':=by
 funext j
 by_cases h1:j=b
 ·simp[St.set,h1]
 ·by_cases h2:j=l
  ·simp[St.set,h1,h2]
  ·by_cases h3:j=m<;>simp[St.set,h1,h2,h3]
def exE:ED:=⟨1,0,0,pa1⟩
theorem Oa:exE.c=.int .i64 1::.int .i64 0::.int .i64 0::.int .u32 1::.int .u32 0::fc f80:=rfl
theorem MB{nx sq:Int}{m l b:Nat}(hlm:l≠m)(hbm:b≠m)(hbl:b≠l)(D g:MV)(cs:List CA)(hn:cs.length<48)(hx0:0≤nx)(hx:nx<1073741824)(hnew:nx∉cs.map CA.id)(h0:0≤sq)(h1:sq≤1000000000000) :
  aA Tryz.prog 39 [.ptr b 0 0,.agg (.int .i64 1::.int .i64 0::.int .i64 0::.int .u32 1::.int .u32 0::fc f80)] (mlb m l b (.mp (cEs cs)) (shO nx m D) (bJ sq l g)) (fun v σ'=>v=.tup [.lst 2 (fN sq [nx]) false,.int .i64 0]∧σ'=(((mlb m l b (.mp (cEs cs)) (shO nx m D) (bJ sq l g)).set m (.mp (cEs (cs++[cR nx pa1])))).set l (shO (nx+1) m D)).set b (bJ (sq+1) l g)):=by
 rw[←Oa]
 refine(HM hlm hbm hbl D g cs pa1 (by decide +kernel) hn hx0 hx hnew h0 h1).mono ?_
 rintro v σ' ⟨q1,q2⟩
 exact⟨q1,q2.trans Nn⟩
theorem JF{σ:St}{m l b:Nat}{om ol ob:aY}(hm:σ m=some om)(hl:σ l=some ol)(hb:σ b=some ob):(mlb m l b om ol ob).le σ:=St.aG (St.aG (St.aG (St.none_le _) hm) hl) hb
theorem Lc{sq:Int}(l b:Nat)(h0:0≤sq)(h1:sq≤1000000000000):aA Tryz.prog 39 [.ptr b 0 0,.agg (.int .i64 4::.int .i64 0::.int .i64 3::.int .u32 0::.int .u32 0::fc f80)] (St.none.set b (bJ sq l (.lst 2 [] false))) (fun v σ'=>v=.tup [.lst 2 (fN sq [0]) false,.int .i64 0]∧σ'=(St.none.set b (bJ sq l (.lst 2 [] false))).set b (bJ (sq+1) l (.lst 2 [(GR.mk 3 []).c] false))) :=
 (HN l b 3 h0 h1 (by decide) (by decide)).mono (by
  rintro v σ' ⟨q1,q2⟩
  exact⟨q1,q2.trans (by funext j;by_cases h:j=b<;>simp[St.set,h])⟩)
theorem Lb{m l q b:Nat}(D:iT m l q b):aA Tryz.prog 39 [.ptr b 0 0,.agg (.int .i64 6::.int .i64 2::.int .i64 3::.int .u32 0::.int .u32 0::fc f80)] (bkS m l q b ⟨3,3,[ex1,ex2],[],[⟨3,[]⟩]⟩ []) (fun v σ'=>v=.tup [.lst 2 (fN 3 [2]) false,.int .i64 0]∧σ'=(bkS m l q b ⟨3,3,[ex1,ex2],[],[⟨3,[]⟩]⟩ []).set b (bJ 4 l (.lst 2 [(GR.mk 3 [2]).c] false))) :=
 (HO (nx:=3) (sq:=3) D [ex1,ex2] [] (by decide) 3 2 ⟨ex2,by simp,rfl⟩ (by decide) (by decide) (by decide) (by decide) (by decide) (by decide)).mono (by
  rintro v σ' ⟨q1,q2⟩
  exact⟨q1,q2.trans (by funext j;by_cases h:j=b<;>simp[St.set,h])⟩)
theorem KN{P:Program}{g:FuncId}{ms:List MV}{σ:St}{n:Nat}{on o:aY}{u:Nat→MV}{k:MV→St→Prop}(hn:σ n=some on)(h:aA P g ms (St.none.set n on) fun v σ'=>∃q,v=u q∧σ'=St.none.set q o)(hk:∀q,(σ.del n) q=none→R (bR (u q) ((σ.del n).set q o) k)):R (dA P g ms σ k) :=
 cE h (St.aG (St.none_le _) hn) fun v σ' hv hf=>by
  obtain⟨q,rfl,rfl⟩:=hv
  have e:(St.none.set q o).over (σ.minus (St.none.set n on))=(σ.del n).set q o:=by
   rw[bZ,eC]
   congr 1
   funext j
   by_cases h2:j=n
   ·subst h2;simp[St.set,St.minus,St.del]
   ·simp[St.set,St.none,St.minus,St.del,h2]
  rw[e]
  refine hk q ?_
  rcases hf q o (aK _ _ _) with h|⟨o',h⟩
  ·simp[St.del,h]
  ·by_cases h2:q=n
   ·subst h2;simp[St.del]
   ·rw[aH _ _ _ _ h2] at h;cases h
theorem Cc(x:ND)(h:b9 [x]=0)(n:Nat):aA Tryz.prog 12 [.vec 5 n 0 1] (St.none.set n (.row 84 5 [x.c])) (fun v σ'=>∃q,v=.ptr q 0 0∧σ'=St.none.set q (flD [x] false)) :=
 aA.pre (ms':=[.lst 5 ([x].map ND.c) false]) rfl (bD.freeze (St.none.set n (.row 84 5 [x.c])) (St.le_refl _) (St.none_le _) (fun k o hk=>by cases hk) (fun p hp=>by
  simp only[iZ,List.mem_singleton] at hp
  subst hp
  exact View.vecAll (aK _ _ _) rfl)) (rS [x] (by simp) false h)
theorem M6{m l q b f:Nat}(D:iT m l q b)(hf:f≠m∧f≠l∧f≠q∧f≠b):aA Tryz.prog 15 [.ptr b 0 0,.ptr f 0 0] (bfS m l q b exB f [exN] false) (fun r σ'=>r=.lst 1 [aS 2] false∧σ'=bfS m l q b exB f [exN] true):=by
 have h:=uQ M5 (by decide) (by decide) D hf zA false
 rw[IM] at h
 exact h
theorem yX:aA Tryz.prog 10 [] St.none (fun r _=>r=.bool true):=by
 refine aA.cD (aA.body 26 [.tmp 0] Tryz.func10 rfl rfl rfl rfl ?_)
 have k1:=fun {m l q b:Nat} (D:iT m l q b)=>MB (nx:=1) (sq:=0) D.lm D.bm D.bl (.vec 3 q 0 0) (.lst 2 [] false) [] (by decide) (by decide) (by decide) (by decide) (by decide) (by decide)
 have k2:=fun {m l q b:Nat} (D:iT m l q b)=>MB (nx:=2) (sq:=1) D.lm D.bm D.bl (.vec 3 q 0 0) (.lst 2 [] false) [ex1] (by decide) (by decide) (by decide) (by decide +kernel) (by decide) (by decide)
 have hnew:aA Tryz.prog 38 [] St.none _:=AS
 repeat' (first|((refine FT hnew ?_;intro m l q b hm hl hq hb D;clear hm hl hq hb;simp only[bk1,List.map_nil,List.length_nil];have D':=D;obtain⟨d1,d2,d3,d4,d5,d6⟩:=D;have e1:=Ne.symm d1;have e2:=Ne.symm d2;have e3:=Ne.symm d3;have e4:=Ne.symm d4;have e5:=Ne.symm d5;have e6:=Ne.symm d6))|(with_reducible first|(refine wN fun _ hnl=>?_;revert hnl;(repeat refine wS fun _ _=>?_);intro hnl)|refine wE ?_|(refine wK ?_ ?_<;>intro h)|(refine wB ?_ ?_<;>intro h<;>simp only[h]))|simp(maxSteps:=4000000) (disch:=first|exact ddL|fail) only[go_sem,simprocAttr,Tryz.f10,FXs])
 refine KP (k1 D') (JF (by simp[St.set, *]) (by simp[St.set, *]) (by simp[St.set, *])) ?_
 rw[show(cR 1 pa1)=ex1 from rfl,List.nil_append]
 repeat' (first|(with_reducible first|(refine wN fun _ hnl=>?_;revert hnl;(repeat refine wS fun _ _=>?_);intro hnl)|refine wE ?_|(refine wK ?_ ?_<;>intro h)|(refine wB ?_ ?_<;>intro h<;>simp only[h]))|simp(maxSteps:=4000000) (disch:=first|exact ddL|fail) only[go_sem,simprocAttr,FXs])
 refine KP (k2 D') (JF (by simp[St.set, *]) (by simp[St.set, *]) (by simp[St.set, *])) ?_
 rw[show(cR 2 pa1)=ex2 from rfl,List.singleton_append]
 repeat' (first|(with_reducible first|(refine wN fun _ hnl=>?_;revert hnl;(repeat refine wS fun _ _=>?_);intro hnl)|refine wE ?_|(refine wK ?_ ?_<;>intro h)|(refine wB ?_ ?_<;>intro h<;>simp only[h]))|simp(maxSteps:=4000000) (disch:=first|exact ddL|fail) only[go_sem,simprocAttr,FXs])
 refine KO (Lc (sq:=2) l b (by decide) (by decide)) (St.aG (St.none_le _) (by simp[St.set, *])) ?_
 repeat' (first|(with_reducible first|(refine wN fun _ hnl=>?_;revert hnl;(repeat refine wS fun _ _=>?_);intro hnl)|refine wE ?_|(refine wK ?_ ?_<;>intro h)|(refine wB ?_ ?_<;>intro h<;>simp only[h]))|simp(maxSteps:=4000000) (disch:=first|exact ddL|fail) only[go_sem,simprocAttr,FXs])
 refine KO (Lb D') (Iy (by simp[St.set, *]) (by simp[St.set, *]) (by simp[St.set, *]) (by simp[St.set, *])) ?_
 repeat' (first|(with_reducible first|(refine wN fun _ hnl=>?_;revert hnl;(repeat refine wS fun _ _=>?_);intro hnl)|refine wE ?_|(refine wK ?_ ?_<;>intro h)|(refine wB ?_ ?_<;>intro h<;>simp only[h]))|simp(maxSteps:=4000000) (disch:=first|exact ddL|fail) only[go_sem,simprocAttr,FXs])
 refine KN (aK _ _ _) (Cc exN zA _) fun f hf=>?_
 have hf0:=hf
 repeat' (first|(with_reducible first|(refine wN fun _ hnl=>?_;revert hnl;(repeat refine wS fun _ _=>?_);intro hnl)|refine wE ?_|(refine wK ?_ ?_<;>intro h)|(refine wB ?_ ?_<;>intro h<;>simp only[h]))|simp(maxSteps:=4000000) (disch:=first|exact ddL|fail) only[go_sem,simprocAttr,FXs])
 have fm:f≠m:=fun e=>by subst e;simp[St.set,St.del, *] at hf
 have fl:f≠l:=fun e=>by subst e;simp[St.set,St.del, *] at hf
 have fq:f≠q:=fun e=>by subst e;simp[St.set,St.del, *] at hf
 have fb:f≠b:=fun e=>by subst e;simp[St.set,St.del, *] at hf
 have fm':=Ne.symm fm
 have fl':=Ne.symm fl
 have fq':=Ne.symm fq
 have fb':=Ne.symm fb
 clear hf hf0
 refine KL (M6 D' ⟨fm,fl,fq,fb⟩) (Iw (by show _=some (aY.mp (cEs [ex1,ex2]));simp[St.set, *]) (by show _=some (shO 3 m (.vec 3 q 0 0));simp[St.set, *]) (by show _=some (aY.row 90 3 []);simp[St.set, *]) (by show _=some (bJ 4 l (.lst 2 [(GR.mk 3 [2]).c] false));simp[St.set, *]) (aK _ _ _)) ?_
 repeat' (first|(with_reducible first|(refine wN fun _ hnl=>?_;revert hnl;(repeat refine wS fun _ _=>?_);intro hnl)|refine wE ?_|(refine wK ?_ ?_<;>intro h)|(refine wB ?_ ?_<;>intro h<;>simp only[h]))|simp(maxSteps:=4000000) (disch:=first|exact ddL|fail) only[go_sem,simprocAttr,FXs])
 have hI:aA Tryz.prog 17 [.lst 1 [aS 2] false,.lst 1 [aS 2] false] St.none (fun r _=>r=.bool true):=uZ [2] [2] (by decide) false false
 refine Ij [.lst 1 [aS 2] false,.lst 1 [aS 2] false] _ hI (aK _ _ _) rfl (nS (.same _) (.vecAll (aK _ _ _) rfl)) ?_
 repeat' (first|(with_reducible first|(refine wN fun _ hnl=>?_;revert hnl;(repeat refine wS fun _ _=>?_);intro hnl)|refine wE ?_|(refine wK ?_ ?_<;>intro h)|(refine wB ?_ ?_<;>intro h<;>simp only[h]))|simp(maxSteps:=4000000) (disch:=first|exact ddL|fail) only[go_sem,simprocAttr])
 all_goals first|exact⟨_,St.le_refl _,rfl⟩|exact⟨_,St.le_refl _⟩
end

section
set_option maxRecDepth 100000
set_option maxHeartbeats 8000000
theorem qW(s:SET)(id:Int):aA Tryz.prog 3 [.agg s.c,.int .i64 id] St.none (fun r _=>r=.bool true):=by
 refine aA.cD (aA.body 122 [.tmp 4] Tryz.func3 rfl rfl rfl rfl ?_)
 have hfit:=Gp s
 have haw:=yX
 by_cases hF:Fit s
 ·obtain⟨h1,h2,h3,h4,h5,h6,h7⟩:=hF
  have hb:=Iz h1
  have hc6:s.bk.cards.length≤1000000:=by omega
  have hd6:s.bk.dead.length≤1000000:=by omega
  have hf6:s.fl.length≤1000000:=by have:=(sT h6).2.2;omega
  have hld:=yY hc6 hd6 h4 h5 h1
  have hnew:=rS s.fl hf6 false h6
  obtain⟨d1,hd1⟩:∃d1,(false || decide ((gH s.bk.cards s.bk.dead id).2=0))=d1:=⟨_,rfl⟩
  have hsh:=fun {m l q b f:Nat} (D:iT m l q b) (hf:f≠m∧f≠l∧f≠q∧f≠b)=>Cm hb h4 h5 D hf h6 false hd6 id
  have hrs:=Cy s.bk hb h4 h5 s.fl h6 false id
  have hsz:=Ew
  have hsf:=fun {m l q b:Nat} (D:iT m l q b)=>Ex hb h4 h5 D hd6 id
  simp only[Kw,hd1] at hsh
  obtain⟨c,hc⟩:∃c,(shown s.bk s.fl id).getD ca0=c:=⟨_,rfl⟩
  obtain⟨sb,hsb⟩:∃x,(shown s.bk s.fl id).isSome=x:=⟨_,rfl⟩
  rw[hc,hsb] at hrs
  simp only[hc,hsb] at hsh
  have hcc:bW Tryz.prog 42 .eql (.agg c.c) (.agg c.c)=some (True,.bool true):=by rw[Jl];simp
  have hni:=Ke
  have hnf:=fun {m l q b:Nat} (D:iT m l q b)=>Eo hb h4 h5 D s.mask s.cur
  obtain⟨dn,hdn⟩:∃dn,(d1 || decide (0<s.bk.cards.length))=dn:=⟨_,rfl⟩
  have hdd:(dn || decide (0<s.bk.cards.length))=dn:=by rw[←hdn];cases d1<;>simp
  have hids:=fun {m l q b f:Nat} (D:iT m l q b) (hf:f≠m∧f≠l∧f≠q∧f≠b)=>uQ hb h4 h5 D hf h6 d1
  have hidl:=fun {m l q b f:Nat} (D:iT m l q b) (hf:f≠m∧f≠l∧f≠q∧f≠b)=>Ap hb h4 h5 D hf h6 dn s.mask s.cur
  have hri:=HW s.bk hb h4 h5 s.fl h6 false
  have hrl:=rX s.bk hb h4 h5 s.fl h6 false s.mask s.cur
  simp only[hdn,IY] at hids
  simp only[hdd] at hidl
  have hI:=uZ (Bh s.bk s.fl) (Bh s.bk s.fl) (by rw[Bi,List.length_map];exact(pZ hb s.fl).2.2) false false
  have hS:=Cn (fQ s.bk s.fl s.mask s.cur) (fQ s.bk s.fl s.mask s.cur) (by unfold fQ;rw[List.length_map];exact Nat.le_trans (List.length_filter_le _ _) hc6) false false
  rw[decide_eq_true rfl] at hI hS
  obtain⟨I,hIe⟩:∃I,(Bh s.bk s.fl).map aS=I:=⟨_,rfl⟩
  obtain⟨L,hLe⟩:∃L,(fQ s.bk s.fl s.mask s.cur).map CA.c=L:=⟨_,rfl⟩
  rw[hIe] at hri hI
  rw[hLe] at hrl hS
  simp only[hIe] at hids
  simp only[hLe] at hidl
  repeat' (first|((refine iB hfit ?_;rintro _ ⟨fb,rfl,hfb⟩;cases fb))|(refine aL haw ?_)|((refine FT hld ?_;intro m l q b hm hl hq hbn D;simp only[aQ] at hm hl hq hbn;obtain⟨m1,-⟩:=hm;obtain⟨l1,-⟩:=hl;obtain⟨q1,-⟩:=hq;obtain⟨b1,-⟩:=hbn;have m1':=Ne.symm m1;have l1':=Ne.symm l1;have q1':=Ne.symm q1;have b1':=Ne.symm b1;have D':=D;obtain⟨g1,g2,g3,g4,g5,g6⟩:=D;have e1:=Ne.symm g1;have e2:=Ne.symm g2;have e3:=Ne.symm g3;have e4:=Ne.symm g4;have e5:=Ne.symm g5;have e6:=Ne.symm g6))|((refine qD hnew ?_;intro f hf;simp only[aQ] at hf;obtain⟨f1,f2,f3,f4,f5,-⟩:=hf;have f1':=Ne.symm f1;have f2':=Ne.symm f2;have f3':=Ne.symm f3;have f4':=Ne.symm f4;have f5':=Ne.symm f5))|(with_reducible first|(refine wT ?_;(first|((fail_if_success (have:=nl1));refine wN fun nl1 hnl=>?_)|((fail_if_success (have:=nl2));refine wN fun nl2 hnl=>?_)|((fail_if_success (have:=nl3));refine wN fun nl3 hnl=>?_)|refine wN fun _ hnl=>?_);revert hnl;(repeat refine wS fun _ _=>?_);intro hnl)|refine wE ?_|(refine wK ?_ ?_<;>intro h)|(refine wB ?_ ?_<;>intro h<;>simp only[h]))|simp(maxSteps:=4000000) (disch:=first|exact ddL|fail) only[go_sem,simprocAttr,Tryz.f3,FXs,List.map_cons,List.map_nil])
  ·exact⟨_,St.le_refl _⟩
  refine KL (hsh D' ⟨f4,f3,f2,f1⟩) (Iw (by simp[St.set, *]) (by simp[St.set, *]) (by simp[St.set, *]) (by simp[St.set, *]) (by simp[St.set, *])) ?_
  repeat' (first|(refine aL hrs ?_)|(refine aL (hsz f id) ?_)|(with_reducible first|(refine wT ?_;(first|((fail_if_success (have:=nl1));refine wN fun nl1 hnl=>?_)|((fail_if_success (have:=nl2));refine wN fun nl2 hnl=>?_)|((fail_if_success (have:=nl3));refine wN fun nl3 hnl=>?_)|refine wN fun _ hnl=>?_);revert hnl;(repeat refine wS fun _ _=>?_);intro hnl)|refine wE ?_|(refine wK ?_ ?_<;>intro h)|(refine wB ?_ ?_<;>intro h<;>simp only[h]))|simp(maxSteps:=4000000) (disch:=first|exact ddL|fail) only[go_sem,simprocAttr,FXs])
  refine eD (hsf D') (Iy (by simp[St.set, *]) (by simp[St.set, *]) (by simp[St.set, *]) (by simp[St.set, *])) ?_
  obtain⟨C1,c1,c2⟩:∃C:bT,(∀ms,C 15 ms=some ⟨[],fun v=>v=.a8,none⟩)∧∀ms,C 16 ms=some ⟨[b,q,l,m],fun v=>v=.a8,none⟩ :=
   ⟨fnF [(15,⟨[],fun v=>v=.a8,none⟩),(16,⟨[b,q,l,m],fun v=>v=.a8,none⟩)],fun _=>bN,fun _=>bE bN⟩
  have W1:=N5 (hnf D')
  repeat' (first|(with_reducible first|(refine wT ?_;(first|((fail_if_success (have:=nl1));refine wN fun nl1 hnl=>?_)|((fail_if_success (have:=nl2));refine wN fun nl2 hnl=>?_)|((fail_if_success (have:=nl3));refine wN fun nl3 hnl=>?_)|refine wN fun _ hnl=>?_);revert hnl;(repeat refine wS fun _ _=>?_);intro hnl)|refine wE ?_|(refine wK ?_ ?_<;>intro h)|(refine wB ?_ ?_<;>intro h<;>simp only[h]))|simp(maxSteps:=4000000) (disch:=first|exact ddL|fail) only[go_sem,simprocAttr,FXs])
  refine aT mixed (by decide +kernel) C1 ?_
  repeat' (first|(with_reducible refine aP (c1 _) (hni f) ?_)|(refine Fs [b,q,l,m] [bJ s.bk.sq l (.lst 2 (s.bk.gr.map GR.c) false),.row 90 3 (s.bk.dead.map DE.c),shO s.bk.nx m (.vec 3 q 0 s.bk.dead.length),.mp (cEs s.bk.cards)] (c2 _) (by simp[St.set, *]) W1 ?_)|(with_reducible first|(refine wT ?_;(first|((fail_if_success (have:=nl1));refine wN fun nl1 hnl=>?_)|((fail_if_success (have:=nl2));refine wN fun nl2 hnl=>?_)|((fail_if_success (have:=nl3));refine wN fun nl3 hnl=>?_)|refine wN fun _ hnl=>?_);revert hnl;(repeat refine wS fun _ _=>?_);intro hnl)|refine wE ?_|(refine wK ?_ ?_<;>intro h)|(refine wB ?_ ?_<;>intro h<;>simp only[h]))|simp(maxSteps:=4000000) (disch:=first|exact ddL|fail) only[go_sem,simprocAttr,FXs])
  have W2:=Mz (hids D' ⟨f4,f3,f2,f1⟩)
  have W3:=Mz (hidl D' ⟨f4,f3,f2,f1⟩)
  obtain⟨C2,hC2,k1,k2,k3,k4,k5,k6,k7⟩:∃C:bT,(∀g ms F,C g ms=some F→∀x,x∈F.rd→x∈[f,b,q,l,m])∧(∀ms,C 15 ms=some ⟨[f,b,q,l,m],fun _=>True,some ([flD s.fl dn],fun _=>.lst 1 I false)⟩)∧(∀ms,C 16 ms=some ⟨[f,b,q,l,m],fun _=>True,some ([flD s.fl dn],fun _=>.lst 27 L false)⟩) ∧
    (∀ms,C 18 ms=some ⟨[],fun v=>v=.lst 1 I false,none⟩)∧(∀ms,C 20 ms=some ⟨[],fun v=>v=.lst 27 L false,none⟩)∧(∀ms,C 17 ms=some ⟨[],fun v=>v=.bool true,none⟩)∧(∀ms,C 19 ms=some ⟨[],fun v=>v=.bool true,none⟩)∧∀ms,C 10 ms=some ⟨[],fun v=>v=.bool true,none⟩ :=
   ⟨fnF [(15,⟨[f,b,q,l,m],fun _=>True,some ([flD s.fl dn],fun _=>.lst 1 I false)⟩),(16,⟨[f,b,q,l,m],fun _=>True,some ([flD s.fl dn],fun _=>.lst 27 L false)⟩),(18,⟨[],fun v=>v=.lst 1 I false,none⟩),(20,⟨[],fun v=>v=.lst 27 L false,none⟩),(17,⟨[],fun v=>v=.bool true,none⟩),(19,⟨[],fun v=>v=.bool true,none⟩),(10,⟨[],fun v=>v=.bool true,none⟩)],
    IP (fun p hp=>by simp only[List.mem_cons,List.not_mem_nil,or_false] at hp;rcases hp with rfl|rfl|rfl|rfl|rfl|rfl|rfl<;>first|exact fun x hx=>hx|(exact fun x hx=>by cases hx)),fun _=>bN,fun _=>bE bN,fun _=>bE (bE bN),fun _=>bE (bE (bE bN)),fun _=>bE (bE (bE (bE bN))),fun _=>bE (bE (bE (bE (bE bN)))),fun _=>bE (bE (bE (bE (bE (bE bN)))))⟩
  have p2:nl2≠f:=by assumption
  refine G8 mixed [f,b,q,l,m] [(7,f),(8,nl2),(10,nl3),(2,nl1)] [7,8,10,2] rfl [(93,2),(95,2),(103,2),(105,2),(108,2),(110,2),(112,2),(114,2)] 7 (by decide) (by decide +kernel) C2 hC2 ?_ ?_ (by decide) ?_ ?_ ?_
  ·intro p hp
   simp only[List.mem_cons,List.not_mem_nil,or_false] at hp
   rcases hp with rfl|rfl|rfl|rfl<;>exact⟨0,0,rfl⟩
  ·simp[*]
  ·intro p hp
   simp only[List.mem_cons,List.not_mem_nil,or_false] at hp
   rcases hp with rfl|rfl|rfl|rfl<;>simp[*]
  ·intro p hp
   simp only[List.mem_cons,List.not_mem_nil,or_false] at hp
   rcases hp with rfl|rfl|rfl|rfl|rfl|rfl|rfl|rfl<;>exact⟨by decide,by decide,fun l i o h=>absurd h (by simp[FR.get,cC])⟩
  repeat' (first|(refine oP (os:=[flD s.fl d1,bJ s.bk.sq l (.lst 2 (s.bk.gr.map GR.c) false),.row 90 3 (s.bk.dead.map DE.c),shO s.bk.nx m (.vec 3 q 0 s.bk.dead.length),.mp (cEs s.bk.cards)]) (k1 _) (by simp[St.set, *]) W2 ?_)|(refine oP (os:=[flD s.fl dn,bJ s.bk.sq l (.lst 2 (s.bk.gr.map GR.c) false),.row 90 3 (s.bk.dead.map DE.c),shO s.bk.nx m (.vec 3 q 0 s.bk.dead.length),.mp (cEs s.bk.cards)]) (k2 _) (by simp[St.set, *]) W3 ?_)|(with_reducible refine fR (k3 _) hri ?_)|(with_reducible refine fR (k4 _) hrl ?_)|(with_reducible refine fR (k5 _) hI ?_)|(with_reducible refine fR (k6 _) hS ?_)|(with_reducible refine fR (k7 _) haw ?_)|(with_reducible first|(refine wT ?_;(first|((fail_if_success (have:=nl1));refine wN fun nl1 hnl=>?_)|((fail_if_success (have:=nl2));refine wN fun nl2 hnl=>?_)|((fail_if_success (have:=nl3));refine wN fun nl3 hnl=>?_)|refine wN fun _ hnl=>?_);revert hnl;(repeat refine wS fun _ _=>?_);intro hnl)|refine wE ?_|(refine wK ?_ ?_<;>intro h)|(refine wB ?_ ?_<;>intro h<;>simp only[h]))|simp(maxSteps:=4000000) (disch:=first|exact ddL|fail) only[go_sem,simprocAttr,FXs,hcc])
  all_goals first|exact⟨_,St.le_refl _⟩|exact⟨_,St.le_refl _,rfl⟩
 ·repeat' (first|((refine iB hfit ?_;rintro _ ⟨fb,rfl,hfb⟩;cases fb))|(refine aL haw ?_)|(with_reducible first|(refine wT ?_;(first|((fail_if_success (have:=nl1));refine wN fun nl1 hnl=>?_)|((fail_if_success (have:=nl2));refine wN fun nl2 hnl=>?_)|((fail_if_success (have:=nl3));refine wN fun nl3 hnl=>?_)|refine wN fun _ hnl=>?_);revert hnl;(repeat refine wS fun _ _=>?_);intro hnl)|refine wE ?_|(refine wK ?_ ?_<;>intro h)|(refine wB ?_ ?_<;>intro h<;>simp only[h]))|simp(maxSteps:=4000000) (disch:=first|exact ddL|fail) only[go_sem,simprocAttr,Tryz.f3,FXs,List.map_cons,List.map_nil])
  all_goals first|exact absurd (hfb rfl) hF|skip
  all_goals first|exact⟨_,St.le_refl _⟩|exact⟨_,St.le_refl _,rfl⟩
end
end Go.Proofs.YtaojijkdamfbnaaGreatDoor
