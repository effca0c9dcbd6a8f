/- Parts of the proof, joined; conditions: those that its theorems name. -/
import Derived.Test.YtaojijkdamfbnaaGreatDoorMczg
import Derived.Test.YtaojijkdamfbnaaGreatDoorMczh
set_option linter.unusedVariables false
set_option linter.unusedSimpArgs false
set_option maxHeartbeats 4000000
namespace Go.Proofs.YtaojijkdamfbnaaGreatDoor
section
set_option maxRecDepth 100000
set_option maxHeartbeats 8000000
theorem xY{B:BK}(h1:B.cards.length≤1000000)(h2:B.dead.length≤1000000)(h3:B.gr.length≤1000000)(h4:∀g,g∈B.gr→g.mem.length≤1000000)(h:j6 B=true) :
  aA Tryz.prog 11 [.agg B.c] St.none (fun v σ'=>∃m l q b,nA m l q b∧v=.tup [.ptr b 0 0,.bool true]∧σ'=bkS m l q b B []) :=
 aA.ghost ((Fl h1 h2 h3 h4 h).mono fun v σ' ⟨m,l,q,b,ex,D,hv,hσ⟩=>⟨v,bkS m l q b B [],by
  subst hσ
  have hq:bkS m l q b B ex q=some (.row 90 3 (B.dead.map DE.c++ex)):=by simp[St.set,Ne.symm D.bq]
  have e:bkS m l q b B []=(bkS m l q b B ex).set q (.row 90 3 (B.dead.map DE.c)):=by
   funext j
   by_cases h1:j=q
   ·subst h1;simp[St.set,Ne.symm D.bq]
   ·simp[St.set,h1]
  rw[e]
  exact bD.cut hq,m,l,q,b,D,hv,rfl⟩)
theorem E9{P:Program}{g:FuncId}{ms:List MV}{σ:St}{B:BK}{u:Nat→MV}{k:MV→St→Prop}(h:aA P g ms St.none fun v σ'=>∃m l q b,nA m l q b∧v=u b∧σ'=bkS m l q b B [])
 (hk:∀m l q b,σ m=none→σ l=none→σ q=none→σ b=none→nA m l q b→R (bU (u b) ((((σ.set m (.mp (cEs B.cards))).set l (shO B.nx m (.vec 3 q 0 B.dead.length))).set q (.row 90 3 (B.dead.map DE.c))).set b (cG B.sq l (.lst 2 (B.gr.map GR.c) false))) k)):R (dZ P g ms σ k) :=
 cL h (St.none_le σ) fun v σ' hv hf=>by
  obtain⟨m,l,q,b,D,rfl,rfl⟩:=hv
  have fr:∀j o,bkS m l q b B [] j=some o→σ j=none:=fun j o hj=>by
   rcases hf j o hj with h|⟨o',h⟩
   ·exact h
   ·simp[St.none] at h
  have fm:=fr m (.mp (cEs B.cards)) (by simp[St.set,Ne.symm D.lm,Ne.symm D.qm,Ne.symm D.bm])
  have fl:=fr l (shO B.nx m (.vec 3 q 0 B.dead.length)) (by simp[St.set,Ne.symm D.ql,Ne.symm D.bl])
  have fq:=fr q (.row 90 3 (B.dead.map DE.c++[])) (by simp[St.set,Ne.symm D.bq])
  have fb:=fr b _ (aJ _ _ _)
  rw[gX,bV,bV,bV,bV,dU,List.append_nil]
  exact hk m l q b fm fl fq fb D
theorem qX(l:List ND)(hl:l.length≤1000000)(tt:Bool)(h:bW l=0):aA Tryz.prog 12 [.lst 5 (l.map ND.c) tt] St.none (fun v σ'=>∃q,v=.ptr q 0 0∧σ'=St.none.set q (flD l false)):=DN l hl tt h
theorem xX{m l q b f:Nat}{B:BK}{fl:List ND}{d:Bool}{σ:St}(hm:σ m=some (.mp (cEs B.cards)))(hl:σ l=some (shO B.nx m (.vec 3 q 0 B.dead.length)))(hq:σ q=some (.row 90 3 (B.dead.map DE.c)))(hb:σ b=some (cG B.sq l (.lst 2 (B.gr.map GR.c) false)))(hf:σ f=some (flD fl d)):(bfS m l q b B f fl d).le σ :=
 St.aH (St.aH (St.aH (St.aH (St.aH (St.none_le _) hm) hl) (by rw[List.append_nil];exact hq)) hb) hf
theorem uQ{P:Program}{g:FuncId}{ms:List MV}{σ:St}{m l q b f:Nat}{B:BK}{fl:List ND}{d d':Bool}{r:MV}{k:MV→St→Prop}(h:aA P g ms (bfS m l q b B f fl d) fun v σ'=>v=r∧σ'=bfS m l q b B f fl d')(hle:(bfS m l q b B f fl d).le σ)(hk:R (bU r (σ.set f (flD fl d')) k)):R (dZ P g ms σ k) :=
 cL h hle fun v σ' hv _=>by
  obtain⟨rfl,rfl⟩:=hv
  have e:(bfS m l q b B f fl d').over (σ.minus (bfS m l q b B f fl d))=σ.set f (flD fl d'):=by
   funext j
   by_cases hj:j=f
   ·subst hj;simp[St.over,St.set]
   ·have e1:bfS m l q b B f fl d' j=bkS m l q b B [] j:=aP _ _ _ _ hj
    have e2:bfS m l q b B f fl d j=bkS m l q b B [] j:=aP _ _ _ _ hj
    simp only[St.over,St.minus,e1,e2]
    rw[aP _ _ _ _ hj]
    cases hb:bkS m l q b B [] j with
    | none=>rfl
    | some o=>exact(hle j o (e2.trans hb)).symm
  rw[e];exact hk
end

section
set_option maxRecDepth 100000
set_option maxHeartbeats 8000000
def inI(l:List CA):List IT:=l.map fun c=>⟨1,c⟩
def bZ(W:List CA)(cur:Int):List CA:=W.filter fun c=>decide (max cur 0<c.id)
def eI(W:List CA)(cur room:Int):List CA × Int :=
 if room<1 then([],max cur 0)
 else if ((bZ W cur).length:Int)≤room then(bZ W cur,1073741824)
 else((bZ W cur).take room.toNat,((bZ W cur).getD (room.toNat - 1) ca0).id)
theorem DV{W:List CA}{cur:Int}{i:Nat}{x:CA}(h:W[i]?=some x):bZ (W.take (i+1)) cur=bZ (W.take i) cur++if max cur 0<x.id then[x] else[]:=by
 unfold bZ
 rw[qS h]
 congr 1
 by_cases h:max cur 0<x.id<;>simp[h]
theorem JQ{B:BK}(hb:BkR B){fl:List ND}{x:CA}(h:x∈shC B fl):gM B.cards B.dead x.id=(x,0)∧mF B fl x.id=(x,true):=by
 unfold shC at h
 obtain⟨h1,h2⟩:=List.mem_filter.1 h
 have hf:B.cards.find? (fun c=>decide (c.id=x.id))=some x:=by
  cases hc:B.cards.find? (fun c=>decide (c.id=x.id)) with
  | none =>
   have:=List.find?_eq_none.1 hc x h1
   simp at this
  | some y =>
   have e1:=List.mem_of_find?_eq_some hc
   have e2:y.id=x.id:=by simpa using List.find?_some hc
   obtain⟨i,hi,rfl⟩:=List.mem_iff_getElem.1 e1
   obtain⟨j,hj,rfl⟩:=List.mem_iff_getElem.1 h1
   have hp:=(iE hb.cok).2
   rcases Nat.lt_trichotomy i j with q|q|q
   ·have:=List.pairwise_iff_getElem.1 hp i j hi hj q;omega
   ·subst q;rfl
   ·have:=List.pairwise_iff_getElem.1 hp j i hj hi q;omega
 have hg:gM B.cards B.dead x.id=(x,0):=by unfold gM;rw[hf]
 refine⟨hg,?_⟩
 unfold mF
 rw[hg,if_pos ⟨rfl,h2⟩]
theorem zK{B:BK}{m l q b f:Nat}(hf:f≠b){fl:List ND}(d:Bool)(mk:UInt32)(cur room:Int)(W:List CA)(hr:room<1) :
  aA Tryz.prog 29 [.ptr b 0 0,.ptr f 0 0,.int .u32 (mk.toNat:Int),.int .i64 cur,.int .i64 room] (bfS m l q b B f fl d) (fun r σ'=>r=.tup [.lst 28 (IT.ks (inI (eI W cur room).1)) false,.int .i64 (eI W cur room).2]∧σ'=bfS m l q b B f fl d):=by
 refine aA.JL (Q:=fun σ'=>σ'=bfS m l q b B f fl d) (aA.body 66 [.tmp 10,.tmp 11] Tryz.func29 rfl rfl rfl rfl ?_)
 have e:eI W cur room=([],max cur 0):=if_pos hr
 rw[e]
 obtain⟨M,hM⟩:∃M,max cur 0=M:=⟨_,rfl⟩
 by_cases hc:cur<0
 ·have hM0:M=0:=by omega
  subst hM0
  repeat' (first|(with_reducible first|(refine wN fun _ hnl=>?_;revert hnl;(repeat refine wS fun _ _=>?_);intro hnl)|refine wE ?_|(refine wK ?_ ?_<;>intro h)|(refine wB ?_ ?_<;>intro h<;>simp only[h]))|simp(maxSteps:=4000000) (disch:=first|exact ddL|fail) only[go_sem,simprocAttr,Tryz.f29])
  all_goals (try (exfalso;omega))
  exact⟨_,St.none,rfl,St.none_le _,St.le_refl _,fun k o hk=>rfl,by rw[hM];exact mY (.nil _ _)⟩
 ·have hM0:M=cur:=by omega
  subst hM0
  repeat' (first|(with_reducible first|(refine wN fun _ hnl=>?_;revert hnl;(repeat refine wS fun _ _=>?_);intro hnl)|refine wE ?_|(refine wK ?_ ?_<;>intro h)|(refine wB ?_ ?_<;>intro h<;>simp only[h]))|simp(maxSteps:=4000000) (disch:=first|exact ddL|fail) only[go_sem,simprocAttr,Tryz.f29])
  all_goals (try (exfalso;omega))
  exact⟨_,St.none,rfl,St.none_le _,St.le_refl _,fun k o hk=>rfl,by rw[hM];exact mY (.nil _ _)⟩
theorem pY{B:BK}(hb:BkR B)(fl:List ND)(mk:UInt32):dB B fl mk 1073741824=(shC B fl).map fun c=>gE c mk:=by
 unfold dB shC
 congr 1
 refine List.filter_congr fun c hc=>?_
 have:=(oN hb hc).2.2
 rw[decide_eq_true (by omega),Bool.true_and]
theorem KJ(l:List CA)(c:CA):IT.ks (inI (l++[c]))=IT.ks (inI l)++[.int .i64 1::.int .i64 c.id::.int .i64 c.ver::.int .u32 (c.lab.toNat:Int)::fc c.f]:=by
 simp[IT.ks,inI]
theorem p7(l:List CA):(IT.ks (inI l)).length=l.length:=by simp[IT.ks,inI]
theorem o9{B:BK}(hb:BkR B)(h3:B.gr.length≤1000000)(h4:∀g,g∈B.gr→g.mem.length≤1000000){m l q b f:Nat}(D:nA m l q b)(hf:f≠m∧f≠l∧f≠q∧f≠b){fl:List ND}(hp:bW fl=0)(hdd:B.dead.length≤1000000)(d:Bool)(mk:UInt32)(cur room:Int)(hr:1≤room) :
  aA Tryz.prog 29 [.ptr b 0 0,.ptr f 0 0,.int .u32 (mk.toNat:Int),.int .i64 cur,.int .i64 room] (bfS m l q b B f fl d) (fun r σ'=>r=.tup [.lst 28 (IT.ks (inI (eI (dB B fl mk 1073741824) cur room).1)) false,.int .i64 (eI (dB B fl mk 1073741824) cur room).2]∧σ'=bfS m l q b B f fl (d || decide (0<B.cards.length))):=by
 rw[pY hb]
 obtain⟨dn,hdn⟩:∃dn,(d || decide (0<B.cards.length))=dn:=⟨_,rfl⟩
 have hids:=DP hb h3 h4 D hf hp d
 have hsh:=fun(id:Int)=>BI hb h3 h4 D hf hp dn hdd id
 have hle0:∀d,(bfS m l q b B f fl d).le ((((((St.none.set m (.mp (cEs B.cards))).set l (shO B.nx m (.vec 3 q 0 B.dead.length))).set q (.row 90 3 (B.dead.map DE.c))).set b (cG B.sq l (.lst 2 (B.gr.map GR.c) false))).set f (flD fl d))):=fun d=>by
  simp only[bfS,bkS,shS,List.append_nil]
  exact St.le_refl _
 have hSl:(shC B fl).length≤1000000:=(tW hb fl).2.2
 have hSm:∀x,x∈shC B fl→0<B.cards.length:=fun x hx=>List.length_pos_of_mem (List.mem_filter.1 hx).1
 rw[hdn] at hids ⊢
 refine aA.JL (Q:=fun σ'=>σ'=bfS m l q b B f fl dn) ?_
 rw[show bfS m l q b B f fl d=(((((St.none.set m (.mp (cEs B.cards))).set l (shO B.nx m (.vec 3 q 0 B.dead.length))).set q (.row 90 3 (B.dead.map DE.c))).set b (cG B.sq l (.lst 2 (B.gr.map GR.c) false))).set f (flD fl d)) by simp only[bfS,bkS,shS,List.append_nil]]
 obtain⟨f1,f2,f3,f4⟩:=hf
 obtain⟨d1,d2,d3,d4,d5,d6⟩:=D
 have e1:=Ne.symm d1
 have e2:=Ne.symm d2
 have e3:=Ne.symm d3
 have e4:=Ne.symm d4
 have e5:=Ne.symm d5
 have e6:=Ne.symm d6
 have f1':=Ne.symm f1
 have f2':=Ne.symm f2
 have f3':=Ne.symm f3
 have f4':=Ne.symm f4
 obtain⟨M,hM⟩:∃M,max cur 0=M:=⟨_,rfl⟩
 obtain⟨S,hS⟩:∃S,shC B fl=S:=⟨_,rfl⟩
 have hat:∀x,x∈S→gM B.cards B.dead x.id=(x,0)∧mF B fl x.id=(x,true):=fun x hx=>JQ hb (hS ▸ hx)
 rw[hS] at hids hSl hSm ⊢
 obtain⟨W,hW⟩:∃W,S.map (fun c=>gE c mk)=W:=⟨_,rfl⟩
 have hWl:W.length=S.length:=by rw[←hW,List.length_map]
 rw[hW]
 have hil:(S.map idX).length=S.length:=List.length_map _
 refine(aA.jZ 66 [.tmp 10,.tmp 11] Tryz.func29 rfl rfl rfl rfl ?_)
 refine eK (fE ?_)
 repeat' (first|(with_reducible first|(refine wT ?_;(first|((fail_if_success (have:=nl1));refine wN fun nl1 hnl=>?_)|((fail_if_success (have:=nl2));refine wN fun nl2 hnl=>?_)|((fail_if_success (have:=nl3));refine wN fun nl3 hnl=>?_)|refine wN fun _ hnl=>?_);revert hnl;(repeat refine wS fun _ _=>?_);intro hnl)|refine wE ?_|(refine wK ?_ ?_<;>intro h)|(refine wB ?_ ?_<;>intro h<;>simp only[h]))|simp(maxSteps:=4000000) (disch:=first|exact ddL|fail) only[go_sem,simprocAttr])
 refine fD (LW (good:=fun f' σ'=>f'=⟨66,[(4,.int .i64 room),(3,.int .i64 M),(2,.int .u32 (mk.toNat:Int)),(1,.ptr f 0 0),(0,.ptr b 0 0)],[]⟩∧σ'=(((((St.none.set m (.mp (cEs B.cards))).set l (shO B.nx m (.vec 3 q 0 B.dead.length))).set q (.row 90 3 (B.dead.map DE.c))).set b (cG B.sq l (.lst 2 (B.gr.map GR.c) false))).set f (flD fl d))) (fE ?_) ?_)
 ·repeat' (first|(with_reducible first|(refine wT ?_;(first|((fail_if_success (have:=nl1));refine wN fun nl1 hnl=>?_)|((fail_if_success (have:=nl2));refine wN fun nl2 hnl=>?_)|((fail_if_success (have:=nl3));refine wN fun nl3 hnl=>?_)|refine wN fun _ hnl=>?_);revert hnl;(repeat refine wS fun _ _=>?_);intro hnl)|refine wE ?_|(refine wK ?_ ?_<;>intro h)|(refine wB ?_ ?_<;>intro h<;>simp only[h]))|simp(maxSteps:=4000000) (disch:=first|exact ddL|fail) only[go_sem,simprocAttr])
  all_goals
   refine .of (.less ?_ (St.le_refl _)) ⟨rfl,rfl⟩
   simp(maxSteps:=4000000) (disch:=first|exact ddL|fail) only[go_sem,simprocAttr,aC,aB]
   all_goals first|rfl|omega|(simp;done)|(simp;omega)
 rintro _ _ ⟨rfl,rfl⟩
 refine eK (fE ?_)
 repeat' (first|(with_reducible first|(refine wT ?_;(first|((fail_if_success (have:=nl1));refine wN fun nl1 hnl=>?_)|((fail_if_success (have:=nl2));refine wN fun nl2 hnl=>?_)|((fail_if_success (have:=nl3));refine wN fun nl3 hnl=>?_)|refine wN fun _ hnl=>?_);revert hnl;(repeat refine wS fun _ _=>?_);intro hnl)|refine wE ?_|(refine wK ?_ ?_<;>intro h)|(refine wB ?_ ?_<;>intro h<;>simp only[h]))|simp(maxSteps:=4000000) (disch:=first|exact ddL|fail) only[go_sem,simprocAttr])
 all_goals (try (exfalso;omega))
 refine fD (eK (fE ?_))
 repeat' (first|(with_reducible first|(refine wT ?_;(first|((fail_if_success (have:=nl1));refine wN fun nl1 hnl=>?_)|((fail_if_success (have:=nl2));refine wN fun nl2 hnl=>?_)|((fail_if_success (have:=nl3));refine wN fun nl3 hnl=>?_)|refine wN fun _ hnl=>?_);revert hnl;(repeat refine wS fun _ _=>?_);intro hnl)|refine wE ?_|(refine wK ?_ ?_<;>intro h)|(refine wB ?_ ?_<;>intro h<;>simp only[h]))|simp(maxSteps:=4000000) (disch:=first|exact ddL|fail) only[go_sem,simprocAttr])
 refine fD (LW (good:=fun f' σ'=>f'=⟨66,[(12,.lst 28 (IT.ks (inI (bZ W cur))) false),(4,.int .i64 room)],[]⟩∧σ'=(((((St.none.set m (.mp (cEs B.cards))).set l (shO B.nx m (.vec 3 q 0 B.dead.length))).set q (.row 90 3 (B.dead.map DE.c))).set b (cG B.sq l (.lst 2 (B.gr.map GR.c) false))).set f (flD fl dn))) (fE ?_) ?_)
 ·repeat' (first|(refine uQ hids (hle0 d) ?_)|(with_reducible first|(refine wT ?_;(first|((fail_if_success (have:=nl1));refine wN fun nl1 hnl=>?_)|((fail_if_success (have:=nl2));refine wN fun nl2 hnl=>?_)|((fail_if_success (have:=nl3));refine wN fun nl3 hnl=>?_)|refine wN fun _ hnl=>?_);revert hnl;(repeat refine wS fun _ _=>?_);intro hnl)|refine wE ?_|(refine wK ?_ ?_<;>intro h)|(refine wB ?_ ?_<;>intro h<;>simp only[h]))|simp(maxSteps:=4000000) (disch:=first|exact ddL|fail) only[go_sem,simprocAttr])
  refine aG (α:=Nat × Nat × List (List MV)) (fun z=>⟨66,[(27,.int .i64 (z.1:Int)),(26,.int .i64 (S.length:Int)),(25,.lst 1 (S.map idX) false),(12,.vec 28 z.2.1 0 (bZ (W.take z.1) cur).length),(4,.int .i64 room),(3,.int .i64 M),(2,.int .u32 (mk.toNat:Int)),(1,.ptr f 0 0),(0,.ptr b 0 0)],[]⟩)
   (fun z=>((((((St.none.set m (.mp (cEs B.cards))).set l (shO B.nx m (.vec 3 q 0 B.dead.length))).set q (.row 90 3 (B.dead.map DE.c))).set b (cG B.sq l (.lst 2 (B.gr.map GR.c) false))).set f (flD fl dn))).set z.2.1 (.row 132 28 (IT.ks (inI (bZ (W.take z.1) cur))++z.2.2)))
   (fun z=>z.1≤S.length∧z.2.1≠m∧z.2.1≠l∧z.2.1≠q∧z.2.1≠b∧z.2.1≠f) (fun z=>S.length - z.1) ?_ ?_
  ·refine Gh.uA 132 28 (fun r=>[(27,.int .i64 0),(26,.int .i64 (S.length:Int)),(25,.lst 1 (S.map idX) false),(12,.vec 28 r 0 0),(4,.int .i64 room),(3,.int .i64 M),(2,.int .u32 (mk.toNat:Int)),(1,.ptr f 0 0),(0,.ptr b 0 0)]) (fun k=>by(repeat' (refine And.intro ?_ ?_))<;>first|exact trivial|exact .inl rfl|exact .inr ⟨rfl,.inl rfl⟩|exact .inr ⟨rfl,.inr rfl⟩) fun r hr=>?_
   simp only[aY] at hr
   obtain⟨r5,r4,r3,r2,r1,-⟩:=hr
   exact .done ⟨(0,r,[]),rfl,by simp[bZ,inI,IT.ks],Nat.zero_le _,r1,r2,r3,r4,r5⟩
  ·rintro⟨i,r,xx⟩ ⟨hi,r1,r2,r3,r4,r5⟩
   simp only at hi r1 r2 r3 r4 r5 ⊢
   have r1':=Ne.symm r1
   have r2':=Ne.symm r2
   have r3':=Ne.symm r3
   have r4':=Ne.symm r4
   have r5':=Ne.symm r5
   by_cases hlt:i<S.length
   ·obtain⟨x,hx⟩:=bN S hlt
    have hat1:=bK (f:=idX) hx
    have hWx:W[i]?=some (gE x mk):=by rw[←hW,List.getElem?_map,hx];rfl
    have hpi:(gE x mk).id=x.id:=rfl
    have hsn:=DV (cur:=cur) hWx
    rw[hM,hpi] at hsn
    obtain⟨A,hA⟩:∃A,bZ (W.take i) cur=A:=⟨_,rfl⟩
    rw[hA] at hsn ⊢
    have hx0:=hSm x (cH hx)
    have hdt:dn=true:=by rw[←hdn];cases d<;>simp[hx0]
    have hsh':=hsh x.id
    rw[(hat x (cH hx)).1,(hat x (cH hx)).2,show(dn || decide ((x,(0:Int)).2=0))=dn by rw[hdt];rfl] at hsh'
    have hpr:=DS x mk
    by_cases hle:x.id≤M
    ·rw[if_neg (by omega),List.append_nil] at hsn
     clear hids hsh hle0 hat hsh' hpr
     repeat' (first|(with_reducible first|(refine wT ?_;(first|((fail_if_success (have:=nl1));refine wN fun nl1 hnl=>?_)|((fail_if_success (have:=nl2));refine wN fun nl2 hnl=>?_)|((fail_if_success (have:=nl3));refine wN fun nl3 hnl=>?_)|refine wN fun _ hnl=>?_);revert hnl;(repeat refine wS fun _ _=>?_);intro hnl)|refine wE ?_|(refine wK ?_ ?_<;>intro h)|(refine wB ?_ ?_<;>intro h<;>simp only[h]))|simp(maxSteps:=4000000) (disch:=first|exact ddL|fail) only[go_sem,simprocAttr,hat1,hil])
     all_goals (try (exfalso;omega))
     all_goals
      refine .of (.less ?_ ?_) ⟨(i+1,r,xx),rfl,rfl,⟨by simp only;omega,r1,r2,r3,r4,r5⟩,by simp only;omega⟩
      ·simp only[hsn]
       simp(maxSteps:=4000000) (disch:=first|exact ddL|fail) only[go_sem,simprocAttr,aC,aB]
       all_goals first|rfl|(simp;done)
      ·simp only[hsn]
       exact St.le_refl _
    ·rw[if_pos (by omega)] at hsn
     have ksn:=KJ A (gE x mk)
     have kl:=p7 A
     have hal:(A++[gE x mk]).length=A.length+1:=by simp
     obtain⟨y,hy⟩:∃y,gE x mk=y:=⟨_,rfl⟩
     rw[hy] at hpr ksn hsn hal
     obtain⟨Q,hQ⟩:∃Q,IT.ks (inI A)=Q:=⟨_,rfl⟩
     rw[hQ] at ksn kl ⊢
     obtain⟨j,hj⟩:∃j,A.length=j:=⟨_,rfl⟩
     rw[hj] at kl hal ⊢
     have fce:(∀c,c∈fc y.f→c.aL=true)=True:=eq_true (rK (cA y.f))
     have hj6:j≤1000000:=by
      rw[←hj,←hA]
      exact Nat.le_trans (List.length_filter_le _ _) (by rw[List.length_take];omega)
     have hdr:(Q++xx).drop (j+1)=xx.drop 1:=by rw[←kl,←List.drop_drop,List.drop_left]
     have htk':(Q++xx).take j=Q:=List.take_left' kl
     clear hids hsh hle0 hat
     repeat' (first|(refine uQ hsh' (xX (by simp[St.set, *]) (by simp[St.set, *]) (by simp[St.set, *]) (by simp[St.set, *]) (by simp[St.set, *])) ?_)|(with_reducible refine aO hpr ?_)|(with_reducible first|(refine wT ?_;(first|((fail_if_success (have:=nl1));refine wN fun nl1 hnl=>?_)|((fail_if_success (have:=nl2));refine wN fun nl2 hnl=>?_)|((fail_if_success (have:=nl3));refine wN fun nl3 hnl=>?_)|refine wN fun _ hnl=>?_);revert hnl;(repeat refine wS fun _ _=>?_);intro hnl)|refine wE ?_|(refine wK ?_ ?_<;>intro h)|(refine wB ?_ ?_<;>intro h<;>simp only[h]))|simp(maxSteps:=4000000) (disch:=first|exact ddL|fail) only[go_sem,simprocAttr,FXs,hat1,hil,kl,htk',hdr,fce])
     all_goals (try (exfalso;omega))
     all_goals
      clear htk' hdr hsh'
      have q1:nl3≠m:=by assumption
      have q2:nl3≠l:=by assumption
      have q3:nl3≠q:=by assumption
      have q4:nl3≠b:=by assumption
      have q5:nl3≠f:=by assumption
     ·have hex:xx=[]:=List.eq_nil_of_length_eq_zero (by omega)
      subst hex
      clear h
      refine .of (.less ?_ ?_) ⟨(i+1,nl3,[]),rfl,rfl,⟨by simp only;omega,q1,q2,q3,q4,q5⟩,by simp only;omega⟩
      ·simp only[hsn,hal]
       simp(maxSteps:=4000000) (disch:=first|exact ddL|fail) only[go_sem,simprocAttr,aC,aB]
       all_goals first|rfl|(simp;done)
      ·simp only[hsn,ksn]
       exact St.aH (St.aH (St.aH (St.aH (St.aH (St.aH (St.none_le _) (by simp[St.set, *])) (by simp[St.set, *])) (by simp[St.set, *])) (by simp[St.set, *])) (by simp[St.set, *])) (by simp[St.set, *])
     ·clear h
      refine .of (.less ?_ ?_) ⟨(i+1,nl3,xx.drop 1),rfl,rfl,⟨by simp only;omega,q1,q2,q3,q4,q5⟩,by simp only;omega⟩
      ·simp only[hsn,hal]
       simp(maxSteps:=4000000) (disch:=first|exact ddL|fail) only[go_sem,simprocAttr,aC,aB]
       all_goals first|rfl|(simp;done)
      ·simp only[hsn,ksn]
       exact St.aH (St.aH (St.aH (St.aH (St.aH (St.aH (St.none_le _) (by simp[St.set, *])) (by simp[St.set, *])) (by simp[St.set, *])) (by simp[St.set, *])) (by simp[St.set, *])) (by simp[St.set, *])
   ·have:i=S.length:=by omega
    subst this
    have htl:W.take S.length=W:=by rw[←hWl];exact List.take_length
    rw[htl]
    repeat' (first|(with_reducible first|(refine wT ?_;(first|((fail_if_success (have:=nl1));refine wN fun nl1 hnl=>?_)|((fail_if_success (have:=nl2));refine wN fun nl2 hnl=>?_)|((fail_if_success (have:=nl3));refine wN fun nl3 hnl=>?_)|refine wN fun _ hnl=>?_);revert hnl;(repeat refine wS fun _ _=>?_);intro hnl)|refine wE ?_|(refine wK ?_ ?_<;>intro h)|(refine wB ?_ ?_<;>intro h<;>simp only[h]))|simp(maxSteps:=4000000) (disch:=first|exact ddL|fail) only[go_sem,simprocAttr])
    refine .of (bD.freeze (l1:=[(12,.lst 28 (IT.ks (inI (bZ W cur))) false),(4,.int .i64 room)]) (σ1:=(((((St.none.set m (.mp (cEs B.cards))).set l (shO B.nx m (.vec 3 q 0 B.dead.length))).set q (.row 90 3 (B.dead.map DE.c))).set b (cG B.sq l (.lst 2 (B.gr.map GR.c) false))).set f (flD fl dn))) (St.none.set r (.row 132 28 (IT.ks (inI (bZ W cur))++xx))) (St.aH (St.none_le _) (aJ _ _ _)) (St.yL (St.le_refl _) (by simp[St.set,St.none, *])) (fun k o hk=>?_) (fun p hp=>?_)) ⟨rfl,rfl⟩
    ·refine aP _ _ _ _ fun e=>?_
     subst e
     simp[St.set,St.none, *] at hk
    ·simp only[List.mem_cons,List.not_mem_nil,or_false] at hp
     rcases hp with rfl|rfl
     ·exact dK (aJ _ _ _) (p7 _).symm
     ·exact .same _
 rintro _ _ ⟨rfl,rfl⟩
 have kl:=p7 (bZ W cur)
 by_cases hfit:((bZ W cur).length:Int)≤room
 ·have e:eI W cur room=(bZ W cur,1073741824):=by unfold eI;rw[if_neg (by omega),if_pos hfit]
  rw[e]
  refine fE ?_
  clear hids hsh hat
  repeat' (first|(with_reducible first|(refine wT ?_;(first|((fail_if_success (have:=nl1));refine wN fun nl1 hnl=>?_)|((fail_if_success (have:=nl2));refine wN fun nl2 hnl=>?_)|((fail_if_success (have:=nl3));refine wN fun nl3 hnl=>?_)|refine wN fun _ hnl=>?_);revert hnl;(repeat refine wS fun _ _=>?_);intro hnl)|refine wE ?_|(refine wK ?_ ?_<;>intro h)|(refine wB ?_ ?_<;>intro h<;>simp only[h]))|simp(maxSteps:=4000000) (disch:=first|exact ddL|fail) only[go_sem,simprocAttr,kl])
  all_goals (try (exfalso;omega))
  exact⟨_,St.none,rfl,St.none_le _,hle0 dn,fun k o hk=>rfl,.same _⟩
 ·obtain⟨n,hn⟩:∃n:Nat,room=n:=⟨room.toNat,by omega⟩
  subst hn
  obtain⟨R0,hR0⟩:∃R0,bZ W cur=R0:=⟨_,rfl⟩
  rw[hR0] at kl hfit ⊢
  obtain⟨y,hy⟩:=bN R0 (show n - 1<R0.length by omega)
  have e:eI W cur (n:Int)=(R0.take n,y.id):=by
   unfold eI
   rw[hR0,if_neg (by omega),if_neg hfit,Int.toNat_natCast,List.getD_eq_getElem?_getD,hy];rfl
  have hR6:R0.length≤1000000:=by rw[←hR0];exact Nat.le_trans (List.length_filter_le _ _) (by omega)
  have hto:((n:Int) - 1).toNat=n - 1:=by omega
  have hkt:(IT.ks (inI R0)).take n=IT.ks (inI (R0.take n)):=by simp[IT.ks,inI,List.map_take]
  have hgt:(IT.ks (inI (R0.take n))).getD (n - 1) []=.int .i64 1::.int .i64 y.id::.int .i64 y.ver::.int .u32 (y.lab.toNat:Int)::fc y.f:=by
   rw[←hkt,List.getD_eq_getElem?_getD,List.getElem?_take,if_pos (by omega)]
   simp[IT.ks,inI,hy]
  have hkl:(IT.ks (inI (R0.take n))).length=n:=by rw[p7,List.length_take];omega
  rw[e]
  clear hids hsh hat
  refine fE ?_
  repeat' (first|(with_reducible first|(refine wT ?_;(first|((fail_if_success (have:=nl1));refine wN fun nl1 hnl=>?_)|((fail_if_success (have:=nl2));refine wN fun nl2 hnl=>?_)|((fail_if_success (have:=nl3));refine wN fun nl3 hnl=>?_)|refine wN fun _ hnl=>?_);revert hnl;(repeat refine wS fun _ _=>?_);intro hnl)|refine wE ?_|(refine wK ?_ ?_<;>intro h)|(refine wB ?_ ?_<;>intro h<;>simp only[h]))|simp(maxSteps:=4000000) (disch:=first|exact ddL|fail) only[go_sem,simprocAttr,FXs,kl,hto,hkt,hgt,hkl])
  all_goals (try (exfalso;omega))
  exact⟨_,St.none,rfl,St.none_le _,hle0 dn,fun k o hk=>rfl,mY (.tight _ _)⟩
end
end Go.Proofs.YtaojijkdamfbnaaGreatDoor
