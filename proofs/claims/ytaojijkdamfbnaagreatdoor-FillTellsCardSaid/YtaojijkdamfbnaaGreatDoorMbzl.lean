/- Parts of the proof, joined; conditions: those that its theorems name. -/
import Derived.Test.YtaojijkdamfbnaaGreatDoorMbzj
import Derived.Test.YtaojijkdamfbnaaGreatDoorMbzk
set_option linter.unusedVariables false
set_option linter.unusedSimpArgs false
set_option maxHeartbeats 4000000
namespace Go.Proofs.YtaojijkdamfbnaaGreatDoor
section
set_option maxRecDepth 100000
set_option maxHeartbeats 8000000
theorem xZ{B:BK}(h1:B.cards.length≤1000000)(h2:B.dead.length≤1000000)(h3:B.gr.length≤1000000)(h4:∀g,g∈B.gr→g.mem.length≤1000000)(h:j8 B=true) :
  aA Tryz.prog 11 [.agg B.c] St.none (fun v σ'=>∃m l q b,nD m l q b∧v=.tup [.ptr b 0 0,.bool true]∧σ'=bkS m l q b B []) :=
 aA.ghost ((Fm h1 h2 h3 h4 h).mono fun v σ' ⟨m,l,q,b,ex,D,hv,hσ⟩=>⟨v,bkS m l q b B [],by
  subst hσ
  have hq:bkS m l q b B ex q=some (.row 90 3 (B.dead.map DE.c++ex)):=by simp[St.set,Ne.symm D.bq]
  have e:bkS m l q b B []=(bkS m l q b B ex).set q (.row 90 3 (B.dead.map DE.c)):=by
   funext j
   by_cases h1:j=q
   ·subst h1;simp[St.set,Ne.symm D.bq]
   ·simp[St.set,h1]
  rw[e]
  exact bD.cut hq,m,l,q,b,D,hv,rfl⟩)
theorem E9{P:Program}{g:FuncId}{ms:List MV}{σ:St}{B:BK}{u:Nat→MV}{k:MV→St→Prop}(h:aA P g ms St.none fun v σ'=>∃m l q b,nD m l q b∧v=u b∧σ'=bkS m l q b B [])
 (hk:∀m l q b,σ m=none→σ l=none→σ q=none→σ b=none→nD m l q b→R (bT (u b) ((((σ.set m (.mp (cEs B.cards))).set l (shO B.nx m (.vec 3 q 0 B.dead.length))).set q (.row 90 3 (B.dead.map DE.c))).set b (cF B.sq l (.lst 2 (B.gr.map GR.c) false))) k)):R (eC P g ms σ k) :=
 cK h (St.none_le σ) fun v σ' hv hf=>by
  obtain⟨m,l,q,b,D,rfl,rfl⟩:=hv
  have fr:∀j o,bkS m l q b B [] j=some o→σ j=none:=fun j o hj=>by
   rcases hf j o hj with h|⟨o',h⟩
   ·exact h
   ·simp[St.none] at h
  have fm:=fr m (.mp (cEs B.cards)) (by simp[St.set,Ne.symm D.lm,Ne.symm D.qm,Ne.symm D.bm])
  have fl:=fr l (shO B.nx m (.vec 3 q 0 B.dead.length)) (by simp[St.set,Ne.symm D.ql,Ne.symm D.bl])
  have fq:=fr q (.row 90 3 (B.dead.map DE.c++[])) (by simp[St.set,Ne.symm D.bq])
  have fb:=fr b _ (aJ _ _ _)
  rw[hE,bW,bW,bW,bW,dX,List.append_nil]
  exact hk m l q b fm fl fq fb D
theorem rB(l:List ND)(hl:l.length≤1000000)(tt:Bool)(h:bU l=0):aA Tryz.prog 12 [.lst 5 (l.map ND.c) tt] St.none (fun v σ'=>∃q,v=.ptr q 0 0∧σ'=St.none.set q (flD l false)):=DJ l hl tt h
theorem xY{m l q b f:Nat}{B:BK}{fl:List ND}{d:Bool}{σ:St}(hm:σ m=some (.mp (cEs B.cards)))(hl:σ l=some (shO B.nx m (.vec 3 q 0 B.dead.length)))(hq:σ q=some (.row 90 3 (B.dead.map DE.c)))(hb:σ b=some (cF B.sq l (.lst 2 (B.gr.map GR.c) false)))(hf:σ f=some (flD fl d)):(bfS m l q b B f fl d).le σ :=
 St.aH (St.aH (St.aH (St.aH (St.aH (St.none_le _) hm) hl) (by rw[List.append_nil];exact hq)) hb) hf
theorem uT{P:Program}{g:FuncId}{ms:List MV}{σ:St}{m l q b f:Nat}{B:BK}{fl:List ND}{d d':Bool}{r:MV}{k:MV→St→Prop}(h:aA P g ms (bfS m l q b B f fl d) fun v σ'=>v=r∧σ'=bfS m l q b B f fl d')(hle:(bfS m l q b B f fl d).le σ)(hk:R (bT r (σ.set f (flD fl d')) k)):R (eC P g ms σ k) :=
 cK h hle fun v σ' hv _=>by
  obtain⟨rfl,rfl⟩:=hv
  have e:(bfS m l q b B f fl d').over (σ.minus (bfS m l q b B f fl d))=σ.set f (flD fl d'):=by
   funext j
   by_cases hj:j=f
   ·subst hj;simp[St.over,St.set]
   ·have e1:bfS m l q b B f fl d' j=bkS m l q b B [] j:=aP _ _ _ _ hj
    have e2:bfS m l q b B f fl d j=bkS m l q b B [] j:=aP _ _ _ _ hj
    simp only[St.over,St.minus,e1,e2]
    rw[aP _ _ _ _ hj]
    cases hb:bkS m l q b B [] j with
    | none=>rfl
    | some o=>exact(hle j o (e2.trans hb)).symm
  rw[e];exact hk
end

section
set_option maxRecDepth 100000
set_option maxHeartbeats 8000000
def inI(l:List CA):List IT:=l.map fun c=>⟨1,c⟩
def cJ(W:List CA)(cur:Int):List CA:=W.filter fun c=>decide (max cur 0<c.id)
def eG(W:List CA)(cur room:Int):List CA × Int :=
 if room<1 then([],max cur 0)
 else if ((cJ W cur).length:Int)≤room then(cJ W cur,1073741824)
 else((cJ W cur).take room.toNat,((cJ W cur).getD (room.toNat - 1) ca0).id)
theorem tY{W:List CA}{cur:Int}{i:Nat}{x:CA}(h:W[i]?=some x):cJ (W.take (i+1)) cur=cJ (W.take i) cur++if max cur 0<x.id then[x] else[]:=by
 unfold cJ
 rw[qX h]
 congr 1
 by_cases h:max cur 0<x.id<;>simp[h]
theorem JS{B:BK}(hb:BkR B){fl:List ND}{x:CA}(h:x∈shC B fl):gM B.cards B.dead x.id=(x,0)∧mL B fl x.id=(x,true):=by
 unfold shC at h
 obtain⟨h1,h2⟩:=List.mem_filter.1 h
 have hf:B.cards.find? (fun c=>decide (c.id=x.id))=some x:=by
  cases hc:B.cards.find? (fun c=>decide (c.id=x.id)) with
  | none =>
   have:=List.find?_eq_none.1 hc x h1
   simp at this
  | some y =>
   have e1:=List.mem_of_find?_eq_some hc
   have e2:y.id=x.id:=by simpa using List.find?_some hc
   obtain⟨i,hi,rfl⟩:=List.mem_iff_getElem.1 e1
   obtain⟨j,hj,rfl⟩:=List.mem_iff_getElem.1 h1
   have hp:=(iI hb.cok).2
   rcases Nat.lt_trichotomy i j with q|q|q
   ·have:=List.pairwise_iff_getElem.1 hp i j hi hj q;omega
   ·subst q;rfl
   ·have:=List.pairwise_iff_getElem.1 hp j i hj hi q;omega
 have hg:gM B.cards B.dead x.id=(x,0):=by unfold gM;rw[hf]
 refine⟨hg,?_⟩
 unfold mL
 rw[hg,if_pos ⟨rfl,h2⟩]
theorem zK{B:BK}{m l q b f:Nat}(hf:f≠b){fl:List ND}(d:Bool)(mk:UInt32)(cur room:Int)(W:List CA)(hr:room<1) :
  aA Tryz.prog 29 [.ptr b 0 0,.ptr f 0 0,.int .u32 (mk.toNat:Int),.int .i64 cur,.int .i64 room] (bfS m l q b B f fl d) (fun r σ'=>r=.tup [.lst 28 (IT.ks (inI (eG W cur room).1)) false,.int .i64 (eG W cur room).2]∧σ'=bfS m l q b B f fl d):=by
 refine aA.JN (Q:=fun σ'=>σ'=bfS m l q b B f fl d) (aA.body 66 [.tmp 10,.tmp 11] Tryz.func29 rfl rfl rfl rfl ?_)
 have e:eG W cur room=([],max cur 0):=if_pos hr
 rw[e]
 obtain⟨M,hM⟩:∃M,max cur 0=M:=⟨_,rfl⟩
 by_cases hc:cur<0
 ·have hM0:M=0:=by omega
  subst hM0
  repeat' (first|(with_reducible first|(refine wN fun _ hnl=>?_;revert hnl;(repeat refine wS fun _ _=>?_);intro hnl)|refine wE ?_|(refine wK ?_ ?_<;>intro h)|(refine wB ?_ ?_<;>intro h<;>simp only[h]))|simp(maxSteps:=4000000) (disch:=first|exact ddL|fail) only[go_sem,simprocAttr,Tryz.f29])
  all_goals (try (exfalso;omega))
  exact⟨_,St.none,rfl,St.none_le _,St.le_refl _,fun k o hk=>rfl,by rw[hM];exact hY (.nil _ _)⟩
 ·have hM0:M=cur:=by omega
  subst hM0
  repeat' (first|(with_reducible first|(refine wN fun _ hnl=>?_;revert hnl;(repeat refine wS fun _ _=>?_);intro hnl)|refine wE ?_|(refine wK ?_ ?_<;>intro h)|(refine wB ?_ ?_<;>intro h<;>simp only[h]))|simp(maxSteps:=4000000) (disch:=first|exact ddL|fail) only[go_sem,simprocAttr,Tryz.f29])
  all_goals (try (exfalso;omega))
  exact⟨_,St.none,rfl,St.none_le _,St.le_refl _,fun k o hk=>rfl,by rw[hM];exact hY (.nil _ _)⟩
theorem wW{B:BK}(hb:BkR B)(fl:List ND)(mk:UInt32):dS B fl mk 1073741824=(shC B fl).map fun c=>gR c mk:=by
 unfold dS shC
 congr 1
 refine List.filter_congr fun c hc=>?_
 have:=(rQ hb hc).2.2
 rw[decide_eq_true (by omega),Bool.true_and]
theorem EL(l:List CA)(c:CA):IT.ks (inI (l++[c]))=IT.ks (inI l)++[.int .i64 1::.int .i64 c.id::.int .i64 c.ver::.int .u32 (c.lab.toNat:Int)::fc c.f]:=by
 simp[IT.ks,inI]
theorem l8(l:List CA):(IT.ks (inI l)).length=l.length:=by simp[IT.ks,inI]
theorem pE{B:BK}(hb:BkR B)(h3:B.gr.length≤1000000)(h4:∀g,g∈B.gr→g.mem.length≤1000000){m l q b f:Nat}(D:nD m l q b)(hf:f≠m∧f≠l∧f≠q∧f≠b){fl:List ND}(hp:bU fl=0)(hdd:B.dead.length≤1000000)(d:Bool)(mk:UInt32)(cur room:Int)(hr:1≤room) :
  aA Tryz.prog 29 [.ptr b 0 0,.ptr f 0 0,.int .u32 (mk.toNat:Int),.int .i64 cur,.int .i64 room] (bfS m l q b B f fl d) (fun r σ'=>r=.tup [.lst 28 (IT.ks (inI (eG (dS B fl mk 1073741824) cur room).1)) false,.int .i64 (eG (dS B fl mk 1073741824) cur room).2]∧σ'=bfS m l q b B f fl (d || decide (0<B.cards.length))):=by
 rw[wW hb]
 obtain⟨dn,hdn⟩:∃dn,(d || decide (0<B.cards.length))=dn:=⟨_,rfl⟩
 have hids:=DM hb h3 h4 D hf hp d
 have hsh:=fun(id:Int)=>BH hb h3 h4 D hf hp dn hdd id
 have hle0:∀d,(bfS m l q b B f fl d).le ((((((St.none.set m (.mp (cEs B.cards))).set l (shO B.nx m (.vec 3 q 0 B.dead.length))).set q (.row 90 3 (B.dead.map DE.c))).set b (cF B.sq l (.lst 2 (B.gr.map GR.c) false))).set f (flD fl d))):=fun d=>by
  simp only[bfS,bkS,shS,List.append_nil]
  exact St.le_refl _
 have hSl:(shC B fl).length≤1000000:=(BT hb fl).2.2
 have hSm:∀x,x∈shC B fl→0<B.cards.length:=fun x hx=>List.length_pos_of_mem (List.mem_filter.1 hx).1
 rw[hdn] at hids ⊢
 refine aA.JN (Q:=fun σ'=>σ'=bfS m l q b B f fl dn) ?_
 rw[show bfS m l q b B f fl d=(((((St.none.set m (.mp (cEs B.cards))).set l (shO B.nx m (.vec 3 q 0 B.dead.length))).set q (.row 90 3 (B.dead.map DE.c))).set b (cF B.sq l (.lst 2 (B.gr.map GR.c) false))).set f (flD fl d)) by simp only[bfS,bkS,shS,List.append_nil]]
 obtain⟨f1,f2,f3,f4⟩:=hf
 obtain⟨d1,d2,d3,d4,d5,d6⟩:=D
 have e1:=Ne.symm d1
 have e2:=Ne.symm d2
 have e3:=Ne.symm d3
 have e4:=Ne.symm d4
 have e5:=Ne.symm d5
 have e6:=Ne.symm d6
 have f1':=Ne.symm f1
 have f2':=Ne.symm f2
 have f3':=Ne.symm f3
 have f4':=Ne.symm f4
 obtain⟨M,hM⟩:∃M,max cur 0=M:=⟨_,rfl⟩
 obtain⟨S,hS⟩:∃S,shC B fl=S:=⟨_,rfl⟩
 have hat:∀x,x∈S→gM B.cards B.dead x.id=(x,0)∧mL B fl x.id=(x,true):=fun x hx=>JS hb (hS ▸ hx)
 rw[hS] at hids hSl hSm ⊢
 obtain⟨W,hW⟩:∃W,S.map (fun c=>gR c mk)=W:=⟨_,rfl⟩
 have hWl:W.length=S.length:=by rw[←hW,List.length_map]
 rw[hW]
 have hil:(S.map idX).length=S.length:=List.length_map _
 refine(aA.gF 66 [.tmp 10,.tmp 11] Tryz.func29 rfl rfl rfl rfl ?_)
 refine dM (dW ?_)
 repeat' (first|(with_reducible first|(refine wT ?_;(first|((fail_if_success (have:=nl1));refine wN fun nl1 hnl=>?_)|((fail_if_success (have:=nl2));refine wN fun nl2 hnl=>?_)|((fail_if_success (have:=nl3));refine wN fun nl3 hnl=>?_)|refine wN fun _ hnl=>?_);revert hnl;(repeat refine wS fun _ _=>?_);intro hnl)|refine wE ?_|(refine wK ?_ ?_<;>intro h)|(refine wB ?_ ?_<;>intro h<;>simp only[h]))|simp(maxSteps:=4000000) (disch:=first|exact ddL|fail) only[go_sem,simprocAttr])
 refine eF (ES (good:=fun f' σ'=>f'=⟨66,[(4,.int .i64 room),(3,.int .i64 M),(2,.int .u32 (mk.toNat:Int)),(1,.ptr f 0 0),(0,.ptr b 0 0)],[]⟩∧σ'=(((((St.none.set m (.mp (cEs B.cards))).set l (shO B.nx m (.vec 3 q 0 B.dead.length))).set q (.row 90 3 (B.dead.map DE.c))).set b (cF B.sq l (.lst 2 (B.gr.map GR.c) false))).set f (flD fl d))) (dW ?_) ?_)
 ·repeat' (first|(with_reducible first|(refine wT ?_;(first|((fail_if_success (have:=nl1));refine wN fun nl1 hnl=>?_)|((fail_if_success (have:=nl2));refine wN fun nl2 hnl=>?_)|((fail_if_success (have:=nl3));refine wN fun nl3 hnl=>?_)|refine wN fun _ hnl=>?_);revert hnl;(repeat refine wS fun _ _=>?_);intro hnl)|refine wE ?_|(refine wK ?_ ?_<;>intro h)|(refine wB ?_ ?_<;>intro h<;>simp only[h]))|simp(maxSteps:=4000000) (disch:=first|exact ddL|fail) only[go_sem,simprocAttr])
  all_goals
   refine .of (.less ?_ (St.le_refl _)) ⟨rfl,rfl⟩
   simp(maxSteps:=4000000) (disch:=first|exact ddL|fail) only[go_sem,simprocAttr,aC,aB]
   all_goals first|rfl|omega|(simp;done)|(simp;omega)
 rintro _ _ ⟨rfl,rfl⟩
 refine dM (dW ?_)
 repeat' (first|(with_reducible first|(refine wT ?_;(first|((fail_if_success (have:=nl1));refine wN fun nl1 hnl=>?_)|((fail_if_success (have:=nl2));refine wN fun nl2 hnl=>?_)|((fail_if_success (have:=nl3));refine wN fun nl3 hnl=>?_)|refine wN fun _ hnl=>?_);revert hnl;(repeat refine wS fun _ _=>?_);intro hnl)|refine wE ?_|(refine wK ?_ ?_<;>intro h)|(refine wB ?_ ?_<;>intro h<;>simp only[h]))|simp(maxSteps:=4000000) (disch:=first|exact ddL|fail) only[go_sem,simprocAttr])
 all_goals (try (exfalso;omega))
 refine eF (dM (dW ?_))
 repeat' (first|(with_reducible first|(refine wT ?_;(first|((fail_if_success (have:=nl1));refine wN fun nl1 hnl=>?_)|((fail_if_success (have:=nl2));refine wN fun nl2 hnl=>?_)|((fail_if_success (have:=nl3));refine wN fun nl3 hnl=>?_)|refine wN fun _ hnl=>?_);revert hnl;(repeat refine wS fun _ _=>?_);intro hnl)|refine wE ?_|(refine wK ?_ ?_<;>intro h)|(refine wB ?_ ?_<;>intro h<;>simp only[h]))|simp(maxSteps:=4000000) (disch:=first|exact ddL|fail) only[go_sem,simprocAttr])
 refine eF (ES (good:=fun f' σ'=>f'=⟨66,[(12,.lst 28 (IT.ks (inI (cJ W cur))) false),(4,.int .i64 room)],[]⟩∧σ'=(((((St.none.set m (.mp (cEs B.cards))).set l (shO B.nx m (.vec 3 q 0 B.dead.length))).set q (.row 90 3 (B.dead.map DE.c))).set b (cF B.sq l (.lst 2 (B.gr.map GR.c) false))).set f (flD fl dn))) (dW ?_) ?_)
 ·repeat' (first|(refine uT hids (hle0 d) ?_)|(with_reducible first|(refine wT ?_;(first|((fail_if_success (have:=nl1));refine wN fun nl1 hnl=>?_)|((fail_if_success (have:=nl2));refine wN fun nl2 hnl=>?_)|((fail_if_success (have:=nl3));refine wN fun nl3 hnl=>?_)|refine wN fun _ hnl=>?_);revert hnl;(repeat refine wS fun _ _=>?_);intro hnl)|refine wE ?_|(refine wK ?_ ?_<;>intro h)|(refine wB ?_ ?_<;>intro h<;>simp only[h]))|simp(maxSteps:=4000000) (disch:=first|exact ddL|fail) only[go_sem,simprocAttr])
  refine aG (α:=Nat × Nat × List (List MV)) (fun z=>⟨66,[(27,.int .i64 (z.1:Int)),(26,.int .i64 (S.length:Int)),(25,.lst 1 (S.map idX) false),(12,.vec 28 z.2.1 0 (cJ (W.take z.1) cur).length),(4,.int .i64 room),(3,.int .i64 M),(2,.int .u32 (mk.toNat:Int)),(1,.ptr f 0 0),(0,.ptr b 0 0)],[]⟩)
   (fun z=>((((((St.none.set m (.mp (cEs B.cards))).set l (shO B.nx m (.vec 3 q 0 B.dead.length))).set q (.row 90 3 (B.dead.map DE.c))).set b (cF B.sq l (.lst 2 (B.gr.map GR.c) false))).set f (flD fl dn))).set z.2.1 (.row 132 28 (IT.ks (inI (cJ (W.take z.1) cur))++z.2.2)))
   (fun z=>z.1≤S.length∧z.2.1≠m∧z.2.1≠l∧z.2.1≠q∧z.2.1≠b∧z.2.1≠f) (fun z=>S.length - z.1) ?_ ?_
  ·refine Gh.uE 132 28 (fun r=>[(27,.int .i64 0),(26,.int .i64 (S.length:Int)),(25,.lst 1 (S.map idX) false),(12,.vec 28 r 0 0),(4,.int .i64 room),(3,.int .i64 M),(2,.int .u32 (mk.toNat:Int)),(1,.ptr f 0 0),(0,.ptr b 0 0)]) (fun k=>by(repeat' (refine And.intro ?_ ?_))<;>first|exact trivial|exact .inl rfl|exact .inr ⟨rfl,.inl rfl⟩|exact .inr ⟨rfl,.inr rfl⟩) fun r hr=>?_
   simp only[aY] at hr
   obtain⟨r5,r4,r3,r2,r1,-⟩:=hr
   exact .done ⟨(0,r,[]),rfl,by simp[cJ,inI,IT.ks],Nat.zero_le _,r1,r2,r3,r4,r5⟩
  ·rintro⟨i,r,xx⟩ ⟨hi,r1,r2,r3,r4,r5⟩
   simp only at hi r1 r2 r3 r4 r5 ⊢
   have r1':=Ne.symm r1
   have r2':=Ne.symm r2
   have r3':=Ne.symm r3
   have r4':=Ne.symm r4
   have r5':=Ne.symm r5
   by_cases hlt:i<S.length
   ·obtain⟨x,hx⟩:=bL S hlt
    have hat1:=bI (f:=idX) hx
    have hWx:W[i]?=some (gR x mk):=by rw[←hW,List.getElem?_map,hx];rfl
    have hpi:(gR x mk).id=x.id:=rfl
    have hsn:=tY (cur:=cur) hWx
    rw[hM,hpi] at hsn
    obtain⟨A,hA⟩:∃A,cJ (W.take i) cur=A:=⟨_,rfl⟩
    rw[hA] at hsn ⊢
    have hx0:=hSm x (cW hx)
    have hdt:dn=true:=by rw[←hdn];cases d<;>simp[hx0]
    have hsh':=hsh x.id
    rw[(hat x (cW hx)).1,(hat x (cW hx)).2,show(dn || decide ((x,(0:Int)).2=0))=dn by rw[hdt];rfl] at hsh'
    have hpr:=DP x mk
    by_cases hle:x.id≤M
    ·rw[if_neg (by omega),List.append_nil] at hsn
     clear hids hsh hle0 hat hsh' hpr
     repeat' (first|(with_reducible first|(refine wT ?_;(first|((fail_if_success (have:=nl1));refine wN fun nl1 hnl=>?_)|((fail_if_success (have:=nl2));refine wN fun nl2 hnl=>?_)|((fail_if_success (have:=nl3));refine wN fun nl3 hnl=>?_)|refine wN fun _ hnl=>?_);revert hnl;(repeat refine wS fun _ _=>?_);intro hnl)|refine wE ?_|(refine wK ?_ ?_<;>intro h)|(refine wB ?_ ?_<;>intro h<;>simp only[h]))|simp(maxSteps:=4000000) (disch:=first|exact ddL|fail) only[go_sem,simprocAttr,hat1,hil])
     all_goals (try (exfalso;omega))
     all_goals
      refine .of (.less ?_ ?_) ⟨(i+1,r,xx),rfl,rfl,⟨by simp only;omega,r1,r2,r3,r4,r5⟩,by simp only;omega⟩
      ·simp only[hsn]
       simp(maxSteps:=4000000) (disch:=first|exact ddL|fail) only[go_sem,simprocAttr,aC,aB]
       all_goals first|rfl|(simp;done)
      ·simp only[hsn]
       exact St.le_refl _
    ·rw[if_pos (by omega)] at hsn
     have ksn:=EL A (gR x mk)
     have kl:=l8 A
     have hal:(A++[gR x mk]).length=A.length+1:=by simp
     obtain⟨y,hy⟩:∃y,gR x mk=y:=⟨_,rfl⟩
     rw[hy] at hpr ksn hsn hal
     obtain⟨Q,hQ⟩:∃Q,IT.ks (inI A)=Q:=⟨_,rfl⟩
     rw[hQ] at ksn kl ⊢
     obtain⟨j,hj⟩:∃j,A.length=j:=⟨_,rfl⟩
     rw[hj] at kl hal ⊢
     have fce:(∀c,c∈fc y.f→c.aL=true)=True:=eq_true (oS (bZ y.f))
     have hj6:j≤1000000:=by
      rw[←hj,←hA]
      exact Nat.le_trans (List.length_filter_le _ _) (by rw[List.length_take];omega)
     have hdr:(Q++xx).drop (j+1)=xx.drop 1:=by rw[←kl,←List.drop_drop,List.drop_left]
     have htk':(Q++xx).take j=Q:=List.take_left' kl
     clear hids hsh hle0 hat
     repeat' (first|(refine uT hsh' (xY (by simp[St.set, *]) (by simp[St.set, *]) (by simp[St.set, *]) (by simp[St.set, *]) (by simp[St.set, *])) ?_)|(with_reducible refine aQ hpr ?_)|(with_reducible first|(refine wT ?_;(first|((fail_if_success (have:=nl1));refine wN fun nl1 hnl=>?_)|((fail_if_success (have:=nl2));refine wN fun nl2 hnl=>?_)|((fail_if_success (have:=nl3));refine wN fun nl3 hnl=>?_)|refine wN fun _ hnl=>?_);revert hnl;(repeat refine wS fun _ _=>?_);intro hnl)|refine wE ?_|(refine wK ?_ ?_<;>intro h)|(refine wB ?_ ?_<;>intro h<;>simp only[h]))|simp(maxSteps:=4000000) (disch:=first|exact ddL|fail) only[go_sem,simprocAttr,FXs,hat1,hil,kl,htk',hdr,fce])
     all_goals (try (exfalso;omega))
     all_goals
      clear htk' hdr hsh'
      have q1:nl3≠m:=by assumption
      have q2:nl3≠l:=by assumption
      have q3:nl3≠q:=by assumption
      have q4:nl3≠b:=by assumption
      have q5:nl3≠f:=by assumption
     ·have hex:xx=[]:=List.eq_nil_of_length_eq_zero (by omega)
      subst hex
      clear h
      refine .of (.less ?_ ?_) ⟨(i+1,nl3,[]),rfl,rfl,⟨by simp only;omega,q1,q2,q3,q4,q5⟩,by simp only;omega⟩
      ·simp only[hsn,hal]
       simp(maxSteps:=4000000) (disch:=first|exact ddL|fail) only[go_sem,simprocAttr,aC,aB]
       all_goals first|rfl|(simp;done)
      ·simp only[hsn,ksn]
       exact St.aH (St.aH (St.aH (St.aH (St.aH (St.aH (St.none_le _) (by simp[St.set, *])) (by simp[St.set, *])) (by simp[St.set, *])) (by simp[St.set, *])) (by simp[St.set, *])) (by simp[St.set, *])
     ·clear h
      refine .of (.less ?_ ?_) ⟨(i+1,nl3,xx.drop 1),rfl,rfl,⟨by simp only;omega,q1,q2,q3,q4,q5⟩,by simp only;omega⟩
      ·simp only[hsn,hal]
       simp(maxSteps:=4000000) (disch:=first|exact ddL|fail) only[go_sem,simprocAttr,aC,aB]
       all_goals first|rfl|(simp;done)
      ·simp only[hsn,ksn]
       exact St.aH (St.aH (St.aH (St.aH (St.aH (St.aH (St.none_le _) (by simp[St.set, *])) (by simp[St.set, *])) (by simp[St.set, *])) (by simp[St.set, *])) (by simp[St.set, *])) (by simp[St.set, *])
   ·have:i=S.length:=by omega
    subst this
    have htl:W.take S.length=W:=by rw[←hWl];exact List.take_length
    rw[htl]
    repeat' (first|(with_reducible first|(refine wT ?_;(first|((fail_if_success (have:=nl1));refine wN fun nl1 hnl=>?_)|((fail_if_success (have:=nl2));refine wN fun nl2 hnl=>?_)|((fail_if_success (have:=nl3));refine wN fun nl3 hnl=>?_)|refine wN fun _ hnl=>?_);revert hnl;(repeat refine wS fun _ _=>?_);intro hnl)|refine wE ?_|(refine wK ?_ ?_<;>intro h)|(refine wB ?_ ?_<;>intro h<;>simp only[h]))|simp(maxSteps:=4000000) (disch:=first|exact ddL|fail) only[go_sem,simprocAttr])
    refine .of (bD.freeze (l1:=[(12,.lst 28 (IT.ks (inI (cJ W cur))) false),(4,.int .i64 room)]) (σ1:=(((((St.none.set m (.mp (cEs B.cards))).set l (shO B.nx m (.vec 3 q 0 B.dead.length))).set q (.row 90 3 (B.dead.map DE.c))).set b (cF B.sq l (.lst 2 (B.gr.map GR.c) false))).set f (flD fl dn))) (St.none.set r (.row 132 28 (IT.ks (inI (cJ W cur))++xx))) (St.aH (St.none_le _) (aJ _ _ _)) (St.yL (St.le_refl _) (by simp[St.set,St.none, *])) (fun k o hk=>?_) (fun p hp=>?_)) ⟨rfl,rfl⟩
    ·refine aP _ _ _ _ fun e=>?_
     subst e
     simp[St.set,St.none, *] at hk
    ·simp only[List.mem_cons,List.not_mem_nil,or_false] at hp
     rcases hp with rfl|rfl
     ·exact cM (aJ _ _ _) (l8 _).symm
     ·exact .same _
 rintro _ _ ⟨rfl,rfl⟩
 have kl:=l8 (cJ W cur)
 by_cases hfit:((cJ W cur).length:Int)≤room
 ·have e:eG W cur room=(cJ W cur,1073741824):=by unfold eG;rw[if_neg (by omega),if_pos hfit]
  rw[e]
  refine dW ?_
  clear hids hsh hat
  repeat' (first|(with_reducible first|(refine wT ?_;(first|((fail_if_success (have:=nl1));refine wN fun nl1 hnl=>?_)|((fail_if_success (have:=nl2));refine wN fun nl2 hnl=>?_)|((fail_if_success (have:=nl3));refine wN fun nl3 hnl=>?_)|refine wN fun _ hnl=>?_);revert hnl;(repeat refine wS fun _ _=>?_);intro hnl)|refine wE ?_|(refine wK ?_ ?_<;>intro h)|(refine wB ?_ ?_<;>intro h<;>simp only[h]))|simp(maxSteps:=4000000) (disch:=first|exact ddL|fail) only[go_sem,simprocAttr,kl])
  all_goals (try (exfalso;omega))
  exact⟨_,St.none,rfl,St.none_le _,hle0 dn,fun k o hk=>rfl,.same _⟩
 ·obtain⟨n,hn⟩:∃n:Nat,room=n:=⟨room.toNat,by omega⟩
  subst hn
  obtain⟨R0,hR0⟩:∃R0,cJ W cur=R0:=⟨_,rfl⟩
  rw[hR0] at kl hfit ⊢
  obtain⟨y,hy⟩:=bL R0 (show n - 1<R0.length by omega)
  have e:eG W cur (n:Int)=(R0.take n,y.id):=by
   unfold eG
   rw[hR0,if_neg (by omega),if_neg hfit,Int.toNat_natCast,List.getD_eq_getElem?_getD,hy];rfl
  have hR6:R0.length≤1000000:=by rw[←hR0];exact Nat.le_trans (List.length_filter_le _ _) (by omega)
  have hto:((n:Int) - 1).toNat=n - 1:=by omega
  have hkt:(IT.ks (inI R0)).take n=IT.ks (inI (R0.take n)):=by simp[IT.ks,inI,List.map_take]
  have hgt:(IT.ks (inI (R0.take n))).getD (n - 1) []=.int .i64 1::.int .i64 y.id::.int .i64 y.ver::.int .u32 (y.lab.toNat:Int)::fc y.f:=by
   rw[←hkt,List.getD_eq_getElem?_getD,List.getElem?_take,if_pos (by omega)]
   simp[IT.ks,inI,hy]
  have hkl:(IT.ks (inI (R0.take n))).length=n:=by rw[l8,List.length_take];omega
  rw[e]
  clear hids hsh hat
  refine dW ?_
  repeat' (first|(with_reducible first|(refine wT ?_;(first|((fail_if_success (have:=nl1));refine wN fun nl1 hnl=>?_)|((fail_if_success (have:=nl2));refine wN fun nl2 hnl=>?_)|((fail_if_success (have:=nl3));refine wN fun nl3 hnl=>?_)|refine wN fun _ hnl=>?_);revert hnl;(repeat refine wS fun _ _=>?_);intro hnl)|refine wE ?_|(refine wK ?_ ?_<;>intro h)|(refine wB ?_ ?_<;>intro h<;>simp only[h]))|simp(maxSteps:=4000000) (disch:=first|exact ddL|fail) only[go_sem,simprocAttr,FXs,kl,hto,hkt,hgt,hkl])
  all_goals (try (exfalso;omega))
  exact⟨_,St.none,rfl,St.none_le _,hle0 dn,fun k o hk=>rfl,hY (.tight _ _)⟩
end

section
set_option maxRecDepth 100000
set_option maxHeartbeats 8000000
def tF(n page:Int):Int:=if n<0∨1099511627776<n∨page<1∨1099511627776<page then 0 else n.tdiv page+1
theorem DN(n page:Int):aA Tryz.prog 31 [.int .i64 n,.int .i64 page] St.none (fun r _=>r=.int .i64 (tF n page)):=by
 refine(aA.body 23 [.tmp 4] Tryz.func31 rfl rfl rfl rfl ?_)
 by_cases h:n<0∨1099511627776<n∨page<1∨1099511627776<page
 ·rw[show tF n page=0 from if_pos h]
  repeat' (first|(with_reducible first|(refine wN fun _ hnl=>?_;revert hnl;(repeat refine wS fun _ _=>?_);intro hnl)|refine wE ?_|(refine wK ?_ ?_<;>intro h)|(refine wB ?_ ?_<;>intro h<;>simp only[h]))|simp(maxSteps:=4000000) (disch:=first|exact ddL|fail) only[go_sem,simprocAttr,Tryz.f31])
  all_goals first|rfl|(exfalso;omega)
 ·rw[show tF n page=n.tdiv page+1 from if_neg h]
  have t1:=Int.tdiv_nonneg (a:=n) (b:=page) (by omega) (by omega)
  have t2:=Int.tdiv_le_self (a:=n) page (by omega)
  obtain⟨t,ht⟩:∃t,n.tdiv page=t:=⟨_,rfl⟩
  rw[ht] at t1 t2 ⊢
  repeat' (first|(with_reducible first|(refine wN fun _ hnl=>?_;revert hnl;(repeat refine wS fun _ _=>?_);intro hnl)|refine wE ?_|(refine wK ?_ ?_<;>intro h)|(refine wB ?_ ?_<;>intro h<;>simp only[h]))|simp(maxSteps:=4000000) (disch:=first|exact ddL|fail) only[go_sem,simprocAttr,Tryz.f31,ht])
  all_goals first|rfl|(exfalso;omega)
theorem zT(n page:Int):aA Tryz.prog 32 [.int .i64 n,.int .i64 page] St.none (fun r _=>r=.int .i64 (tF n page)):=by
 refine(aA.body 23 [.tmp 4] Tryz.func32 rfl rfl rfl rfl ?_)
 by_cases h:n<0∨1099511627776<n∨page<1∨1099511627776<page
 ·rw[show tF n page=0 from if_pos h]
  repeat' (first|(with_reducible first|(refine wN fun _ hnl=>?_;revert hnl;(repeat refine wS fun _ _=>?_);intro hnl)|refine wE ?_|(refine wK ?_ ?_<;>intro h)|(refine wB ?_ ?_<;>intro h<;>simp only[h]))|simp(maxSteps:=4000000) (disch:=first|exact ddL|fail) only[go_sem,simprocAttr,Tryz.f32])
  all_goals first|rfl|(exfalso;omega)
 ·rw[show tF n page=n.tdiv page+1 from if_neg h]
  have t1:=Int.tdiv_nonneg (a:=n) (b:=page) (by omega) (by omega)
  have t2:=Int.tdiv_le_self (a:=n) page (by omega)
  obtain⟨t,ht⟩:∃t,n.tdiv page=t:=⟨_,rfl⟩
  rw[ht] at t1 t2 ⊢
  repeat' (first|(with_reducible first|(refine wN fun _ hnl=>?_;revert hnl;(repeat refine wS fun _ _=>?_);intro hnl)|refine wE ?_|(refine wK ?_ ?_<;>intro h)|(refine wB ?_ ?_<;>intro h<;>simp only[h]))|simp(maxSteps:=4000000) (disch:=first|exact ddL|fail) only[go_sem,simprocAttr,Tryz.f32,ht])
  all_goals first|rfl|(exfalso;omega)
theorem Ip(l:List CA){i:Nat}{x:CA}(h:l[i]?=some x):(IT.ks (inI l)).getD i []=(IT.mk 1 x).k:=by
 simp[IT.ks,inI,h]
theorem BU(a b:List CA)(hl:a.length≤1000000)(ta tb:Bool):aA Tryz.prog 34 [.lst 28 (IT.ks (inI a)) ta,.lst 28 (IT.ks (inI b)) tb] St.none (fun r _=>r=.bool (decide (a=b))):=by
 refine(aA.body 26 [.tmp 4] Tryz.func34 rfl rfl rfl rfl ?_)
 have hka:=l8 a
 have hkb:=l8 b
 by_cases hlen:a.length=b.length
 ·have hat1:∀{i:Nat} {x:CA},a[i]?=some x→(IT.ks (inI a)).getD i []=(IT.mk 1 x).k:=fun h=>Ip a h
  have hat2:∀{i:Nat} {x:CA},b[i]?=some x→(IT.ks (inI b)).getD i []=(IT.mk 1 x).k:=fun h=>Ip b h
  obtain⟨A,hA⟩:∃A,IT.ks (inI a)=A:=⟨_,rfl⟩
  obtain⟨B,hB⟩:∃B,IT.ks (inI b)=B:=⟨_,rfl⟩
  rw[hA] at hka ⊢
  rw[hB] at hkb ⊢
  simp only[hA] at hat1
  simp only[hB] at hat2
  repeat' (first|(with_reducible first|(refine wN fun _ hnl=>?_;revert hnl;(repeat refine wS fun _ _=>?_);intro hnl)|refine wE ?_|(refine wK ?_ ?_<;>intro h)|(refine wB ?_ ?_<;>intro h<;>simp only[h]))|simp(maxSteps:=4000000) (disch:=first|exact ddL|fail) only[go_sem,simprocAttr,Tryz.f34,hka,hkb])
  all_goals (try (exfalso;omega))
  refine aG (α:=Nat) (fun i=>⟨26,[(5,.int .i64 (i:Int)),(0,.lst 28 A ta),(1,.lst 28 B tb)],[]⟩) (fun _=>St.none) (fun i=>i≤a.length∧a.take i=b.take i) (fun i=>a.length - i) (.of (.less ?_ (St.le_refl _)) ⟨0,rfl,rfl,Nat.zero_le _,rfl⟩) ?_
  ·simp(maxSteps:=4000000) (disch:=first|exact ddL|fail) only[go_sem,simprocAttr,aC,aB]
   all_goals rfl
  ·rintro i ⟨hi,hq⟩
   by_cases hlt:i<a.length
   ·obtain⟨x,hx⟩:=bL a hlt
    obtain⟨y,hy⟩:=bL b (show i<b.length by omega)
    have hxa:=hat1 hx
    have hyb:=hat2 hy
    have hsa:=bA hx
    have hsb:=bA hy
    have hm:=IX (IT.mk 1 x) (IT.mk 1 y)
    by_cases he:x=y
    ·have hd:decide ((IT.mk 1 x)=(IT.mk 1 y))=true:=decide_eq_true (by rw[he])
     rw[hd] at hm
     repeat' (first|(with_reducible first|(refine wN fun _ hnl=>?_;revert hnl;(repeat refine wS fun _ _=>?_);intro hnl)|refine wE ?_|(refine wK ?_ ?_<;>intro h)|(refine wB ?_ ?_<;>intro h<;>simp only[h]))|simp(maxSteps:=4000000) (disch:=first|exact ddL|fail) only[go_sem,simprocAttr,FXs,hka,hkb,hxa,hyb,hm])
     all_goals (try (exfalso;omega))
     refine .of (.less ?_ (St.le_refl _)) ⟨i+1,rfl,rfl,⟨by omega,by rw[hsa,hsb,hq,he]⟩,by omega⟩
     simp(maxSteps:=4000000) (disch:=first|exact ddL|fail) only[go_sem,simprocAttr,aC,aB]
     all_goals first|rfl|(simp;done)
    ·have hd:decide ((IT.mk 1 x)=(IT.mk 1 y))=false:=decide_eq_false fun e=>he (by cases e;rfl)
     rw[hd] at hm
     have hne:¬a=b:=fun e=>he (by subst e;rw[hx] at hy;cases hy;rfl)
     rw[decide_eq_false hne]
     repeat' (first|(with_reducible first|(refine wN fun _ hnl=>?_;revert hnl;(repeat refine wS fun _ _=>?_);intro hnl)|refine wE ?_|(refine wK ?_ ?_<;>intro h)|(refine wB ?_ ?_<;>intro h<;>simp only[h]))|simp(maxSteps:=4000000) (disch:=first|exact ddL|fail) only[go_sem,simprocAttr,FXs,hka,hkb,hxa,hyb,hm])
     all_goals (try (exfalso;omega))
   ·have:i=a.length:=by omega
    subst this
    rw[List.take_length,hlen,List.take_length] at hq
    rw[decide_eq_true hq]
    repeat' (first|(with_reducible first|(refine wN fun _ hnl=>?_;revert hnl;(repeat refine wS fun _ _=>?_);intro hnl)|refine wE ?_|(refine wK ?_ ?_<;>intro h)|(refine wB ?_ ?_<;>intro h<;>simp only[h]))|simp(maxSteps:=4000000) (disch:=first|exact ddL|fail) only[go_sem,simprocAttr,hka,hkb])
    all_goals (try (exfalso;omega))
 ·rw[decide_eq_false fun e=>hlen (by rw[e])]
  repeat' (first|(with_reducible first|(refine wN fun _ hnl=>?_;revert hnl;(repeat refine wS fun _ _=>?_);intro hnl)|refine wE ?_|(refine wK ?_ ?_<;>intro h)|(refine wB ?_ ?_<;>intro h<;>simp only[h]))|simp(maxSteps:=4000000) (disch:=first|exact ddL|fail) only[go_sem,simprocAttr,Tryz.f34,hka,hkb])
  all_goals (first|rfl|(exfalso;omega))
end

section
set_option maxRecDepth 100000
set_option maxHeartbeats 8000000
theorem FH{W:List CA}{cur room:Int}{i:Nat}{x:CA}(hx:W[i]?=some x)(hM:max cur 0<x.id)(hr:1≤room)(hl:((cJ (W.take i) cur).length:Int)=room) :
  eG W cur room=(cJ (W.take i) cur,((cJ (W.take i) cur).getD (room.toNat - 1) ca0).id):=by
 obtain⟨A,hA⟩:∃A,cJ (W.take i) cur=A:=⟨_,rfl⟩
 have hW:cJ W cur=A++cJ (W.drop i) cur:=by
  rw[←hA]
  unfold cJ
  rw[←List.filter_append,List.take_append_drop]
 have hd:∃C,cJ (W.drop i) cur=x::C:=by
  have hi:=(List.getElem?_eq_some_iff.1 hx).1
  have he:=(List.getElem?_eq_some_iff.1 hx).2
  rw[List.drop_eq_getElem_cons hi,he]
  unfold cJ
  rw[List.filter_cons,if_pos (decide_eq_true hM)]
  exact⟨_,rfl⟩
 obtain⟨C,hC⟩:=hd
 rw[hA] at hl ⊢
 have hn:room.toNat=A.length:=by omega
 unfold eG
 rw[if_neg (by omega),hW,hC,if_neg (by simp;omega),hn]
 rw[List.take_left' rfl]
 congr 2
 rw[List.getD_eq_getElem?_getD,List.getD_eq_getElem?_getD,List.getElem?_append_left (by omega)]
theorem DT(B:BK)(hb:BkR B)(h3:B.gr.length≤1000000)(h4:∀g,g∈B.gr→g.mem.length≤1000000)(fl:List ND)(hp:bU fl=0)(t:Bool)(mk:UInt32)(cur room:Int) :
  aA Tryz.prog 33 [.agg B.c,.lst 5 (fl.map ND.c) t,.int .u32 (mk.toNat:Int),.int .i64 cur,.int .i64 room] St.none (fun r _=>r=.tup [.lst 28 (IT.ks (inI (eG (dS B fl mk 1073741824) cur room).1)) false,.int .i64 (eG (dS B fl mk 1073741824) cur room).2]):=by
 refine aA.seen (aA.gF 59 [.tmp 10,.tmp 11] Tryz.func33 rfl rfl rfl rfl ?_)
 have hid:=BS B hb h3 h4 fl hp t mk 1073741824
 have hWl:(dS B fl mk 1073741824).length≤1000000:=by
  unfold dS
  rw[List.length_map]
  have:=hb.nc
  exact Nat.le_trans (List.length_filter_le _ _) (by omega)
 obtain⟨W,hW⟩:∃W,dS B fl mk 1073741824=W:=⟨_,rfl⟩
 rw[hW] at hid hWl ⊢
 obtain⟨M,hM⟩:∃M,max cur 0=M:=⟨_,rfl⟩
 have hwl:(W.map CA.c).length=W.length:=List.length_map _
 refine dM (dW ?_)
 repeat' (first|(with_reducible first|(refine wT ?_;(first|((fail_if_success (have:=nl1));refine wN fun nl1 hnl=>?_)|((fail_if_success (have:=nl2));refine wN fun nl2 hnl=>?_)|((fail_if_success (have:=nl3));refine wN fun nl3 hnl=>?_)|((fail_if_success (have:=nl4));refine wN fun nl4 hnl=>?_)|refine wN fun _ hnl=>?_);revert hnl;(repeat refine wS fun _ _=>?_);intro hnl)|refine wE ?_|(refine wK ?_ ?_<;>intro h)|(refine wB ?_ ?_<;>intro h<;>simp only[h]))|simp(maxSteps:=4000000) (disch:=first|exact ddL|fail) only[go_sem,simprocAttr])
 refine eF (ES (good:=fun f' σ'=>f'=⟨59,[(5,.ptr nl1 0 0),(4,.int .i64 room),(3,.int .i64 M),(2,.int .u32 (mk.toNat:Int)),(1,.lst 5 (fl.map ND.c) t)],[]⟩∧σ'=St.none.set nl1 (.row 26 5 [B.c])) (dW ?_) ?_)
 ·repeat' (first|(with_reducible first|(refine wT ?_;(first|((fail_if_success (have:=nl1));refine wN fun nl1 hnl=>?_)|((fail_if_success (have:=nl2));refine wN fun nl2 hnl=>?_)|((fail_if_success (have:=nl3));refine wN fun nl3 hnl=>?_)|((fail_if_success (have:=nl4));refine wN fun nl4 hnl=>?_)|refine wN fun _ hnl=>?_);revert hnl;(repeat refine wS fun _ _=>?_);intro hnl)|refine wE ?_|(refine wK ?_ ?_<;>intro h)|(refine wB ?_ ?_<;>intro h<;>simp only[h]))|simp(maxSteps:=4000000) (disch:=first|exact ddL|fail) only[go_sem,simprocAttr])
  all_goals
   refine .of (.less ?_ (St.le_refl _)) ⟨rfl,rfl⟩
   simp(maxSteps:=4000000) (disch:=first|exact ddL|fail) only[go_sem,simprocAttr,aC,aB]
   all_goals first|rfl|omega|(simp;done)|(simp;omega)
 rintro _ _ ⟨rfl,rfl⟩
 refine dW ?_
 by_cases hr:room<1
 ·have e:eG W cur room=([],M):=by rw[←hM];exact if_pos hr
  rw[e]
  repeat' (first|(with_reducible first|(refine wT ?_;(first|((fail_if_success (have:=nl1));refine wN fun nl1 hnl=>?_)|((fail_if_success (have:=nl2));refine wN fun nl2 hnl=>?_)|((fail_if_success (have:=nl3));refine wN fun nl3 hnl=>?_)|((fail_if_success (have:=nl4));refine wN fun nl4 hnl=>?_)|refine wN fun _ hnl=>?_);revert hnl;(repeat refine wS fun _ _=>?_);intro hnl)|refine wE ?_|(refine wK ?_ ?_<;>intro h)|(refine wB ?_ ?_<;>intro h<;>simp only[h]))|simp(maxSteps:=4000000) (disch:=first|exact ddL|fail) only[go_sem,simprocAttr])
  all_goals (try (exfalso;omega))
  exact hY (.nil _ _)
 ·repeat' (first|(with_reducible refine aQ hid ?_)|(with_reducible first|(refine wT ?_;(first|((fail_if_success (have:=nl1));refine wN fun nl1 hnl=>?_)|((fail_if_success (have:=nl2));refine wN fun nl2 hnl=>?_)|((fail_if_success (have:=nl3));refine wN fun nl3 hnl=>?_)|((fail_if_success (have:=nl4));refine wN fun nl4 hnl=>?_)|refine wN fun _ hnl=>?_);revert hnl;(repeat refine wS fun _ _=>?_);intro hnl)|refine wE ?_|(refine wK ?_ ?_<;>intro h)|(refine wB ?_ ?_<;>intro h<;>simp only[h]))|simp(maxSteps:=4000000) (disch:=first|exact ddL|fail) only[go_sem,simprocAttr])
  all_goals (try (exfalso;omega))
  refine aG (α:=Nat × Nat × List (List MV)) (fun z=>⟨59,[(14,.int .i64 (z.1:Int)),(13,.vec 28 z.2.1 0 (cJ (W.take z.1) cur).length),(12,.lst 27 (W.map CA.c) false),(4,.int .i64 room),(3,.int .i64 M)],[]⟩)
   (fun z=>St.none.set z.2.1 (.row 132 28 (IT.ks (inI (cJ (W.take z.1) cur))++z.2.2))) (fun z=>z.1≤W.length∧((cJ (W.take z.1) cur).length:Int)≤room) (fun z=>W.length - z.1) ?_ ?_
  ·refine .of (.less ?_ ?_) ⟨(0,nl2,[]),rfl,rfl,Nat.zero_le _,by simp[cJ];omega⟩
   ·simp(maxSteps:=4000000) (disch:=first|exact ddL|fail) only[go_sem,simprocAttr,aC,aB]
    all_goals first|rfl|(show lK (.vec 28 nl2 0 0) (.vec 28 nl2 0 0);simp only[aB])
   ·exact St.aH (St.none_le _) (aJ _ _ _)
  ·rintro⟨i,r,xx⟩ ⟨hi,hlr⟩
   simp only at hi hlr ⊢
   by_cases hlt:i<W.length
   ·obtain⟨x,hx⟩:=bL W hlt
    have hat:=bI (f:=CA.c) hx
    have hsn:=tY (cur:=cur) hx
    have hff:=fun h1 h2=>FH (cur:=cur) (room:=room) hx h1 (by omega) h2
    rw[hM] at hsn hff
    obtain⟨A,hA⟩:∃A,cJ (W.take i) cur=A:=⟨_,rfl⟩
    rw[hA] at hsn hff hlr ⊢
    have ksn:=EL A x
    have kl:=l8 A
    have kat:=fun {j:Nat} {y:CA} (h:A[j]?=some y)=>Ip A h
    have hal:(A++[x]).length=A.length+1:=by simp
    have hA6:A.length≤1000000:=by
     rw[←hA]
     exact Nat.le_trans (List.length_filter_le _ _) (by rw[List.length_take];omega)
    obtain⟨Q,hQ⟩:∃Q,IT.ks (inI A)=Q:=⟨_,rfl⟩
    rw[hQ] at ksn kl ⊢
    simp only[hQ] at kat
    by_cases hle:x.id≤M
    ·rw[if_neg (by omega),List.append_nil] at hsn
     clear hff kat
     repeat' (first|(with_reducible first|(refine wT ?_;(first|((fail_if_success (have:=nl1));refine wN fun nl1 hnl=>?_)|((fail_if_success (have:=nl2));refine wN fun nl2 hnl=>?_)|((fail_if_success (have:=nl3));refine wN fun nl3 hnl=>?_)|((fail_if_success (have:=nl4));refine wN fun nl4 hnl=>?_)|refine wN fun _ hnl=>?_);revert hnl;(repeat refine wS fun _ _=>?_);intro hnl)|refine wE ?_|(refine wK ?_ ?_<;>intro h)|(refine wB ?_ ?_<;>intro h<;>simp only[h]))|simp(maxSteps:=4000000) (disch:=first|exact ddL|fail) only[go_sem,simprocAttr,hat,hwl])
     all_goals (try (exfalso;omega))
     all_goals
      refine .of (.less ?_ ?_) ⟨(i+1,r,xx),rfl,rfl,⟨by simp only;omega,by simp only[hsn];exact hlr⟩,by simp only;omega⟩
      ·simp only[hsn]
       simp(maxSteps:=4000000) (disch:=first|exact ddL|fail) only[go_sem,simprocAttr,aC,aB]
       all_goals first|rfl|(simp;done)
      ·simp only[hsn,hQ]
       exact St.aH (St.none_le _) (by simp[St.set, *])
    ·rw[if_pos (by omega)] at hsn
     by_cases hful:(A.length:Int)=room
     ·have e:=hff (by omega) hful
      obtain⟨y,hy⟩:=bL A (show A.length - 1<A.length by omega)
      have hky:=kat hy
      have hgy:A.getD (room.toNat - 1) ca0=y:=by
       rw[show room.toNat=A.length by omega,List.getD_eq_getElem?_getD,hy];rfl
      rw[hgy] at e
      rw[e]
      have hto:(room - 1).toNat=A.length - 1:=by omega
      have hkx:(Q++xx).getD (A.length - 1) []=(IT.mk 1 y).k:=by
       rw[List.getD_eq_getElem?_getD,List.getElem?_append_left (by omega),←List.getD_eq_getElem?_getD];exact hky
      clear hff kat ksn hsn
      repeat' (first|(with_reducible first|(refine wT ?_;(first|((fail_if_success (have:=nl1));refine wN fun nl1 hnl=>?_)|((fail_if_success (have:=nl2));refine wN fun nl2 hnl=>?_)|((fail_if_success (have:=nl3));refine wN fun nl3 hnl=>?_)|((fail_if_success (have:=nl4));refine wN fun nl4 hnl=>?_)|refine wN fun _ hnl=>?_);revert hnl;(repeat refine wS fun _ _=>?_);intro hnl)|refine wE ?_|(refine wK ?_ ?_<;>intro h)|(refine wB ?_ ?_<;>intro h<;>simp only[h]))|simp(maxSteps:=4000000) (disch:=first|exact ddL|fail) only[go_sem,simprocAttr,FXs,hat,hwl,kl,hto,hkx])
      all_goals (try (exfalso;omega))
      all_goals
       refine hY ?_
       show View _ _ (.lst 28 (IT.ks (inI A)) false)
       rw[hQ]
       exact cM (aJ _ _ _) (by omega)
     ·obtain⟨j,hj⟩:∃j,A.length=j:=⟨_,rfl⟩
      rw[hj] at kl hal hful hlr hA6 ⊢
      have hdr:(Q++xx).drop (j+1)=xx.drop 1:=by rw[←kl,←List.drop_drop,List.drop_left]
      have htk':(Q++xx).take j=Q:=List.take_left' kl
      have fce:(∀c,c∈fc x.f→c.aL=true)=True:=eq_true (oS (bZ x.f))
      clear hff kat
      repeat' (first|(with_reducible first|(refine wT ?_;(first|((fail_if_success (have:=nl1));refine wN fun nl1 hnl=>?_)|((fail_if_success (have:=nl2));refine wN fun nl2 hnl=>?_)|((fail_if_success (have:=nl3));refine wN fun nl3 hnl=>?_)|((fail_if_success (have:=nl4));refine wN fun nl4 hnl=>?_)|refine wN fun _ hnl=>?_);revert hnl;(repeat refine wS fun _ _=>?_);intro hnl)|refine wE ?_|(refine wK ?_ ?_<;>intro h)|(refine wB ?_ ?_<;>intro h<;>simp only[h]))|simp(maxSteps:=4000000) (disch:=first|exact ddL|fail) only[go_sem,simprocAttr,FXs,hat,hwl,kl,htk',hdr,fce])
      all_goals (try (exfalso;omega))
      ·have hex:xx=[]:=List.eq_nil_of_length_eq_zero (by omega)
       subst hex
       clear h
       refine .of (.less ?_ ?_) ⟨(i+1,nl4,[]),rfl,rfl,⟨by simp only;omega,by simp only[hsn,hal];omega⟩,by simp only;omega⟩
       ·simp only[hsn,hal]
        simp(maxSteps:=4000000) (disch:=first|exact ddL|fail) only[go_sem,simprocAttr,aC,aB]
        all_goals first|rfl|(simp;done)
       ·simp only[hsn,ksn]
        exact St.aH (St.none_le _) (by simp[St.set, *])
      ·clear h
       refine .of (.less ?_ ?_) ⟨(i+1,nl4,xx.drop 1),rfl,rfl,⟨by simp only;omega,by simp only[hsn,hal];omega⟩,by simp only;omega⟩
       ·simp only[hsn,hal]
        simp(maxSteps:=4000000) (disch:=first|exact ddL|fail) only[go_sem,simprocAttr,aC,aB]
        all_goals first|rfl|(simp;done)
       ·simp only[hsn,ksn]
        exact St.aH (St.none_le _) (by simp[St.set, *])
   ·have:i=W.length:=by omega
    subst this
    rw[List.take_length] at hlr ⊢
    have e:eG W cur room=(cJ W cur,1073741824):=by unfold eG;rw[if_neg (by omega),if_pos hlr]
    rw[e]
    repeat' (first|(with_reducible first|(refine wT ?_;(first|((fail_if_success (have:=nl1));refine wN fun nl1 hnl=>?_)|((fail_if_success (have:=nl2));refine wN fun nl2 hnl=>?_)|((fail_if_success (have:=nl3));refine wN fun nl3 hnl=>?_)|((fail_if_success (have:=nl4));refine wN fun nl4 hnl=>?_)|refine wN fun _ hnl=>?_);revert hnl;(repeat refine wS fun _ _=>?_);intro hnl)|refine wE ?_|(refine wK ?_ ?_<;>intro h)|(refine wB ?_ ?_<;>intro h<;>simp only[h]))|simp(maxSteps:=4000000) (disch:=first|exact ddL|fail) only[go_sem,simprocAttr,hwl])
    all_goals (try (exfalso;omega))
    all_goals exact hY (cM (aJ _ _ _) (l8 _).symm)
end
end Go.Proofs.YtaojijkdamfbnaaGreatDoor
