/- Parts of the proof, joined; conditions: those that its theorems name. -/
import Derived.Test.YtaojijkdamfbnaaGreatDoorMdzh
import Derived.Test.YtaojijkdamfbnaaGreatDoorMdzi
set_option linter.unusedVariables false
set_option linter.unusedSimpArgs false
set_option maxHeartbeats 4000000
namespace Go.Proofs.YtaojijkdamfbnaaGreatDoor
section
set_option maxRecDepth 100000
set_option maxHeartbeats 8000000
theorem x0{B:BK}(h1:B.cards.length≤1000000)(h2:B.dead.length≤1000000)(h3:B.gr.length≤1000000)(h4:∀g,g∈B.gr→g.mem.length≤1000000)(h:j6 B=true) :
  aA Tryz.prog 11 [.agg B.c] St.none (fun v σ'=>∃m l q b,nA m l q b∧v=.tup [.ptr b 0 0,.bool true]∧σ'=bkS m l q b B []) :=
 aA.ghost ((Fp h1 h2 h3 h4 h).mono fun v σ' ⟨m,l,q,b,ex,D,hv,hσ⟩=>⟨v,bkS m l q b B [],by
  subst hσ
  have hq:bkS m l q b B ex q=some (.row 90 3 (B.dead.map DE.c++ex)):=by simp[St.set,Ne.symm D.bq]
  have e:bkS m l q b B []=(bkS m l q b B ex).set q (.row 90 3 (B.dead.map DE.c)):=by
   funext j
   by_cases h1:j=q
   ·subst h1;simp[St.set,Ne.symm D.bq]
   ·simp[St.set,h1]
  rw[e]
  exact bD.cut hq,m,l,q,b,D,hv,rfl⟩)
theorem Fg{P:Program}{g:FuncId}{ms:List MV}{σ:St}{B:BK}{u:Nat→MV}{k:MV→St→Prop}(h:aA P g ms St.none fun v σ'=>∃m l q b,nA m l q b∧v=u b∧σ'=bkS m l q b B [])
 (hk:∀m l q b,σ m=none→σ l=none→σ q=none→σ b=none→nA m l q b→R (bV (u b) ((((σ.set m (.mp (cEs B.cards))).set l (shO B.nx m (.vec 3 q 0 B.dead.length))).set q (.row 90 3 (B.dead.map DE.c))).set b (cB B.sq l (.lst 2 (B.gr.map GR.c) false))) k)):R (eA P g ms σ k) :=
 cL h (St.none_le σ) fun v σ' hv hf=>by
  obtain⟨m,l,q,b,D,rfl,rfl⟩:=hv
  have fr:∀j o,bkS m l q b B [] j=some o→σ j=none:=fun j o hj=>by
   rcases hf j o hj with h|⟨o',h⟩
   ·exact h
   ·simp[St.none] at h
  have fm:=fr m (.mp (cEs B.cards)) (by simp[St.set,Ne.symm D.lm,Ne.symm D.qm,Ne.symm D.bm])
  have fl:=fr l (shO B.nx m (.vec 3 q 0 B.dead.length)) (by simp[St.set,Ne.symm D.ql,Ne.symm D.bl])
  have fq:=fr q (.row 90 3 (B.dead.map DE.c++[])) (by simp[St.set,Ne.symm D.bq])
  have fb:=fr b _ (aJ _ _ _)
  rw[gW,bW,bW,bW,bW,dU,List.append_nil]
  exact hk m l q b fm fl fq fb D
theorem qX(l:List ND)(hl:l.length≤1000000)(tt:Bool)(h:bX l=0):aA Tryz.prog 12 [.lst 5 (l.map ND.c) tt] St.none (fun v σ'=>∃q,v=.ptr q 0 0∧σ'=St.none.set q (flD l false)):=DQ l hl tt h
theorem xZ{m l q b f:Nat}{B:BK}{fl:List ND}{d:Bool}{σ:St}(hm:σ m=some (.mp (cEs B.cards)))(hl:σ l=some (shO B.nx m (.vec 3 q 0 B.dead.length)))(hq:σ q=some (.row 90 3 (B.dead.map DE.c)))(hb:σ b=some (cB B.sq l (.lst 2 (B.gr.map GR.c) false)))(hf:σ f=some (flD fl d)):(bfS m l q b B f fl d).le σ :=
 St.aH (St.aH (St.aH (St.aH (St.aH (St.none_le _) hm) hl) (by rw[List.append_nil];exact hq)) hb) hf
theorem uR{P:Program}{g:FuncId}{ms:List MV}{σ:St}{m l q b f:Nat}{B:BK}{fl:List ND}{d d':Bool}{r:MV}{k:MV→St→Prop}(h:aA P g ms (bfS m l q b B f fl d) fun v σ'=>v=r∧σ'=bfS m l q b B f fl d')(hle:(bfS m l q b B f fl d).le σ)(hk:R (bV r (σ.set f (flD fl d')) k)):R (eA P g ms σ k) :=
 cL h hle fun v σ' hv _=>by
  obtain⟨rfl,rfl⟩:=hv
  have e:(bfS m l q b B f fl d').over (σ.minus (bfS m l q b B f fl d))=σ.set f (flD fl d'):=by
   funext j
   by_cases hj:j=f
   ·subst hj;simp[St.over,St.set]
   ·have e1:bfS m l q b B f fl d' j=bkS m l q b B [] j:=aP _ _ _ _ hj
    have e2:bfS m l q b B f fl d j=bkS m l q b B [] j:=aP _ _ _ _ hj
    simp only[St.over,St.minus,e1,e2]
    rw[aP _ _ _ _ hj]
    cases hb:bkS m l q b B [] j with
    | none=>rfl
    | some o=>exact(hle j o (e2.trans hb)).symm
  rw[e];exact hk
end

section
set_option maxRecDepth 100000
set_option maxHeartbeats 8000000
def inI(l:List CA):List IT:=l.map fun c=>⟨1,c⟩
def bL(W:List CA)(cur:Int):List CA:=W.filter fun c=>decide (max cur 0<c.id)
def cQ(W:List CA)(cur room:Int):List CA × Int :=
 if room<1 then([],max cur 0)
 else if ((bL W cur).length:Int)≤room then(bL W cur,1073741824)
 else((bL W cur).take room.toNat,((bL W cur).getD (room.toNat - 1) ca0).id)
theorem DZ{W:List CA}{cur:Int}{i:Nat}{x:CA}(h:W[i]?=some x):bL (W.take (i+1)) cur=bL (W.take i) cur++if max cur 0<x.id then[x] else[]:=by
 unfold bL
 rw[qS h]
 congr 1
 by_cases h:max cur 0<x.id<;>simp[h]
theorem JS{B:BK}(hb:BkR B){fl:List ND}{x:CA}(h:x∈shC B fl):gK B.cards B.dead x.id=(x,0)∧mF B fl x.id=(x,true):=by
 unfold shC at h
 obtain⟨h1,h2⟩:=List.mem_filter.1 h
 have hf:B.cards.find? (fun c=>decide (c.id=x.id))=some x:=by
  cases hc:B.cards.find? (fun c=>decide (c.id=x.id)) with
  | none =>
   have:=List.find?_eq_none.1 hc x h1
   simp at this
  | some y =>
   have e1:=List.mem_of_find?_eq_some hc
   have e2:y.id=x.id:=by simpa using List.find?_some hc
   obtain⟨i,hi,rfl⟩:=List.mem_iff_getElem.1 e1
   obtain⟨j,hj,rfl⟩:=List.mem_iff_getElem.1 h1
   have hp:=(iE hb.cok).2
   rcases Nat.lt_trichotomy i j with q|q|q
   ·have:=List.pairwise_iff_getElem.1 hp i j hi hj q;omega
   ·subst q;rfl
   ·have:=List.pairwise_iff_getElem.1 hp j i hj hi q;omega
 have hg:gK B.cards B.dead x.id=(x,0):=by unfold gK;rw[hf]
 refine⟨hg,?_⟩
 unfold mF
 rw[hg,if_pos ⟨rfl,h2⟩]
theorem zN{B:BK}{m l q b f:Nat}(hf:f≠b){fl:List ND}(d:Bool)(mk:UInt32)(cur room:Int)(W:List CA)(hr:room<1) :
  aA Tryz.prog 29 [.ptr b 0 0,.ptr f 0 0,.int .u32 (mk.toNat:Int),.int .i64 cur,.int .i64 room] (bfS m l q b B f fl d) (fun r σ'=>r=.tup [.lst 28 (IT.ks (inI (cQ W cur room).1)) false,.int .i64 (cQ W cur room).2]∧σ'=bfS m l q b B f fl d):=by
 refine aA.JN (Q:=fun σ'=>σ'=bfS m l q b B f fl d) (aA.body 66 [.tmp 10,.tmp 11] Tryz.func29 rfl rfl rfl rfl ?_)
 have e:cQ W cur room=([],max cur 0):=if_pos hr
 rw[e]
 obtain⟨M,hM⟩:∃M,max cur 0=M:=⟨_,rfl⟩
 by_cases hc:cur<0
 ·have hM0:M=0:=by omega
  subst hM0
  repeat' (first|(with_reducible first|(refine wN fun _ hnl=>?_;revert hnl;(repeat refine wS fun _ _=>?_);intro hnl)|refine wE ?_|(refine wK ?_ ?_<;>intro h)|(refine wB ?_ ?_<;>intro h<;>simp only[h]))|simp(maxSteps:=4000000) (disch:=first|exact ddL|fail) only[go_sem,simprocAttr,Tryz.f29])
  all_goals (try (exfalso;omega))
  exact⟨_,St.none,rfl,St.none_le _,St.le_refl _,fun k o hk=>rfl,by rw[hM];exact mY (.nil _ _)⟩
 ·have hM0:M=cur:=by omega
  subst hM0
  repeat' (first|(with_reducible first|(refine wN fun _ hnl=>?_;revert hnl;(repeat refine wS fun _ _=>?_);intro hnl)|refine wE ?_|(refine wK ?_ ?_<;>intro h)|(refine wB ?_ ?_<;>intro h<;>simp only[h]))|simp(maxSteps:=4000000) (disch:=first|exact ddL|fail) only[go_sem,simprocAttr,Tryz.f29])
  all_goals (try (exfalso;omega))
  exact⟨_,St.none,rfl,St.none_le _,St.le_refl _,fun k o hk=>rfl,by rw[hM];exact mY (.nil _ _)⟩
theorem pY{B:BK}(hb:BkR B)(fl:List ND)(mk:UInt32):dZ B fl mk 1073741824=(shC B fl).map fun c=>gP c mk:=by
 unfold dZ shC
 congr 1
 refine List.filter_congr fun c hc=>?_
 have:=(oN hb hc).2.2
 rw[decide_eq_true (by omega),Bool.true_and]
theorem KL(l:List CA)(c:CA):IT.ks (inI (l++[c]))=IT.ks (inI l)++[.int .i64 1::.int .i64 c.id::.int .i64 c.ver::.int .u32 (c.lab.toNat:Int)::fc c.f]:=by
 simp[IT.ks,inI]
theorem sR(l:List CA):(IT.ks (inI l)).length=l.length:=by simp[IT.ks,inI]
theorem o9{B:BK}(hb:BkR B)(h3:B.gr.length≤1000000)(h4:∀g,g∈B.gr→g.mem.length≤1000000){m l q b f:Nat}(D:nA m l q b)(hf:f≠m∧f≠l∧f≠q∧f≠b){fl:List ND}(hp:bX fl=0)(hdd:B.dead.length≤1000000)(d:Bool)(mk:UInt32)(cur room:Int)(hr:1≤room) :
  aA Tryz.prog 29 [.ptr b 0 0,.ptr f 0 0,.int .u32 (mk.toNat:Int),.int .i64 cur,.int .i64 room] (bfS m l q b B f fl d) (fun r σ'=>r=.tup [.lst 28 (IT.ks (inI (cQ (dZ B fl mk 1073741824) cur room).1)) false,.int .i64 (cQ (dZ B fl mk 1073741824) cur room).2]∧σ'=bfS m l q b B f fl (d || decide (0<B.cards.length))):=by
 rw[pY hb]
 obtain⟨dn,hdn⟩:∃dn,(d || decide (0<B.cards.length))=dn:=⟨_,rfl⟩
 have hids:=DT hb h3 h4 D hf hp d
 have hsh:=fun(id:Int)=>BO hb h3 h4 D hf hp dn hdd id
 have hle0:∀d,(bfS m l q b B f fl d).le ((((((St.none.set m (.mp (cEs B.cards))).set l (shO B.nx m (.vec 3 q 0 B.dead.length))).set q (.row 90 3 (B.dead.map DE.c))).set b (cB B.sq l (.lst 2 (B.gr.map GR.c) false))).set f (flD fl d))):=fun d=>by
  simp only[bfS,bkS,shS,List.append_nil]
  exact St.le_refl _
 have hSl:(shC B fl).length≤1000000:=(tX hb fl).2.2
 have hSm:∀x,x∈shC B fl→0<B.cards.length:=fun x hx=>List.length_pos_of_mem (List.mem_filter.1 hx).1
 rw[hdn] at hids ⊢
 refine aA.JN (Q:=fun σ'=>σ'=bfS m l q b B f fl dn) ?_
 rw[show bfS m l q b B f fl d=(((((St.none.set m (.mp (cEs B.cards))).set l (shO B.nx m (.vec 3 q 0 B.dead.length))).set q (.row 90 3 (B.dead.map DE.c))).set b (cB B.sq l (.lst 2 (B.gr.map GR.c) false))).set f (flD fl d)) by simp only[bfS,bkS,shS,List.append_nil]]
 obtain⟨f1,f2,f3,f4⟩:=hf
 obtain⟨d1,d2,d3,d4,d5,d6⟩:=D
 have e1:=Ne.symm d1
 have e2:=Ne.symm d2
 have e3:=Ne.symm d3
 have e4:=Ne.symm d4
 have e5:=Ne.symm d5
 have e6:=Ne.symm d6
 have f1':=Ne.symm f1
 have f2':=Ne.symm f2
 have f3':=Ne.symm f3
 have f4':=Ne.symm f4
 obtain⟨M,hM⟩:∃M,max cur 0=M:=⟨_,rfl⟩
 obtain⟨S,hS⟩:∃S,shC B fl=S:=⟨_,rfl⟩
 have hat:∀x,x∈S→gK B.cards B.dead x.id=(x,0)∧mF B fl x.id=(x,true):=fun x hx=>JS hb (hS ▸ hx)
 rw[hS] at hids hSl hSm ⊢
 obtain⟨W,hW⟩:∃W,S.map (fun c=>gP c mk)=W:=⟨_,rfl⟩
 have hWl:W.length=S.length:=by rw[←hW,List.length_map]
 rw[hW]
 have hil:(S.map idX).length=S.length:=List.length_map _
 refine(aA.jZ 66 [.tmp 10,.tmp 11] Tryz.func29 rfl rfl rfl rfl ?_)
 refine eK (fB ?_)
 repeat' (first|(with_reducible first|(refine wT ?_;(first|((fail_if_success (have:=nl1));refine wN fun nl1 hnl=>?_)|((fail_if_success (have:=nl2));refine wN fun nl2 hnl=>?_)|((fail_if_success (have:=nl3));refine wN fun nl3 hnl=>?_)|refine wN fun _ hnl=>?_);revert hnl;(repeat refine wS fun _ _=>?_);intro hnl)|refine wE ?_|(refine wK ?_ ?_<;>intro h)|(refine wB ?_ ?_<;>intro h<;>simp only[h]))|simp(maxSteps:=4000000) (disch:=first|exact ddL|fail) only[go_sem,simprocAttr])
 refine fA (LY (good:=fun f' σ'=>f'=⟨66,[(4,.int .i64 room),(3,.int .i64 M),(2,.int .u32 (mk.toNat:Int)),(1,.ptr f 0 0),(0,.ptr b 0 0)],[]⟩∧σ'=(((((St.none.set m (.mp (cEs B.cards))).set l (shO B.nx m (.vec 3 q 0 B.dead.length))).set q (.row 90 3 (B.dead.map DE.c))).set b (cB B.sq l (.lst 2 (B.gr.map GR.c) false))).set f (flD fl d))) (fB ?_) ?_)
 ·repeat' (first|(with_reducible first|(refine wT ?_;(first|((fail_if_success (have:=nl1));refine wN fun nl1 hnl=>?_)|((fail_if_success (have:=nl2));refine wN fun nl2 hnl=>?_)|((fail_if_success (have:=nl3));refine wN fun nl3 hnl=>?_)|refine wN fun _ hnl=>?_);revert hnl;(repeat refine wS fun _ _=>?_);intro hnl)|refine wE ?_|(refine wK ?_ ?_<;>intro h)|(refine wB ?_ ?_<;>intro h<;>simp only[h]))|simp(maxSteps:=4000000) (disch:=first|exact ddL|fail) only[go_sem,simprocAttr])
  all_goals
   refine .of (.less ?_ (St.le_refl _)) ⟨rfl,rfl⟩
   simp(maxSteps:=4000000) (disch:=first|exact ddL|fail) only[go_sem,simprocAttr,aC,aB]
   all_goals first|rfl|omega|(simp;done)|(simp;omega)
 rintro _ _ ⟨rfl,rfl⟩
 refine eK (fB ?_)
 repeat' (first|(with_reducible first|(refine wT ?_;(first|((fail_if_success (have:=nl1));refine wN fun nl1 hnl=>?_)|((fail_if_success (have:=nl2));refine wN fun nl2 hnl=>?_)|((fail_if_success (have:=nl3));refine wN fun nl3 hnl=>?_)|refine wN fun _ hnl=>?_);revert hnl;(repeat refine wS fun _ _=>?_);intro hnl)|refine wE ?_|(refine wK ?_ ?_<;>intro h)|(refine wB ?_ ?_<;>intro h<;>simp only[h]))|simp(maxSteps:=4000000) (disch:=first|exact ddL|fail) only[go_sem,simprocAttr])
 all_goals (try (exfalso;omega))
 refine fA (eK (fB ?_))
 repeat' (first|(with_reducible first|(refine wT ?_;(first|((fail_if_success (have:=nl1));refine wN fun nl1 hnl=>?_)|((fail_if_success (have:=nl2));refine wN fun nl2 hnl=>?_)|((fail_if_success (have:=nl3));refine wN fun nl3 hnl=>?_)|refine wN fun _ hnl=>?_);revert hnl;(repeat refine wS fun _ _=>?_);intro hnl)|refine wE ?_|(refine wK ?_ ?_<;>intro h)|(refine wB ?_ ?_<;>intro h<;>simp only[h]))|simp(maxSteps:=4000000) (disch:=first|exact ddL|fail) only[go_sem,simprocAttr])
 refine fA (LY (good:=fun f' σ'=>f'=⟨66,[(12,.lst 28 (IT.ks (inI (bL W cur))) false),(4,.int .i64 room)],[]⟩∧σ'=(((((St.none.set m (.mp (cEs B.cards))).set l (shO B.nx m (.vec 3 q 0 B.dead.length))).set q (.row 90 3 (B.dead.map DE.c))).set b (cB B.sq l (.lst 2 (B.gr.map GR.c) false))).set f (flD fl dn))) (fB ?_) ?_)
 ·repeat' (first|(refine uR hids (hle0 d) ?_)|(with_reducible first|(refine wT ?_;(first|((fail_if_success (have:=nl1));refine wN fun nl1 hnl=>?_)|((fail_if_success (have:=nl2));refine wN fun nl2 hnl=>?_)|((fail_if_success (have:=nl3));refine wN fun nl3 hnl=>?_)|refine wN fun _ hnl=>?_);revert hnl;(repeat refine wS fun _ _=>?_);intro hnl)|refine wE ?_|(refine wK ?_ ?_<;>intro h)|(refine wB ?_ ?_<;>intro h<;>simp only[h]))|simp(maxSteps:=4000000) (disch:=first|exact ddL|fail) only[go_sem,simprocAttr])
  refine aG (α:=Nat × Nat × List (List MV)) (fun z=>⟨66,[(27,.int .i64 (z.1:Int)),(26,.int .i64 (S.length:Int)),(25,.lst 1 (S.map idX) false),(12,.vec 28 z.2.1 0 (bL (W.take z.1) cur).length),(4,.int .i64 room),(3,.int .i64 M),(2,.int .u32 (mk.toNat:Int)),(1,.ptr f 0 0),(0,.ptr b 0 0)],[]⟩)
   (fun z=>((((((St.none.set m (.mp (cEs B.cards))).set l (shO B.nx m (.vec 3 q 0 B.dead.length))).set q (.row 90 3 (B.dead.map DE.c))).set b (cB B.sq l (.lst 2 (B.gr.map GR.c) false))).set f (flD fl dn))).set z.2.1 (.row 132 28 (IT.ks (inI (bL (W.take z.1) cur))++z.2.2)))
   (fun z=>z.1≤S.length∧z.2.1≠m∧z.2.1≠l∧z.2.1≠q∧z.2.1≠b∧z.2.1≠f) (fun z=>S.length - z.1) ?_ ?_
  ·refine Gh.uB 132 28 (fun r=>[(27,.int .i64 0),(26,.int .i64 (S.length:Int)),(25,.lst 1 (S.map idX) false),(12,.vec 28 r 0 0),(4,.int .i64 room),(3,.int .i64 M),(2,.int .u32 (mk.toNat:Int)),(1,.ptr f 0 0),(0,.ptr b 0 0)]) (fun k=>by(repeat' (refine And.intro ?_ ?_))<;>first|exact trivial|exact .inl rfl|exact .inr ⟨rfl,.inl rfl⟩|exact .inr ⟨rfl,.inr rfl⟩) fun r hr=>?_
   simp only[aY] at hr
   obtain⟨r5,r4,r3,r2,r1,-⟩:=hr
   exact .done ⟨(0,r,[]),rfl,by simp[bL,inI,IT.ks],Nat.zero_le _,r1,r2,r3,r4,r5⟩
  ·rintro⟨i,r,xx⟩ ⟨hi,r1,r2,r3,r4,r5⟩
   simp only at hi r1 r2 r3 r4 r5 ⊢
   have r1':=Ne.symm r1
   have r2':=Ne.symm r2
   have r3':=Ne.symm r3
   have r4':=Ne.symm r4
   have r5':=Ne.symm r5
   by_cases hlt:i<S.length
   ·obtain⟨x,hx⟩:=bN S hlt
    have hat1:=bK (f:=idX) hx
    have hWx:W[i]?=some (gP x mk):=by rw[←hW,List.getElem?_map,hx];rfl
    have hpi:(gP x mk).id=x.id:=rfl
    have hsn:=DZ (cur:=cur) hWx
    rw[hM,hpi] at hsn
    obtain⟨A,hA⟩:∃A,bL (W.take i) cur=A:=⟨_,rfl⟩
    rw[hA] at hsn ⊢
    have hx0:=hSm x (cH hx)
    have hdt:dn=true:=by rw[←hdn];cases d<;>simp[hx0]
    have hsh':=hsh x.id
    rw[(hat x (cH hx)).1,(hat x (cH hx)).2,show(dn || decide ((x,(0:Int)).2=0))=dn by rw[hdt];rfl] at hsh'
    have hpr:=DW x mk
    by_cases hle:x.id≤M
    ·rw[if_neg (by omega),List.append_nil] at hsn
     clear hids hsh hle0 hat hsh' hpr
     repeat' (first|(with_reducible first|(refine wT ?_;(first|((fail_if_success (have:=nl1));refine wN fun nl1 hnl=>?_)|((fail_if_success (have:=nl2));refine wN fun nl2 hnl=>?_)|((fail_if_success (have:=nl3));refine wN fun nl3 hnl=>?_)|refine wN fun _ hnl=>?_);revert hnl;(repeat refine wS fun _ _=>?_);intro hnl)|refine wE ?_|(refine wK ?_ ?_<;>intro h)|(refine wB ?_ ?_<;>intro h<;>simp only[h]))|simp(maxSteps:=4000000) (disch:=first|exact ddL|fail) only[go_sem,simprocAttr,hat1,hil])
     all_goals (try (exfalso;omega))
     all_goals
      refine .of (.less ?_ ?_) ⟨(i+1,r,xx),rfl,rfl,⟨by simp only;omega,r1,r2,r3,r4,r5⟩,by simp only;omega⟩
      ·simp only[hsn]
       simp(maxSteps:=4000000) (disch:=first|exact ddL|fail) only[go_sem,simprocAttr,aC,aB]
       all_goals first|rfl|(simp;done)
      ·simp only[hsn]
       exact St.le_refl _
    ·rw[if_pos (by omega)] at hsn
     have ksn:=KL A (gP x mk)
     have kl:=sR A
     have hal:(A++[gP x mk]).length=A.length+1:=by simp
     obtain⟨y,hy⟩:∃y,gP x mk=y:=⟨_,rfl⟩
     rw[hy] at hpr ksn hsn hal
     obtain⟨Q,hQ⟩:∃Q,IT.ks (inI A)=Q:=⟨_,rfl⟩
     rw[hQ] at ksn kl ⊢
     obtain⟨j,hj⟩:∃j,A.length=j:=⟨_,rfl⟩
     rw[hj] at kl hal ⊢
     have fce:(∀c,c∈fc y.f→c.aL=true)=True:=eq_true (rJ (cA y.f))
     have hj6:j≤1000000:=by
      rw[←hj,←hA]
      exact Nat.le_trans (List.length_filter_le _ _) (by rw[List.length_take];omega)
     have hdr:(Q++xx).drop (j+1)=xx.drop 1:=by rw[←kl,←List.drop_drop,List.drop_left]
     have htk':(Q++xx).take j=Q:=List.take_left' kl
     clear hids hsh hle0 hat
     repeat' (first|(refine uR hsh' (xZ (by simp[St.set, *]) (by simp[St.set, *]) (by simp[St.set, *]) (by simp[St.set, *]) (by simp[St.set, *])) ?_)|(with_reducible refine aO hpr ?_)|(with_reducible first|(refine wT ?_;(first|((fail_if_success (have:=nl1));refine wN fun nl1 hnl=>?_)|((fail_if_success (have:=nl2));refine wN fun nl2 hnl=>?_)|((fail_if_success (have:=nl3));refine wN fun nl3 hnl=>?_)|refine wN fun _ hnl=>?_);revert hnl;(repeat refine wS fun _ _=>?_);intro hnl)|refine wE ?_|(refine wK ?_ ?_<;>intro h)|(refine wB ?_ ?_<;>intro h<;>simp only[h]))|simp(maxSteps:=4000000) (disch:=first|exact ddL|fail) only[go_sem,simprocAttr,FXs,hat1,hil,kl,htk',hdr,fce])
     all_goals (try (exfalso;omega))
     all_goals
      clear htk' hdr hsh'
      have q1:nl3≠m:=by assumption
      have q2:nl3≠l:=by assumption
      have q3:nl3≠q:=by assumption
      have q4:nl3≠b:=by assumption
      have q5:nl3≠f:=by assumption
     ·have hex:xx=[]:=List.eq_nil_of_length_eq_zero (by omega)
      subst hex
      clear h
      refine .of (.less ?_ ?_) ⟨(i+1,nl3,[]),rfl,rfl,⟨by simp only;omega,q1,q2,q3,q4,q5⟩,by simp only;omega⟩
      ·simp only[hsn,hal]
       simp(maxSteps:=4000000) (disch:=first|exact ddL|fail) only[go_sem,simprocAttr,aC,aB]
       all_goals first|rfl|(simp;done)
      ·simp only[hsn,ksn]
       exact St.aH (St.aH (St.aH (St.aH (St.aH (St.aH (St.none_le _) (by simp[St.set, *])) (by simp[St.set, *])) (by simp[St.set, *])) (by simp[St.set, *])) (by simp[St.set, *])) (by simp[St.set, *])
     ·clear h
      refine .of (.less ?_ ?_) ⟨(i+1,nl3,xx.drop 1),rfl,rfl,⟨by simp only;omega,q1,q2,q3,q4,q5⟩,by simp only;omega⟩
      ·simp only[hsn,hal]
       simp(maxSteps:=4000000) (disch:=first|exact ddL|fail) only[go_sem,simprocAttr,aC,aB]
       all_goals first|rfl|(simp;done)
      ·simp only[hsn,ksn]
       exact St.aH (St.aH (St.aH (St.aH (St.aH (St.aH (St.none_le _) (by simp[St.set, *])) (by simp[St.set, *])) (by simp[St.set, *])) (by simp[St.set, *])) (by simp[St.set, *])) (by simp[St.set, *])
   ·have:i=S.length:=by omega
    subst this
    have htl:W.take S.length=W:=by rw[←hWl];exact List.take_length
    rw[htl]
    repeat' (first|(with_reducible first|(refine wT ?_;(first|((fail_if_success (have:=nl1));refine wN fun nl1 hnl=>?_)|((fail_if_success (have:=nl2));refine wN fun nl2 hnl=>?_)|((fail_if_success (have:=nl3));refine wN fun nl3 hnl=>?_)|refine wN fun _ hnl=>?_);revert hnl;(repeat refine wS fun _ _=>?_);intro hnl)|refine wE ?_|(refine wK ?_ ?_<;>intro h)|(refine wB ?_ ?_<;>intro h<;>simp only[h]))|simp(maxSteps:=4000000) (disch:=first|exact ddL|fail) only[go_sem,simprocAttr])
    refine .of (bD.freeze (l1:=[(12,.lst 28 (IT.ks (inI (bL W cur))) false),(4,.int .i64 room)]) (σ1:=(((((St.none.set m (.mp (cEs B.cards))).set l (shO B.nx m (.vec 3 q 0 B.dead.length))).set q (.row 90 3 (B.dead.map DE.c))).set b (cB B.sq l (.lst 2 (B.gr.map GR.c) false))).set f (flD fl dn))) (St.none.set r (.row 132 28 (IT.ks (inI (bL W cur))++xx))) (St.aH (St.none_le _) (aJ _ _ _)) (St.sS (St.le_refl _) (by simp[St.set,St.none, *])) (fun k o hk=>?_) (fun p hp=>?_)) ⟨rfl,rfl⟩
    ·refine aP _ _ _ _ fun e=>?_
     subst e
     simp[St.set,St.none, *] at hk
    ·simp only[List.mem_cons,List.not_mem_nil,or_false] at hp
     rcases hp with rfl|rfl
     ·exact dK (aJ _ _ _) (sR _).symm
     ·exact .same _
 rintro _ _ ⟨rfl,rfl⟩
 have kl:=sR (bL W cur)
 by_cases hfit:((bL W cur).length:Int)≤room
 ·have e:cQ W cur room=(bL W cur,1073741824):=by unfold cQ;rw[if_neg (by omega),if_pos hfit]
  rw[e]
  refine fB ?_
  clear hids hsh hat
  repeat' (first|(with_reducible first|(refine wT ?_;(first|((fail_if_success (have:=nl1));refine wN fun nl1 hnl=>?_)|((fail_if_success (have:=nl2));refine wN fun nl2 hnl=>?_)|((fail_if_success (have:=nl3));refine wN fun nl3 hnl=>?_)|refine wN fun _ hnl=>?_);revert hnl;(repeat refine wS fun _ _=>?_);intro hnl)|refine wE ?_|(refine wK ?_ ?_<;>intro h)|(refine wB ?_ ?_<;>intro h<;>simp only[h]))|simp(maxSteps:=4000000) (disch:=first|exact ddL|fail) only[go_sem,simprocAttr,kl])
  all_goals (try (exfalso;omega))
  exact⟨_,St.none,rfl,St.none_le _,hle0 dn,fun k o hk=>rfl,.same _⟩
 ·obtain⟨n,hn⟩:∃n:Nat,room=n:=⟨room.toNat,by omega⟩
  subst hn
  obtain⟨R0,hR0⟩:∃R0,bL W cur=R0:=⟨_,rfl⟩
  rw[hR0] at kl hfit ⊢
  obtain⟨y,hy⟩:=bN R0 (show n - 1<R0.length by omega)
  have e:cQ W cur (n:Int)=(R0.take n,y.id):=by
   unfold cQ
   rw[hR0,if_neg (by omega),if_neg hfit,Int.toNat_natCast,List.getD_eq_getElem?_getD,hy];rfl
  have hR6:R0.length≤1000000:=by rw[←hR0];exact Nat.le_trans (List.length_filter_le _ _) (by omega)
  have hto:((n:Int) - 1).toNat=n - 1:=by omega
  have hkt:(IT.ks (inI R0)).take n=IT.ks (inI (R0.take n)):=by simp[IT.ks,inI,List.map_take]
  have hgt:(IT.ks (inI (R0.take n))).getD (n - 1) []=.int .i64 1::.int .i64 y.id::.int .i64 y.ver::.int .u32 (y.lab.toNat:Int)::fc y.f:=by
   rw[←hkt,List.getD_eq_getElem?_getD,List.getElem?_take,if_pos (by omega)]
   simp[IT.ks,inI,hy]
  have hkl:(IT.ks (inI (R0.take n))).length=n:=by rw[sR,List.length_take];omega
  rw[e]
  clear hids hsh hat
  refine fB ?_
  repeat' (first|(with_reducible first|(refine wT ?_;(first|((fail_if_success (have:=nl1));refine wN fun nl1 hnl=>?_)|((fail_if_success (have:=nl2));refine wN fun nl2 hnl=>?_)|((fail_if_success (have:=nl3));refine wN fun nl3 hnl=>?_)|refine wN fun _ hnl=>?_);revert hnl;(repeat refine wS fun _ _=>?_);intro hnl)|refine wE ?_|(refine wK ?_ ?_<;>intro h)|(refine wB ?_ ?_<;>intro h<;>simp only[h]))|simp(maxSteps:=4000000) (disch:=first|exact ddL|fail) only[go_sem,simprocAttr,FXs,kl,hto,hkt,hgt,hkl])
  all_goals (try (exfalso;omega))
  exact⟨_,St.none,rfl,St.none_le _,hle0 dn,fun k o hk=>rfl,mY (.tight _ _)⟩
end

section
set_option maxRecDepth 100000
set_option maxHeartbeats 8000000
def Bn(n page:Int):Int:=if n<0∨1099511627776<n∨page<1∨1099511627776<page then 0 else n.tdiv page+1
theorem DU(n page:Int):aA Tryz.prog 31 [.int .i64 n,.int .i64 page] St.none (fun r _=>r=.int .i64 (Bn n page)):=by
 refine(aA.body 23 [.tmp 4] Tryz.func31 rfl rfl rfl rfl ?_)
 by_cases h:n<0∨1099511627776<n∨page<1∨1099511627776<page
 ·rw[show Bn n page=0 from if_pos h]
  repeat' (first|(with_reducible first|(refine wN fun _ hnl=>?_;revert hnl;(repeat refine wS fun _ _=>?_);intro hnl)|refine wE ?_|(refine wK ?_ ?_<;>intro h)|(refine wB ?_ ?_<;>intro h<;>simp only[h]))|simp(maxSteps:=4000000) (disch:=first|exact ddL|fail) only[go_sem,simprocAttr,Tryz.f31])
  all_goals first|rfl|(exfalso;omega)
 ·rw[show Bn n page=n.tdiv page+1 from if_neg h]
  have t1:=Int.tdiv_nonneg (a:=n) (b:=page) (by omega) (by omega)
  have t2:=Int.tdiv_le_self (a:=n) page (by omega)
  obtain⟨t,ht⟩:∃t,n.tdiv page=t:=⟨_,rfl⟩
  rw[ht] at t1 t2 ⊢
  repeat' (first|(with_reducible first|(refine wN fun _ hnl=>?_;revert hnl;(repeat refine wS fun _ _=>?_);intro hnl)|refine wE ?_|(refine wK ?_ ?_<;>intro h)|(refine wB ?_ ?_<;>intro h<;>simp only[h]))|simp(maxSteps:=4000000) (disch:=first|exact ddL|fail) only[go_sem,simprocAttr,Tryz.f31,ht])
  all_goals first|rfl|(exfalso;omega)
end

section
set_option maxRecDepth 100000
set_option maxHeartbeats 8000000
theorem zW(cs:List CA)(x:CA)(hl:cs.length≤1000000)(hlt:∀c,c∈cs→c.id<x.id)(t:Bool):aA Tryz.prog 64 [.lst 27 (cs.map CA.c) t,.agg (IT.mk 1 x).k] St.none (fun r _=>r=.tup [.lst 27 ((cs++[x]).map CA.c) false,.bool true]):=by
 refine aA.seen (aA.body 85 [.tmp 4,.tmp 5] Tryz.func64 rfl rfl rfl rfl ?_)
 have hcl:(cs.map CA.c).length=cs.length:=List.length_map _
 have htk:(cs.map CA.c).take cs.length=cs.map CA.c:=by rw[←hcl];exact List.take_length
 have hdr:(cs.map CA.c).drop cs.length=[]:=by rw[←hcl];exact List.drop_length
 have hsn:(cs++[x]).map CA.c=cs.map CA.c++[x.c]:=by simp
 have hlx:(cs.map CA.c++[x.c]).length=cs.length+1:=by simp
 repeat' (first|(with_reducible first|(refine wT ?_;(first|((fail_if_success (have:=nl1));refine wN fun nl1 hnl=>?_)|refine wN fun _ hnl=>?_);revert hnl;(repeat refine wS fun _ _=>?_);intro hnl)|refine wE ?_|(refine wK ?_ ?_<;>intro h)|(refine wB ?_ ?_<;>intro h<;>simp only[h]))|simp(maxSteps:=4000000) (disch:=first|exact ddL|fail) only[go_sem,simprocAttr,Tryz.f64,FXs])
 refine aG (α:=Nat) (fun i=>⟨85,[(6,.int .i64 (i:Int)),(3,.ptr nl1 0 0),(0,.lst 27 (cs.map CA.c) t)],[]⟩) (fun _=>St.none.set nl1 (.row 132 28 [(IT.mk 1 x).k])) (fun i=>i≤cs.length) (fun i=>cs.length - i) (.of (.less ?_ (St.le_refl _)) ⟨0,rfl,rfl,Nat.zero_le _⟩) ?_
 ·simp(maxSteps:=4000000) (disch:=first|exact ddL|fail) only[go_sem,simprocAttr,aC,aB]
  all_goals first|rfl|(simp;done)
 ·intro i hi
  have hi:i≤cs.length:=hi
  by_cases hlt':i<cs.length
  ·obtain⟨y,hy⟩:=bN cs hlt'
   have hat:=bK (f:=CA.c) hy
   have hyx:=hlt y (cH hy)
   repeat' (first|(with_reducible first|(refine wT ?_;(first|((fail_if_success (have:=nl1));refine wN fun nl1 hnl=>?_)|refine wN fun _ hnl=>?_);revert hnl;(repeat refine wS fun _ _=>?_);intro hnl)|refine wE ?_|(refine wK ?_ ?_<;>intro h)|(refine wB ?_ ?_<;>intro h<;>simp only[h]))|simp(maxSteps:=4000000) (disch:=first|exact ddL|fail) only[go_sem,simprocAttr,FXs,hat,hcl])
   all_goals (try (exfalso;omega))
   all_goals
    refine .of (.less ?_ (St.le_refl _)) ⟨i+1,rfl,rfl,(by omega:i+1≤cs.length),by omega⟩
    simp(maxSteps:=4000000) (disch:=first|exact ddL|fail) only[go_sem,simprocAttr,aC,aB]
    all_goals first|rfl|(simp;done)
  ·have:i=cs.length:=by omega
   subst this
   repeat' (first|(with_reducible first|(refine wT ?_;(first|((fail_if_success (have:=nl1));refine wN fun nl1 hnl=>?_)|refine wN fun _ hnl=>?_);revert hnl;(repeat refine wS fun _ _=>?_);intro hnl)|refine wE ?_|(refine wK ?_ ?_<;>intro h)|(refine wB ?_ ?_<;>intro h<;>simp only[h]))|simp(maxSteps:=4000000) (disch:=first|exact ddL|fail) only[go_sem,simprocAttr,FXs,hcl,htk,hdr])
   all_goals (try (exfalso;omega))
   rw[hsn]
   exact mY (View.vecAll (aJ _ _ _) hlx.symm)
theorem BQ(cs l:List CA)(hl:cs.length+l.length≤1000000)(hu:UpI ((cs++l).map CA.id))(tc tl:Bool):aA Tryz.prog 30 [.lst 27 (cs.map CA.c) tc,.lst 28 (IT.ks (inI l)) tl] St.none (fun r _=>r=.tup [.lst 27 ((cs++l).map CA.c) false,.bool true]):=by
 refine aA.cP (aA.body 32 [.tmp 4,.tmp 5] Tryz.func30 rfl rfl rfl rfl ?_)
 have hcl:(cs.map CA.c).length=cs.length:=List.length_map _
 have hkl:=sR l
 have hka:∀{i:Nat} {x:CA},l[i]?=some x→(IT.ks (inI l)).getD i []=(IT.mk 1 x).k:=fun h=>by simp[IT.ks,inI,h]
 obtain⟨I,hI⟩:∃I,IT.ks (inI l)=I:=⟨_,rfl⟩
 rw[hI] at hkl ⊢
 simp only[hI] at hka
 repeat' (first|(with_reducible first|(refine wN fun _ hnl=>?_;revert hnl;(repeat refine wS fun _ _=>?_);intro hnl)|refine wE ?_|(refine wK ?_ ?_<;>intro h)|(refine wB ?_ ?_<;>intro h<;>simp only[h]))|simp(maxSteps:=4000000) (disch:=first|exact ddL|fail) only[go_sem,simprocAttr,Tryz.f30,hcl])
 all_goals (try (exfalso;omega))
 refine aG (α:=Nat) (fun i=>⟨32,[(7,.int .i64 (i:Int)),(6,.lst 27 ((cs++l.take i).map CA.c) false),(1,.lst 28 I tl)],[]⟩) (fun _=>St.none) (fun i=>i≤l.length) (fun i=>l.length - i) ?_ ?_
 ·have e0:cs++l.take 0=cs:=by simp
  refine .of (bD.freeze (l1:=[(7,.int .i64 0),(6,.lst 27 ((cs++l.take 0).map CA.c) false),(1,.lst 28 I tl)]) (σ1:=St.none) _ (St.le_refl _) (St.none_le _) (fun k o hk=>by cases hk) (fun p hp=>?_)) ⟨0,rfl,rfl,Nat.zero_le _⟩
  simp only[List.mem_cons,List.not_mem_nil,or_false] at hp
  rcases hp with rfl|rfl|rfl
  ·exact .same _
  ·rw[e0]
   exact View.vecAll (aJ _ _ _) hcl.symm
  ·exact .same _
 ·intro i hi
  have hi:i≤l.length:=hi
  by_cases hlt:i<l.length
  ·obtain⟨x,hx⟩:=bN l hlt
   have hat:=hka hx
   have htk:=bB hx
   have hone:=zW (cs++l.take i) x (by rw[List.length_append,List.length_take];omega) (fun c hc=>?_) false
   ·rw[List.append_assoc,←htk] at hone
    repeat' (first|(with_reducible refine aO hone ?_)|(with_reducible first|(refine wN fun _ hnl=>?_;revert hnl;(repeat refine wS fun _ _=>?_);intro hnl)|refine wE ?_|(refine wK ?_ ?_<;>intro h)|(refine wB ?_ ?_<;>intro h<;>simp only[h]))|simp(maxSteps:=4000000) (disch:=first|exact ddL|fail) only[go_sem,simprocAttr,FXs,hat,hkl])
    all_goals (try (exfalso;omega))
    all_goals
     refine .of (.less ?_ (St.le_refl _)) ⟨i+1,rfl,rfl,(by omega:i+1≤l.length),by omega⟩
     simp(maxSteps:=4000000) (disch:=first|exact ddL|fail) only[go_sem,simprocAttr,aC,aB]
     all_goals first|rfl|(simp;done)
   ·have h1:cs++l=(cs++l.take i)++x::l.drop (i+1):=by
     rw[List.append_assoc]
     congr 1
     exact mH l hx
    rw[h1,List.map_append,List.map_cons] at hu
    have:=List.pairwise_append.1 hu
    exact this.2.2 c.id (List.mem_map_of_mem hc) x.id (List.mem_cons_self ..)
  ·have:i=l.length:=by omega
   subst this
   rw[List.take_length]
   repeat' (first|(with_reducible first|(refine wN fun _ hnl=>?_;revert hnl;(repeat refine wS fun _ _=>?_);intro hnl)|refine wE ?_|(refine wK ?_ ?_<;>intro h)|(refine wB ?_ ?_<;>intro h<;>simp only[h]))|simp(maxSteps:=4000000) (disch:=first|exact ddL|fail) only[go_sem,simprocAttr,hkl])
   all_goals (try (exfalso;omega))
   all_goals first|exact⟨_,St.le_refl _,rfl⟩|exact⟨_,St.le_refl _⟩
end

section
set_option maxHeartbeats 8000000
def leW(W:List CA)(c:Int):List CA:=W.filter fun x=>decide (x.id≤c)
abbrev vZ(W:List CA):Prop:=W.Pairwise fun a b=>a.id<b.id
theorem yM{W:List CA}{c:Int}(h:∀x,x∈W→x.id≤c):leW W c=W:=List.filter_eq_self.2 fun x hx=>decide_eq_true (h x hx)
theorem le_none{W:List CA}{c:Int}(h:∀x,x∈W→c<x.id):leW W c=[]:=List.filter_eq_nil_iff.2 fun x hx=>by have:=h x hx;simp;omega
theorem Is(A B:List CA)(c:Int):leW (A++B) c=leW A c++leW B c:=List.filter_append ..
theorem BW(A B:List CA)(c:Int):bL (A++B) c=bL A c++bL B c:=List.filter_append ..
theorem tU{W:List CA}{c:Int}(h:∀x,x∈W→max c 0<x.id):bL W c=W:=List.filter_eq_self.2 fun x hx=>decide_eq_true (h x hx)
theorem qC{W:List CA}{c:Int}(h:∀x,x∈W→x.id≤max c 0):bL W c=[]:=List.filter_eq_nil_iff.2 fun x hx=>by have:=h x hx;simp;omega
theorem yN{c:Int}(hc:0≤c):∀{W:List CA},vZ W→leW W c++bL W c=W
 | [],_=>rfl
 | x::r,h=>by
  obtain⟨h1,h2⟩:=List.pairwise_cons.1 h
  have hm:max c 0=c:=by omega
  by_cases hx:x.id≤c
  ·have e1:leW (x::r) c=x::leW r c:=List.filter_cons_of_pos (by simpa using hx)
   have e2:bL (x::r) c=bL r c:=List.filter_cons_of_neg (by simp[hm];omega)
   rw[e1,e2,List.cons_append,yN hc h2]
  ·have e1:leW (x::r) c=[]:=le_none fun y hy=>by
    rcases List.mem_cons.1 hy with rfl|hy
    ·omega
    ·have:=h1 y hy;omega
   have e2:bL (x::r) c=x::r:=tU fun y hy=>by
    rw[hm]
    rcases List.mem_cons.1 hy with rfl|hy
    ·omega
    ·have:=h1 y hy;omega
   rw[e1,e2];rfl
theorem xL{W:List CA}{c:Int}(hc:0≤c)(hW:vZ W){n:Nat}(hn:1≤n){y:CA}(hy:(bL W c)[n - 1]?=some y) :
  c<y.id∧leW W y.id=leW W c++(bL W c).take n∧bL W y.id=(bL W c).drop n:=by
 have hdec:=yN hc hW
 have hm:max c 0=c:=by omega
 have hR:vZ (bL W c):=List.Pairwise.filter _ hW
 have hRm:∀x,x∈bL W c→c<x.id:=fun x hx=>by
  have:=(List.mem_filter.1 hx).2
  rw[hm] at this
  simpa using this
 have hPm:∀x,x∈leW W c→x.id≤c:=fun x hx=>by simpa using(List.mem_filter.1 hx).2
 have hy1:=hRm y (cH hy)
 have hmy:max y.id 0=y.id:=by omega
 obtain⟨R,hRe⟩:∃R,bL W c=R:=⟨_,rfl⟩
 obtain⟨P,hPe⟩:∃P,leW W c=P:=⟨_,rfl⟩
 rw[hRe] at hdec hR hRm hy ⊢
 rw[hPe] at hdec hPm ⊢
 have hnl:=(List.getElem?_eq_some_iff.1 hy).1
 have hye:=(List.getElem?_eq_some_iff.1 hy).2
 have ht:∀x,x∈R.take n→x.id≤y.id:=fun x hx=>by
  obtain⟨k,hk⟩:=List.mem_iff_getElem?.1 hx
  rw[List.getElem?_take] at hk
  split at hk
  ·obtain⟨k1,k2⟩:=List.getElem?_eq_some_iff.1 hk
   rcases Nat.lt_or_ge k (n - 1) with h|h
   ·have:=List.pairwise_iff_getElem.1 hR k (n - 1) k1 hnl h
    rw[k2,hye] at this;omega
   ·have:k=n - 1:=by omega
    subst this
    rw[hye] at k2;rw[k2];exact Int.le_refl _
  ·cases hk
 have hd:∀x,x∈R.drop n→y.id<x.id:=fun x hx=>by
  obtain⟨k,hk⟩:=List.mem_iff_getElem?.1 hx
  rw[List.getElem?_drop] at hk
  obtain⟨k1,k2⟩:=List.getElem?_eq_some_iff.1 hk
  have:=List.pairwise_iff_getElem.1 hR (n - 1) (n+k) hnl k1 (by omega)
  rw[k2,hye] at this;exact this
 refine⟨hy1,?_,?_⟩
 ·rw[←hdec,Is,yM fun x hx=>by have:=hPm x hx;omega]
  congr 1
  conv=>lhs;rw[←List.take_append_drop n R]
  rw[Is,yM ht,le_none hd,List.append_nil]
 ·rw[←hdec,BW,qC fun x hx=>by have:=hPm x hx;omega,List.nil_append]
  conv=>lhs;rw[←List.take_append_drop n R]
  rw[BW,qC fun x hx=>by have:=ht x hx;omega,tU fun x hx=>by have:=hd x hx;omega,List.nil_append]
theorem Kx{W:List CA}(hW:vZ W)(hm:∀x,x∈W→x.id≤1073741824){cur:Int}(h0:0≤cur)(h1:cur≤1073741824)(room:Int) :
  cur≤(cQ W cur room).2∧(cQ W cur room).2≤1073741824∧((cQ W cur room).1.length:Int)≤max room 0∧leW W cur++(cQ W cur room).1=leW W (cQ W cur room).2:=by
 have hmx:max cur 0=cur:=by omega
 have hmem:∀x,x∈bL W cur→x.id≤1073741824:=fun x hx=>hm x (List.mem_filter.1 hx).1
 unfold cQ
 split
 ·rw[hmx];exact⟨Int.le_refl _,h1,by simp;omega,List.append_nil _⟩
 ·rename_i hr
  split
  ·rename_i hl
   refine⟨h1,Int.le_refl _,by simp only;omega,?_⟩
   rw[yN h0 hW,yM hm]
  ·rename_i hl
   obtain⟨y,hy⟩:=bN (bL W cur) (show room.toNat - 1<(bL W cur).length by omega)
   obtain⟨q1,q2,q3⟩:=xL h0 hW (show 1≤room.toNat by omega) hy
   have e:(bL W cur).getD (room.toNat - 1) ca0=y:=by rw[List.getD_eq_getElem?_getD,hy];rfl
   rw[e]
   refine⟨by simp only;omega,hmem y (cH hy),?_,q2.symm⟩
   simp only[List.length_take]
   omega
theorem CY{B:BK}(hb:BkR B)(fl:List ND)(mk:UInt32):vZ (dZ B fl mk 1073741824)∧∀x,x∈dZ B fl mk 1073741824→x.id≤1073741824:=by
 rw[pY hb]
 have h:=tX hb fl
 refine⟨List.pairwise_map.2 h.1,fun x hx=>?_⟩
 obtain⟨y,hy,rfl⟩:=List.mem_map.1 hx
 exact(h.2.1 y hy).2
end
end Go.Proofs.YtaojijkdamfbnaaGreatDoor
