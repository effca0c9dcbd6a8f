/- Parts of the proof, joined; conditions: those that its theorems name. -/
import Derived.Test.YtaojijkdamfbnaaGreatDoorMezg
set_option linter.unusedVariables false
set_option linter.unusedSimpArgs false
set_option maxHeartbeats 4000000
namespace Go.Proofs.YtaojijkdamfbnaaGreatDoor
section
set_option maxRecDepth 100000
set_option maxHeartbeats 8000000
theorem yY{B:BK}(h1:B.cards.length≤1000000)(h2:B.dead.length≤1000000)(h3:B.gr.length≤1000000)(h4:∀g,g∈B.gr→g.mem.length≤1000000)(h:kB B=true) :
  aA Tryz.prog 11 [.agg B.c] St.none (fun v σ'=>∃m l q b,lU m l q b∧v=.tup [.ptr b 0 0,.bool true]∧σ'=bkS m l q b B []) :=
 aA.ghost ((FZ h1 h2 h3 h4 h).mono fun v σ' ⟨m,l,q,b,ex,D,hv,hσ⟩=>⟨v,bkS m l q b B [],by
  subst hσ
  have hq:bkS m l q b B ex q=some (.row 90 3 (B.dead.map DE.c++ex)):=by simp[St.set,Ne.symm D.bq]
  have e:bkS m l q b B []=(bkS m l q b B ex).set q (.row 90 3 (B.dead.map DE.c)):=by
   funext j
   by_cases h1:j=q
   ·subst h1;simp[St.set,Ne.symm D.bq]
   ·simp[St.set,h1]
  rw[e]
  exact bD.cut hq,m,l,q,b,D,hv,rfl⟩)
theorem FP{P:Program}{g:FuncId}{ms:List MV}{σ:St}{B:BK}{u:Nat→MV}{k:MV→St→Prop}(h:aA P g ms St.none fun v σ'=>∃m l q b,lU m l q b∧v=u b∧σ'=bkS m l q b B [])
 (hk:∀m l q b,σ m=none→σ l=none→σ q=none→σ b=none→lU m l q b→R (bP (u b) ((((σ.set m (.mp (cEs B.cards))).set l (shO B.nx m (.vec 3 q 0 B.dead.length))).set q (.row 90 3 (B.dead.map DE.c))).set b (bX B.sq l (.lst 2 (B.gr.map GR.c) false))) k)):R (cX P g ms σ k) :=
 cD h (St.none_le σ) fun v σ' hv hf=>by
  obtain⟨m,l,q,b,D,rfl,rfl⟩:=hv
  have fr:∀j o,bkS m l q b B [] j=some o→σ j=none:=fun j o hj=>by
   rcases hf j o hj with h|⟨o',h⟩
   ·exact h
   ·simp[St.none] at h
  have fm:=fr m (.mp (cEs B.cards)) (by simp[St.set,Ne.symm D.lm,Ne.symm D.qm,Ne.symm D.bm])
  have fl:=fr l (shO B.nx m (.vec 3 q 0 B.dead.length)) (by simp[St.set,Ne.symm D.ql,Ne.symm D.bl])
  have fq:=fr q (.row 90 3 (B.dead.map DE.c++[])) (by simp[St.set,Ne.symm D.bq])
  have fb:=fr b _ (aJ _ _ _)
  rw[gW,bW,bW,bW,bW,dV,List.append_nil]
  exact hk m l q b fm fl fq fb D
theorem rK(l:List ND)(hl:l.length≤1000000)(tt:Bool)(h:cA l=0):aA Tryz.prog 12 [.lst 5 (l.map ND.c) tt] St.none (fun v σ'=>∃q,v=.ptr q 0 0∧σ'=St.none.set q (flD l false)):=En l hl tt h
theorem Iv{m l q b f:Nat}{B:BK}{fl:List ND}{d:Bool}{σ:St}(hm:σ m=some (.mp (cEs B.cards)))(hl:σ l=some (shO B.nx m (.vec 3 q 0 B.dead.length)))(hq:σ q=some (.row 90 3 (B.dead.map DE.c)))(hb:σ b=some (bX B.sq l (.lst 2 (B.gr.map GR.c) false)))(hf:σ f=some (flD fl d)):(bfS m l q b B f fl d).le σ :=
 St.aE (St.aE (St.aE (St.aE (St.aE (St.none_le _) hm) hl) (by rw[List.append_nil];exact hq)) hb) hf
theorem M3{m l q b:Nat}{B:BK}{σ:St}(hm:σ m=some (.mp (cEs B.cards)))(hl:σ l=some (shO B.nx m (.vec 3 q 0 B.dead.length)))(hq:σ q=some (.row 90 3 (B.dead.map DE.c)))(hb:σ b=some (bX B.sq l (.lst 2 (B.gr.map GR.c) false))):(bkS m l q b B []).le σ :=
 St.aE (St.aE (St.aE (St.aE (St.none_le _) hm) hl) (by rw[List.append_nil];exact hq)) hb
theorem EO{P:Program}{g:FuncId}{ms:List MV}{σ:St}{m l q b f:Nat}{B:BK}{fl:List ND}{d d':Bool}{r:MV}{k:MV→St→Prop}(h:aA P g ms (bfS m l q b B f fl d) fun v σ'=>v=r∧σ'=bfS m l q b B f fl d')(hle:(bfS m l q b B f fl d).le σ)(hk:R (bP r (σ.set f (flD fl d')) k)):R (cX P g ms σ k) :=
 cD h hle fun v σ' hv _=>by
  obtain⟨rfl,rfl⟩:=hv
  have e:(bfS m l q b B f fl d').over (σ.minus (bfS m l q b B f fl d))=σ.set f (flD fl d'):=by
   funext j
   by_cases hj:j=f
   ·subst hj;simp[St.over,St.set]
   ·have e1:bfS m l q b B f fl d' j=bkS m l q b B [] j:=aK _ _ _ _ hj
    have e2:bfS m l q b B f fl d j=bkS m l q b B [] j:=aK _ _ _ _ hj
    simp only[St.over,St.minus,e1,e2]
    rw[aK _ _ _ _ hj]
    cases hb:bkS m l q b B [] j with
    | none=>rfl
    | some o=>exact(hle j o (e2.trans hb)).symm
  rw[e];exact hk
end

section
set_option maxHeartbeats 8000000
abbrev fZ(H:List CA)(id:Int):Option CA:=H.find? fun c=>decide (c.id=id)
def lS(W H:List CA):List Int:=(W.filter fun c=>(fZ H c.id).isSome&&decide ((fZ H c.id).getD ca0≠c)).map CA.id
def Ah(W H:List CA)(l:List Int):List Int:=l.filter fun id=>decide (W.getD (cN (W.map CA.id) id) ca0≠H.getD (cN (H.map CA.id) id) ca0)
theorem sO{H:List CA}(hu:UpI (H.map CA.id)){c:CA}(hc:c∈H):H[cN (H.map CA.id) c.id]?=some c:=by
 obtain⟨k,hk⟩:=List.mem_iff_getElem?.1 hc
 have hkl:=(List.getElem?_eq_some_iff.1 hk).1
 have hu:=List.pairwise_map.1 hu
 have key:∀q,q<H.length→∃d,H[q]?=some d∧(H.map CA.id).getD q 0=d.id:=fun q hq=>by
  refine⟨H[q],by simp[hq],?_⟩
  rw[List.getD_eq_getElem?_getD,List.getElem?_map,List.getElem?_eq_getElem hq];rfl
 have hp:∀i j (d e:CA),i<j→H[i]?=some d→H[j]?=some e→d.id<e.id:=fun i j d e hij hd he=>by
  obtain⟨h1,h2⟩:=List.getElem?_eq_some_iff.1 hd
  obtain⟨h3,h4⟩:=List.getElem?_eq_some_iff.1 he
  have:=List.pairwise_iff_getElem.1 hu i j h1 h3 hij
  rw[h2,h4] at this
  exact this
 have:cN (H.map CA.id) c.id=k:=by
  refine sP (by rw[List.length_map];omega) (fun q hq=>?_) (fun q hq hql=>?_)
  ·obtain⟨d,h1,h2⟩:=key q (by omega)
   rw[h2]
   exact hp q k d c hq h1 hk
  ·rw[List.length_map] at hql
   obtain⟨d,h1,h2⟩:=key q hql
   rw[h2]
   rcases Nat.lt_or_ge k q with h|h
   ·have:=hp k q c d h hk h1;omega
   ·have:q=k:=by omega
    subst this
    rw[hk] at h1;cases h1
    omega
 rw[this];exact hk
theorem s8{H:List CA}{id:Int}{c:CA}(h:fZ H id=some c):c∈H∧c.id=id:=⟨List.mem_of_find?_eq_some h,by simpa using List.find?_some h⟩
theorem s7{H:List CA}{id:Int}(h:fZ H id=none):id∉H.map CA.id:=by
 intro hm
 obtain⟨c,hc,rfl⟩:=List.mem_map.1 hm
 have:=List.find?_eq_none.1 h c hc
 simp at this
theorem IM{H:List CA}{id:Int}:(fZ H id).isSome=decide (id∈H.map CA.id):=by
 cases h:fZ H id with
 | none=>simp[s7 h]
 | some c=>obtain⟨h1,rfl⟩:=s8 h;exact(decide_eq_true (List.mem_map_of_mem h1)).symm
theorem Nt{W H:List CA}(hw:UpI (W.map CA.id))(hh:UpI (H.map CA.id)):Ah W H ((W.map CA.id).filter fun x=>decide (x∈H.map CA.id))=lS W H:=by
 unfold Ah lS
 rw[List.filter_filter,List.filter_map]
 congr 1
 refine List.filter_congr fun c hc=>?_
 simp only[Function.comp]
 have hW:W.getD (cN (W.map CA.id) c.id) ca0=c:=by rw[List.getD_eq_getElem?_getD,sO hw hc];rfl
 rw[hW]
 cases hf:fZ H c.id with
 | none =>
  have:=s7 hf
  simp[this]
 | some d =>
  obtain⟨h1,h2⟩:=s8 hf
  have hH:H.getD (cN (H.map CA.id) c.id) ca0=d:=by rw[←h2,List.getD_eq_getElem?_getD,sO hh h1];rfl
  have hm:c.id∈H.map CA.id:=by rw[←h2];exact List.mem_map_of_mem h1
  rw[hH]
  simp only[hm,decide_true,Option.isSome_some,Option.getD_some,Bool.true_and,Bool.and_true]
  exact decide_eq_decide.2 ⟨fun h e=>h e.symm,fun h e=>h e.symm⟩
theorem tU(W H:List CA):bF (W.map CA.id) (H.map CA.id)=(W.filter fun c=>!(fZ H c.id).isSome).map CA.id:=by
 unfold bF
 rw[List.filter_map]
 congr 1
 refine List.filter_congr fun c hc=>?_
 simp only[Function.comp,IM]
end

section
set_option maxRecDepth 100000
set_option maxHeartbeats 8000000
theorem uP(l:List CA)(hl:l.length≤1000000)(t:Bool):aA Tryz.prog 57 [.lst 27 (l.map CA.c) t] St.none (fun r _=>r=.lst 1 ((l.map CA.id).map aL) false):=by
 refine aA.seen (aA.body 19 [.tmp 2] Tryz.func57 rfl rfl rfl rfl ?_)
 obtain⟨K,hK⟩:∃K,l.map CA.id=K:=⟨_,rfl⟩
 have hKl:K.length=l.length:=by rw[←hK,List.length_map]
 rw[hK]
 repeat' (first|(with_reducible first|(refine wT ?_;(first|((fail_if_success (have:=nl1));refine wN fun nl1 hnl=>?_)|((fail_if_success (have:=nl2));refine wN fun nl2 hnl=>?_)|((fail_if_success (have:=nl3));refine wN fun nl3 hnl=>?_)|refine wN fun _ hnl=>?_);revert hnl;(repeat refine wS fun _ _=>?_);intro hnl)|refine wE ?_|(refine wK ?_ ?_<;>intro h)|(refine wB ?_ ?_<;>intro h<;>simp only[h]))|simp(maxSteps:=4000000) (disch:=first|exact ddL|fail) only[go_sem,simprocAttr,Tryz.f57])
 refine aH (α:=Nat × Nat × List (List MV)) (fun z=>⟨19,[(8,.int .i64 (z.1:Int)),(7,.int .i64 (l.length:Int)),(6,.lst 27 (l.map CA.c) t),(3,.vec 1 z.2.1 0 z.1)],[]⟩)
  (fun z=>St.none.set z.2.1 (.row 3 1 ((K.take z.1).map aL++z.2.2))) (fun z=>z.1≤l.length) (fun z=>l.length - z.1) ?_ ?_
 ·refine Gh.qS 3 1 (fun r=>[(8,.int .i64 0),(7,.int .i64 (l.length:Int)),(6,.lst 27 (l.map CA.c) t),(3,.vec 1 r 0 0)]) (fun k=>by(repeat' (refine And.intro ?_ ?_))<;>first|exact trivial|exact .inl rfl|exact .inr ⟨rfl,.inl rfl⟩|exact .inr ⟨rfl,.inr rfl⟩) fun r hr=>?_
  exact .done ⟨(0,r,[]),rfl,rfl,Nat.zero_le _⟩
 ·rintro⟨i,r,xx⟩ hi
  simp only at hi ⊢
  by_cases hlt:i<l.length
  ·obtain⟨x,hx⟩:=bK l hlt
   have hat:=bE (f:=CA.c) hx
   have hKx:K[i]?=some x.id:=by rw[←hK];exact fN hx
   have htk:=a8 hKx
   have hLl:(K.take i).length=i:=by rw[List.length_take];omega
   obtain⟨L,hL⟩:∃L,K.take i=L:=⟨_,rfl⟩
   rw[hL] at htk hLl ⊢
   have hLm:(L.map aL).length=i:=by rw[List.length_map,hLl]
   have hdr:(L.map aL++xx).drop (i+1)=xx.drop 1:=by rw[←hLl];exact jK
   have htk':(L.map aL++xx).take i=L.map aL:=by rw[←hLl];exact iS
   repeat' (first|(with_reducible first|(refine wT ?_;(first|((fail_if_success (have:=nl1));refine wN fun nl1 hnl=>?_)|((fail_if_success (have:=nl2));refine wN fun nl2 hnl=>?_)|((fail_if_success (have:=nl3));refine wN fun nl3 hnl=>?_)|refine wN fun _ hnl=>?_);revert hnl;(repeat refine wS fun _ _=>?_);intro hnl)|refine wE ?_|(refine wK ?_ ?_<;>intro h)|(refine wB ?_ ?_<;>intro h<;>simp only[h]))|simp(maxSteps:=4000000) (disch:=first|exact ddL|fail) only[go_sem,simprocAttr,FYs,hat,hLm,hLl,htk',hdr])
   all_goals (try (exfalso;omega))
   ·have hex:xx=[]:=List.eq_nil_of_length_eq_zero (by omega)
    subst hex
    clear h
    refine .of (.less ?_ ?_) ⟨(i+1,nl3,[]),rfl,rfl,by simp only;omega,by simp only;omega⟩
    ·simp(maxSteps:=4000000) (disch:=first|exact ddL|fail) only[go_sem,simprocAttr,aC,aB]
     all_goals first|rfl|(simp;done)
    ·rw[htk]
     exact St.aE (St.none_le _) (by simp[St.set, *])
   ·clear h
    refine .of (.less ?_ ?_) ⟨(i+1,nl3,xx.drop 1),rfl,rfl,by simp only;omega,by simp only;omega⟩
    ·simp(maxSteps:=4000000) (disch:=first|exact ddL|fail) only[go_sem,simprocAttr,aC,aB]
     all_goals first|rfl|(simp;done)
    ·rw[htk]
     exact St.aE (St.none_le _) (by simp[St.set, *])
  ·have:i=l.length:=by omega
   subst this
   have htl:K.take l.length=K:=by rw[←hKl];exact List.take_length
   rw[htl]
   repeat' (first|(with_reducible first|(refine wT ?_;(first|((fail_if_success (have:=nl1));refine wN fun nl1 hnl=>?_)|((fail_if_success (have:=nl2));refine wN fun nl2 hnl=>?_)|((fail_if_success (have:=nl3));refine wN fun nl3 hnl=>?_)|refine wN fun _ hnl=>?_);revert hnl;(repeat refine wS fun _ _=>?_);intro hnl)|refine wE ?_|(refine wK ?_ ?_<;>intro h)|(refine wB ?_ ?_<;>intro h<;>simp only[h]))|simp(maxSteps:=4000000) (disch:=first|exact ddL|fail) only[go_sem,simprocAttr])
   all_goals exact bS (aJ _ _ _) (by rw[List.length_map,hKl])
def ME:List MV→Int
 | [.int _ n]=>n
 | _=>0
def plK:b9:=fun g ms=>if g=59 then match ms with
 | [.lst _ xs _,.int _ x]=>some ⟨[],fun v=>v=.int .i64 (cN (xs.map ME) x:Int),none⟩
 | _=>none else none
theorem Kd(a:List Int)(t:Bool)(x:Int):plK 59 [.lst 1 (a.map aL) t,.int .i64 x]=some ⟨[],fun v=>v=.int .i64 (cN a x:Int),none⟩:=by
 have:(a.map aL).map ME=a:=by
  rw[List.map_map]
  exact(List.map_congr_left fun y _=>rfl).trans (List.map_id _)
 unfold plK
 rw[if_pos rfl]
 simp only[this]
theorem Ig{σ:St}{a b c c':MV}(h:View σ c c'):View σ (.tup [a,b,c]) (.tup [a,b,c']):=.tup rfl fun i m m' hm hm'=>by
 match i with
 | 0=>simp at hm hm';subst hm;subst hm';exact .same _
 | 1=>simp at hm hm';subst hm;subst hm';exact .same _
 | 2=>simp at hm hm';subst hm;subst hm';exact h
 | i+3=>simp at hm
theorem Iu{H:List CA}(hu:UpI (H.map CA.id)){x:Int}(hx:x∈H.map CA.id):∃c,H[cN (H.map CA.id) x]?=some c:=by
 obtain⟨c,hc,rfl⟩:=List.mem_map.1 hx
 exact⟨c,sO hu hc⟩
theorem filter_one{p:Int→Bool}{x:Int}{P:Prop}[Decidable P](h:p x=decide P):[x].filter p=if P then[x] else[]:=by
 by_cases hP:P<;>simp[List.filter_cons,h,hP]
theorem Ci{B:BK}(hb:BkR B)(h3:B.gr.length≤1000000)(h4:∀g,g∈B.gr→g.mem.length≤1000000){m l q b f:Nat}(D:lU m l q b)(hf:f≠m∧f≠l∧f≠q∧f≠b){fl:List ND}(hp:cA fl=0)(d:Bool)(mk:UInt32)(cur:Int)(W H:List CA)(hW:eJ B fl mk cur=W)(hWl:W.length≤1000000)(hHl:H.length≤1000000)(hWu:UpI (W.map CA.id))(hHu:UpI (H.map CA.id))(t:Bool) :
  aA Tryz.prog 22 [.ptr b 0 0,.ptr f 0 0,.int .u32 (mk.toNat:Int),.int .i64 cur,.lst 27 (H.map CA.c) t] (bfS m l q b B f fl d) (fun r σ'=>r=.tup [.lst 1 ((bF (W.map CA.id) (H.map CA.id)).map aL) false,.lst 1 ((bF (H.map CA.id) (W.map CA.id)).map aL) false,.lst 1 ((lS W H).map aL) false]∧σ'=bfS m l q b B f fl (d || decide (0<B.cards.length))):=by
 rw[←Nt hWu hHu]
 obtain⟨d',hd'⟩:∃d',(d || decide (0<B.cards.length))=d':=⟨_,rfl⟩
 have hid:=Ap hb h3 h4 D hf hp d mk cur
 rw[hW,hd'] at hid
 rw[hd']
 refine aA.Kr (Q:=fun σ'=>σ'=bfS m l q b B f fl d') ?_
 have hle0:∀d,(bfS m l q b B f fl d).le ((((((St.none.set m (.mp (cEs B.cards))).set l (shO B.nx m (.vec 3 q 0 B.dead.length))).set q (.row 90 3 (B.dead.map DE.c))).set b (bX B.sq l (.lst 2 (B.gr.map GR.c) false))).set f (flD fl d))):=fun d=>by
  simp only[bfS,bkS,shS,List.append_nil]
  exact St.le_refl _
 rw[show bfS m l q b B f fl d=(((((St.none.set m (.mp (cEs B.cards))).set l (shO B.nx m (.vec 3 q 0 B.dead.length))).set q (.row 90 3 (B.dead.map DE.c))).set b (bX B.sq l (.lst 2 (B.gr.map GR.c) false))).set f (flD fl d)) by simp only[bfS,bkS,shS,List.append_nil]]
 refine(aA.body 60 [.tmp 10,.tmp 11,.tmp 12] Tryz.func22 rfl rfl rfl rfl ?_)
 obtain⟨f1,f2,f3,f4⟩:=hf
 obtain⟨d1,d2,d3,d4,d5,d6⟩:=D
 have e1:=Ne.symm d1
 have e2:=Ne.symm d2
 have e3:=Ne.symm d3
 have e4:=Ne.symm d4
 have e5:=Ne.symm d5
 have e6:=Ne.symm d6
 have f1':=Ne.symm f1
 have f2':=Ne.symm f2
 have f3':=Ne.symm f3
 have f4':=Ne.symm f4
 have hn1:=uP W hWl false
 have hn2:=uP H hHl t
 have hat1:∀{x:Int},x∈W.map CA.id→∃c,W[cN (W.map CA.id) x]?=some c:=fun h=>Iu hWu h
 have hat2:∀{x:Int},x∈H.map CA.id→∃c,H[cN (H.map CA.id) x]?=some c:=fun h=>Iu hHu h
 have hal:(W.map CA.id).length=W.length:=List.length_map _
 have hcl:(H.map CA.id).length=H.length:=List.length_map _
 have hso:∀(L:List Int) (x:Int),Ah W H (L++[x])=Ah W H L++if W.getD (cN (W.map CA.id) x) ca0≠H.getD (cN (H.map CA.id) x) ca0 then[x] else[]:=fun L x=>by
  unfold Ah
  rw[List.filter_append]
  exact congrArg _ (filter_one rfl)
 obtain⟨a,ha⟩:∃a,W.map CA.id=a:=⟨_,rfl⟩
 obtain⟨c,hc⟩:∃c,H.map CA.id=c:=⟨_,rfl⟩
 rw[ha] at hn1 hal hWu ⊢
 rw[hc] at hn2 hcl hHu ⊢
 simp only[ha] at hat1 hso
 simp only[hc] at hat2 hso
 have hbo:=El a c (by omega) (by omega) hWu hHu false false
 have hm1:=mN a c (by omega) (by omega) hWu hHu false false
 have hm2:=mN c a (by omega) (by omega) hHu hWu false false
 obtain⟨N,hN⟩:∃N,a.filter (fun x=>decide (x∈c))=N:=⟨_,rfl⟩
 have hNm:∀x,x∈N→x∈a∧x∈c:=fun x hx=>by rw[←hN] at hx;simpa using List.mem_filter.1 hx
 have hNl:N.length≤1000000:=by rw[←hN];exact Nat.le_trans (List.length_filter_le _ _) (by omega)
 rw[hN] at hbo ⊢
 repeat' (first|(refine EO hid (hle0 d) ?_)|(with_reducible refine aM hn1 ?_)|(with_reducible refine aM hn2 ?_)|(with_reducible refine aM hbo ?_)|(with_reducible first|(refine wT ?_;(first|((fail_if_success (have:=nl1));refine wN fun nl1 hnl=>?_)|((fail_if_success (have:=nl2));refine wN fun nl2 hnl=>?_)|refine wN fun _ hnl=>?_);revert hnl;(repeat refine wS fun _ _=>?_);intro hnl)|refine wE ?_|(refine wK ?_ ?_<;>intro h)|(refine wB ?_ ?_<;>intro h<;>simp only[h]))|simp(maxSteps:=4000000) (disch:=first|exact ddL|fail) only[go_sem,simprocAttr,Tryz.f22])
 refine aH (α:=Nat × Nat × List (List MV)) (fun z=>⟨60,[(31,.int .i64 (z.1:Int)),(30,.int .i64 (N.length:Int)),(29,.lst 1 (N.map aL) false),(12,.vec 1 z.2.1 0 (Ah W H (N.take z.1)).length),(13,.lst 27 (W.map CA.c) false),(14,.lst 1 (a.map aL) false),(15,.lst 1 (c.map aL) false),(4,.lst 27 (H.map CA.c) t)],[]⟩)
  (fun z=>((((((St.none.set m (.mp (cEs B.cards))).set l (shO B.nx m (.vec 3 q 0 B.dead.length))).set q (.row 90 3 (B.dead.map DE.c))).set b (bX B.sq l (.lst 2 (B.gr.map GR.c) false))).set f (flD fl d'))).set z.2.1 (.row 3 1 ((Ah W H (N.take z.1)).map aL++z.2.2))) (fun z=>z.1≤N.length∧z.2.1≠m∧z.2.1≠l∧z.2.1≠q∧z.2.1≠b∧z.2.1≠f) (fun z=>N.length - z.1) ?_ ?_
 ·refine Gh.qS 3 1 (fun r=>[(31,.int .i64 0),(30,.int .i64 (N.length:Int)),(29,.lst 1 (N.map aL) false),(12,.vec 1 r 0 0),(13,.lst 27 (W.map CA.c) false),(14,.lst 1 (a.map aL) false),(15,.lst 1 (c.map aL) false),(4,.lst 27 (H.map CA.c) t)]) (fun k=>by(repeat' (refine And.intro ?_ ?_))<;>first|exact trivial|exact .inl rfl|exact .inr ⟨rfl,.inl rfl⟩|exact .inr ⟨rfl,.inr rfl⟩) fun r hr=>?_
  simp only[aY] at hr
  obtain⟨r5,r4,r3,r2,r1,-⟩:=hr
  exact .done ⟨(0,r,[]),rfl,rfl,Nat.zero_le _,r1,r2,r3,r4,r5⟩
 ·rintro⟨i,r,xx⟩ ⟨hi,r1,r2,r3,r4,r5⟩
  simp only at hi r1 r2 r3 r4 r5 ⊢
  have r1':=Ne.symm r1
  have r2':=Ne.symm r2
  have r3':=Ne.symm r3
  have r4':=Ne.symm r4
  have r5':=Ne.symm r5
  by_cases hlt:i<N.length
  ·obtain⟨x,hx⟩:=bK N hlt
   have hat:=bE (f:=aL) hx
   have htk:=a8 hx
   obtain⟨hxa,hxc⟩:=hNm x (dC hx)
   obtain⟨w,hw⟩:=hat1 hxa
   obtain⟨y,hh⟩:=hat2 hxc
   have hsn:=hso (N.take i) x
   rw[←htk] at hsn
   have hp1:=oA a (by omega) hWu x false
   have hp2:=oA c (by omega) hHu x false
   have k1:=Kd a false x
   have k2:=Kd c false x
   obtain⟨ka,hka⟩:∃k,cN a x=k:=⟨_,rfl⟩
   obtain⟨kc,hkc⟩:∃k,cN c x=k:=⟨_,rfl⟩
   rw[hka] at hw hsn hp1 k1
   rw[hkc] at hh hsn hp2 k2
   have hwl:=(List.getElem?_eq_some_iff.1 hw).1
   have hhl:=(List.getElem?_eq_some_iff.1 hh).1
   have hwg:=bE (f:=CA.c) hw
   have hhg:=bE (f:=CA.c) hh
   have hwd:W.getD ka ca0=w:=by rw[List.getD_eq_getElem?_getD,hw];rfl
   have hhd:H.getD kc ca0=y:=by rw[List.getD_eq_getElem?_getD,hh];rfl
   rw[hwd,hhd] at hsn
   have hmw:(W.map CA.c).length=W.length:=List.length_map _
   have hmh:(H.map CA.c).length=H.length:=List.length_map _
   have hne:=Bz w y
   obtain⟨O,hO⟩:∃O,Ah W H (N.take i)=O:=⟨_,rfl⟩
   rw[hO] at hsn ⊢
   have hO6:O.length≤1000000:=by
    rw[←hO]
    exact Nat.le_trans (List.length_filter_le _ _) (by rw[List.length_take];omega)
   clear hat1 hat2 hso hNm hid hle0 hn1 hn2 hbo hm1 hm2
   by_cases he:w=y
   ·rw[if_neg (fun q=>q he),List.append_nil] at hsn
    rw[decide_eq_true he] at hne
    repeat' (first|((with_reducible refine aT mixed ?chk plK ?_);(case chk=>decide +kernel))|(with_reducible refine aP k1 hp1 ?_)|(with_reducible refine aP k2 hp2 ?_)|(with_reducible first|(refine wT ?_;(first|((fail_if_success (have:=nl1));refine wN fun nl1 hnl=>?_)|((fail_if_success (have:=nl2));refine wN fun nl2 hnl=>?_)|refine wN fun _ hnl=>?_);revert hnl;(repeat refine wS fun _ _=>?_);intro hnl)|refine wE ?_|(refine wK ?_ ?_<;>intro h)|(refine wB ?_ ?_<;>intro h<;>simp only[h]))|simp(maxSteps:=4000000) (disch:=first|exact ddL|fail) only[go_sem,simprocAttr,FXs,hat,hwg,hhg,hmw,hmh,hne])
    all_goals (try (exfalso;omega))
    all_goals
     refine .of (.less ?_ ?_) ⟨(i+1,r,xx),rfl,rfl,⟨by simp only;omega,r1,r2,r3,r4,r5⟩,by simp only;omega⟩
     ·simp only[hsn]
      simp(maxSteps:=4000000) (disch:=first|exact ddL|fail) only[go_sem,simprocAttr,aC,aB]
      all_goals first|rfl|(simp;done)
     ·simp only[hsn]
      exact St.le_refl _
   ·rw[if_pos he] at hsn
    rw[decide_eq_false he] at hne
    have hLm:(O.map aL).length=O.length:=List.length_map _
    obtain⟨j,hj⟩:∃j,O.length=j:=⟨_,rfl⟩
    have hal2:(O++[x]).length=j+1:=by simp[hj]
    have hmp:(O++[x]).map aL=O.map aL++[aL x]:=by simp
    obtain⟨Q,hQ⟩:∃Q,O.map aL=Q:=⟨_,rfl⟩
    rw[hj] at hLm hO6 ⊢
    rw[hQ] at hLm hmp ⊢
    have hdr:(Q++xx).drop (j+1)=xx.drop 1:=by rw[←hLm,←List.drop_drop,List.drop_left]
    have htk':(Q++xx).take j=Q:=List.take_left' hLm
    repeat' (first|((with_reducible refine aT mixed ?chk plK ?_);(case chk=>decide +kernel))|(with_reducible refine aP k1 hp1 ?_)|(with_reducible refine aP k2 hp2 ?_)|(with_reducible first|(refine wT ?_;(first|((fail_if_success (have:=nl1));refine wN fun nl1 hnl=>?_)|((fail_if_success (have:=nl2));refine wN fun nl2 hnl=>?_)|refine wN fun _ hnl=>?_);revert hnl;(repeat refine wS fun _ _=>?_);intro hnl)|refine wE ?_|(refine wK ?_ ?_<;>intro h)|(refine wB ?_ ?_<;>intro h<;>simp only[h]))|simp(maxSteps:=4000000) (disch:=first|exact ddL|fail) only[go_sem,simprocAttr,FXs,hat,hwg,hhg,hmw,hmh,hne,hLm,hdr,htk'])
    all_goals (try (exfalso;omega))
    all_goals
     clear htk' hdr hne k1 k2 hp1 hp2
     have z1:nl2≠m:=by assumption
     have z2:nl2≠l:=by assumption
     have z3:nl2≠q:=by assumption
     have z4:nl2≠b:=by assumption
     have z5:nl2≠f:=by assumption
    ·have hex:xx=[]:=List.eq_nil_of_length_eq_zero (by omega)
     subst hex
     clear h
     refine .of (.less ?_ ?_) ⟨(i+1,nl2,[]),rfl,rfl,⟨by simp only;omega,z1,z2,z3,z4,z5⟩,by simp only;omega⟩
     ·simp only[hsn,hal2]
      simp(maxSteps:=4000000) (disch:=first|exact ddL|fail) only[go_sem,simprocAttr,aC,aB]
      all_goals first|rfl|(simp;done)
     ·simp only[hsn,hmp]
      exact St.aE (St.aE (St.aE (St.aE (St.aE (St.aE (St.none_le _) (by simp[St.set, *])) (by simp[St.set, *])) (by simp[St.set, *])) (by simp[St.set, *])) (by simp[St.set, *])) (by simp[St.set, *])
    ·clear h
     refine .of (.less ?_ ?_) ⟨(i+1,nl2,xx.drop 1),rfl,rfl,⟨by simp only;omega,z1,z2,z3,z4,z5⟩,by simp only;omega⟩
     ·simp only[hsn,hal2]
      simp(maxSteps:=4000000) (disch:=first|exact ddL|fail) only[go_sem,simprocAttr,aC,aB]
      all_goals first|rfl|(simp;done)
     ·simp only[hsn,hmp]
      exact St.aE (St.aE (St.aE (St.aE (St.aE (St.aE (St.none_le _) (by simp[St.set, *])) (by simp[St.set, *])) (by simp[St.set, *])) (by simp[St.set, *])) (by simp[St.set, *])) (by simp[St.set, *])
  ·have:i=N.length:=by omega
   subst this
   rw[List.take_length]
   repeat' (first|(with_reducible refine aM hm1 ?_)|(with_reducible refine aM hm2 ?_)|(with_reducible first|(refine wT ?_;(first|((fail_if_success (have:=nl1));refine wN fun nl1 hnl=>?_)|((fail_if_success (have:=nl2));refine wN fun nl2 hnl=>?_)|refine wN fun _ hnl=>?_);revert hnl;(repeat refine wS fun _ _=>?_);intro hnl)|refine wE ?_|(refine wK ?_ ?_<;>intro h)|(refine wB ?_ ?_<;>intro h<;>simp only[h]))|simp(maxSteps:=4000000) (disch:=first|exact ddL|fail) only[go_sem,simprocAttr])
   refine⟨_,St.none.set r (.row 3 1 ((Ah W H N).map aL++xx)),rfl,St.aE (St.none_le _) (aJ _ _ _),St.mD (hle0 d') (by simp[St.set,St.none, *]),fun k o hk=>?_,Ig (bS (aJ _ _ _) (List.length_map _).symm)⟩
   refine(aK _ _ _ _ fun e=>?_).trans rfl
   subst e
   simp[St.set,St.none, *] at hk
end

section
set_option maxRecDepth 100000
set_option maxHeartbeats 8000000
def inD(W H:List CA):List Int:=(W.filter fun c=>!(fZ H c.id).isSome).map CA.id
theorem Bk{W H:List CA}{i:Nat}{x:CA}(h:W[i]?=some x):inD (W.take (i+1)) H=inD (W.take i) H++if (fZ H x.id).isSome=true then[] else[x.id]:=by
 unfold inD
 rw[l6 h,Fv]
 congr 1
 cases (fZ H x.id).isSome<;>rfl
theorem HI{W H:List CA}{i:Nat}{x:CA}(h:W[i]?=some x):lS (W.take (i+1)) H=lS (W.take i) H++if (fZ H x.id).isSome=true∧(fZ H x.id).getD ca0≠x then[x.id] else[]:=by
 unfold lS
 rw[l6 h,Fv]
 congr 1
 cases h1:(fZ H x.id).isSome with
 | false=>simp
 | true =>
  by_cases h2:(fZ H x.id).getD ca0=x<;>simp[h2]
theorem ER{σ:St}{a b c a' b' c':MV}(ha:View σ a a')(hb:View σ b b')(hc:View σ c c'):View σ (.tup [a,b,c]) (.tup [a',b',c']):=.tup rfl fun i m m' hm hm'=>by
 match i with
 | 0=>simp at hm hm';subst hm;subst hm';exact ha
 | 1=>simp at hm hm';subst hm;subst hm';exact hb
 | 2=>simp at hm hm';subst hm;subst hm';exact hc
 | i+3=>simp at hm
theorem Cw(W H:List CA)(hW:W.length≤1000000)(hH:H.length≤1000000)(tw th:Bool):aA Tryz.prog 23 [.lst 27 (W.map CA.c) tw,.lst 27 (H.map CA.c) th] St.none (fun r _=>r=.tup [.lst 1 ((bF (W.map CA.id) (H.map CA.id)).map aL) false,.lst 1 ((bF (H.map CA.id) (W.map CA.id)).map aL) false,.lst 1 ((lS W H).map aL) false]):=by
 rw[tU,tU]
 show aA _ _ _ _ (fun r _=>r=.tup [.lst 1 ((inD W H).map aL) false,.lst 1 ((inD H W).map aL) false,.lst 1 ((lS W H).map aL) false])
 refine aA.seen (aA.body 88 [.tmp 4,.tmp 5,.tmp 6] Tryz.func23 rfl rfl rfl rfl ?_)
 have hwl:(W.map CA.c).length=W.length:=List.length_map _
 have hhl:(H.map CA.c).length=H.length:=List.length_map _
 repeat' (first|(with_reducible first|(refine wT ?_;(first|((fail_if_success (have:=nl1));refine wN fun nl1 hnl=>?_)|((fail_if_success (have:=nl2));refine wN fun nl2 hnl=>?_)|((fail_if_success (have:=nl3));refine wN fun nl3 hnl=>?_)|((fail_if_success (have:=nl4));refine wN fun nl4 hnl=>?_)|((fail_if_success (have:=nl5));refine wN fun nl5 hnl=>?_)|((fail_if_success (have:=nl6));refine wN fun nl6 hnl=>?_)|refine wN fun _ hnl=>?_);revert hnl;(repeat refine wS fun _ _=>?_);intro hnl)|refine wE ?_|(refine wK ?_ ?_<;>intro h)|(refine wB ?_ ?_<;>intro h<;>simp only[h]))|simp(maxSteps:=4000000) (disch:=first|exact ddL|fail) only[go_sem,simprocAttr,Tryz.f23])
 have n21:nl2≠nl1:=by assumption
 have n31:nl3≠nl1:=by assumption
 have n32:nl3≠nl2:=by assumption
 refine aH (α:=Nat × (Nat × List (List MV)) × Nat × List (List MV)) (fun z=>⟨88,[(10,.int .i64 (z.1:Int)),(7,.vec 1 z.2.1.1 0 (inD (W.take z.1) H).length),(8,.vec 1 nl2 0 0),(9,.vec 1 z.2.2.1 0 (lS (W.take z.1) H).length),(1,.lst 27 (H.map CA.c) th),(0,.lst 27 (W.map CA.c) tw)],[]⟩)
  (fun z=>((St.none.set z.2.1.1 (.row 3 1 ((inD (W.take z.1) H).map aL++z.2.1.2))).set nl2 (.row 3 1 [])).set z.2.2.1 (.row 3 1 ((lS (W.take z.1) H).map aL++z.2.2.2)))
  (fun z=>z.1≤W.length∧z.2.1.1≠nl2∧z.2.2.1≠nl2∧z.2.2.1≠z.2.1.1) (fun z=>W.length - z.1) ?_ ?_
 ·refine .of (.less ?_ ?_) ⟨(0,(nl1,[]),nl3,[]),rfl,rfl,Nat.zero_le _,Ne.symm n21,n32,n31⟩
  ·simp(maxSteps:=4000000) (disch:=first|exact ddL|fail) only[go_sem,simprocAttr,aC,aB]
   all_goals first|rfl|(show kE (.vec 1 nl1 0 0) (.vec 1 nl1 0 0)∧kE (.vec 1 nl3 0 0) (.vec 1 nl3 0 0);simp only[aB,and_self])
  ·exact St.aE (St.aE (St.aE (St.none_le _) (by simp[St.set,inD, *])) (by simp[St.set, *])) (by simp[St.set,lS, *])
 ·rintro⟨i,⟨r1,x1⟩,r3,x3⟩ ⟨hi,z1,z2,z3⟩
  simp only at hi z1 z2 z3 ⊢
  have z1':=Ne.symm z1
  have z2':=Ne.symm z2
  have z3':=Ne.symm z3
  by_cases hlt:i<W.length
  ·obtain⟨x,hx⟩:=bK W hlt
   have hat:=bE (f:=CA.c) hx
   have hf:=uU H hH th x.id
   rw[show List.find? (fun c=>decide (c.id=x.id)) H=fZ H x.id from rfl] at hf
   have hs1:=Bk (H:=H) hx
   have hs3:=HI (H:=H) hx
   obtain⟨A,hA⟩:∃A,inD (W.take i) H=A:=⟨_,rfl⟩
   obtain⟨O,hO⟩:∃O,lS (W.take i) H=O:=⟨_,rfl⟩
   rw[hA] at hs1 ⊢
   rw[hO] at hs3 ⊢
   have hA6:A.length≤1000000:=by
    rw[←hA];unfold inD;rw[List.length_map]
    exact Nat.le_trans (List.length_filter_le _ _) (by rw[List.length_take];omega)
   have hO6:O.length≤1000000:=by
    rw[←hO];unfold lS;rw[List.length_map]
    exact Nat.le_trans (List.length_filter_le _ _) (by rw[List.length_take];omega)
   cases hfc:fZ H x.id with
   | none =>
    rw[hfc] at hf hs1 hs3
    simp only[Option.isSome_none,Bool.false_eq_true,false_and,if_false,List.append_nil,Option.getD_none] at hf hs1 hs3
    have hLm:(A.map aL).length=A.length:=List.length_map _
    obtain⟨j,hj⟩:∃j,A.length=j:=⟨_,rfl⟩
    have hal2:(A++[x.id]).length=j+1:=by simp[hj]
    have hmp:(A++[x.id]).map aL=A.map aL++[aL x.id]:=by simp
    obtain⟨Q,hQ⟩:∃Q,A.map aL=Q:=⟨_,rfl⟩
    rw[hj] at hLm hA6 ⊢
    rw[hQ] at hLm hmp ⊢
    have hdr:(Q++x1).drop (j+1)=x1.drop 1:=by rw[←hLm,←List.drop_drop,List.drop_left]
    have htk':(Q++x1).take j=Q:=List.take_left' hLm
    repeat' (first|(with_reducible refine aM hf ?_)|(with_reducible first|(refine wT ?_;(first|((fail_if_success (have:=nl1));refine wN fun nl1 hnl=>?_)|((fail_if_success (have:=nl2));refine wN fun nl2 hnl=>?_)|((fail_if_success (have:=nl3));refine wN fun nl3 hnl=>?_)|((fail_if_success (have:=nl4));refine wN fun nl4 hnl=>?_)|((fail_if_success (have:=nl5));refine wN fun nl5 hnl=>?_)|((fail_if_success (have:=nl6));refine wN fun nl6 hnl=>?_)|refine wN fun _ hnl=>?_);revert hnl;(repeat refine wS fun _ _=>?_);intro hnl)|refine wE ?_|(refine wK ?_ ?_<;>intro h)|(refine wB ?_ ?_<;>intro h<;>simp only[h]))|simp(maxSteps:=4000000) (disch:=first|exact ddL|fail) only[go_sem,simprocAttr,FXs,hat,hwl,hLm,hdr,htk'])
    all_goals (try (exfalso;omega))
    all_goals
     clear htk' hdr
     have y1:nl6≠nl2:=by assumption
     have y2:nl6≠r3:=by assumption
    ·have hex:x1=[]:=List.eq_nil_of_length_eq_zero (by omega)
     subst hex
     clear h
     refine .of (.less ?_ ?_) ⟨(i+1,(nl6,[]),r3,x3),rfl,rfl,⟨by simp only;omega,y1,z2,Ne.symm y2⟩,by simp only;omega⟩
     ·simp only[hs1,hs3,hal2]
      simp(maxSteps:=4000000) (disch:=first|exact ddL|fail) only[go_sem,simprocAttr,aC,aB]
      all_goals first|rfl|(simp;done)
     ·simp only[hs1,hs3,hmp]
      exact St.aE (St.aE (St.aE (St.none_le _) (by simp[St.set, *])) (by simp[St.set, *])) (by simp[St.set, *])
    ·clear h
     refine .of (.less ?_ ?_) ⟨(i+1,(nl6,x1.drop 1),r3,x3),rfl,rfl,⟨by simp only;omega,y1,z2,Ne.symm y2⟩,by simp only;omega⟩
     ·simp only[hs1,hs3,hal2]
      simp(maxSteps:=4000000) (disch:=first|exact ddL|fail) only[go_sem,simprocAttr,aC,aB]
      all_goals first|rfl|(simp;done)
     ·simp only[hs1,hs3,hmp]
      exact St.aE (St.aE (St.aE (St.none_le _) (by simp[St.set, *])) (by simp[St.set, *])) (by simp[St.set, *])
   | some y =>
    rw[hfc] at hf hs1 hs3
    simp only[Option.isSome_some,if_true,true_and,List.append_nil,Option.getD_some] at hf hs1 hs3
    have hne:=Bz y x
    by_cases he:y=x
    ·rw[if_neg (fun q=>q he),List.append_nil] at hs3
     rw[decide_eq_true he] at hne
     repeat' (first|(with_reducible refine aM hf ?_)|(with_reducible first|(refine wT ?_;(first|((fail_if_success (have:=nl1));refine wN fun nl1 hnl=>?_)|((fail_if_success (have:=nl2));refine wN fun nl2 hnl=>?_)|((fail_if_success (have:=nl3));refine wN fun nl3 hnl=>?_)|((fail_if_success (have:=nl4));refine wN fun nl4 hnl=>?_)|((fail_if_success (have:=nl5));refine wN fun nl5 hnl=>?_)|((fail_if_success (have:=nl6));refine wN fun nl6 hnl=>?_)|refine wN fun _ hnl=>?_);revert hnl;(repeat refine wS fun _ _=>?_);intro hnl)|refine wE ?_|(refine wK ?_ ?_<;>intro h)|(refine wB ?_ ?_<;>intro h<;>simp only[h]))|simp(maxSteps:=4000000) (disch:=first|exact ddL|fail) only[go_sem,simprocAttr,FXs,hat,hwl,hne])
     all_goals (try (exfalso;omega))
     all_goals
      refine .of (.less ?_ ?_) ⟨(i+1,(r1,x1),r3,x3),rfl,rfl,⟨by simp only;omega,z1,z2,z3⟩,by simp only;omega⟩
      ·simp only[hs1,hs3]
       simp(maxSteps:=4000000) (disch:=first|exact ddL|fail) only[go_sem,simprocAttr,aC,aB]
       all_goals first|rfl|(simp;done)
      ·simp only[hs1,hs3]
       exact St.aE (St.aE (St.aE (St.none_le _) (by simp[St.set, *])) (by simp[St.set, *])) (by simp[St.set, *])
    ·rw[if_pos he] at hs3
     rw[decide_eq_false he] at hne
     have hLm:(O.map aL).length=O.length:=List.length_map _
     obtain⟨j,hj⟩:∃j,O.length=j:=⟨_,rfl⟩
     have hal2:(O++[x.id]).length=j+1:=by simp[hj]
     have hmp:(O++[x.id]).map aL=O.map aL++[aL x.id]:=by simp
     obtain⟨Q,hQ⟩:∃Q,O.map aL=Q:=⟨_,rfl⟩
     rw[hj] at hLm hO6 ⊢
     rw[hQ] at hLm hmp ⊢
     have hdr:(Q++x3).drop (j+1)=x3.drop 1:=by rw[←hLm,←List.drop_drop,List.drop_left]
     have htk':(Q++x3).take j=Q:=List.take_left' hLm
     repeat' (first|(with_reducible refine aM hf ?_)|(with_reducible first|(refine wT ?_;(first|((fail_if_success (have:=nl1));refine wN fun nl1 hnl=>?_)|((fail_if_success (have:=nl2));refine wN fun nl2 hnl=>?_)|((fail_if_success (have:=nl3));refine wN fun nl3 hnl=>?_)|((fail_if_success (have:=nl4));refine wN fun nl4 hnl=>?_)|((fail_if_success (have:=nl5));refine wN fun nl5 hnl=>?_)|((fail_if_success (have:=nl6));refine wN fun nl6 hnl=>?_)|refine wN fun _ hnl=>?_);revert hnl;(repeat refine wS fun _ _=>?_);intro hnl)|refine wE ?_|(refine wK ?_ ?_<;>intro h)|(refine wB ?_ ?_<;>intro h<;>simp only[h]))|simp(maxSteps:=4000000) (disch:=first|exact ddL|fail) only[go_sem,simprocAttr,FXs,hat,hwl,hne,hLm,hdr,htk'])
     all_goals (try (exfalso;omega))
     all_goals
      clear htk' hdr hne
      have y1:nl6≠nl2:=by assumption
      have y2:nl6≠r1:=by assumption
     ·have hex:x3=[]:=List.eq_nil_of_length_eq_zero (by omega)
      subst hex
      clear h
      refine .of (.less ?_ ?_) ⟨(i+1,(r1,x1),nl6,[]),rfl,rfl,⟨by simp only;omega,z1,y1,y2⟩,by simp only;omega⟩
      ·simp only[hs1,hs3,hal2]
       simp(maxSteps:=4000000) (disch:=first|exact ddL|fail) only[go_sem,simprocAttr,aC,aB]
       all_goals first|rfl|(simp;done)
      ·simp only[hs1,hs3,hmp]
       exact St.aE (St.aE (St.aE (St.none_le _) (by simp[St.set, *])) (by simp[St.set, *])) (by simp[St.set, *])
     ·clear h
      refine .of (.less ?_ ?_) ⟨(i+1,(r1,x1),nl6,x3.drop 1),rfl,rfl,⟨by simp only;omega,z1,y1,y2⟩,by simp only;omega⟩
      ·simp only[hs1,hs3,hal2]
       simp(maxSteps:=4000000) (disch:=first|exact ddL|fail) only[go_sem,simprocAttr,aC,aB]
       all_goals first|rfl|(simp;done)
      ·simp only[hs1,hs3,hmp]
       exact St.aE (St.aE (St.aE (St.none_le _) (by simp[St.set, *])) (by simp[St.set, *])) (by simp[St.set, *])
  ·have:i=W.length:=by omega
   subst this
   rw[List.take_length]
   repeat' (first|(with_reducible first|(refine wT ?_;(first|((fail_if_success (have:=nl1));refine wN fun nl1 hnl=>?_)|((fail_if_success (have:=nl2));refine wN fun nl2 hnl=>?_)|((fail_if_success (have:=nl3));refine wN fun nl3 hnl=>?_)|((fail_if_success (have:=nl4));refine wN fun nl4 hnl=>?_)|((fail_if_success (have:=nl5));refine wN fun nl5 hnl=>?_)|((fail_if_success (have:=nl6));refine wN fun nl6 hnl=>?_)|refine wN fun _ hnl=>?_);revert hnl;(repeat refine wS fun _ _=>?_);intro hnl)|refine wE ?_|(refine wK ?_ ?_<;>intro h)|(refine wB ?_ ?_<;>intro h<;>simp only[h]))|simp(maxSteps:=4000000) (disch:=first|exact ddL|fail) only[go_sem,simprocAttr,hwl])
   all_goals (try (exfalso;omega))
   obtain⟨A,hA⟩:∃A,inD W H=A:=⟨_,rfl⟩
   obtain⟨O,hO⟩:∃O,lS W H=O:=⟨_,rfl⟩
   rw[hA,hO]
   clear hi hlt
   refine aH (α:=Nat × Nat × List (List MV)) (fun z=>⟨88,[(13,.int .i64 (z.1:Int)),(8,.vec 1 z.2.1 0 (inD (H.take z.1) W).length),(7,.vec 1 r1 0 A.length),(9,.vec 1 r3 0 O.length),(1,.lst 27 (H.map CA.c) th),(0,.lst 27 (W.map CA.c) tw)],[]⟩)
    (fun z=>((St.none.set r1 (.row 3 1 (A.map aL++x1))).set r3 (.row 3 1 (O.map aL++x3))).set z.2.1 (.row 3 1 ((inD (H.take z.1) W).map aL++z.2.2)))
    (fun z=>z.1≤H.length∧z.2.1≠r1∧z.2.1≠r3) (fun z=>H.length - z.1) ?_ ?_
   ·refine .of (.less ?_ ?_) ⟨(0,nl2,[]),rfl,rfl,Nat.zero_le _,z1',z2'⟩
    ·simp(maxSteps:=4000000) (disch:=first|exact ddL|fail) only[go_sem,simprocAttr,aC,aB]
     all_goals first|rfl|(show kE (.vec 1 nl2 0 0) (.vec 1 nl2 0 0);simp only[aB])
    ·exact St.aE (St.aE (St.aE (St.none_le _) (by simp[St.set, *])) (by simp[St.set, *])) (by simp[St.set,inD, *])
   ·rintro⟨i,r2,x2⟩ ⟨hi,y1,y2⟩
    simp only at hi y1 y2 ⊢
    have y1':=Ne.symm y1
    have y2':=Ne.symm y2
    by_cases hlt:i<H.length
    ·obtain⟨x,hx⟩:=bK H hlt
     have hat:=bE (f:=CA.c) hx
     have hf:=uU W hW tw x.id
     rw[show List.find? (fun c=>decide (c.id=x.id)) W=fZ W x.id from rfl] at hf
     have hs1:=Bk (H:=W) hx
     obtain⟨G,hG⟩:∃G,inD (H.take i) W=G:=⟨_,rfl⟩
     rw[hG] at hs1 ⊢
     have hG6:G.length≤1000000:=by
      rw[←hG];unfold inD;rw[List.length_map]
      exact Nat.le_trans (List.length_filter_le _ _) (by rw[List.length_take];omega)
     cases hfc:fZ W x.id with
     | none =>
      rw[hfc] at hf hs1
      simp only[Option.isSome_none,Bool.false_eq_true,if_false,Option.getD_none] at hf hs1
      have hLm:(G.map aL).length=G.length:=List.length_map _
      obtain⟨j,hj⟩:∃j,G.length=j:=⟨_,rfl⟩
      have hal2:(G++[x.id]).length=j+1:=by simp[hj]
      have hmp:(G++[x.id]).map aL=G.map aL++[aL x.id]:=by simp
      obtain⟨Q,hQ⟩:∃Q,G.map aL=Q:=⟨_,rfl⟩
      rw[hj] at hLm hG6 ⊢
      rw[hQ] at hLm hmp ⊢
      have hdr:(Q++x2).drop (j+1)=x2.drop 1:=by rw[←hLm,←List.drop_drop,List.drop_left]
      have htk':(Q++x2).take j=Q:=List.take_left' hLm
      repeat' (first|(with_reducible refine aM hf ?_)|(with_reducible first|(refine wT ?_;(first|((fail_if_success (have:=nl1));refine wN fun nl1 hnl=>?_)|((fail_if_success (have:=nl2));refine wN fun nl2 hnl=>?_)|((fail_if_success (have:=nl3));refine wN fun nl3 hnl=>?_)|((fail_if_success (have:=nl4));refine wN fun nl4 hnl=>?_)|((fail_if_success (have:=nl5));refine wN fun nl5 hnl=>?_)|((fail_if_success (have:=nl6));refine wN fun nl6 hnl=>?_)|refine wN fun _ hnl=>?_);revert hnl;(repeat refine wS fun _ _=>?_);intro hnl)|refine wE ?_|(refine wK ?_ ?_<;>intro h)|(refine wB ?_ ?_<;>intro h<;>simp only[h]))|simp(maxSteps:=4000000) (disch:=first|exact ddL|fail) only[go_sem,simprocAttr,FXs,hat,hhl,hLm,hdr,htk'])
      all_goals (try (exfalso;omega))
      all_goals
       clear htk' hdr
       have q1:nl6≠r1:=by assumption
       have q2:nl6≠r3:=by assumption
      ·have hex:x2=[]:=List.eq_nil_of_length_eq_zero (by omega)
       subst hex
       clear h
       refine .of (.less ?_ ?_) ⟨(i+1,nl6,[]),rfl,rfl,⟨by simp only;omega,q1,q2⟩,by simp only;omega⟩
       ·simp only[hs1,hal2]
        simp(maxSteps:=4000000) (disch:=first|exact ddL|fail) only[go_sem,simprocAttr,aC,aB]
        all_goals first|rfl|(simp;done)
       ·simp only[hs1,hmp]
        exact St.aE (St.aE (St.aE (St.none_le _) (by simp[St.set, *])) (by simp[St.set, *])) (by simp[St.set, *])
      ·clear h
       refine .of (.less ?_ ?_) ⟨(i+1,nl6,x2.drop 1),rfl,rfl,⟨by simp only;omega,q1,q2⟩,by simp only;omega⟩
       ·simp only[hs1,hal2]
        simp(maxSteps:=4000000) (disch:=first|exact ddL|fail) only[go_sem,simprocAttr,aC,aB]
        all_goals first|rfl|(simp;done)
       ·simp only[hs1,hmp]
        exact St.aE (St.aE (St.aE (St.none_le _) (by simp[St.set, *])) (by simp[St.set, *])) (by simp[St.set, *])
     | some y =>
      rw[hfc] at hf hs1
      simp only[Option.isSome_some,if_true,List.append_nil,Option.getD_some] at hf hs1
      repeat' (first|(with_reducible refine aM hf ?_)|(with_reducible first|(refine wT ?_;(first|((fail_if_success (have:=nl1));refine wN fun nl1 hnl=>?_)|((fail_if_success (have:=nl2));refine wN fun nl2 hnl=>?_)|((fail_if_success (have:=nl3));refine wN fun nl3 hnl=>?_)|((fail_if_success (have:=nl4));refine wN fun nl4 hnl=>?_)|((fail_if_success (have:=nl5));refine wN fun nl5 hnl=>?_)|((fail_if_success (have:=nl6));refine wN fun nl6 hnl=>?_)|refine wN fun _ hnl=>?_);revert hnl;(repeat refine wS fun _ _=>?_);intro hnl)|refine wE ?_|(refine wK ?_ ?_<;>intro h)|(refine wB ?_ ?_<;>intro h<;>simp only[h]))|simp(maxSteps:=4000000) (disch:=first|exact ddL|fail) only[go_sem,simprocAttr,FXs,hat,hhl])
      all_goals (try (exfalso;omega))
      all_goals
       refine .of (.less ?_ ?_) ⟨(i+1,r2,x2),rfl,rfl,⟨by simp only;omega,y1,y2⟩,by simp only;omega⟩
       ·simp only[hs1]
        simp(maxSteps:=4000000) (disch:=first|exact ddL|fail) only[go_sem,simprocAttr,aC,aB]
        all_goals first|rfl|(simp;done)
       ·simp only[hs1]
        exact St.aE (St.aE (St.aE (St.none_le _) (by simp[St.set, *])) (by simp[St.set, *])) (by simp[St.set, *])
    ·have:i=H.length:=by omega
     subst this
     rw[List.take_length]
     repeat' (first|(with_reducible first|(refine wT ?_;(first|((fail_if_success (have:=nl1));refine wN fun nl1 hnl=>?_)|((fail_if_success (have:=nl2));refine wN fun nl2 hnl=>?_)|((fail_if_success (have:=nl3));refine wN fun nl3 hnl=>?_)|((fail_if_success (have:=nl4));refine wN fun nl4 hnl=>?_)|((fail_if_success (have:=nl5));refine wN fun nl5 hnl=>?_)|((fail_if_success (have:=nl6));refine wN fun nl6 hnl=>?_)|refine wN fun _ hnl=>?_);revert hnl;(repeat refine wS fun _ _=>?_);intro hnl)|refine wE ?_|(refine wK ?_ ?_<;>intro h)|(refine wB ?_ ?_<;>intro h<;>simp only[h]))|simp(maxSteps:=4000000) (disch:=first|exact ddL|fail) only[go_sem,simprocAttr,hhl])
     all_goals (try (exfalso;omega))
     all_goals exact ER (bS (t:=3) (ex:=x1) (by simp[St.set, *]) (List.length_map _).symm) (bS (aJ _ _ _) (List.length_map _).symm) (bS (t:=3) (ex:=x3) (by simp[St.set, *]) (List.length_map _).symm)
end
end Go.Proofs.YtaojijkdamfbnaaGreatDoor
