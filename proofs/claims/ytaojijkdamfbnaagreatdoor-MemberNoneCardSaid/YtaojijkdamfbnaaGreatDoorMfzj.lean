/- Parts of the proof, joined; conditions: those that its theorems name. -/
import Derived.Test.YtaojijkdamfbnaaGreatDoorMfzh
import Derived.Test.YtaojijkdamfbnaaGreatDoorMfzi
set_option linter.unusedVariables false
set_option linter.unusedSimpArgs false
set_option maxHeartbeats 4000000
namespace Go.Proofs.YtaojijkdamfbnaaGreatDoor
section
set_option maxRecDepth 100000
set_option maxHeartbeats 8000000
theorem yA{B:BK}(h1:B.cards.length≤1000000)(h2:B.dead.length≤1000000)(h3:B.gr.length≤1000000)(h4:∀g,g∈B.gr→g.mem.length≤1000000)(h:j6 B=true) :
  aA Tryz.prog 11 [.agg B.c] St.none (fun v σ'=>∃m l q b,jP m l q b∧v=.tup [.ptr b 0 0,.bool true]∧σ'=bkS m l q b B []) :=
 aA.ghost ((Fx h1 h2 h3 h4 h).mono fun v σ' ⟨m,l,q,b,ex,D,hv,hσ⟩=>⟨v,bkS m l q b B [],by
  subst hσ
  have hq:bkS m l q b B ex q=some (.row 90 3 (B.dead.map DE.c++ex)):=by simp[St.set,Ne.symm D.bq]
  have e:bkS m l q b B []=(bkS m l q b B ex).set q (.row 90 3 (B.dead.map DE.c)):=by
   funext j
   by_cases h1:j=q
   ·subst h1;simp[St.set,Ne.symm D.bq]
   ·simp[St.set,h1]
  rw[e]
  exact bD.cut hq,m,l,q,b,D,hv,rfl⟩)
theorem Ah{P:Program}{g:FuncId}{ms:List MV}{σ:St}{B:BK}{u:Nat→MV}{k:MV→St→Prop}(h:aA P g ms St.none fun v σ'=>∃m l q b,jP m l q b∧v=u b∧σ'=bkS m l q b B [])
 (hk:∀m l q b,σ m=none→σ l=none→σ q=none→σ b=none→jP m l q b→R (bR (u b) ((((σ.set m (.mp (cEs B.cards))).set l (shO B.nx m (.vec 3 q 0 B.dead.length))).set q (.row 90 3 (B.dead.map DE.c))).set b (bV B.sq l (.lst 2 (B.gr.map GR.c) false))) k)):R (cX P g ms σ k) :=
 cA h (St.none_le σ) fun v σ' hv hf=>by
  obtain⟨m,l,q,b,D,rfl,rfl⟩:=hv
  have fr:∀j o,bkS m l q b B [] j=some o→σ j=none:=fun j o hj=>by
   rcases hf j o hj with h|⟨o',h⟩
   ·exact h
   ·simp[St.none] at h
  have fm:=fr m (.mp (cEs B.cards)) (by simp[St.set,Ne.symm D.lm,Ne.symm D.qm,Ne.symm D.bm])
  have fl:=fr l (shO B.nx m (.vec 3 q 0 B.dead.length)) (by simp[St.set,Ne.symm D.ql,Ne.symm D.bl])
  have fq:=fr q (.row 90 3 (B.dead.map DE.c++[])) (by simp[St.set,Ne.symm D.bq])
  have fb:=fr b _ (aF _ _ _)
  rw[gS,bU,bU,bU,bU,dS,List.append_nil]
  exact hk m l q b fm fl fq fb D
theorem mE(l:List ND)(hl:l.length≤1000000)(tt:Bool)(h:bI l=0):aA Tryz.prog 12 [.lst 5 (l.map ND.c) tt] St.none (fun v σ'=>∃q,v=.ptr q 0 0∧σ'=St.none.set q (flD l false)):=D3 l hl tt h
theorem kN{m l q b f:Nat}{B:BK}{fl:List ND}{d:Bool}{σ:St}(hm:σ m=some (.mp (cEs B.cards)))(hl:σ l=some (shO B.nx m (.vec 3 q 0 B.dead.length)))(hq:σ q=some (.row 90 3 (B.dead.map DE.c)))(hb:σ b=some (bV B.sq l (.lst 2 (B.gr.map GR.c) false)))(hf:σ f=some (flD fl d)):(bfS m l q b B f fl d).le σ :=
 St.aD (St.aD (St.aD (St.aD (St.aD (St.none_le _) hm) hl) (by rw[List.append_nil];exact hq)) hb) hf
theorem Ms{m l q b:Nat}{B:BK}{σ:St}(hm:σ m=some (.mp (cEs B.cards)))(hl:σ l=some (shO B.nx m (.vec 3 q 0 B.dead.length)))(hq:σ q=some (.row 90 3 (B.dead.map DE.c)))(hb:σ b=some (bV B.sq l (.lst 2 (B.gr.map GR.c) false))):(bkS m l q b B []).le σ :=
 St.aD (St.aD (St.aD (St.aD (St.none_le _) hm) hl) (by rw[List.append_nil];exact hq)) hb
theorem j9{P:Program}{g:FuncId}{ms:List MV}{σ:St}{m l q b f:Nat}{B:BK}{fl:List ND}{d d':Bool}{r:MV}{k:MV→St→Prop}(h:aA P g ms (bfS m l q b B f fl d) fun v σ'=>v=r∧σ'=bfS m l q b B f fl d')(hle:(bfS m l q b B f fl d).le σ)(hk:R (bR r (σ.set f (flD fl d')) k)):R (cX P g ms σ k) :=
 cA h hle fun v σ' hv _=>by
  obtain⟨rfl,rfl⟩:=hv
  have e:(bfS m l q b B f fl d').over (σ.minus (bfS m l q b B f fl d))=σ.set f (flD fl d'):=by
   funext j
   by_cases hj:j=f
   ·subst hj;simp[St.over,St.set]
   ·have e1:bfS m l q b B f fl d' j=bkS m l q b B [] j:=aG _ _ _ _ hj
    have e2:bfS m l q b B f fl d j=bkS m l q b B [] j:=aG _ _ _ _ hj
    simp only[St.over,St.minus,e1,e2]
    rw[aG _ _ _ _ hj]
    cases hb:bkS m l q b B [] j with
    | none=>rfl
    | some o=>exact(hle j o (e2.trans hb)).symm
  rw[e];exact hk
end

section
set_option maxHeartbeats 8000000
abbrev nL(H:List CA)(id:Int):Option CA:=H.find? fun c=>decide (c.id=id)
def tO(W H:List CA):List Int:=(W.filter fun c=>(nL H c.id).isSome&&decide ((nL H c.id).getD ca0≠c)).map CA.id
def zN(W H:List CA)(l:List Int):List Int:=l.filter fun id=>decide (W.getD (cM (W.map CA.id) id) ca0≠H.getD (cM (H.map CA.id) id) ca0)
theorem lP{H:List CA}(hu:UpI (H.map CA.id)){c:CA}(hc:c∈H):H[cM (H.map CA.id) c.id]?=some c:=by
 obtain⟨k,hk⟩:=List.mem_iff_getElem?.1 hc
 have hkl:=(List.getElem?_eq_some_iff.1 hk).1
 have hu:=List.pairwise_map.1 hu
 have key:∀q,q<H.length→∃d,H[q]?=some d∧(H.map CA.id).getD q 0=d.id:=fun q hq=>by
  refine⟨H[q],by simp[hq],?_⟩
  rw[List.getD_eq_getElem?_getD,List.getElem?_map,List.getElem?_eq_getElem hq];rfl
 have hp:∀i j (d e:CA),i<j→H[i]?=some d→H[j]?=some e→d.id<e.id:=fun i j d e hij hd he=>by
  obtain⟨h1,h2⟩:=List.getElem?_eq_some_iff.1 hd
  obtain⟨h3,h4⟩:=List.getElem?_eq_some_iff.1 he
  have:=List.pairwise_iff_getElem.1 hu i j h1 h3 hij
  rw[h2,h4] at this
  exact this
 have:cM (H.map CA.id) c.id=k:=by
  refine sC (by rw[List.length_map];omega) (fun q hq=>?_) (fun q hq hql=>?_)
  ·obtain⟨d,h1,h2⟩:=key q (by omega)
   rw[h2]
   exact hp q k d c hq h1 hk
  ·rw[List.length_map] at hql
   obtain⟨d,h1,h2⟩:=key q hql
   rw[h2]
   rcases Nat.lt_or_ge k q with h|h
   ·have:=hp k q c d h hk h1;omega
   ·have:q=k:=by omega
    subst this
    rw[hk] at h1;cases h1
    omega
 rw[this];exact hk
theorem nX{H:List CA}{id:Int}{c:CA}(h:nL H id=some c):c∈H∧c.id=id:=⟨List.mem_of_find?_eq_some h,by simpa using List.find?_some h⟩
theorem nW{H:List CA}{id:Int}(h:nL H id=none):id∉H.map CA.id:=by
 intro hm
 obtain⟨c,hc,rfl⟩:=List.mem_map.1 hm
 have:=List.find?_eq_none.1 h c hc
 simp at this
theorem MR{W H:List CA}(hw:UpI (W.map CA.id))(hh:UpI (H.map CA.id)):zN W H ((W.map CA.id).filter fun x=>decide (x∈H.map CA.id))=tO W H:=by
 unfold zN tO
 rw[List.filter_filter,List.filter_map]
 congr 1
 refine List.filter_congr fun c hc=>?_
 simp only[Function.comp]
 have hW:W.getD (cM (W.map CA.id) c.id) ca0=c:=by rw[List.getD_eq_getElem?_getD,lP hw hc];rfl
 rw[hW]
 cases hf:nL H c.id with
 | none =>
  have:=nW hf
  simp[this]
 | some d =>
  obtain⟨h1,h2⟩:=nX hf
  have hH:H.getD (cM (H.map CA.id) c.id) ca0=d:=by rw[←h2,List.getD_eq_getElem?_getD,lP hh h1];rfl
  have hm:c.id∈H.map CA.id:=by rw[←h2];exact List.mem_map_of_mem h1
  rw[hH]
  simp only[hm,decide_true,Option.isSome_some,Option.getD_some,Bool.true_and,Bool.and_true]
  exact decide_eq_decide.2 ⟨fun h e=>h e.symm,fun h e=>h e.symm⟩
end

section
set_option maxRecDepth 100000
set_option maxHeartbeats 8000000
theorem tX(l:List CA)(hl:l.length≤1000000)(t:Bool):aA Tryz.prog 57 [.lst 27 (l.map CA.c) t] St.none (fun r _=>r=.lst 1 ((l.map CA.id).map aJ) false):=by
 refine aA.seen (aA.body 19 [.tmp 2] Tryz.func57 rfl rfl rfl rfl ?_)
 obtain⟨K,hK⟩:∃K,l.map CA.id=K:=⟨_,rfl⟩
 have hKl:K.length=l.length:=by rw[←hK,List.length_map]
 rw[hK]
 repeat' (first|(with_reducible first|(refine wT ?_;(first|((fail_if_success (have:=nl1));refine wN fun nl1 hnl=>?_)|((fail_if_success (have:=nl2));refine wN fun nl2 hnl=>?_)|((fail_if_success (have:=nl3));refine wN fun nl3 hnl=>?_)|refine wN fun _ hnl=>?_);revert hnl;(repeat refine wS fun _ _=>?_);intro hnl)|refine wE ?_|(refine wK ?_ ?_<;>intro h)|(refine wB ?_ ?_<;>intro h<;>simp only[h]))|simp(maxSteps:=4000000) (disch:=first|exact ddL|fail) only[go_sem,simprocAttr,Tryz.f57])
 refine aH (α:=Nat × Nat × List (List MV)) (fun z=>⟨19,[(8,.int .i64 (z.1:Int)),(7,.int .i64 (l.length:Int)),(6,.lst 27 (l.map CA.c) t),(3,.vec 1 z.2.1 0 z.1)],[]⟩)
  (fun z=>St.none.set z.2.1 (.row 3 1 ((K.take z.1).map aJ++z.2.2))) (fun z=>z.1≤l.length) (fun z=>l.length - z.1) ?_ ?_
 ·refine Gh.qJ 3 1 (fun r=>[(8,.int .i64 0),(7,.int .i64 (l.length:Int)),(6,.lst 27 (l.map CA.c) t),(3,.vec 1 r 0 0)]) (fun k=>by(repeat' (refine And.intro ?_ ?_))<;>first|exact trivial|exact .inl rfl|exact .inr ⟨rfl,.inl rfl⟩|exact .inr ⟨rfl,.inr rfl⟩) fun r hr=>?_
  exact .done ⟨(0,r,[]),rfl,rfl,Nat.zero_le _⟩
 ·rintro⟨i,r,xx⟩ hi
  simp only at hi ⊢
  by_cases hlt:i<l.length
  ·obtain⟨x,hx⟩:=bO l hlt
   have hat:=bF (f:=CA.c) hx
   have hKx:K[i]?=some x.id:=by rw[←hK];exact fK hx
   have htk:=a8 hKx
   have hLl:(K.take i).length=i:=by rw[List.length_take];omega
   obtain⟨L,hL⟩:∃L,K.take i=L:=⟨_,rfl⟩
   rw[hL] at htk hLl ⊢
   have hLm:(L.map aJ).length=i:=by rw[List.length_map,hLl]
   have hdr:(L.map aJ++xx).drop (i+1)=xx.drop 1:=by rw[←hLl];exact jF
   have htk':(L.map aJ++xx).take i=L.map aJ:=by rw[←hLl];exact iP
   repeat' (first|(with_reducible first|(refine wT ?_;(first|((fail_if_success (have:=nl1));refine wN fun nl1 hnl=>?_)|((fail_if_success (have:=nl2));refine wN fun nl2 hnl=>?_)|((fail_if_success (have:=nl3));refine wN fun nl3 hnl=>?_)|refine wN fun _ hnl=>?_);revert hnl;(repeat refine wS fun _ _=>?_);intro hnl)|refine wE ?_|(refine wK ?_ ?_<;>intro h)|(refine wB ?_ ?_<;>intro h<;>simp only[h]))|simp(maxSteps:=4000000) (disch:=first|exact ddL|fail) only[go_sem,simprocAttr,FYs,hat,hLm,hLl,htk',hdr])
   all_goals (try (exfalso;omega))
   ·have hex:xx=[]:=List.eq_nil_of_length_eq_zero (by omega)
    subst hex
    clear h
    refine .of (.less ?_ ?_) ⟨(i+1,nl3,[]),rfl,rfl,by simp only;omega,by simp only;omega⟩
    ·simp(maxSteps:=4000000) (disch:=first|exact ddL|fail) only[go_sem,simprocAttr,aC,aB]
     all_goals first|rfl|(simp;done)
    ·rw[htk]
     exact St.aD (St.none_le _) (by simp[St.set, *])
   ·clear h
    refine .of (.less ?_ ?_) ⟨(i+1,nl3,xx.drop 1),rfl,rfl,by simp only;omega,by simp only;omega⟩
    ·simp(maxSteps:=4000000) (disch:=first|exact ddL|fail) only[go_sem,simprocAttr,aC,aB]
     all_goals first|rfl|(simp;done)
    ·rw[htk]
     exact St.aD (St.none_le _) (by simp[St.set, *])
  ·have:i=l.length:=by omega
   subst this
   have htl:K.take l.length=K:=by rw[←hKl];exact List.take_length
   rw[htl]
   repeat' (first|(with_reducible first|(refine wT ?_;(first|((fail_if_success (have:=nl1));refine wN fun nl1 hnl=>?_)|((fail_if_success (have:=nl2));refine wN fun nl2 hnl=>?_)|((fail_if_success (have:=nl3));refine wN fun nl3 hnl=>?_)|refine wN fun _ hnl=>?_);revert hnl;(repeat refine wS fun _ _=>?_);intro hnl)|refine wE ?_|(refine wK ?_ ?_<;>intro h)|(refine wB ?_ ?_<;>intro h<;>simp only[h]))|simp(maxSteps:=4000000) (disch:=first|exact ddL|fail) only[go_sem,simprocAttr])
   all_goals exact cB (aF _ _ _) (by rw[List.length_map,hKl])
def L7:List MV→Int
 | [.int _ n]=>n
 | _=>0
def plK:b9:=fun g ms=>if g=59 then match ms with
 | [.lst _ xs _,.int _ x]=>some ⟨[],fun v=>v=.int .i64 (cM (xs.map L7) x:Int),none⟩
 | _=>none else none
theorem JJ(a:List Int)(t:Bool)(x:Int):plK 59 [.lst 1 (a.map aJ) t,.int .i64 x]=some ⟨[],fun v=>v=.int .i64 (cM a x:Int),none⟩:=by
 have:(a.map aJ).map L7=a:=by
  rw[List.map_map]
  exact(List.map_congr_left fun y _=>rfl).trans (List.map_id _)
 unfold plK
 rw[if_pos rfl]
 simp only[this]
theorem HP{σ:St}{a b c c':MV}(h:View σ c c'):View σ (.tup [a,b,c]) (.tup [a,b,c']):=.tup rfl fun i m m' hm hm'=>by
 match i with
 | 0=>simp at hm hm';subst hm;subst hm';exact .same _
 | 1=>simp at hm hm';subst hm;subst hm';exact .same _
 | 2=>simp at hm hm';subst hm;subst hm';exact h
 | i+3=>simp at hm
theorem H3{H:List CA}(hu:UpI (H.map CA.id)){x:Int}(hx:x∈H.map CA.id):∃c,H[cM (H.map CA.id) x]?=some c:=by
 obtain⟨c,hc,rfl⟩:=List.mem_map.1 hx
 exact⟨c,lP hu hc⟩
theorem filter_one{p:Int→Bool}{x:Int}{P:Prop}[Decidable P](h:p x=decide P):[x].filter p=if P then[x] else[]:=by
 by_cases hP:P<;>simp[List.filter_cons,h,hP]
theorem rC{B:BK}(hb:BkR B)(h3:B.gr.length≤1000000)(h4:∀g,g∈B.gr→g.mem.length≤1000000){m l q b f:Nat}(D:jP m l q b)(hf:f≠m∧f≠l∧f≠q∧f≠b){fl:List ND}(hp:bI fl=0)(d:Bool)(mk:UInt32)(cur:Int)(W H:List CA)(hW:eX B fl mk cur=W)(hWl:W.length≤1000000)(hHl:H.length≤1000000)(hWu:UpI (W.map CA.id))(hHu:UpI (H.map CA.id))(t:Bool) :
  aA Tryz.prog 22 [.ptr b 0 0,.ptr f 0 0,.int .u32 (mk.toNat:Int),.int .i64 cur,.lst 27 (H.map CA.c) t] (bfS m l q b B f fl d) (fun r σ'=>r=.tup [.lst 1 ((bG (W.map CA.id) (H.map CA.id)).map aJ) false,.lst 1 ((bG (H.map CA.id) (W.map CA.id)).map aJ) false,.lst 1 ((tO W H).map aJ) false]∧σ'=bfS m l q b B f fl (d || decide (0<B.cards.length))):=by
 rw[←MR hWu hHu]
 obtain⟨d',hd'⟩:∃d',(d || decide (0<B.cards.length))=d':=⟨_,rfl⟩
 have hid:=pC hb h3 h4 D hf hp d mk cur
 rw[hW,hd'] at hid
 rw[hd']
 refine aA.JY (Q:=fun σ'=>σ'=bfS m l q b B f fl d') ?_
 have hle0:∀d,(bfS m l q b B f fl d).le ((((((St.none.set m (.mp (cEs B.cards))).set l (shO B.nx m (.vec 3 q 0 B.dead.length))).set q (.row 90 3 (B.dead.map DE.c))).set b (bV B.sq l (.lst 2 (B.gr.map GR.c) false))).set f (flD fl d))):=fun d=>by
  simp only[bfS,bkS,shS,List.append_nil]
  exact St.le_refl _
 rw[show bfS m l q b B f fl d=(((((St.none.set m (.mp (cEs B.cards))).set l (shO B.nx m (.vec 3 q 0 B.dead.length))).set q (.row 90 3 (B.dead.map DE.c))).set b (bV B.sq l (.lst 2 (B.gr.map GR.c) false))).set f (flD fl d)) by simp only[bfS,bkS,shS,List.append_nil]]
 refine(aA.body 60 [.tmp 10,.tmp 11,.tmp 12] Tryz.func22 rfl rfl rfl rfl ?_)
 obtain⟨f1,f2,f3,f4⟩:=hf
 obtain⟨d1,d2,d3,d4,d5,d6⟩:=D
 have e1:=Ne.symm d1
 have e2:=Ne.symm d2
 have e3:=Ne.symm d3
 have e4:=Ne.symm d4
 have e5:=Ne.symm d5
 have e6:=Ne.symm d6
 have f1':=Ne.symm f1
 have f2':=Ne.symm f2
 have f3':=Ne.symm f3
 have f4':=Ne.symm f4
 have hn1:=tX W hWl false
 have hn2:=tX H hHl t
 have hat1:∀{x:Int},x∈W.map CA.id→∃c,W[cM (W.map CA.id) x]?=some c:=fun h=>H3 hWu h
 have hat2:∀{x:Int},x∈H.map CA.id→∃c,H[cM (H.map CA.id) x]?=some c:=fun h=>H3 hHu h
 have hal:(W.map CA.id).length=W.length:=List.length_map _
 have hcl:(H.map CA.id).length=H.length:=List.length_map _
 have hso:∀(L:List Int) (x:Int),zN W H (L++[x])=zN W H L++if W.getD (cM (W.map CA.id) x) ca0≠H.getD (cM (H.map CA.id) x) ca0 then[x] else[]:=fun L x=>by
  unfold zN
  rw[List.filter_append]
  exact congrArg _ (filter_one rfl)
 obtain⟨a,ha⟩:∃a,W.map CA.id=a:=⟨_,rfl⟩
 obtain⟨c,hc⟩:∃c,H.map CA.id=c:=⟨_,rfl⟩
 rw[ha] at hn1 hal hWu ⊢
 rw[hc] at hn2 hcl hHu ⊢
 simp only[ha] at hat1 hso
 simp only[hc] at hat2 hso
 have hbo:=D1 a c (by omega) (by omega) hWu hHu false false
 have hm1:=mF a c (by omega) (by omega) hWu hHu false false
 have hm2:=mF c a (by omega) (by omega) hHu hWu false false
 obtain⟨N,hN⟩:∃N,a.filter (fun x=>decide (x∈c))=N:=⟨_,rfl⟩
 have hNm:∀x,x∈N→x∈a∧x∈c:=fun x hx=>by rw[←hN] at hx;simpa using List.mem_filter.1 hx
 have hNl:N.length≤1000000:=by rw[←hN];exact Nat.le_trans (List.length_filter_le _ _) (by omega)
 rw[hN] at hbo ⊢
 repeat' (first|(refine j9 hid (hle0 d) ?_)|(with_reducible refine aK hn1 ?_)|(with_reducible refine aK hn2 ?_)|(with_reducible refine aK hbo ?_)|(with_reducible first|(refine wT ?_;(first|((fail_if_success (have:=nl1));refine wN fun nl1 hnl=>?_)|((fail_if_success (have:=nl2));refine wN fun nl2 hnl=>?_)|refine wN fun _ hnl=>?_);revert hnl;(repeat refine wS fun _ _=>?_);intro hnl)|refine wE ?_|(refine wK ?_ ?_<;>intro h)|(refine wB ?_ ?_<;>intro h<;>simp only[h]))|simp(maxSteps:=4000000) (disch:=first|exact ddL|fail) only[go_sem,simprocAttr,Tryz.f22])
 refine aH (α:=Nat × Nat × List (List MV)) (fun z=>⟨60,[(31,.int .i64 (z.1:Int)),(30,.int .i64 (N.length:Int)),(29,.lst 1 (N.map aJ) false),(12,.vec 1 z.2.1 0 (zN W H (N.take z.1)).length),(13,.lst 27 (W.map CA.c) false),(14,.lst 1 (a.map aJ) false),(15,.lst 1 (c.map aJ) false),(4,.lst 27 (H.map CA.c) t)],[]⟩)
  (fun z=>((((((St.none.set m (.mp (cEs B.cards))).set l (shO B.nx m (.vec 3 q 0 B.dead.length))).set q (.row 90 3 (B.dead.map DE.c))).set b (bV B.sq l (.lst 2 (B.gr.map GR.c) false))).set f (flD fl d'))).set z.2.1 (.row 3 1 ((zN W H (N.take z.1)).map aJ++z.2.2))) (fun z=>z.1≤N.length∧z.2.1≠m∧z.2.1≠l∧z.2.1≠q∧z.2.1≠b∧z.2.1≠f) (fun z=>N.length - z.1) ?_ ?_
 ·refine Gh.qJ 3 1 (fun r=>[(31,.int .i64 0),(30,.int .i64 (N.length:Int)),(29,.lst 1 (N.map aJ) false),(12,.vec 1 r 0 0),(13,.lst 27 (W.map CA.c) false),(14,.lst 1 (a.map aJ) false),(15,.lst 1 (c.map aJ) false),(4,.lst 27 (H.map CA.c) t)]) (fun k=>by(repeat' (refine And.intro ?_ ?_))<;>first|exact trivial|exact .inl rfl|exact .inr ⟨rfl,.inl rfl⟩|exact .inr ⟨rfl,.inr rfl⟩) fun r hr=>?_
  simp only[aX] at hr
  obtain⟨r5,r4,r3,r2,r1,-⟩:=hr
  exact .done ⟨(0,r,[]),rfl,rfl,Nat.zero_le _,r1,r2,r3,r4,r5⟩
 ·rintro⟨i,r,xx⟩ ⟨hi,r1,r2,r3,r4,r5⟩
  simp only at hi r1 r2 r3 r4 r5 ⊢
  have r1':=Ne.symm r1
  have r2':=Ne.symm r2
  have r3':=Ne.symm r3
  have r4':=Ne.symm r4
  have r5':=Ne.symm r5
  by_cases hlt:i<N.length
  ·obtain⟨x,hx⟩:=bO N hlt
   have hat:=bF (f:=aJ) hx
   have htk:=a8 hx
   obtain⟨hxa,hxc⟩:=hNm x (dP hx)
   obtain⟨w,hw⟩:=hat1 hxa
   obtain⟨y,hh⟩:=hat2 hxc
   have hsn:=hso (N.take i) x
   rw[←htk] at hsn
   have hp1:=nQ a (by omega) hWu x false
   have hp2:=nQ c (by omega) hHu x false
   have k1:=JJ a false x
   have k2:=JJ c false x
   obtain⟨ka,hka⟩:∃k,cM a x=k:=⟨_,rfl⟩
   obtain⟨kc,hkc⟩:∃k,cM c x=k:=⟨_,rfl⟩
   rw[hka] at hw hsn hp1 k1
   rw[hkc] at hh hsn hp2 k2
   have hwl:=(List.getElem?_eq_some_iff.1 hw).1
   have hhl:=(List.getElem?_eq_some_iff.1 hh).1
   have hwg:=bF (f:=CA.c) hw
   have hhg:=bF (f:=CA.c) hh
   have hwd:W.getD ka ca0=w:=by rw[List.getD_eq_getElem?_getD,hw];rfl
   have hhd:H.getD kc ca0=y:=by rw[List.getD_eq_getElem?_getD,hh];rfl
   rw[hwd,hhd] at hsn
   have hmw:(W.map CA.c).length=W.length:=List.length_map _
   have hmh:(H.map CA.c).length=H.length:=List.length_map _
   have hne:=Ba w y
   obtain⟨O,hO⟩:∃O,zN W H (N.take i)=O:=⟨_,rfl⟩
   rw[hO] at hsn ⊢
   have hO6:O.length≤1000000:=by
    rw[←hO]
    exact Nat.le_trans (List.length_filter_le _ _) (by rw[List.length_take];omega)
   clear hat1 hat2 hso hNm hid hle0 hn1 hn2 hbo hm1 hm2
   by_cases he:w=y
   ·rw[if_neg (fun q=>q he),List.append_nil] at hsn
    rw[decide_eq_true he] at hne
    repeat' (first|((with_reducible refine aZ mixed ?chk plK ?_);(case chk=>decide +kernel))|(with_reducible refine aW k1 hp1 ?_)|(with_reducible refine aW k2 hp2 ?_)|(with_reducible first|(refine wT ?_;(first|((fail_if_success (have:=nl1));refine wN fun nl1 hnl=>?_)|((fail_if_success (have:=nl2));refine wN fun nl2 hnl=>?_)|refine wN fun _ hnl=>?_);revert hnl;(repeat refine wS fun _ _=>?_);intro hnl)|refine wE ?_|(refine wK ?_ ?_<;>intro h)|(refine wB ?_ ?_<;>intro h<;>simp only[h]))|simp(maxSteps:=4000000) (disch:=first|exact ddL|fail) only[go_sem,simprocAttr,FXs,hat,hwg,hhg,hmw,hmh,hne])
    all_goals (try (exfalso;omega))
    all_goals
     refine .of (.less ?_ ?_) ⟨(i+1,r,xx),rfl,rfl,⟨by simp only;omega,r1,r2,r3,r4,r5⟩,by simp only;omega⟩
     ·simp only[hsn]
      simp(maxSteps:=4000000) (disch:=first|exact ddL|fail) only[go_sem,simprocAttr,aC,aB]
      all_goals first|rfl|(simp;done)
     ·simp only[hsn]
      exact St.le_refl _
   ·rw[if_pos he] at hsn
    rw[decide_eq_false he] at hne
    have hLm:(O.map aJ).length=O.length:=List.length_map _
    obtain⟨j,hj⟩:∃j,O.length=j:=⟨_,rfl⟩
    have hal2:(O++[x]).length=j+1:=by simp[hj]
    have hmp:(O++[x]).map aJ=O.map aJ++[aJ x]:=by simp
    obtain⟨Q,hQ⟩:∃Q,O.map aJ=Q:=⟨_,rfl⟩
    rw[hj] at hLm hO6 ⊢
    rw[hQ] at hLm hmp ⊢
    have hdr:(Q++xx).drop (j+1)=xx.drop 1:=by rw[←hLm,←List.drop_drop,List.drop_left]
    have htk':(Q++xx).take j=Q:=List.take_left' hLm
    repeat' (first|((with_reducible refine aZ mixed ?chk plK ?_);(case chk=>decide +kernel))|(with_reducible refine aW k1 hp1 ?_)|(with_reducible refine aW k2 hp2 ?_)|(with_reducible first|(refine wT ?_;(first|((fail_if_success (have:=nl1));refine wN fun nl1 hnl=>?_)|((fail_if_success (have:=nl2));refine wN fun nl2 hnl=>?_)|refine wN fun _ hnl=>?_);revert hnl;(repeat refine wS fun _ _=>?_);intro hnl)|refine wE ?_|(refine wK ?_ ?_<;>intro h)|(refine wB ?_ ?_<;>intro h<;>simp only[h]))|simp(maxSteps:=4000000) (disch:=first|exact ddL|fail) only[go_sem,simprocAttr,FXs,hat,hwg,hhg,hmw,hmh,hne,hLm,hdr,htk'])
    all_goals (try (exfalso;omega))
    all_goals
     clear htk' hdr hne k1 k2 hp1 hp2
     have z1:nl2≠m:=by assumption
     have z2:nl2≠l:=by assumption
     have z3:nl2≠q:=by assumption
     have z4:nl2≠b:=by assumption
     have z5:nl2≠f:=by assumption
    ·have hex:xx=[]:=List.eq_nil_of_length_eq_zero (by omega)
     subst hex
     clear h
     refine .of (.less ?_ ?_) ⟨(i+1,nl2,[]),rfl,rfl,⟨by simp only;omega,z1,z2,z3,z4,z5⟩,by simp only;omega⟩
     ·simp only[hsn,hal2]
      simp(maxSteps:=4000000) (disch:=first|exact ddL|fail) only[go_sem,simprocAttr,aC,aB]
      all_goals first|rfl|(simp;done)
     ·simp only[hsn,hmp]
      exact St.aD (St.aD (St.aD (St.aD (St.aD (St.aD (St.none_le _) (by simp[St.set, *])) (by simp[St.set, *])) (by simp[St.set, *])) (by simp[St.set, *])) (by simp[St.set, *])) (by simp[St.set, *])
    ·clear h
     refine .of (.less ?_ ?_) ⟨(i+1,nl2,xx.drop 1),rfl,rfl,⟨by simp only;omega,z1,z2,z3,z4,z5⟩,by simp only;omega⟩
     ·simp only[hsn,hal2]
      simp(maxSteps:=4000000) (disch:=first|exact ddL|fail) only[go_sem,simprocAttr,aC,aB]
      all_goals first|rfl|(simp;done)
     ·simp only[hsn,hmp]
      exact St.aD (St.aD (St.aD (St.aD (St.aD (St.aD (St.none_le _) (by simp[St.set, *])) (by simp[St.set, *])) (by simp[St.set, *])) (by simp[St.set, *])) (by simp[St.set, *])) (by simp[St.set, *])
  ·have:i=N.length:=by omega
   subst this
   rw[List.take_length]
   repeat' (first|(with_reducible refine aK hm1 ?_)|(with_reducible refine aK hm2 ?_)|(with_reducible first|(refine wT ?_;(first|((fail_if_success (have:=nl1));refine wN fun nl1 hnl=>?_)|((fail_if_success (have:=nl2));refine wN fun nl2 hnl=>?_)|refine wN fun _ hnl=>?_);revert hnl;(repeat refine wS fun _ _=>?_);intro hnl)|refine wE ?_|(refine wK ?_ ?_<;>intro h)|(refine wB ?_ ?_<;>intro h<;>simp only[h]))|simp(maxSteps:=4000000) (disch:=first|exact ddL|fail) only[go_sem,simprocAttr])
   refine⟨_,St.none.set r (.row 3 1 ((zN W H N).map aJ++xx)),rfl,St.aD (St.none_le _) (aF _ _ _),St.l4 (hle0 d') (by simp[St.set,St.none, *]),fun k o hk=>?_,HP (cB (aF _ _ _) (List.length_map _).symm)⟩
   refine(aG _ _ _ _ fun e=>?_).trans rfl
   subst e
   simp[St.set,St.none, *] at hk
end

section
set_option maxRecDepth 100000
set_option maxHeartbeats 8000000
def inD(W H:List CA):List Int:=(W.filter fun c=>!(nL H c.id).isSome).map CA.id
end
end Go.Proofs.YtaojijkdamfbnaaGreatDoor
