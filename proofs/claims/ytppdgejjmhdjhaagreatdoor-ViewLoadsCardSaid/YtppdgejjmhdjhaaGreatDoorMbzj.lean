/- Parts of the proof, joined; conditions: those that its theorems name. -/
import Derived.Test.YtppdgejjmhdjhaaGreatDoorMbzi
set_option linter.unusedVariables false
set_option linter.unusedSimpArgs false
set_option maxHeartbeats 4000000
namespace Go.Proofs.YtppdgejjmhdjhaaGreatDoor
section
set_option maxRecDepth 100000
set_option maxHeartbeats 8000000
def wrC(cs:List CA)(id:Int)(x:CA):List CA:=cs.map fun c=>if c.id=id then x else c
theorem B1{x:CA}:∀{cs:List CA},UpI (cs.map CA.id)→x.id∈cs.map CA.id→cM .i64 x.id (.agg x.c) (cEs cs)=cEs (wrC cs x.id x)
 | [],_,h=>by cases h
 | d::cs,hu,h=>by
  obtain⟨h1,h2⟩:=List.pairwise_cons.1 hu
  simp only[cEs,List.map_cons,wrC,cM]
  by_cases e:d.id=x.id
  ·rw[if_pos e,if_pos e,e]
   congr 1
   rw[List.map_map]
   refine List.map_congr_left fun c hc=>?_
   have:d.id<c.id:=h1 _ (List.mem_map.2 ⟨c,hc,rfl⟩)
   simp only[Function.comp]
   rw[if_neg (by omega)]
  ·rw[if_neg e,if_neg e]
   have hm:x.id∈cs.map CA.id:=by
    rcases List.mem_cons.1 h with h|h
    ·exact absurd h.symm e
    ·exact h
   have ih:=B1 (cs:=cs) h2 hm
   simp only[cEs,wrC] at ih
   rw[ih]
theorem x9(nx:Int){m l q:Nat}(hlm:l≠m)(hqm:q≠m)(hql:q≠l)(cs:List CA)(hu:UpI (cs.map CA.id))(ds:List DE)(hd:ds.length≤1000000)(ex:List (List MV))(id:Int)(p:PA)(hp:cH p=0){c:CA}(hc:fT cs ds id=(c,0))(hv0:0≤c.ver)(hv:c.ver<1099511627776) :
  aA Tryz.prog 144 [.ptr l 0 0,.int .i64 id,.agg p.c] (shS nx m l q cs ds ex) (fun v σ'=>v=.tup [.agg (eY c p).c,.int .i64 0]∧σ'=shS nx m l q (wrC cs id (eY c p)) ds ex):=by
 have hid:c.id=id∧c∈cs:=by
  unfold fT at hc
  cases e:cs.find? (fun c=>decide (c.id=id)) with
  | none =>
   rw[e] at hc
   simp only[Prod.mk.injEq] at hc
   have:=hc.2
   split at this<;>cases this
  | some x =>
   rw[e] at hc
   cases hc
   exact⟨by simpa using List.find?_some e,List.mem_of_find?_eq_some e⟩
 obtain⟨hid,hmem⟩:=hid
 refine aA.less (Q':=fun v σ'=>v=.tup [.agg (eY c p).c,.int .i64 0]∧(shS nx m l q (wrC cs id (eY c p)) ds ex).le σ') (aA.body 46 [.cell 6 126,.tmp 7] Tryz.func144 rfl rfl rfl rfl ?_) fun v σ' h=>⟨_,h.2,h.1,rfl⟩
 have hcp:=lN p
 rw[hp] at hcp
 have hg:=pE nx hlm hqm hql cs ds hd ex id
 rw[hc] at hg
 have hme:=r0 c p hv0
 have hx:(eY c p).id=id:=hid
 have hput:cM .i64 id (.agg (eY c p).c) (cEs cs)=cEs (wrC cs id (eY c p)):=by
  have:=B1 (x:=eY c p) hu (by rw[hx,←hid];exact List.mem_map.2 ⟨c,hmem,rfl⟩)
  rw[hx] at this
  exact this
 have hik:=nL cs
 generalize hR:wrC cs id (eY c p)=cs' at hput ⊢
 obtain⟨x,hxx⟩:∃x,eY c p=x:=⟨_,rfl⟩
 rw[hxx] at hme hput ⊢
 have hml:=Ne.symm hlm
 have hmq:=Ne.symm hqm
 have hlq:=Ne.symm hql
 simp only[shS] at hg ⊢
 repeat' (first|(refine aQ hcp ?_)|(refine dB hg (St.aD (St.aD (St.aD (St.none_le _) (by simp[St.set, *])) (by simp[St.set, *])) (by simp[St.set, *])) ?_)|(refine aQ hme ?_)|(with_reducible first|(refine wN fun _ hnl=>?_;revert hnl;(repeat refine wS fun _ _=>?_);intro hnl)|refine wE ?_|(refine wK ?_ ?_<;>intro h)|(refine wB ?_ ?_<;>intro h<;>simp only[h]))|simp(maxSteps:=4000000) (disch:=first|exact ddL|fail) only[go_sem,simprocAttr,Tryz.f144,FXs,hput,hik])
 refine St.aD (St.aD (St.aD (St.none_le _) ?_) ?_) ?_
 all_goals simp[St.set, *]
end

section
set_option maxRecDepth 100000
set_option maxHeartbeats 8000000
theorem AV{nx sq:Int}{m l q b:Nat}(D:kE m l q b)(cs:List CA)(hu:UpI (cs.map CA.id))(ds:List DE)(hd:ds.length≤1000000)(ex:List (List MV))(g:MV)(id:Int)(p:PA)(hp:cH p=0){c:CA}(hc:fT cs ds id=(c,0))(hv0:0≤c.ver)(hv:c.ver<1099511627776)(h0:0≤sq)(h1:sq≤1099511627776) :
  aA Tryz.prog 70 [.ptr b 0 0,.agg (ED.mk 2 id 0 p).c] ((shS nx m l q cs ds ex).set b (bL sq l g)) (fun v σ'=>v=.tup [.lst 2 (jX sq [id]) false,.int .i64 0]∧σ'=(shS nx m l q (wrC cs id (eY c p)) ds ex).set b (bL (sq+1) l g)):=by
 refine aA.less (Q':=fun v σ'=>v=.tup [.lst 2 (jX sq [id]) false,.int .i64 0]∧((shS nx m l q (wrC cs id (eY c p)) ds ex).set b (bL (sq+1) l g)).le σ') (aA.body 28 [.tmp 4,.tmp 5] Tryz.func70 rfl rfl rfl rfl ?_) fun v σ' h=>⟨_,h.2,h.1,rfl⟩
 have hw:=x9 nx D.lm D.qm D.ql cs hu ds hd ex id p hp hc hv0 hv
 generalize wrC cs id (eY c p)=cs' at hw ⊢
 obtain⟨x,hx⟩:∃x,eY c p=x:=⟨_,rfl⟩
 rw[hx] at hw
 have hst:=fun {k:Nat} (hk:b≠k)=>sA (sq:=sq) l g hk [id] h0 h1 (by simp)
 simp only[List.map_cons,List.map_nil,List.length_cons,List.length_nil] at hst
 obtain⟨d1,d2,d3,d4,d5,d6⟩:=D
 have e1:=Ne.symm d1
 have e2:=Ne.symm d2
 have e3:=Ne.symm d3
 have e4:=Ne.symm d4
 have e5:=Ne.symm d5
 have e6:=Ne.symm d6
 obtain⟨K,hK,c1⟩:∃K:bR,PlU (.these [144]) K∧∀ms,K 144 ms=some ⟨[m,l,q],fun _=>True,some ([.mp (cEs cs')],fun _=>.tup [.agg x.c,.int .i64 0])⟩ :=
  ⟨fnF [(144,⟨[m,l,q],fun _=>True,some ([.mp (cEs cs')],fun _=>.tup [.agg x.c,.int .i64 0])⟩)],AY,fun _=>bO⟩
 have hw':aA Tryz.prog 144 [.ptr l 0 0,.int .i64 id,.agg p.c] (St.ofList [m,l,q] [.mp (cEs cs),shO nx m (.vec 3 q 0 ds.length),.row 197 3 (ds.map DE.c++ex)]) (fun v σ'=>v=.tup [.agg x.c,.int .i64 0]∧σ'=(St.ofList [m,l,q] [.mp (cEs cs),shO nx m (.vec 3 q 0 ds.length),.row 197 3 (ds.map DE.c++ex)]).set m (.mp (cEs cs'))):=by
  have e:St.ofList [m,l,q] [.mp (cEs cs),shO nx m (.vec 3 q 0 ds.length),.row 197 3 (ds.map DE.c++ex)]=shS nx m l q cs ds ex:=by
   funext j
   by_cases h1:j=q
   ·subst h1;simp[St.ofList,St.set, *]
   ·by_cases h2:j=l
    ·subst h2;simp[St.ofList,St.set, *]
    ·by_cases h3:j=m
     ·subst h3;simp[St.ofList,St.set, *]
     ·simp[St.ofList,St.set, *]
  rw[e]
  refine hw.mono ?_
  rintro v σ' ⟨h1,rfl⟩
  refine⟨h1,funext fun j=>?_⟩
  by_cases h1:j=q
  ·subst h1;simp[St.set, *]
  ·by_cases h2:j=l
   ·subst h2;simp[St.set, *]
   ·by_cases h3:j=m
    ·subst h3;simp[St.set, *]
    ·simp[St.set, *]
 clear hw
 simp only[shS]
 repeat' (first|(refine dO mixed [144] (by decide +kernel) K hK ?_)|(refine gW (os:=[.mp (cEs cs),shO nx m (.vec 3 q 0 ds.length),.row 197 3 (ds.map DE.c++ex)]) (c1 _) (by simp[St.set, *]) hw' ?_)|(with_reducible first|(refine wT ?_;(first|((fail_if_success (have:=nl1));refine wN fun nl1 hnl=>?_)|((fail_if_success (have:=nl2));refine wN fun nl2 hnl=>?_)|((fail_if_success (have:=nl3));refine wN fun nl3 hnl=>?_)|refine wN fun _ hnl=>?_);revert hnl;(repeat refine wS fun _ _=>?_);intro hnl)|refine wE ?_|(refine wK ?_ ?_<;>intro h)|(refine wB ?_ ?_<;>intro h<;>simp only[h]))|simp(maxSteps:=4000000) (disch:=first|exact ddL|fail) only[go_sem,simprocAttr,Tryz.f70,FXs])
 have n1:b≠nl3:=by assumption
 refine DH n1 (aJ _ _ _) (by simp[St.set, *]) (hst n1) ?_
 repeat' (first|(with_reducible first|(refine wT ?_;(first|((fail_if_success (have:=nl1));refine wN fun nl1 hnl=>?_)|((fail_if_success (have:=nl2));refine wN fun nl2 hnl=>?_)|((fail_if_success (have:=nl3));refine wN fun nl3 hnl=>?_)|refine wN fun _ hnl=>?_);revert hnl;(repeat refine wS fun _ _=>?_);intro hnl)|refine wE ?_|(refine wK ?_ ?_<;>intro h)|(refine wB ?_ ?_<;>intro h<;>simp only[h]))|simp(maxSteps:=4000000) (disch:=first|exact ddL|fail) only[go_sem,simprocAttr])
 refine St.aD (St.aD (St.aD (St.aD (St.none_le _) ?_) ?_) ?_) ?_
 all_goals simp[St.set, *]
theorem IX{nx sq:Int}{m l q b:Nat}(D:kE m l q b)(cs:List CA)(hu:UpI (cs.map CA.id))(ds:List DE)(hd:ds.length≤1000000)(ex:List (List MV))(g:MV)(id:Int)(p:PA)(hp:cH p=0){c:CA}(hc:fT cs ds id=(c,0))(hv0:0≤c.ver)(hv:c.ver<1099511627776)(h0:0≤sq)(h1:sq≤1000000000000)(h2:1≤id)(h5:id<1073741824) :
  aA Tryz.prog 17 [.ptr b 0 0,.agg (ED.mk 2 id 0 p).c] ((shS nx m l q cs ds ex).set b (bL sq l g)) (fun v σ'=>v=.tup [.lst 2 (jX sq [id]) false,.int .i64 0]∧σ'=(shS nx m l q (wrC cs id (eY c p)) ds ex).set b (bL (sq+1) l g)):=by
 refine aA.less (Q':=fun v σ'=>v=.tup [.lst 2 (jX sq [id]) false,.int .i64 0]∧((shS nx m l q (wrC cs id (eY c p)) ds ex).set b (bL (sq+1) l g)).le σ') ?_ fun v σ' h=>⟨_,h.2,h.1,rfl⟩
 have hcr:=AV (nx:=nx) D cs hu ds hd ex g id p hp hc hv0 hv h0 (by omega)
 generalize wrC cs id (eY c p)=cs' at hcr ⊢
 simp only[shS] at hcr ⊢
 refine(aA.body 31 [.tmp 4,.tmp 5] Tryz.func17 rfl rfl rfl rfl ?_)
 have hck:=p7 (ED.mk 2 id 0 p)
 have he:iZ (ED.mk 2 id 0 p)=0:=by
  unfold iZ eU
  simp[edG,edI,edP,hp]
  omega
 rw[he] at hck
 obtain⟨d1,d2,d3,d4,d5,d6⟩:=D
 have e1:=Ne.symm d1
 have e2:=Ne.symm d2
 have e3:=Ne.symm d3
 have e4:=Ne.symm d4
 have e5:=Ne.symm d5
 have e6:=Ne.symm d6
 generalize jX sq [id]=R1 at hcr ⊢
 repeat' (first|(refine aQ hck ?_)|(refine dN mixed (fun _ _=>none) [_,_,_,_,_,_,_] [_,_,_,_] rfl (by decide +kernel) ?_)|(with_reducible first|(refine wN fun _ hnl=>?_;revert hnl;(repeat refine wS fun _ _=>?_);intro hnl)|refine wE ?_|(refine wK ?_ ?_<;>intro h)|(refine wB ?_ ?_<;>intro h<;>simp only[h]))|simp(maxSteps:=4000000) (disch:=first|exact ddL|fail) only[go_sem,simprocAttr,Tryz.f17,FXs])
 all_goals (try (exfalso;omega))
 refine nU (aA.FQ (by simp[St.set,St.none, *]) (by simp[St.set,St.none, *]) (aA.FQ (by simp[St.set,St.none, *]) (by simp[St.set,St.none, *]) hcr)) ?_
 repeat' (first|(with_reducible first|(refine wN fun _ hnl=>?_;revert hnl;(repeat refine wS fun _ _=>?_);intro hnl)|refine wE ?_|(refine wK ?_ ?_<;>intro h)|(refine wB ?_ ?_<;>intro h<;>simp only[h]))|simp(maxSteps:=4000000) (disch:=first|exact ddL|fail) only[go_sem,simprocAttr])
 exact St.b6 (St.b6 (St.le_refl _) (by simp[St.set,St.none, *])) (by simp[St.set,St.none, *])
end
end Go.Proofs.YtppdgejjmhdjhaaGreatDoor
