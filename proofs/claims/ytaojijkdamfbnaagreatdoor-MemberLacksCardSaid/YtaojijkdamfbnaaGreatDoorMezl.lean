/- Parts of the proof, joined; conditions: those that its theorems name. -/
import Derived.Test.YtaojijkdamfbnaaGreatDoorMezj
import Derived.Test.YtaojijkdamfbnaaGreatDoorMezk
set_option linter.unusedVariables false
set_option linter.unusedSimpArgs false
set_option maxHeartbeats 4000000
namespace Go.Proofs.YtaojijkdamfbnaaGreatDoor
section
set_option maxRecDepth 100000
set_option maxHeartbeats 8000000
theorem KM{P:Program}{g:FuncId}{ms:List MV}{σ τ:St}{b:Nat}{o:aX}{r:MV}{k:MV→St→Prop}(h:aA P g ms τ fun v σ'=>v=r∧σ'=τ.set b o)(hle:τ.le σ)(hk:R (bP r (σ.set b o) k)):R (cX P g ms σ k) :=
 cD h hle fun v σ' hv _=>by
  obtain⟨rfl,rfl⟩:=hv
  rw[bW,lE hle];exact hk
theorem KN{P:Program}{g:FuncId}{ms:List MV}{σ τ:St}{m l b:Nat}{om ol ob:aX}{r:MV}{k:MV→St→Prop}(h:aA P g ms τ fun v σ'=>v=r∧σ'=((τ.set m om).set l ol).set b ob)(hle:τ.le σ)(hk:R (bP r (((σ.set m om).set l ol).set b ob) k)):R (cX P g ms σ k) :=
 cD h hle fun v σ' hv _=>by
  obtain⟨rfl,rfl⟩:=hv
  rw[bW,bW,bW,lE hle];exact hk
abbrev mlb(m l b:Nat)(om ol ob:aX):St:=((St.none.set m om).set l ol).set b ob
theorem Nn{m l b:Nat}{om ol ob om' ol' ob':aX}:mlb m l b om' ol' ob'=(((mlb m l b om ol ob).set m om').set l ol').set b ob':=by
 funext j
 by_cases h1:j=b
 ·simp[St.set,h1]
 ·by_cases h2:j=l
  ·simp[St.set,h1,h2]
  ·by_cases h3:j=m<;>simp[St.set,h1,h2,h3]
def exE:ED:=⟨1,0,0,pa1⟩
theorem N7:exE.c=.int .i64 1::.int .i64 0::.int .i64 0::.int .u32 1::.int .u32 0::fc f80:=rfl
theorem MG{nx sq:Int}{m l b:Nat}(hlm:l≠m)(hbm:b≠m)(hbl:b≠l)(D g:MV)(cs:List CA)(hn:cs.length<48)(hx0:0≤nx)(hx:nx<1073741824)(hnew:nx∉cs.map CA.id)(h0:0≤sq)(h1:sq≤1000000000000) :
  aA Tryz.prog 39 [.ptr b 0 0,.agg (.int .i64 1::.int .i64 0::.int .i64 0::.int .u32 1::.int .u32 0::fc f80)] (mlb m l b (.mp (cEs cs)) (shO nx m D) (bX sq l g)) (fun v σ'=>v=.tup [.lst 2 (fJ sq [nx]) false,.int .i64 0]∧σ'=(((mlb m l b (.mp (cEs cs)) (shO nx m D) (bX sq l g)).set m (.mp (cEs (cs++[cO nx pa1])))).set l (shO (nx+1) m D)).set b (bX (sq+1) l g)):=by
 rw[←N7]
 refine(HL hlm hbm hbl D g cs pa1 (by decide +kernel) hn hx0 hx hnew h0 h1).mono ?_
 rintro v σ' ⟨q1,q2⟩
 exact⟨q1,q2.trans Nn⟩
theorem JG{σ:St}{m l b:Nat}{om ol ob:aX}(hm:σ m=some om)(hl:σ l=some ol)(hb:σ b=some ob):(mlb m l b om ol ob).le σ:=St.aE (St.aE (St.aE (St.none_le _) hm) hl) hb
theorem Lb{sq:Int}(l b:Nat)(h0:0≤sq)(h1:sq≤1000000000000):aA Tryz.prog 39 [.ptr b 0 0,.agg (.int .i64 4::.int .i64 0::.int .i64 3::.int .u32 0::.int .u32 0::fc f80)] (St.none.set b (bX sq l (.lst 2 [] false))) (fun v σ'=>v=.tup [.lst 2 (fJ sq [0]) false,.int .i64 0]∧σ'=(St.none.set b (bX sq l (.lst 2 [] false))).set b (bX (sq+1) l (.lst 2 [(GR.mk 3 []).c] false))) :=
 (HM l b 3 h0 h1 (by decide) (by decide)).mono (by
  rintro v σ' ⟨q1,q2⟩
  exact⟨q1,q2.trans (by funext j;by_cases h:j=b<;>simp[St.set,h])⟩)
theorem La{m l q b:Nat}(D:lU m l q b):aA Tryz.prog 39 [.ptr b 0 0,.agg (.int .i64 6::.int .i64 2::.int .i64 3::.int .u32 0::.int .u32 0::fc f80)] (bkS m l q b ⟨3,3,[ex1,ex2],[],[⟨3,[]⟩]⟩ []) (fun v σ'=>v=.tup [.lst 2 (fJ 3 [2]) false,.int .i64 0]∧σ'=(bkS m l q b ⟨3,3,[ex1,ex2],[],[⟨3,[]⟩]⟩ []).set b (bX 4 l (.lst 2 [(GR.mk 3 [2]).c] false))) :=
 (HN (nx:=3) (sq:=3) D [ex1,ex2] [] (by decide) 3 2 ⟨ex2,by simp,rfl⟩ (by decide) (by decide) (by decide) (by decide) (by decide) (by decide)).mono (by
  rintro v σ' ⟨q1,q2⟩
  exact⟨q1,q2.trans (by funext j;by_cases h:j=b<;>simp[St.set,h])⟩)
theorem KL{P:Program}{g:FuncId}{ms:List MV}{σ:St}{n:Nat}{on o:aX}{u:Nat→MV}{k:MV→St→Prop}(hn:σ n=some on)(h:aA P g ms (St.none.set n on) fun v σ'=>∃q,v=u q∧σ'=St.none.set q o)(hk:∀q,(σ.del n) q=none→R (bP (u q) ((σ.del n).set q o) k)):R (cX P g ms σ k) :=
 cD h (St.aE (St.none_le _) hn) fun v σ' hv hf=>by
  obtain⟨q,rfl,rfl⟩:=hv
  have e:(St.none.set q o).over (σ.minus (St.none.set n on))=(σ.del n).set q o:=by
   rw[bW,dV]
   congr 1
   funext j
   by_cases h2:j=n
   ·subst h2;simp[St.set,St.minus,St.del]
   ·simp[St.set,St.none,St.minus,St.del,h2]
  rw[e]
  refine hk q ?_
  rcases hf q o (aJ _ _ _) with h|⟨o',h⟩
  ·simp[St.del,h]
  ·by_cases h2:q=n
   ·subst h2;simp[St.del]
   ·rw[aK _ _ _ _ h2] at h;cases h
theorem Ce(x:ND)(h:cA [x]=0)(n:Nat):aA Tryz.prog 12 [.vec 5 n 0 1] (St.none.set n (.row 84 5 [x.c])) (fun v σ'=>∃q,v=.ptr q 0 0∧σ'=St.none.set q (flD [x] false)) :=
 aA.pre (ms':=[.lst 5 ([x].map ND.c) false]) rfl (bD.freeze (St.none.set n (.row 84 5 [x.c])) (St.le_refl _) (St.none_le _) (fun k o hk=>by cases hk) (fun p hp=>by
  simp only[iT,List.mem_singleton] at hp
  subst hp
  exact View.vecAll (aJ _ _ _) rfl)) (rK [x] (by simp) false h)
theorem M8{m l q b f:Nat}(D:lU m l q b)(hf:f≠m∧f≠l∧f≠q∧f≠b):aA Tryz.prog 15 [.ptr b 0 0,.ptr f 0 0] (bfS m l q b exB f [exN] false) (fun r σ'=>r=.lst 1 [aL 2] false∧σ'=bfS m l q b exB f [exN] true):=by
 have h:=Ep M7 (by decide) (by decide) D hf zA false
 rw[IL] at h
 exact h
theorem yX:aA Tryz.prog 10 [] St.none (fun r _=>r=.bool true):=by
 refine aA.cC (aA.body 26 [.tmp 0] Tryz.func10 rfl rfl rfl rfl ?_)
 have k1:=fun {m l q b:Nat} (D:lU m l q b)=>MG (nx:=1) (sq:=0) D.lm D.bm D.bl (.vec 3 q 0 0) (.lst 2 [] false) [] (by decide) (by decide) (by decide) (by decide) (by decide) (by decide)
 have k2:=fun {m l q b:Nat} (D:lU m l q b)=>MG (nx:=2) (sq:=1) D.lm D.bm D.bl (.vec 3 q 0 0) (.lst 2 [] false) [ex1] (by decide) (by decide) (by decide) (by decide +kernel) (by decide) (by decide)
 have hnew:aA Tryz.prog 38 [] St.none _:=AR
 repeat' (first|((refine FP hnew ?_;intro m l q b hm hl hq hb D;clear hm hl hq hb;simp only[bk1,List.map_nil,List.length_nil];have D':=D;obtain⟨d1,d2,d3,d4,d5,d6⟩:=D;have e1:=Ne.symm d1;have e2:=Ne.symm d2;have e3:=Ne.symm d3;have e4:=Ne.symm d4;have e5:=Ne.symm d5;have e6:=Ne.symm d6))|(with_reducible first|(refine wN fun _ hnl=>?_;revert hnl;(repeat refine wS fun _ _=>?_);intro hnl)|refine wE ?_|(refine wK ?_ ?_<;>intro h)|(refine wB ?_ ?_<;>intro h<;>simp only[h]))|simp(maxSteps:=4000000) (disch:=first|exact ddL|fail) only[go_sem,simprocAttr,Tryz.f10,FXs])
 refine KN (k1 D') (JG (by simp[St.set, *]) (by simp[St.set, *]) (by simp[St.set, *])) ?_
 rw[show(cO 1 pa1)=ex1 from rfl,List.nil_append]
 repeat' (first|(with_reducible first|(refine wN fun _ hnl=>?_;revert hnl;(repeat refine wS fun _ _=>?_);intro hnl)|refine wE ?_|(refine wK ?_ ?_<;>intro h)|(refine wB ?_ ?_<;>intro h<;>simp only[h]))|simp(maxSteps:=4000000) (disch:=first|exact ddL|fail) only[go_sem,simprocAttr,FXs])
 refine KN (k2 D') (JG (by simp[St.set, *]) (by simp[St.set, *]) (by simp[St.set, *])) ?_
 rw[show(cO 2 pa1)=ex2 from rfl,List.singleton_append]
 repeat' (first|(with_reducible first|(refine wN fun _ hnl=>?_;revert hnl;(repeat refine wS fun _ _=>?_);intro hnl)|refine wE ?_|(refine wK ?_ ?_<;>intro h)|(refine wB ?_ ?_<;>intro h<;>simp only[h]))|simp(maxSteps:=4000000) (disch:=first|exact ddL|fail) only[go_sem,simprocAttr,FXs])
 refine KM (Lb (sq:=2) l b (by decide) (by decide)) (St.aE (St.none_le _) (by simp[St.set, *])) ?_
 repeat' (first|(with_reducible first|(refine wN fun _ hnl=>?_;revert hnl;(repeat refine wS fun _ _=>?_);intro hnl)|refine wE ?_|(refine wK ?_ ?_<;>intro h)|(refine wB ?_ ?_<;>intro h<;>simp only[h]))|simp(maxSteps:=4000000) (disch:=first|exact ddL|fail) only[go_sem,simprocAttr,FXs])
 refine KM (La D') (M3 (by simp[St.set, *]) (by simp[St.set, *]) (by simp[St.set, *]) (by simp[St.set, *])) ?_
 repeat' (first|(with_reducible first|(refine wN fun _ hnl=>?_;revert hnl;(repeat refine wS fun _ _=>?_);intro hnl)|refine wE ?_|(refine wK ?_ ?_<;>intro h)|(refine wB ?_ ?_<;>intro h<;>simp only[h]))|simp(maxSteps:=4000000) (disch:=first|exact ddL|fail) only[go_sem,simprocAttr,FXs])
 refine KL (aJ _ _ _) (Ce exN zA _) fun f hf=>?_
 have hf0:=hf
 repeat' (first|(with_reducible first|(refine wN fun _ hnl=>?_;revert hnl;(repeat refine wS fun _ _=>?_);intro hnl)|refine wE ?_|(refine wK ?_ ?_<;>intro h)|(refine wB ?_ ?_<;>intro h<;>simp only[h]))|simp(maxSteps:=4000000) (disch:=first|exact ddL|fail) only[go_sem,simprocAttr,FXs])
 have fm:f≠m:=fun e=>by subst e;simp[St.set,St.del, *] at hf
 have fl:f≠l:=fun e=>by subst e;simp[St.set,St.del, *] at hf
 have fq:f≠q:=fun e=>by subst e;simp[St.set,St.del, *] at hf
 have fb:f≠b:=fun e=>by subst e;simp[St.set,St.del, *] at hf
 have fm':=Ne.symm fm
 have fl':=Ne.symm fl
 have fq':=Ne.symm fq
 have fb':=Ne.symm fb
 clear hf hf0
 refine EO (M8 D' ⟨fm,fl,fq,fb⟩) (Iv (by show _=some (aX.mp (cEs [ex1,ex2]));simp[St.set, *]) (by show _=some (shO 3 m (.vec 3 q 0 0));simp[St.set, *]) (by show _=some (aX.row 90 3 []);simp[St.set, *]) (by show _=some (bX 4 l (.lst 2 [(GR.mk 3 [2]).c] false));simp[St.set, *]) (aJ _ _ _)) ?_
 repeat' (first|(with_reducible first|(refine wN fun _ hnl=>?_;revert hnl;(repeat refine wS fun _ _=>?_);intro hnl)|refine wE ?_|(refine wK ?_ ?_<;>intro h)|(refine wB ?_ ?_<;>intro h<;>simp only[h]))|simp(maxSteps:=4000000) (disch:=first|exact ddL|fail) only[go_sem,simprocAttr,FXs])
 have hI:aA Tryz.prog 17 [.lst 1 [aL 2] false,.lst 1 [aL 2] false] St.none (fun r _=>r=.bool true):=lJ [2] [2] (by decide) false false
 refine yP [.lst 1 [aL 2] false,.lst 1 [aL 2] false] _ hI (aJ _ _ _) rfl (nM (.same _) (.vecAll (aJ _ _ _) rfl)) ?_
 repeat' (first|(with_reducible first|(refine wN fun _ hnl=>?_;revert hnl;(repeat refine wS fun _ _=>?_);intro hnl)|refine wE ?_|(refine wK ?_ ?_<;>intro h)|(refine wB ?_ ?_<;>intro h<;>simp only[h]))|simp(maxSteps:=4000000) (disch:=first|exact ddL|fail) only[go_sem,simprocAttr])
 all_goals first|exact⟨_,St.le_refl _,rfl⟩|exact⟨_,St.le_refl _⟩
end

section
set_option maxRecDepth 100000
set_option maxHeartbeats 8000000
theorem Cn(l:List CA)(hl:l.length≤1000000000000):aA Tryz.prog 21 [.lst 27 (l.map CA.c) false] St.none (fun r _=>∃b,r=.bool b∧(b=true→l.length≤60∧fA 0 (l.map CA.id)=true)):=by
 refine aA.cC (aA.body 33 [.tmp 2] Tryz.func21 rfl rfl rfl rfl ?_)
 obtain⟨K,hK⟩:∃K,l.map CA.id=K:=⟨_,rfl⟩
 have hKl:K.length=l.length:=by rw[←hK,List.length_map]
 have hcl:(l.map CA.c).length=l.length:=List.length_map _
 rw[hK]
 repeat' (first|(with_reducible first|(refine wT ?_;(first|((fail_if_success (have:=nl1));refine wN fun nl1 hnl=>?_)|((fail_if_success (have:=nl2));refine wN fun nl2 hnl=>?_)|((fail_if_success (have:=nl3));refine wN fun nl3 hnl=>?_)|refine wN fun _ hnl=>?_);revert hnl;(repeat refine wS fun _ _=>?_);intro hnl)|refine wE ?_|(refine wK ?_ ?_<;>intro h)|(refine wB ?_ ?_<;>intro h<;>simp only[h]))|simp(maxSteps:=4000000) (disch:=first|exact ddL|fail) only[go_sem,simprocAttr,Tryz.f21])
 refine aH (α:=Nat × Nat × List (List MV)) (fun z=>⟨33,[(4,.int .i64 (z.1:Int)),(3,.vec 1 z.2.1 0 z.1),(0,.lst 27 (l.map CA.c) false)],[]⟩)
  (fun z=>St.none.set z.2.1 (.row 3 1 ((K.take z.1).map aL++z.2.2))) (fun z=>z.1≤l.length) (fun z=>l.length - z.1) ?_ ?_
 ·refine .of (.less ?_ (St.le_refl _)) ⟨(0,nl1,[]),rfl,rfl,Nat.zero_le _⟩
  simp(maxSteps:=4000000) (disch:=first|exact ddL|fail) only[go_sem,simprocAttr,aC,aB]
  all_goals first|rfl|(simp;done)
 ·rintro⟨i,r,xx⟩ hi
  simp only at hi ⊢
  by_cases hlt:i<l.length
  ·obtain⟨x,hx⟩:=bK l hlt
   have hat:=bE (f:=CA.c) hx
   have hlg:=pP x.f
   have hKx:K[i]?=some x.id:=by rw[←hK];exact fN hx
   have htk:=a8 hKx
   have hLl:(K.take i).length=i:=by rw[List.length_take];omega
   obtain⟨L,hL⟩:∃L,K.take i=L:=⟨_,rfl⟩
   rw[hL] at htk hLl ⊢
   have hLm:(L.map aL).length=i:=by rw[List.length_map,hLl]
   have hdr:(L.map aL++xx).drop (i+1)=xx.drop 1:=by rw[←hLl];exact jK
   have htk':(L.map aL++xx).take i=L.map aL:=by rw[←hLl];exact iS
   obtain⟨lg,hlge⟩:∃lg,zM x.f=lg:=⟨_,rfl⟩
   rw[hlge] at hlg
   cases lg
   ·repeat' (first|(with_reducible refine aM hlg ?_)|(with_reducible first|(refine wT ?_;(first|((fail_if_success (have:=nl1));refine wN fun nl1 hnl=>?_)|((fail_if_success (have:=nl2));refine wN fun nl2 hnl=>?_)|((fail_if_success (have:=nl3));refine wN fun nl3 hnl=>?_)|refine wN fun _ hnl=>?_);revert hnl;(repeat refine wS fun _ _=>?_);intro hnl)|refine wE ?_|(refine wK ?_ ?_<;>intro h)|(refine wB ?_ ?_<;>intro h<;>simp only[h]))|simp(maxSteps:=4000000) (disch:=first|exact ddL|fail) only[go_sem,simprocAttr,FXs,hat,hcl,hLm,hLl,htk',hdr])
    all_goals (try (exfalso;omega))
    ·have hex:xx=[]:=List.eq_nil_of_length_eq_zero (by omega)
     subst hex
     clear h hdr htk'
     refine .of (.less ?_ ?_) ⟨(i+1,nl3,[]),rfl,rfl,by simp only;omega,by simp only;omega⟩
     ·simp(maxSteps:=4000000) (disch:=first|exact ddL|fail) only[go_sem,simprocAttr,aC,aB]
      all_goals first|rfl|(simp;done)
     ·rw[htk]
      exact St.aE (St.none_le _) (by simp[St.set, *])
    ·clear h hdr htk'
     refine .of (.less ?_ ?_) ⟨(i+1,nl3,xx.drop 1),rfl,rfl,by simp only;omega,by simp only;omega⟩
     ·simp(maxSteps:=4000000) (disch:=first|exact ddL|fail) only[go_sem,simprocAttr,aC,aB]
      all_goals first|rfl|(simp;done)
     ·rw[htk]
      exact St.aE (St.none_le _) (by simp[St.set, *])
   ·repeat' (first|(with_reducible refine aM hlg ?_)|(with_reducible first|(refine wT ?_;(first|((fail_if_success (have:=nl1));refine wN fun nl1 hnl=>?_)|((fail_if_success (have:=nl2));refine wN fun nl2 hnl=>?_)|((fail_if_success (have:=nl3));refine wN fun nl3 hnl=>?_)|refine wN fun _ hnl=>?_);revert hnl;(repeat refine wS fun _ _=>?_);intro hnl)|refine wE ?_|(refine wK ?_ ?_<;>intro h)|(refine wB ?_ ?_<;>intro h<;>simp only[h]))|simp(maxSteps:=4000000) (disch:=first|exact ddL|fail) only[go_sem,simprocAttr,FXs,hat,hcl,hLm,hLl,htk',hdr])
    all_goals (try (exfalso;omega))
    all_goals exact⟨_,St.le_refl _,false,rfl,fun h=>by cases h⟩
  ·have:i=l.length:=by omega
   subst this
   have htl:K.take l.length=K:=by rw[←hKl];exact List.take_length
   rw[htl]
   by_cases h60:l.length≤60
   ·repeat' (first|(with_reducible first|(refine wT ?_;(first|((fail_if_success (have:=nl1));refine wN fun nl1 hnl=>?_)|((fail_if_success (have:=nl2));refine wN fun nl2 hnl=>?_)|((fail_if_success (have:=nl3));refine wN fun nl3 hnl=>?_)|refine wN fun _ hnl=>?_);revert hnl;(repeat refine wS fun _ _=>?_);intro hnl)|refine wE ?_|(refine wK ?_ ?_<;>intro h)|(refine wB ?_ ?_<;>intro h<;>simp only[h]))|simp(maxSteps:=4000000) (disch:=first|exact ddL|fail) only[go_sem,simprocAttr,hcl])
    have hck:=yM K false (by omega)
    refine yP [.lst 1 (K.map aL) false] r hck (aJ _ _ _) rfl (nL (bS (aJ _ _ _) (by rw[List.length_map,hKl]))) ?_
    repeat' (first|(with_reducible first|(refine wT ?_;(first|((fail_if_success (have:=nl1));refine wN fun nl1 hnl=>?_)|((fail_if_success (have:=nl2));refine wN fun nl2 hnl=>?_)|((fail_if_success (have:=nl3));refine wN fun nl3 hnl=>?_)|refine wN fun _ hnl=>?_);revert hnl;(repeat refine wS fun _ _=>?_);intro hnl)|refine wE ?_|(refine wK ?_ ?_<;>intro h)|(refine wB ?_ ?_<;>intro h<;>simp only[h]))|simp(maxSteps:=4000000) (disch:=first|exact ddL|fail) only[go_sem,simprocAttr])
    all_goals exact⟨_,St.le_refl _,fA 0 K,rfl,fun h=>⟨h60,h⟩⟩
   ·repeat' (first|(with_reducible first|(refine wT ?_;(first|((fail_if_success (have:=nl1));refine wN fun nl1 hnl=>?_)|((fail_if_success (have:=nl2));refine wN fun nl2 hnl=>?_)|((fail_if_success (have:=nl3));refine wN fun nl3 hnl=>?_)|refine wN fun _ hnl=>?_);revert hnl;(repeat refine wS fun _ _=>?_);intro hnl)|refine wE ?_|(refine wK ?_ ?_<;>intro h)|(refine wB ?_ ?_<;>intro h<;>simp only[h]))|simp(maxSteps:=4000000) (disch:=first|exact ddL|fail) only[go_sem,simprocAttr,hcl])
    all_goals (try (exfalso;omega))
    all_goals exact⟨_,St.le_refl _,false,rfl,fun h=>by cases h⟩
end

section
set_option maxRecDepth 100000
set_option maxHeartbeats 8000000
theorem IY{B:BK}(hb:BkR B)(fl:List ND)(mk:UInt32)(c:Int):UpI ((eJ B fl mk c).map CA.id):=by
 rw[IX hb]
 exact List.pairwise_map.2 (List.Pairwise.filter _ (Dw hb fl mk).1)
theorem Gx{B:BK}(hb:BkR B)(fl:List ND)(mk:UInt32)(c:Int):(eJ B fl mk c).length≤48:=by
 unfold eJ
 rw[List.length_map]
 exact Nat.le_trans (List.length_filter_le _ _) hb.nc
theorem qM(s:SET)(H:List CA)(hHs:H.length≤1000000000000):aA Tryz.prog 4 [.agg s.c,.lst 27 (H.map CA.c) false] St.none (fun r _=>r=.bool true):=by
 refine aA.cC (aA.body 73 [.tmp 4] Tryz.func4 rfl rfl rfl rfl ?_)
 have hfit:=Gl s
 have hris:=Cn H hHs
 have haw:=yX
 by_cases hF:Fit s
 rotate_left
 ·repeat' (first|((refine dW hfit ?_;rintro _ ⟨fb,rfl,hfb⟩;cases fb))|((refine dW hris ?_;rintro _ ⟨rb,rfl,hrb⟩;cases rb))|(refine aM haw ?_)|(with_reducible first|(refine wN fun _ hnl=>?_;revert hnl;(repeat refine wS fun _ _=>?_);intro hnl)|refine wE ?_|(refine wK ?_ ?_<;>intro h)|(refine wB ?_ ?_<;>intro h<;>simp only[h]))|simp(maxSteps:=4000000) (disch:=first|exact ddL|fail) only[go_sem,simprocAttr,Tryz.f4,FXs,List.map_cons,List.map_nil])
  all_goals first|exact absurd (hfb rfl) hF|skip
  all_goals first|exact⟨_,St.le_refl _⟩|exact⟨_,St.le_refl _,rfl⟩
 by_cases hR:H.length≤60∧fA 0 (H.map CA.id)=true
 rotate_left
 ·repeat' (first|((refine dW hfit ?_;rintro _ ⟨fb,rfl,hfb⟩;cases fb))|((refine dW hris ?_;rintro _ ⟨rb,rfl,hrb⟩;cases rb))|(refine aM haw ?_)|(with_reducible first|(refine wN fun _ hnl=>?_;revert hnl;(repeat refine wS fun _ _=>?_);intro hnl)|refine wE ?_|(refine wK ?_ ?_<;>intro h)|(refine wB ?_ ?_<;>intro h<;>simp only[h]))|simp(maxSteps:=4000000) (disch:=first|exact ddL|fail) only[go_sem,simprocAttr,Tryz.f4,FXs,List.map_cons,List.map_nil])
  all_goals first|exact absurd (hrb rfl) hR|skip
  all_goals first|exact⟨_,St.le_refl _⟩|exact⟨_,St.le_refl _,rfl⟩
 obtain⟨h1,h2,h3,h4,h5,h6,h7⟩:=hF
 obtain⟨k1,k2⟩:=hR
 have hb:=Ix h1
 have hc6:s.bk.cards.length≤1000000:=by omega
 have hd6:s.bk.dead.length≤1000000:=by omega
 have hf6:s.fl.length≤1000000:=by have:=(sI h6).2.2;omega
 have hld:=yY hc6 hd6 h4 h5 h1
 have hnew:=rK s.fl hf6 false h6
 have hWu:=IY hb s.fl s.mask s.cur
 have hWl:=Gx hb s.fl s.mask s.cur
 have hHu:=(AJ k2).1
 have hri:=Cv s.bk hb h4 h5 s.fl h6 false s.mask s.cur
 obtain⟨W,hW⟩:∃W,eJ s.bk s.fl s.mask s.cur=W:=⟨_,rfl⟩
 rw[hW] at hWu hWl hri
 have hlk:=fun {m l q b f:Nat} (D:lU m l q b) (hf:f≠m∧f≠l∧f≠q∧f≠b)=>Ci hb h4 h5 D hf h6 false s.mask s.cur W H hW (by omega) (by omega) hWu hHu false
 have hrl:=Cw W H (by omega) (by omega) false false
 have i1:(bF (W.map CA.id) (H.map CA.id)).length≤1000000:=Nat.le_trans (oN _ _) (by rw[List.length_map];omega)
 have i2:(bF (H.map CA.id) (W.map CA.id)).length≤1000000:=Nat.le_trans (oN _ _) (by rw[List.length_map];omega)
 have i3:(lS W H).length≤1000000:=by
  unfold lS
  rw[List.length_map]
  exact Nat.le_trans (List.length_filter_le _ _) (by omega)
 have j1:=lJ _ (bF (W.map CA.id) (H.map CA.id)) i1 false false
 have j2:=lJ _ (bF (H.map CA.id) (W.map CA.id)) i2 false false
 have j3:=lJ _ (lS W H) i3 false false
 rw[decide_eq_true rfl] at j1 j2 j3
 obtain⟨A1,hA1⟩:∃A,(bF (W.map CA.id) (H.map CA.id)).map aL=A:=⟨_,rfl⟩
 obtain⟨A2,hA2⟩:∃A,(bF (H.map CA.id) (W.map CA.id)).map aL=A:=⟨_,rfl⟩
 obtain⟨A3,hA3⟩:∃A,(lS W H).map aL=A:=⟨_,rfl⟩
 rw[hA1] at j1
 rw[hA2] at j2
 rw[hA3] at j3
 rw[hA1,hA2,hA3] at hrl
 simp only[hA1,hA2,hA3] at hlk
 obtain⟨d1,hd1⟩:∃d1,(false || decide (0<s.bk.cards.length))=d1:=⟨_,rfl⟩
 simp only[hd1] at hlk
 obtain⟨C2,c1⟩:∃C:b9,∀ms,C 12 ms=some ⟨[],fun _=>True,some ([flD s.fl false],fun l=>.ptr l 0 0)⟩:=⟨fnF [(12,⟨[],fun _=>True,some ([flD s.fl false],fun l=>.ptr l 0 0)⟩)],fun _=>eU⟩
 repeat' (first|((refine dW hfit ?_;rintro _ ⟨fb,rfl,hfb⟩;cases fb))|((refine dW hris ?_;rintro _ ⟨rb,rfl,hrb⟩;cases rb))|(refine aM haw ?_)|((refine FP hld ?_;intro m l q b hm hl hq hbn D;simp only[aY] at hm hl hq hbn;obtain⟨m1,-⟩:=hm;obtain⟨l1,-⟩:=hl;obtain⟨q1,-⟩:=hq;obtain⟨b1,-⟩:=hbn;have m1':=Ne.symm m1;have l1':=Ne.symm l1;have q1':=Ne.symm q1;have b1':=Ne.symm b1;have D':=D;obtain⟨g1,g2,g3,g4,g5,g6⟩:=D;have e1:=Ne.symm g1;have e2:=Ne.symm g2;have e3:=Ne.symm g3;have e4:=Ne.symm g4;have e5:=Ne.symm g5;have e6:=Ne.symm g6))|(with_reducible first|(refine wN fun _ hnl=>?_;revert hnl;(repeat refine wS fun _ _=>?_);intro hnl)|refine wE ?_|(refine wK ?_ ?_<;>intro h)|(refine wB ?_ ?_<;>intro h<;>simp only[h]))|simp(maxSteps:=4000000) (disch:=first|exact ddL|fail) only[go_sem,simprocAttr,Tryz.f4,FXs,List.map_cons,List.map_nil])
 ·first|exact⟨_,St.le_refl _⟩|exact⟨_,St.le_refl _,rfl⟩
 ·first|exact⟨_,St.le_refl _⟩|exact⟨_,St.le_refl _,rfl⟩
 refine dH mixed C2 [_,_,_,_,_,_,_,_,_] [_,_,_,_,_,_,_] rfl (by decide +kernel) ?_
 repeat' (first|((refine I7 (c1 _) hnew ?_;intro f hf;simp only[aY] at hf;obtain⟨f1,f2,f3,f4,f5,-⟩:=hf;have f1':=Ne.symm f1;have f2':=Ne.symm f2;have f3':=Ne.symm f3;have f4':=Ne.symm f4;have f5':=Ne.symm f5))|(with_reducible first|(refine wN fun _ hnl=>?_;revert hnl;(repeat refine wS fun _ _=>?_);intro hnl)|refine wE ?_|(refine wK ?_ ?_<;>intro h)|(refine wB ?_ ?_<;>intro h<;>simp only[h]))|simp(maxSteps:=4000000) (disch:=first|exact ddL|fail) only[go_sem,simprocAttr,FXs])
 refine EO (hlk D' ⟨f4,f3,f2,f1⟩) (Iv (by simp[St.set, *]) (by simp[St.set, *]) (by simp[St.set, *]) (by simp[St.set, *]) (by simp[St.set, *])) ?_
 repeat' (first|(with_reducible refine aM hri ?_)|(with_reducible refine aM hrl ?_)|(with_reducible refine aM j1 ?_)|(with_reducible refine aM j2 ?_)|(with_reducible refine aM j3 ?_)|(with_reducible refine aM haw ?_)|(with_reducible first|(refine wN fun _ hnl=>?_;revert hnl;(repeat refine wS fun _ _=>?_);intro hnl)|refine wE ?_|(refine wK ?_ ?_<;>intro h)|(refine wB ?_ ?_<;>intro h<;>simp only[h]))|simp(maxSteps:=4000000) (disch:=first|exact ddL|fail) only[go_sem,simprocAttr,FXs])
 all_goals first|exact⟨_,St.le_refl _⟩|exact⟨_,St.le_refl _,rfl⟩
end
end Go.Proofs.YtaojijkdamfbnaaGreatDoor
