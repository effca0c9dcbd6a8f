/- Parts of the proof, joined; conditions: those that its theorems name. -/
import Derived.Test.YtaojijkdamfbnaaGreatDoorMfzj
import Derived.Test.YtaojijkdamfbnaaGreatDoorMfzk
set_option linter.unusedVariables false
set_option linter.unusedSimpArgs false
set_option maxHeartbeats 4000000
namespace Go.Proofs.YtaojijkdamfbnaaGreatDoor
section
set_option maxRecDepth 100000
set_option maxHeartbeats 8000000
theorem aA.v7{P:Program}{g:FuncId}{ms:List MV}{τ τ1:St}{n:Nat}{o:aV}{r:MV}(hn:τ n=none)(h1:τ1 n=none)(h:aA P g ms τ fun v σ'=>v=r∧σ'=τ1):aA P g ms (τ.set n o) fun v σ'=>v=r∧σ'=τ1.set n o :=
 (h.frame (St.l4 (St.le_refl _) hn)).mono (by
  rintro v σ1 ⟨σ',⟨hv,rfl⟩,rfl,-⟩
  refine⟨hv,funext fun j=>?_⟩
  by_cases hj:j=n
  ·subst hj;simp[St.over,St.minus,St.set,hn,h1]
  ·simp only[St.over,St.minus,St.set,if_neg hj]
   cases σ' j with
   | some o=>rfl
   | none=>cases τ j<;>rfl)
theorem Hm{nx sq:Int}{m l b:Nat}(hlm:l≠m)(hbm:b≠m)(hbl:b≠l)(D g:MV)(cs:List CA)(p:PA)(hp:dG p=0)(hn:cs.length<48)(hx0:0≤nx)(hx:nx<1073741824)(hnew:nx∉cs.map CA.id)(h0:0≤sq)(h1:sq≤1000000000000) :
  aA Tryz.prog 39 [.ptr b 0 0,.agg (ED.mk 1 0 0 p).c] (((St.none.set m (.mp (cEs cs))).set l (shO nx m D)).set b (bV sq l g)) (fun v σ'=>v=.tup [.lst 2 (fF sq [nx]) false,.int .i64 0]∧σ'=((St.none.set m (.mp (cEs (cs++[cN nx p])))).set l (shO (nx+1) m D)).set b (bV (sq+1) l g)):=by
 refine aA.less (Q':=fun v σ'=>v=.tup [.lst 2 (fF sq [nx]) false,.int .i64 0]∧(((St.none.set m (.mp (cEs (cs++[cN nx p])))).set l (shO (nx+1) m D)).set b (bV (sq+1) l g)).le σ') (aA.body 31 [.tmp 4,.tmp 5] Tryz.func39 rfl rfl rfl rfl ?_) fun v σ' h=>⟨_,h.2,h.1,rfl⟩
 have hck:=k9 (ED.mk 1 0 0 p)
 have he:fU (ED.mk 1 0 0 p)=0:=by
  unfold fU
  simp[edG,edI,edP,hp]
 rw[he] at hck
 have hcr:=zT hlm hbm hbl D g cs p hp hn hx0 hx hnew h0 (by omega)
 have hml:=Ne.symm hlm
 have hmb:=Ne.symm hbm
 have hlb:=Ne.symm hbl
 generalize fF sq [nx]=R1 at hcr ⊢
 obtain⟨c,hc⟩:∃c,cN nx p=c:=⟨_,rfl⟩
 rw[hc] at hcr ⊢
 repeat' (first|(refine aK hck ?_)|(refine dW mixed (fun _ _=>none) [_,_,_,_,_,_,_] [_,_,_,_] rfl (by decide +kernel) ?_)|(with_reducible first|(refine wN fun _ hnl=>?_;revert hnl;(repeat refine wS fun _ _=>?_);intro hnl)|refine wE ?_|(refine wK ?_ ?_<;>intro h)|(refine wB ?_ ?_<;>intro h<;>simp only[h]))|simp(maxSteps:=4000000) (disch:=first|exact ddL|fail) only[go_sem,simprocAttr,Tryz.f39,FXs])
 all_goals (try (exfalso;omega))
 refine eU (aA.v7 (by simp[St.set,St.none, *]) (by simp[St.set,St.none, *]) (aA.v7 (by simp[St.set,St.none, *]) (by simp[St.set,St.none, *]) hcr)) ?_
 repeat' (first|(with_reducible first|(refine wN fun _ hnl=>?_;revert hnl;(repeat refine wS fun _ _=>?_);intro hnl)|refine wE ?_|(refine wK ?_ ?_<;>intro h)|(refine wB ?_ ?_<;>intro h<;>simp only[h]))|simp(maxSteps:=4000000) (disch:=first|exact ddL|fail) only[go_sem,simprocAttr])
 exact St.l4 (St.l4 (St.le_refl _) (by simp[St.set,St.none, *])) (by simp[St.set,St.none, *])
theorem Hn{sq:Int}(l b:Nat)(g:Int)(h0:0≤sq)(h1:sq≤1000000000000)(h3:0≤g)(h4:g<16) :
  aA Tryz.prog 39 [.ptr b 0 0,.agg (ED.mk 4 0 g pa0).c] (St.none.set b (bV sq l (.lst 2 [] false))) (fun v σ'=>v=.tup [.lst 2 (fF sq [0]) false,.int .i64 0]∧σ'=St.none.set b (bV (sq+1) l (.lst 2 [(GR.mk g []).c] false))):=by
 refine aA.less (Q':=fun v σ'=>v=.tup [.lst 2 (fF sq [0]) false,.int .i64 0]∧(St.none.set b (bV (sq+1) l (.lst 2 [(GR.mk g []).c] false))).le σ') (aA.body 31 [.tmp 4,.tmp 5] Tryz.func39 rfl rfl rfl rfl ?_) fun v σ' h=>⟨_,h.2,h.1,rfl⟩
 have hck:=k9 (ED.mk 4 0 g pa0)
 have he:fU (ED.mk 4 0 g pa0)=0:=by
  unfold fU
  simp[edG,edI,edP]
  omega
 rw[he] at hck
 have hcr:=BJ l b g h0 (by omega) h3 h4
 generalize fF sq [0]=R1 at hcr ⊢
 repeat' (first|(refine aK hck ?_)|(refine dW mixed (fun _ _=>none) [_,_,_,_,_,_,_] [_,_,_,_] rfl (by decide +kernel) ?_)|(with_reducible first|(refine wN fun _ hnl=>?_;revert hnl;(repeat refine wS fun _ _=>?_);intro hnl)|refine wE ?_|(refine wK ?_ ?_<;>intro h)|(refine wB ?_ ?_<;>intro h<;>simp only[h]))|simp(maxSteps:=4000000) (disch:=first|exact ddL|fail) only[go_sem,simprocAttr,Tryz.f39,FXs])
 all_goals (try (exfalso;omega))
 refine eU (aA.v7 (by simp[St.set,St.none, *]) (by simp[St.set,St.none, *]) (aA.v7 (by simp[St.set,St.none, *]) (by simp[St.set,St.none, *]) hcr)) ?_
 repeat' (first|(with_reducible first|(refine wN fun _ hnl=>?_;revert hnl;(repeat refine wS fun _ _=>?_);intro hnl)|refine wE ?_|(refine wK ?_ ?_<;>intro h)|(refine wB ?_ ?_<;>intro h<;>simp only[h]))|simp(maxSteps:=4000000) (disch:=first|exact ddL|fail) only[go_sem,simprocAttr])
 exact St.l4 (St.l4 (St.le_refl _) (by simp[St.set,St.none, *])) (by simp[St.set,St.none, *])
theorem Ho{nx sq:Int}{m l q b:Nat}(D:jP m l q b)(cs:List CA)(ds:List DE)(hd:ds.length≤1000000)(no id:Int)(hid:∃c,c∈cs∧c.id=id)(h0:0≤sq)(h1:sq≤1000000000000)(h2:1≤id)(h5:id<1073741824)(h3:0≤no)(h4:no<16) :
  aA Tryz.prog 39 [.ptr b 0 0,.agg (ED.mk 6 id no pa0).c] (bkS m l q b ⟨sq,nx,cs,ds,[⟨no,[]⟩]⟩ []) (fun v σ'=>v=.tup [.lst 2 (fF sq [id]) false,.int .i64 0]∧σ'=bkS m l q b ⟨sq+1,nx,cs,ds,[⟨no,[id]⟩]⟩ []):=by
 refine aA.less (Q':=fun v σ'=>v=.tup [.lst 2 (fF sq [id]) false,.int .i64 0]∧(bkS m l q b ⟨sq+1,nx,cs,ds,[⟨no,[id]⟩]⟩ []).le σ') ?_ fun v σ' h=>⟨_,h.2,h.1,rfl⟩
 have hcr:=BI (nx:=nx) (sq:=sq) D cs ds hd no id hid h0 (by omega) h2 h5 h3 h4
 simp only[bkS,shS,List.append_nil] at hcr ⊢
 refine(aA.body 31 [.tmp 4,.tmp 5] Tryz.func39 rfl rfl rfl rfl ?_)
 have hck:=k9 (ED.mk 6 id no pa0)
 have he:fU (ED.mk 6 id no pa0)=0:=by
  unfold fU fY
  simp[edG,edI,edP]
  omega
 rw[he] at hck
 obtain⟨d1,d2,d3,d4,d5,d6⟩:=D
 have e1:=Ne.symm d1
 have e2:=Ne.symm d2
 have e3:=Ne.symm d3
 have e4:=Ne.symm d4
 have e5:=Ne.symm d5
 have e6:=Ne.symm d6
 generalize fF sq [id]=R1 at hcr ⊢
 repeat' (first|(refine aK hck ?_)|(refine dW mixed (fun _ _=>none) [_,_,_,_,_,_,_] [_,_,_,_] rfl (by decide +kernel) ?_)|(with_reducible first|(refine wN fun _ hnl=>?_;revert hnl;(repeat refine wS fun _ _=>?_);intro hnl)|refine wE ?_|(refine wK ?_ ?_<;>intro h)|(refine wB ?_ ?_<;>intro h<;>simp only[h]))|simp(maxSteps:=4000000) (disch:=first|exact ddL|fail) only[go_sem,simprocAttr,Tryz.f39,FXs])
 all_goals (try (exfalso;omega))
 refine eU (aA.v7 (by simp[St.set,St.none, *]) (by simp[St.set,St.none, *]) (aA.v7 (by simp[St.set,St.none, *]) (by simp[St.set,St.none, *]) hcr)) ?_
 repeat' (first|(with_reducible first|(refine wN fun _ hnl=>?_;revert hnl;(repeat refine wS fun _ _=>?_);intro hnl)|refine wE ?_|(refine wK ?_ ?_<;>intro h)|(refine wB ?_ ?_<;>intro h<;>simp only[h]))|simp(maxSteps:=4000000) (disch:=first|exact ddL|fail) only[go_sem,simprocAttr])
 exact St.l4 (St.l4 (St.le_refl _) (by simp[St.set,St.none, *])) (by simp[St.set,St.none, *])
end

section
set_option maxRecDepth 100000
set_option maxHeartbeats 8000000
theorem Ma:∀t:T,t.fl≠[]:=fun t=>by cases t<;>simp[T.fl]
theorem Kd{x:ND}(h:bI [x]=0):lF [x]=.leaf x:=by
 have ht:=(pM h).2.1
 cases hc:lF [x] with
 | leaf y=>rw[hc] at ht;simp only[T.fl,List.cons.injEq,and_true] at ht;rw[ht]
 | one y a=>rw[hc] at ht;simp only[T.fl,List.cons.injEq] at ht;exact absurd ht.2 (Ma a)
 | two y a b=>rw[hc] at ht;simp only[T.fl,List.cons.injEq,List.append_eq_nil_iff] at ht;exact absurd ht.2.1 (Ma a)
theorem uJ{x:ND}(h:bI [x]=0)(gr:List GR)(c:CA):eY gr [x] c=if x.op=1 then true else if x.op=2 then false else eZ (nC c) (grB gr c.id) x:=by
 unfold eY
 rw[Kd h];rfl
def pa1:PA:=⟨1,0,f80⟩
def ex1:CA:=cN 1 pa1
def ex2:CA:=cN 2 pa1
def exB:BK:=⟨4,3,[ex1,ex2],[],[⟨3,[2]⟩]⟩
theorem Mw:BkR exB:=⟨by decide,by decide,by decide,by decide,by decide +kernel,by decide +kernel,by decide,by decide,by decide +kernel⟩
def exN:ND:=⟨4,3,va0⟩
theorem yI:bI [exN]=0:=by decide +kernel
theorem Ik:(shC exB [exN]).map idX=[aJ 2]:=by
 have h1:eY exB.gr [exN] ex1=false:=by rw[uJ yI];decide +kernel
 have h2:eY exB.gr [exN] ex2=true:=by rw[uJ yI];decide +kernel
 have:shC exB [exN]=[ex2]:=by
  unfold shC
  show List.filter _ [ex1,ex2]=_
  simp[h1,h2]
 rw[this];rfl
end

section
set_option maxRecDepth 100000
set_option maxHeartbeats 8000000
theorem Ki{P:Program}{g:FuncId}{ms:List MV}{σ τ:St}{b:Nat}{o:aV}{r:MV}{k:MV→St→Prop}(h:aA P g ms τ fun v σ'=>v=r∧σ'=τ.set b o)(hle:τ.le σ)(hk:R (bR r (σ.set b o) k)):R (cX P g ms σ k) :=
 cA h hle fun v σ' hv _=>by
  obtain⟨rfl,rfl⟩:=hv
  rw[bU,k8 hle];exact hk
theorem Kj{P:Program}{g:FuncId}{ms:List MV}{σ τ:St}{m l b:Nat}{om ol ob:aV}{r:MV}{k:MV→St→Prop}(h:aA P g ms τ fun v σ'=>v=r∧σ'=((τ.set m om).set l ol).set b ob)(hle:τ.le σ)(hk:R (bR r (((σ.set m om).set l ol).set b ob) k)):R (cX P g ms σ k) :=
 cA h hle fun v σ' hv _=>by
  obtain⟨rfl,rfl⟩:=hv
  rw[bU,bU,bU,k8 hle];exact hk
abbrev mlb(m l b:Nat)(om ol ob:aV):St:=((St.none.set m om).set l ol).set b ob
theorem MK{m l b:Nat}{om ol ob om' ol' ob':aV}:mlb m l b om' ol' ob'=(((mlb m l b om ol ob).set m om').set l ol').set b ob':=by
 funext j
 by_cases h1:j=b
 ·simp[St.set,h1]
 ·by_cases h2:j=l
  ·simp[St.set,h1,h2]
  ·by_cases h3:j=m<;>simp[St.set,h1,h2,h3]
def exE:ED:=⟨1,0,0,pa1⟩
theorem Nx:exE.c=.int .i64 1::.int .i64 0::.int .i64 0::.int .u32 1::.int .u32 0::fc f80:=rfl
theorem L9{nx sq:Int}{m l b:Nat}(hlm:l≠m)(hbm:b≠m)(hbl:b≠l)(D g:MV)(cs:List CA)(hn:cs.length<48)(hx0:0≤nx)(hx:nx<1073741824)(hnew:nx∉cs.map CA.id)(h0:0≤sq)(h1:sq≤1000000000000) :
  aA Tryz.prog 39 [.ptr b 0 0,.agg (.int .i64 1::.int .i64 0::.int .i64 0::.int .u32 1::.int .u32 0::fc f80)] (mlb m l b (.mp (cEs cs)) (shO nx m D) (bV sq l g)) (fun v σ'=>v=.tup [.lst 2 (fF sq [nx]) false,.int .i64 0]∧σ'=(((mlb m l b (.mp (cEs cs)) (shO nx m D) (bV sq l g)).set m (.mp (cEs (cs++[cN nx pa1])))).set l (shO (nx+1) m D)).set b (bV (sq+1) l g)):=by
 rw[←Nx]
 refine(Hm hlm hbm hbl D g cs pa1 (by decide +kernel) hn hx0 hx hnew h0 h1).mono ?_
 rintro v σ' ⟨q1,q2⟩
 exact⟨q1,q2.trans MK⟩
theorem Jc{σ:St}{m l b:Nat}{om ol ob:aV}(hm:σ m=some om)(hl:σ l=some ol)(hb:σ b=some ob):(mlb m l b om ol ob).le σ:=St.aD (St.aD (St.aD (St.none_le _) hm) hl) hb
theorem KE{sq:Int}(l b:Nat)(h0:0≤sq)(h1:sq≤1000000000000):aA Tryz.prog 39 [.ptr b 0 0,.agg (.int .i64 4::.int .i64 0::.int .i64 3::.int .u32 0::.int .u32 0::fc f80)] (St.none.set b (bV sq l (.lst 2 [] false))) (fun v σ'=>v=.tup [.lst 2 (fF sq [0]) false,.int .i64 0]∧σ'=(St.none.set b (bV sq l (.lst 2 [] false))).set b (bV (sq+1) l (.lst 2 [(GR.mk 3 []).c] false))) :=
 (Hn l b 3 h0 h1 (by decide) (by decide)).mono (by
  rintro v σ' ⟨q1,q2⟩
  exact⟨q1,q2.trans (by funext j;by_cases h:j=b<;>simp[St.set,h])⟩)
theorem KD{m l q b:Nat}(D:jP m l q b):aA Tryz.prog 39 [.ptr b 0 0,.agg (.int .i64 6::.int .i64 2::.int .i64 3::.int .u32 0::.int .u32 0::fc f80)] (bkS m l q b ⟨3,3,[ex1,ex2],[],[⟨3,[]⟩]⟩ []) (fun v σ'=>v=.tup [.lst 2 (fF 3 [2]) false,.int .i64 0]∧σ'=(bkS m l q b ⟨3,3,[ex1,ex2],[],[⟨3,[]⟩]⟩ []).set b (bV 4 l (.lst 2 [(GR.mk 3 [2]).c] false))) :=
 (Ho (nx:=3) (sq:=3) D [ex1,ex2] [] (by decide) 3 2 ⟨ex2,by simp,rfl⟩ (by decide) (by decide) (by decide) (by decide) (by decide) (by decide)).mono (by
  rintro v σ' ⟨q1,q2⟩
  exact⟨q1,q2.trans (by funext j;by_cases h:j=b<;>simp[St.set,h])⟩)
theorem Kh{P:Program}{g:FuncId}{ms:List MV}{σ:St}{n:Nat}{on o:aV}{u:Nat→MV}{k:MV→St→Prop}(hn:σ n=some on)(h:aA P g ms (St.none.set n on) fun v σ'=>∃q,v=u q∧σ'=St.none.set q o)(hk:∀q,(σ.del n) q=none→R (bR (u q) ((σ.del n).set q o) k)):R (cX P g ms σ k) :=
 cA h (St.aD (St.none_le _) hn) fun v σ' hv hf=>by
  obtain⟨q,rfl,rfl⟩:=hv
  have e:(St.none.set q o).over (σ.minus (St.none.set n on))=(σ.del n).set q o:=by
   rw[bU,dS]
   congr 1
   funext j
   by_cases h2:j=n
   ·subst h2;simp[St.set,St.minus,St.del]
   ·simp[St.set,St.none,St.minus,St.del,h2]
  rw[e]
  refine hk q ?_
  rcases hf q o (aF _ _ _) with h|⟨o',h⟩
  ·simp[St.del,h]
  ·by_cases h2:q=n
   ·subst h2;simp[St.del]
   ·rw[aG _ _ _ _ h2] at h;cases h
theorem BO(x:ND)(h:bI [x]=0)(n:Nat):aA Tryz.prog 12 [.vec 5 n 0 1] (St.none.set n (.row 84 5 [x.c])) (fun v σ'=>∃q,v=.ptr q 0 0∧σ'=St.none.set q (flD [x] false)) :=
 aA.pre (ms':=[.lst 5 ([x].map ND.c) false]) rfl (bD.freeze (St.none.set n (.row 84 5 [x.c])) (St.le_refl _) (St.none_le _) (fun k o hk=>by cases hk) (fun p hp=>by
  simp only[iQ,List.mem_singleton] at hp
  subst hp
  exact View.vecAll (aF _ _ _) rfl)) (mE [x] (by simp) false h)
theorem Mx{m l q b f:Nat}(D:jP m l q b)(hf:f≠m∧f≠l∧f≠q∧f≠b):aA Tryz.prog 15 [.ptr b 0 0,.ptr f 0 0] (bfS m l q b exB f [exN] false) (fun r σ'=>r=.lst 1 [aJ 2] false∧σ'=bfS m l q b exB f [exN] true):=by
 have h:=oE Mw (by decide) (by decide) D hf yI false
 rw[Ik] at h
 exact h
theorem x8:aA Tryz.prog 10 [] St.none (fun r _=>r=.bool true):=by
 refine aA.cI (aA.body 26 [.tmp 0] Tryz.func10 rfl rfl rfl rfl ?_)
 have k1:=fun {m l q b:Nat} (D:jP m l q b)=>L9 (nx:=1) (sq:=0) D.lm D.bm D.bl (.vec 3 q 0 0) (.lst 2 [] false) [] (by decide) (by decide) (by decide) (by decide) (by decide) (by decide)
 have k2:=fun {m l q b:Nat} (D:jP m l q b)=>L9 (nx:=2) (sq:=1) D.lm D.bm D.bl (.vec 3 q 0 0) (.lst 2 [] false) [ex1] (by decide) (by decide) (by decide) (by decide +kernel) (by decide) (by decide)
 have hnew:aA Tryz.prog 38 [] St.none _:=Ap
 repeat' (first|((refine Ah hnew ?_;intro m l q b hm hl hq hb D;clear hm hl hq hb;simp only[bk1,List.map_nil,List.length_nil];have D':=D;obtain⟨d1,d2,d3,d4,d5,d6⟩:=D;have e1:=Ne.symm d1;have e2:=Ne.symm d2;have e3:=Ne.symm d3;have e4:=Ne.symm d4;have e5:=Ne.symm d5;have e6:=Ne.symm d6))|(with_reducible first|(refine wN fun _ hnl=>?_;revert hnl;(repeat refine wS fun _ _=>?_);intro hnl)|refine wE ?_|(refine wK ?_ ?_<;>intro h)|(refine wB ?_ ?_<;>intro h<;>simp only[h]))|simp(maxSteps:=4000000) (disch:=first|exact ddL|fail) only[go_sem,simprocAttr,Tryz.f10,FXs])
 refine Kj (k1 D') (Jc (by simp[St.set, *]) (by simp[St.set, *]) (by simp[St.set, *])) ?_
 rw[show(cN 1 pa1)=ex1 from rfl,List.nil_append]
 repeat' (first|(with_reducible first|(refine wN fun _ hnl=>?_;revert hnl;(repeat refine wS fun _ _=>?_);intro hnl)|refine wE ?_|(refine wK ?_ ?_<;>intro h)|(refine wB ?_ ?_<;>intro h<;>simp only[h]))|simp(maxSteps:=4000000) (disch:=first|exact ddL|fail) only[go_sem,simprocAttr,FXs])
 refine Kj (k2 D') (Jc (by simp[St.set, *]) (by simp[St.set, *]) (by simp[St.set, *])) ?_
 rw[show(cN 2 pa1)=ex2 from rfl,List.singleton_append]
 repeat' (first|(with_reducible first|(refine wN fun _ hnl=>?_;revert hnl;(repeat refine wS fun _ _=>?_);intro hnl)|refine wE ?_|(refine wK ?_ ?_<;>intro h)|(refine wB ?_ ?_<;>intro h<;>simp only[h]))|simp(maxSteps:=4000000) (disch:=first|exact ddL|fail) only[go_sem,simprocAttr,FXs])
 refine Ki (KE (sq:=2) l b (by decide) (by decide)) (St.aD (St.none_le _) (by simp[St.set, *])) ?_
 repeat' (first|(with_reducible first|(refine wN fun _ hnl=>?_;revert hnl;(repeat refine wS fun _ _=>?_);intro hnl)|refine wE ?_|(refine wK ?_ ?_<;>intro h)|(refine wB ?_ ?_<;>intro h<;>simp only[h]))|simp(maxSteps:=4000000) (disch:=first|exact ddL|fail) only[go_sem,simprocAttr,FXs])
 refine Ki (KD D') (Ms (by simp[St.set, *]) (by simp[St.set, *]) (by simp[St.set, *]) (by simp[St.set, *])) ?_
 repeat' (first|(with_reducible first|(refine wN fun _ hnl=>?_;revert hnl;(repeat refine wS fun _ _=>?_);intro hnl)|refine wE ?_|(refine wK ?_ ?_<;>intro h)|(refine wB ?_ ?_<;>intro h<;>simp only[h]))|simp(maxSteps:=4000000) (disch:=first|exact ddL|fail) only[go_sem,simprocAttr,FXs])
 refine Kh (aF _ _ _) (BO exN yI _) fun f hf=>?_
 have hf0:=hf
 repeat' (first|(with_reducible first|(refine wN fun _ hnl=>?_;revert hnl;(repeat refine wS fun _ _=>?_);intro hnl)|refine wE ?_|(refine wK ?_ ?_<;>intro h)|(refine wB ?_ ?_<;>intro h<;>simp only[h]))|simp(maxSteps:=4000000) (disch:=first|exact ddL|fail) only[go_sem,simprocAttr,FXs])
 have fm:f≠m:=fun e=>by subst e;simp[St.set,St.del, *] at hf
 have fl:f≠l:=fun e=>by subst e;simp[St.set,St.del, *] at hf
 have fq:f≠q:=fun e=>by subst e;simp[St.set,St.del, *] at hf
 have fb:f≠b:=fun e=>by subst e;simp[St.set,St.del, *] at hf
 have fm':=Ne.symm fm
 have fl':=Ne.symm fl
 have fq':=Ne.symm fq
 have fb':=Ne.symm fb
 clear hf hf0
 refine j9 (Mx D' ⟨fm,fl,fq,fb⟩) (kN (by show _=some (aV.mp (cEs [ex1,ex2]));simp[St.set, *]) (by show _=some (shO 3 m (.vec 3 q 0 0));simp[St.set, *]) (by show _=some (aV.row 90 3 []);simp[St.set, *]) (by show _=some (bV 4 l (.lst 2 [(GR.mk 3 [2]).c] false));simp[St.set, *]) (aF _ _ _)) ?_
 repeat' (first|(with_reducible first|(refine wN fun _ hnl=>?_;revert hnl;(repeat refine wS fun _ _=>?_);intro hnl)|refine wE ?_|(refine wK ?_ ?_<;>intro h)|(refine wB ?_ ?_<;>intro h<;>simp only[h]))|simp(maxSteps:=4000000) (disch:=first|exact ddL|fail) only[go_sem,simprocAttr,FXs])
 have hI:aA Tryz.prog 17 [.lst 1 [aJ 2] false,.lst 1 [aJ 2] false] St.none (fun r _=>r=.bool true):=Ed [2] [2] (by decide) false false
 refine xW [.lst 1 [aJ 2] false,.lst 1 [aJ 2] false] _ hI (aF _ _ _) rfl (nA (.same _) (.vecAll (aF _ _ _) rfl)) ?_
 repeat' (first|(with_reducible first|(refine wN fun _ hnl=>?_;revert hnl;(repeat refine wS fun _ _=>?_);intro hnl)|refine wE ?_|(refine wK ?_ ?_<;>intro h)|(refine wB ?_ ?_<;>intro h<;>simp only[h]))|simp(maxSteps:=4000000) (disch:=first|exact ddL|fail) only[go_sem,simprocAttr])
 all_goals first|exact⟨_,St.le_refl _,rfl⟩|exact⟨_,St.le_refl _⟩
end

section
set_option maxRecDepth 100000
set_option maxHeartbeats 8000000
theorem mG(l:List CA)(hl:l.length≤1000000000000):aA Tryz.prog 21 [.lst 27 (l.map CA.c) false] St.none (fun r _=>∃b,r=.bool b∧(b=true→l.length≤60∧eV 0 (l.map CA.id)=true)):=by
 refine aA.cI (aA.body 33 [.tmp 2] Tryz.func21 rfl rfl rfl rfl ?_)
 obtain⟨K,hK⟩:∃K,l.map CA.id=K:=⟨_,rfl⟩
 have hKl:K.length=l.length:=by rw[←hK,List.length_map]
 have hcl:(l.map CA.c).length=l.length:=List.length_map _
 rw[hK]
 repeat' (first|(with_reducible first|(refine wT ?_;(first|((fail_if_success (have:=nl1));refine wN fun nl1 hnl=>?_)|((fail_if_success (have:=nl2));refine wN fun nl2 hnl=>?_)|((fail_if_success (have:=nl3));refine wN fun nl3 hnl=>?_)|refine wN fun _ hnl=>?_);revert hnl;(repeat refine wS fun _ _=>?_);intro hnl)|refine wE ?_|(refine wK ?_ ?_<;>intro h)|(refine wB ?_ ?_<;>intro h<;>simp only[h]))|simp(maxSteps:=4000000) (disch:=first|exact ddL|fail) only[go_sem,simprocAttr,Tryz.f21])
 refine aH (α:=Nat × Nat × List (List MV)) (fun z=>⟨33,[(4,.int .i64 (z.1:Int)),(3,.vec 1 z.2.1 0 z.1),(0,.lst 27 (l.map CA.c) false)],[]⟩)
  (fun z=>St.none.set z.2.1 (.row 3 1 ((K.take z.1).map aJ++z.2.2))) (fun z=>z.1≤l.length) (fun z=>l.length - z.1) ?_ ?_
 ·refine .of (.less ?_ (St.le_refl _)) ⟨(0,nl1,[]),rfl,rfl,Nat.zero_le _⟩
  simp(maxSteps:=4000000) (disch:=first|exact ddL|fail) only[go_sem,simprocAttr,aC,aB]
  all_goals first|rfl|(simp;done)
 ·rintro⟨i,r,xx⟩ hi
  simp only at hi ⊢
  by_cases hlt:i<l.length
  ·obtain⟨x,hx⟩:=bO l hlt
   have hat:=bF (f:=CA.c) hx
   have hlg:=pD x.f
   have hKx:K[i]?=some x.id:=by rw[←hK];exact fK hx
   have htk:=a8 hKx
   have hLl:(K.take i).length=i:=by rw[List.length_take];omega
   obtain⟨L,hL⟩:∃L,K.take i=L:=⟨_,rfl⟩
   rw[hL] at htk hLl ⊢
   have hLm:(L.map aJ).length=i:=by rw[List.length_map,hLl]
   have hdr:(L.map aJ++xx).drop (i+1)=xx.drop 1:=by rw[←hLl];exact jF
   have htk':(L.map aJ++xx).take i=L.map aJ:=by rw[←hLl];exact iP
   obtain⟨lg,hlge⟩:∃lg,yS x.f=lg:=⟨_,rfl⟩
   rw[hlge] at hlg
   cases lg
   ·repeat' (first|(with_reducible refine aK hlg ?_)|(with_reducible first|(refine wT ?_;(first|((fail_if_success (have:=nl1));refine wN fun nl1 hnl=>?_)|((fail_if_success (have:=nl2));refine wN fun nl2 hnl=>?_)|((fail_if_success (have:=nl3));refine wN fun nl3 hnl=>?_)|refine wN fun _ hnl=>?_);revert hnl;(repeat refine wS fun _ _=>?_);intro hnl)|refine wE ?_|(refine wK ?_ ?_<;>intro h)|(refine wB ?_ ?_<;>intro h<;>simp only[h]))|simp(maxSteps:=4000000) (disch:=first|exact ddL|fail) only[go_sem,simprocAttr,FXs,hat,hcl,hLm,hLl,htk',hdr])
    all_goals (try (exfalso;omega))
    ·have hex:xx=[]:=List.eq_nil_of_length_eq_zero (by omega)
     subst hex
     clear h hdr htk'
     refine .of (.less ?_ ?_) ⟨(i+1,nl3,[]),rfl,rfl,by simp only;omega,by simp only;omega⟩
     ·simp(maxSteps:=4000000) (disch:=first|exact ddL|fail) only[go_sem,simprocAttr,aC,aB]
      all_goals first|rfl|(simp;done)
     ·rw[htk]
      exact St.aD (St.none_le _) (by simp[St.set, *])
    ·clear h hdr htk'
     refine .of (.less ?_ ?_) ⟨(i+1,nl3,xx.drop 1),rfl,rfl,by simp only;omega,by simp only;omega⟩
     ·simp(maxSteps:=4000000) (disch:=first|exact ddL|fail) only[go_sem,simprocAttr,aC,aB]
      all_goals first|rfl|(simp;done)
     ·rw[htk]
      exact St.aD (St.none_le _) (by simp[St.set, *])
   ·repeat' (first|(with_reducible refine aK hlg ?_)|(with_reducible first|(refine wT ?_;(first|((fail_if_success (have:=nl1));refine wN fun nl1 hnl=>?_)|((fail_if_success (have:=nl2));refine wN fun nl2 hnl=>?_)|((fail_if_success (have:=nl3));refine wN fun nl3 hnl=>?_)|refine wN fun _ hnl=>?_);revert hnl;(repeat refine wS fun _ _=>?_);intro hnl)|refine wE ?_|(refine wK ?_ ?_<;>intro h)|(refine wB ?_ ?_<;>intro h<;>simp only[h]))|simp(maxSteps:=4000000) (disch:=first|exact ddL|fail) only[go_sem,simprocAttr,FXs,hat,hcl,hLm,hLl,htk',hdr])
    all_goals (try (exfalso;omega))
    all_goals exact⟨_,St.le_refl _,false,rfl,fun h=>by cases h⟩
  ·have:i=l.length:=by omega
   subst this
   have htl:K.take l.length=K:=by rw[←hKl];exact List.take_length
   rw[htl]
   by_cases h60:l.length≤60
   ·repeat' (first|(with_reducible first|(refine wT ?_;(first|((fail_if_success (have:=nl1));refine wN fun nl1 hnl=>?_)|((fail_if_success (have:=nl2));refine wN fun nl2 hnl=>?_)|((fail_if_success (have:=nl3));refine wN fun nl3 hnl=>?_)|refine wN fun _ hnl=>?_);revert hnl;(repeat refine wS fun _ _=>?_);intro hnl)|refine wE ?_|(refine wK ?_ ?_<;>intro h)|(refine wB ?_ ?_<;>intro h<;>simp only[h]))|simp(maxSteps:=4000000) (disch:=first|exact ddL|fail) only[go_sem,simprocAttr,hcl])
    have hck:=xT K false (by omega)
    refine xW [.lst 1 (K.map aJ) false] r hck (aF _ _ _) rfl (mZ (cB (aF _ _ _) (by rw[List.length_map,hKl]))) ?_
    repeat' (first|(with_reducible first|(refine wT ?_;(first|((fail_if_success (have:=nl1));refine wN fun nl1 hnl=>?_)|((fail_if_success (have:=nl2));refine wN fun nl2 hnl=>?_)|((fail_if_success (have:=nl3));refine wN fun nl3 hnl=>?_)|refine wN fun _ hnl=>?_);revert hnl;(repeat refine wS fun _ _=>?_);intro hnl)|refine wE ?_|(refine wK ?_ ?_<;>intro h)|(refine wB ?_ ?_<;>intro h<;>simp only[h]))|simp(maxSteps:=4000000) (disch:=first|exact ddL|fail) only[go_sem,simprocAttr])
    all_goals exact⟨_,St.le_refl _,eV 0 K,rfl,fun h=>⟨h60,h⟩⟩
   ·repeat' (first|(with_reducible first|(refine wT ?_;(first|((fail_if_success (have:=nl1));refine wN fun nl1 hnl=>?_)|((fail_if_success (have:=nl2));refine wN fun nl2 hnl=>?_)|((fail_if_success (have:=nl3));refine wN fun nl3 hnl=>?_)|refine wN fun _ hnl=>?_);revert hnl;(repeat refine wS fun _ _=>?_);intro hnl)|refine wE ?_|(refine wK ?_ ?_<;>intro h)|(refine wB ?_ ?_<;>intro h<;>simp only[h]))|simp(maxSteps:=4000000) (disch:=first|exact ddL|fail) only[go_sem,simprocAttr,hcl])
    all_goals (try (exfalso;omega))
    all_goals exact⟨_,St.le_refl _,false,rfl,fun h=>by cases h⟩
end
end Go.Proofs.YtaojijkdamfbnaaGreatDoor
