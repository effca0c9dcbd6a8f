/- Parts of the proof, joined; conditions: those that its theorems name. -/
import Derived.Test.YtaojijkdamfbnaaGreatDoorMezh
import Derived.Test.YtaojijkdamfbnaaGreatDoorMezi
set_option linter.unusedVariables false
set_option linter.unusedSimpArgs false
set_option maxHeartbeats 4000000
namespace Go.Proofs.YtaojijkdamfbnaaGreatDoor
section
set_option maxRecDepth 100000
set_option maxHeartbeats 8000000
theorem aA.xF{P:Program}{g:FuncId}{ms:List MV}{τ τ1:St}{n:Nat}{o:aX}{r:MV}(hn:τ n=none)(h1:τ1 n=none)(h:aA P g ms τ fun v σ'=>v=r∧σ'=τ1):aA P g ms (τ.set n o) fun v σ'=>v=r∧σ'=τ1.set n o :=
 (h.frame (St.mD (St.le_refl _) hn)).mono (by
  rintro v σ1 ⟨σ',⟨hv,rfl⟩,rfl,-⟩
  refine⟨hv,funext fun j=>?_⟩
  by_cases hj:j=n
  ·subst hj;simp[St.over,St.minus,St.set,hn,h1]
  ·simp only[St.over,St.minus,St.set,if_neg hj]
   cases σ' j with
   | some o=>rfl
   | none=>cases τ j<;>rfl)
theorem HL{nx sq:Int}{m l b:Nat}(hlm:l≠m)(hbm:b≠m)(hbl:b≠l)(D g:MV)(cs:List CA)(p:PA)(hp:dJ p=0)(hn:cs.length<48)(hx0:0≤nx)(hx:nx<1073741824)(hnew:nx∉cs.map CA.id)(h0:0≤sq)(h1:sq≤1000000000000) :
  aA Tryz.prog 39 [.ptr b 0 0,.agg (ED.mk 1 0 0 p).c] (((St.none.set m (.mp (cEs cs))).set l (shO nx m D)).set b (bX sq l g)) (fun v σ'=>v=.tup [.lst 2 (fJ sq [nx]) false,.int .i64 0]∧σ'=((St.none.set m (.mp (cEs (cs++[cO nx p])))).set l (shO (nx+1) m D)).set b (bX (sq+1) l g)):=by
 refine aA.less (Q':=fun v σ'=>v=.tup [.lst 2 (fJ sq [nx]) false,.int .i64 0]∧(((St.none.set m (.mp (cEs (cs++[cO nx p])))).set l (shO (nx+1) m D)).set b (bX (sq+1) l g)).le σ') (aA.body 31 [.tmp 4,.tmp 5] Tryz.func39 rfl rfl rfl rfl ?_) fun v σ' h=>⟨_,h.2,h.1,rfl⟩
 have hck:=lF (ED.mk 1 0 0 p)
 have he:fX (ED.mk 1 0 0 p)=0:=by
  unfold fX
  simp[edG,edI,edP,hp]
 rw[he] at hck
 have hcr:=An hlm hbm hbl D g cs p hp hn hx0 hx hnew h0 (by omega)
 have hml:=Ne.symm hlm
 have hmb:=Ne.symm hbm
 have hlb:=Ne.symm hbl
 generalize fJ sq [nx]=R1 at hcr ⊢
 obtain⟨c,hc⟩:∃c,cO nx p=c:=⟨_,rfl⟩
 rw[hc] at hcr ⊢
 repeat' (first|(refine aM hck ?_)|(refine dH mixed (fun _ _=>none) [_,_,_,_,_,_,_] [_,_,_,_] rfl (by decide +kernel) ?_)|(with_reducible first|(refine wN fun _ hnl=>?_;revert hnl;(repeat refine wS fun _ _=>?_);intro hnl)|refine wE ?_|(refine wK ?_ ?_<;>intro h)|(refine wB ?_ ?_<;>intro h<;>simp only[h]))|simp(maxSteps:=4000000) (disch:=first|exact ddL|fail) only[go_sem,simprocAttr,Tryz.f39,FXs])
 all_goals (try (exfalso;omega))
 refine eZ (aA.xF (by simp[St.set,St.none, *]) (by simp[St.set,St.none, *]) (aA.xF (by simp[St.set,St.none, *]) (by simp[St.set,St.none, *]) hcr)) ?_
 repeat' (first|(with_reducible first|(refine wN fun _ hnl=>?_;revert hnl;(repeat refine wS fun _ _=>?_);intro hnl)|refine wE ?_|(refine wK ?_ ?_<;>intro h)|(refine wB ?_ ?_<;>intro h<;>simp only[h]))|simp(maxSteps:=4000000) (disch:=first|exact ddL|fail) only[go_sem,simprocAttr])
 exact St.mD (St.mD (St.le_refl _) (by simp[St.set,St.none, *])) (by simp[St.set,St.none, *])
theorem HM{sq:Int}(l b:Nat)(g:Int)(h0:0≤sq)(h1:sq≤1000000000000)(h3:0≤g)(h4:g<16) :
  aA Tryz.prog 39 [.ptr b 0 0,.agg (ED.mk 4 0 g pa0).c] (St.none.set b (bX sq l (.lst 2 [] false))) (fun v σ'=>v=.tup [.lst 2 (fJ sq [0]) false,.int .i64 0]∧σ'=St.none.set b (bX (sq+1) l (.lst 2 [(GR.mk g []).c] false))):=by
 refine aA.less (Q':=fun v σ'=>v=.tup [.lst 2 (fJ sq [0]) false,.int .i64 0]∧(St.none.set b (bX (sq+1) l (.lst 2 [(GR.mk g []).c] false))).le σ') (aA.body 31 [.tmp 4,.tmp 5] Tryz.func39 rfl rfl rfl rfl ?_) fun v σ' h=>⟨_,h.2,h.1,rfl⟩
 have hck:=lF (ED.mk 4 0 g pa0)
 have he:fX (ED.mk 4 0 g pa0)=0:=by
  unfold fX
  simp[edG,edI,edP]
  omega
 rw[he] at hck
 have hcr:=Ca l b g h0 (by omega) h3 h4
 generalize fJ sq [0]=R1 at hcr ⊢
 repeat' (first|(refine aM hck ?_)|(refine dH mixed (fun _ _=>none) [_,_,_,_,_,_,_] [_,_,_,_] rfl (by decide +kernel) ?_)|(with_reducible first|(refine wN fun _ hnl=>?_;revert hnl;(repeat refine wS fun _ _=>?_);intro hnl)|refine wE ?_|(refine wK ?_ ?_<;>intro h)|(refine wB ?_ ?_<;>intro h<;>simp only[h]))|simp(maxSteps:=4000000) (disch:=first|exact ddL|fail) only[go_sem,simprocAttr,Tryz.f39,FXs])
 all_goals (try (exfalso;omega))
 refine eZ (aA.xF (by simp[St.set,St.none, *]) (by simp[St.set,St.none, *]) (aA.xF (by simp[St.set,St.none, *]) (by simp[St.set,St.none, *]) hcr)) ?_
 repeat' (first|(with_reducible first|(refine wN fun _ hnl=>?_;revert hnl;(repeat refine wS fun _ _=>?_);intro hnl)|refine wE ?_|(refine wK ?_ ?_<;>intro h)|(refine wB ?_ ?_<;>intro h<;>simp only[h]))|simp(maxSteps:=4000000) (disch:=first|exact ddL|fail) only[go_sem,simprocAttr])
 exact St.mD (St.mD (St.le_refl _) (by simp[St.set,St.none, *])) (by simp[St.set,St.none, *])
theorem HN{nx sq:Int}{m l q b:Nat}(D:lU m l q b)(cs:List CA)(ds:List DE)(hd:ds.length≤1000000)(no id:Int)(hid:∃c,c∈cs∧c.id=id)(h0:0≤sq)(h1:sq≤1000000000000)(h2:1≤id)(h5:id<1073741824)(h3:0≤no)(h4:no<16) :
  aA Tryz.prog 39 [.ptr b 0 0,.agg (ED.mk 6 id no pa0).c] (bkS m l q b ⟨sq,nx,cs,ds,[⟨no,[]⟩]⟩ []) (fun v σ'=>v=.tup [.lst 2 (fJ sq [id]) false,.int .i64 0]∧σ'=bkS m l q b ⟨sq+1,nx,cs,ds,[⟨no,[id]⟩]⟩ []):=by
 refine aA.less (Q':=fun v σ'=>v=.tup [.lst 2 (fJ sq [id]) false,.int .i64 0]∧(bkS m l q b ⟨sq+1,nx,cs,ds,[⟨no,[id]⟩]⟩ []).le σ') ?_ fun v σ' h=>⟨_,h.2,h.1,rfl⟩
 have hcr:=B9 (nx:=nx) (sq:=sq) D cs ds hd no id hid h0 (by omega) h2 h5 h3 h4
 simp only[bkS,shS,List.append_nil] at hcr ⊢
 refine(aA.body 31 [.tmp 4,.tmp 5] Tryz.func39 rfl rfl rfl rfl ?_)
 have hck:=lF (ED.mk 6 id no pa0)
 have he:fX (ED.mk 6 id no pa0)=0:=by
  unfold fX gC
  simp[edG,edI,edP]
  omega
 rw[he] at hck
 obtain⟨d1,d2,d3,d4,d5,d6⟩:=D
 have e1:=Ne.symm d1
 have e2:=Ne.symm d2
 have e3:=Ne.symm d3
 have e4:=Ne.symm d4
 have e5:=Ne.symm d5
 have e6:=Ne.symm d6
 generalize fJ sq [id]=R1 at hcr ⊢
 repeat' (first|(refine aM hck ?_)|(refine dH mixed (fun _ _=>none) [_,_,_,_,_,_,_] [_,_,_,_] rfl (by decide +kernel) ?_)|(with_reducible first|(refine wN fun _ hnl=>?_;revert hnl;(repeat refine wS fun _ _=>?_);intro hnl)|refine wE ?_|(refine wK ?_ ?_<;>intro h)|(refine wB ?_ ?_<;>intro h<;>simp only[h]))|simp(maxSteps:=4000000) (disch:=first|exact ddL|fail) only[go_sem,simprocAttr,Tryz.f39,FXs])
 all_goals (try (exfalso;omega))
 refine eZ (aA.xF (by simp[St.set,St.none, *]) (by simp[St.set,St.none, *]) (aA.xF (by simp[St.set,St.none, *]) (by simp[St.set,St.none, *]) hcr)) ?_
 repeat' (first|(with_reducible first|(refine wN fun _ hnl=>?_;revert hnl;(repeat refine wS fun _ _=>?_);intro hnl)|refine wE ?_|(refine wK ?_ ?_<;>intro h)|(refine wB ?_ ?_<;>intro h<;>simp only[h]))|simp(maxSteps:=4000000) (disch:=first|exact ddL|fail) only[go_sem,simprocAttr])
 exact St.mD (St.mD (St.le_refl _) (by simp[St.set,St.none, *])) (by simp[St.set,St.none, *])
end

section
set_option maxRecDepth 100000
set_option maxHeartbeats 8000000
theorem MH:∀t:T,t.fl≠[]:=fun t=>by cases t<;>simp[T.fl]
theorem KG{x:ND}(h:cA [x]=0):mV [x]=.leaf x:=by
 have ht:=(sI h).2.1
 cases hc:mV [x] with
 | leaf y=>rw[hc] at ht;simp only[T.fl,List.cons.injEq,and_true] at ht;rw[ht]
 | one y a=>rw[hc] at ht;simp only[T.fl,List.cons.injEq] at ht;exact absurd ht.2 (MH a)
 | two y a b=>rw[hc] at ht;simp only[T.fl,List.cons.injEq,List.append_eq_nil_iff] at ht;exact absurd ht.2.1 (MH a)
theorem u9{x:ND}(h:cA [x]=0)(gr:List GR)(c:CA):gJ gr [x] c=if x.op=1 then true else if x.op=2 then false else bT (lY c) (grB gr c.id) x:=by
 unfold gJ
 rw[KG h];rfl
def pa1:PA:=⟨1,0,f80⟩
def ex1:CA:=cO 1 pa1
def ex2:CA:=cO 2 pa1
def exB:BK:=⟨4,3,[ex1,ex2],[],[⟨3,[2]⟩]⟩
theorem M7:BkR exB:=⟨by decide,by decide,by decide,by decide,by decide +kernel,by decide +kernel,by decide,by decide,by decide +kernel⟩
def exN:ND:=⟨4,3,va0⟩
theorem zA:cA [exN]=0:=by decide +kernel
theorem IL:(shC exB [exN]).map idX=[aL 2]:=by
 have h1:gJ exB.gr [exN] ex1=false:=by rw[u9 zA];decide +kernel
 have h2:gJ exB.gr [exN] ex2=true:=by rw[u9 zA];decide +kernel
 have:shC exB [exN]=[ex2]:=by
  unfold shC
  show List.filter _ [ex1,ex2]=_
  simp[h1,h2]
 rw[this];rfl
end
end Go.Proofs.YtaojijkdamfbnaaGreatDoor
