/- Parts of the proof, joined; conditions: those that its theorems name. -/
import Derived.Test.YtppdgejjmhdjhaaGreatDoorMbzi
set_option linter.unusedVariables false
set_option linter.unusedSimpArgs false
set_option maxHeartbeats 4000000
namespace Go.Proofs.YtppdgejjmhdjhaaGreatDoor
section
set_option maxRecDepth 100000
set_option maxHeartbeats 8000000
theorem z6{B:BK}(h1:B.cards.length≤1000000)(h2:B.dead.length≤1000000)(h3:B.gr.length≤1000000)(h4:∀g,g∈B.gr→g.mem.length≤1000000)(h:kG B=true) :
  aA Tryz.prog 44 [.agg B.c] St.none (fun v σ'=>∃m l q b,kE m l q b∧v=.tup [.ptr b 0 0,.bool true]∧σ'=bkS m l q b B []) :=
 aA.ghost ((G7 h1 h2 h3 h4 h).mono fun v σ' ⟨m,l,q,b,ex,D,hv,hσ⟩=>⟨v,bkS m l q b B [],by
  subst hσ
  have hq:bkS m l q b B ex q=some (.row 197 3 (B.dead.map DE.c++ex)):=by simp[St.set,Ne.symm D.bq]
  have e:bkS m l q b B []=(bkS m l q b B ex).set q (.row 197 3 (B.dead.map DE.c)):=by
   funext j
   by_cases h1:j=q
   ·subst h1;simp[St.set,Ne.symm D.bq]
   ·simp[St.set,h1]
  rw[e]
  exact bM.cut hq,m,l,q,b,D,hv,rfl⟩)
theorem Bg{P:Program}{g:FuncId}{ms:List MV}{σ:St}{B:BK}{u:Nat→MV}{k:MV→St→Prop}(h:aA P g ms St.none fun v σ'=>∃m l q b,kE m l q b∧v=u b∧σ'=bkS m l q b B [])
 (hk:∀m l q b,σ m=none→σ l=none→σ q=none→σ b=none→kE m l q b→R (bQ (u b) ((((σ.set m (.mp (cEs B.cards))).set l (shO B.nx m (.vec 3 q 0 B.dead.length))).set q (.row 197 3 (B.dead.map DE.c))).set b (bL B.sq l (.lst 2 (B.gr.map GR.c) false))) k)):R (cQ P g ms σ k) :=
 bX h (St.none_le σ) fun v σ' hv hf=>by
  obtain⟨m,l,q,b,D,rfl,rfl⟩:=hv
  have fr:∀j o,bkS m l q b B [] j=some o→σ j=none:=fun j o hj=>by
   rcases hf j o hj with h|⟨o',h⟩
   ·exact h
   ·simp[St.none] at h
  have fm:=fr m (.mp (cEs B.cards)) (by simp[St.set,Ne.symm D.lm,Ne.symm D.qm,Ne.symm D.bm])
  have fl:=fr l (shO B.nx m (.vec 3 q 0 B.dead.length)) (by simp[St.set,Ne.symm D.ql,Ne.symm D.bl])
  have fq:=fr q (.row 197 3 (B.dead.map DE.c++[])) (by simp[St.set,Ne.symm D.bq])
  have fb:=fr b _ (aJ _ _ _)
  rw[hE,a8,a8,a8,a8,cT,List.append_nil]
  exact hk m l q b fm fl fq fb D
theorem Oh{m l q b f:Nat}{B:BK}{fl:List ND}{d:Bool}{σ:St}(hm:σ m=some (.mp (cEs B.cards)))(hl:σ l=some (shO B.nx m (.vec 3 q 0 B.dead.length)))(hq:σ q=some (.row 197 3 (B.dead.map DE.c)))(hb:σ b=some (bL B.sq l (.lst 2 (B.gr.map GR.c) false)))(hf:σ f=some (flD fl d)):(bfS m l q b B f fl d).le σ :=
 St.aD (St.aD (St.aD (St.aD (St.aD (St.none_le _) hm) hl) (by rw[List.append_nil];exact hq)) hb) hf
theorem DW{m l q b:Nat}{B:BK}{σ:St}(hm:σ m=some (.mp (cEs B.cards)))(hl:σ l=some (shO B.nx m (.vec 3 q 0 B.dead.length)))(hq:σ q=some (.row 197 3 (B.dead.map DE.c)))(hb:σ b=some (bL B.sq l (.lst 2 (B.gr.map GR.c) false))):(bkS m l q b B []).le σ :=
 St.aD (St.aD (St.aD (St.aD (St.none_le _) hm) hl) (by rw[List.append_nil];exact hq)) hb
theorem Ps{P:Program}{g:FuncId}{ms:List MV}{m l q b f:Nat}{B:BK}{fl:List ND}{d d':Bool}{r:MV}(h:aA P g ms (bfS m l q b B f fl d) fun v σ'=>v=r∧σ'=bfS m l q b B f fl d') :
  aA P g ms (St.ofList [f,b,q,l,m] [flD fl d,bL B.sq l (.lst 2 (B.gr.map GR.c) false),.row 197 3 (B.dead.map DE.c),shO B.nx m (.vec 3 q 0 B.dead.length),.mp (cEs B.cards)]) fun v σ'=>v=r∧σ'=(St.ofList [f,b,q,l,m] [flD fl d,bL B.sq l (.lst 2 (B.gr.map GR.c) false),.row 197 3 (B.dead.map DE.c),shO B.nx m (.vec 3 q 0 B.dead.length),.mp (cEs B.cards)]).set f (flD fl d'):=by
 have e:bfS m l q b B f fl d=St.ofList [f,b,q,l,m] [flD fl d,bL B.sq l (.lst 2 (B.gr.map GR.c) false),.row 197 3 (B.dead.map DE.c),shO B.nx m (.vec 3 q 0 B.dead.length),.mp (cEs B.cards)]:=by
  simp only[bfS,bkS,shS,St.ofList,List.append_nil]
 rw[e] at h
 refine h.mono ?_
 rintro v σ' ⟨h1,rfl⟩
 refine⟨h1,funext fun j=>?_⟩
 by_cases hj:j=f<;>simp[St.ofList,St.set,hj]
end

section
set_option maxRecDepth 100000
set_option maxHeartbeats 8000000
theorem NZ:∀t:T,t.fl≠[]:=fun t=>by cases t<;>simp[T.fl]
theorem LX{x:ND}(h:bF [x]=0):nA [x]=.leaf x:=by
 have ht:=(tA h).2.1
 cases hc:nA [x] with
 | leaf y=>rw[hc] at ht;simp only[T.fl,List.cons.injEq,and_true] at ht;rw[ht]
 | one y a=>rw[hc] at ht;simp only[T.fl,List.cons.injEq] at ht;exact absurd ht.2 (NZ a)
 | two y a b=>rw[hc] at ht;simp only[T.fl,List.cons.injEq,List.append_eq_nil_iff] at ht;exact absurd ht.2.1 (NZ a)
theorem wJ{x:ND}(h:bF [x]=0)(gr:List GR)(c:CA):dG gr [x] c=if x.op=1 then true else if x.op=2 then false else bW (mA c) (grB gr c.id) x:=by
 unfold dG
 rw[LX h];rfl
def pa1:PA:=⟨1,0,f80⟩
def ex1:CA:=dF 1 pa1
def ex2:CA:=dF 2 pa1
end
end Go.Proofs.YtppdgejjmhdjhaaGreatDoor
