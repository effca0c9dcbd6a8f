/- Parts of the proof, joined; conditions: those that its theorems name. -/
import Derived.Test.YtppdgejjmhdjhaaGreatDoorMbx
import Derived.Test.YtppdgejjmhdjhaaGreatDoorMby
set_option linter.unusedVariables false
set_option linter.unusedSimpArgs false
set_option maxHeartbeats 4000000
namespace Go.Proofs.YtppdgejjmhdjhaaGreatDoor
set_option maxRecDepth 100000
set_option maxHeartbeats 8000000
theorem bM.yT{n:Nat}{l l1:List (Nat × MV)}{d:List (FuncId × List MV)}{σ σ1:St}(q b:Nat){oq:aW}{t:TypeId}{e:Nat}(pre post:List MV){m m1:MV}(hq:σ q=some oq)(hb:σ b=some (.row t e [pre++m::post]))(hne:b≠q)(hv:View (St.none.set q oq) m m1)(hc:m1.aN=true)
 (h1:σ1 b=some (.row t e [pre++m1::post]))(h0:∀k o,σ1 k=some o→k≠q∧(k=b∨σ k=some o))(hl:∀p,p∈l1→View (St.none.set q oq) (cA l p.1) p.2):bM ⟨n,l,d⟩ σ ⟨n,l1,d⟩ σ1:=by
 refine bM.BJ (St.none.set q oq) (St.aD (St.none_le _) hq) (fun k o1 hk=>?_) (fun k o hk=>?_) hl
 ·by_cases e':k=b
  ·subst e'
   rw[h1] at hk
   cases hk
   refine⟨_,hb,.inr ⟨t,e,_,_,rfl,rfl,rfl,fun i x x1 hx hx1=>?_⟩⟩
   match i with
   | 0 =>
    simp only[List.getElem?_cons_zero,Option.some.injEq] at hx hx1
    subst hx hx1
    refine⟨by simp,fun j a b ha hb=>?_⟩
    by_cases hj:j<pre.length
    ·rw[List.getElem?_append_left hj] at ha hb
     rw[ha] at hb;cases hb
     exact .inl rfl
    ·rw[List.getElem?_append_right (by omega)] at ha hb
     match hk:j - pre.length with
     | 0 =>
      rw[hk] at ha hb
      simp only[List.getElem?_cons_zero,Option.some.injEq] at ha hb
      subst ha hb
      exact .inr ⟨hc,hv⟩
     | k+1 =>
      rw[hk] at ha hb
      simp only[List.getElem?_cons_succ] at ha hb
      rw[ha] at hb;cases hb
      exact .inl rfl
   | i+1=>simp at hx
  ·exact⟨_,(h0 k _ hk).2.resolve_left e',.inl rfl⟩
 ·by_cases e':k=b
  ·subst e';exact aM _ _ _ _ hne
  ·exact aM _ _ _ _ (h0 k _ hk).1
theorem Ji{nx:Int}{cs:List CA}{ds:List DE}(hl:cs.length≤1000000)(hd:ds.length≤1000000)(h:nY nx cs ds=true) :
  aA Tryz.prog 111 [.int .i64 nx,.lst 27 (cs.map CA.c) false,.lst 3 (ds.map DE.c) false] St.none (fun v σ'=>∃m l q ex,l≠m∧q≠m∧q≠l∧v=.tup [.ptr l 0 0,.bool true]∧σ'=shS nx m l q cs ds ex) :=
 (sK nx cs ds hl hd).mono fun v σ' q=>by
  rcases q with⟨_,q⟩|⟨q,_⟩
  ·exact q
  ·rw[h] at q;cases q
theorem Jh{nx:Int}{cs:List CA}{ds:List DE}(hl:cs.length≤1000000)(hd:ds.length≤1000000)(h:nY nx cs ds=false) :
  aA Tryz.prog 111 [.int .i64 nx,.lst 27 (cs.map CA.c) false,.lst 3 (ds.map DE.c) false] St.none (fun v _=>v=.tup [.nilp,.bool false]) :=
 (sK nx cs ds hl hd).mono fun v σ' q=>by
  rcases q with⟨q,_⟩|⟨_,q,_⟩
  ·rw[h] at q;cases q
  ·exact q
theorem FJ{P:Program}{g:FuncId}{ms:List MV}{σ:St}{nx:Int}{cs:List CA}{ds:List DE}{u:Nat→MV}{k:MV→St→Prop}(h:aA P g ms St.none fun v σ'=>∃m l q ex,l≠m∧q≠m∧q≠l∧v=u l∧σ'=shS nx m l q cs ds ex)
 (hk:∀m l q ex,σ m=none→σ l=none→σ q=none→l≠m→q≠m→q≠l→R (bQ (u l) (((σ.set m (.mp (cEs cs))).set l (shO nx m (.vec 3 q 0 ds.length))).set q (.row 197 3 (ds.map DE.c++ex))) k)):R (cQ P g ms σ k) :=
 bX h (St.none_le σ) fun v σ' hv hf=>by
  obtain⟨m,l,q,ex,h1,h2,h3,rfl,rfl⟩:=hv
  have fr:∀j o,shS nx m l q cs ds ex j=some o→σ j=none:=fun j o hj=>by
   rcases hf j o hj with h|⟨o',h⟩
   ·exact h
   ·simp[St.none] at h
  have fm:=fr m (.mp (cEs cs)) (by simp[St.set,Ne.symm h1,Ne.symm h2])
  have fl:=fr l (shO nx m (.vec 3 q 0 ds.length)) (by simp[St.set,Ne.symm h3])
  have fq:=fr q _ (aJ _ _ _)
  rw[hE,a8,a8,a8,cT]
  exact hk m l q ex fm fl fq h1 h2 h3
abbrev bkS(m l q b:Nat)(B:BK)(ex:List (List MV)):St:=(shS B.nx m l q B.cards B.dead ex).set b (bL B.sq l (.lst 2 (B.gr.map GR.c) false))
structure kE (m l q b:Nat):Prop where
 lm:l≠m
 qm:q≠m
 ql:q≠l
 bm:b≠m
 bl:b≠l
 bq:b≠q
theorem aX{σ:St}{l k:Nat}{o:aW}:((σ.set l o) k=none)=(k≠l∧σ k=none):=propext ⟨fD,fun h=>(aM _ _ _ _ h.1).trans h.2⟩
end Go.Proofs.YtppdgejjmhdjhaaGreatDoor
