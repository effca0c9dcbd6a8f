/- Parts of the proof, joined; conditions: those that its theorems name. -/
import Derived.Test.YtaojijkdamfbnaaGreatDoorMazi
set_option linter.unusedVariables false
set_option linter.unusedSimpArgs false
set_option maxHeartbeats 4000000
namespace Go.Proofs.YtaojijkdamfbnaaGreatDoor
section
set_option maxRecDepth 100000
set_option maxHeartbeats 8000000
theorem F2{B:BK}(h1:B.cards.length≤1000000)(h2:B.dead.length≤1000000)(h3:B.gr.length≤1000000)(h4:∀g,g∈B.gr→g.mem.length≤1000000)(h:kK B=true) :
  aA Tryz.prog 11 [.agg B.c] St.none (fun v σ'=>∃m l q b ex,iT m l q b∧v=.tup [.ptr b 0 0,.bool true]∧σ'=bkS m l q b B ex) :=
 (AR B h1 h2 h3 h4).mono fun v σ' q=>by
  rcases q with⟨_,q⟩|⟨q,_⟩
  ·exact q
  ·rw[h] at q;cases q
end

section
set_option maxRecDepth 100000
set_option maxHeartbeats 8000000
theorem yY{B:BK}(h1:B.cards.length≤1000000)(h2:B.dead.length≤1000000)(h3:B.gr.length≤1000000)(h4:∀g,g∈B.gr→g.mem.length≤1000000)(h:kK B=true) :
  aA Tryz.prog 11 [.agg B.c] St.none (fun v σ'=>∃m l q b,iT m l q b∧v=.tup [.ptr b 0 0,.bool true]∧σ'=bkS m l q b B []) :=
 aA.ghost ((F2 h1 h2 h3 h4 h).mono fun v σ' ⟨m,l,q,b,ex,D,hv,hσ⟩=>⟨v,bkS m l q b B [],by
  subst hσ
  have hq:bkS m l q b B ex q=some (.row 90 3 (B.dead.map DE.c++ex)):=by simp[St.set,Ne.symm D.bq]
  have e:bkS m l q b B []=(bkS m l q b B ex).set q (.row 90 3 (B.dead.map DE.c)):=by
   funext j
   by_cases h1:j=q
   ·subst h1;simp[St.set,Ne.symm D.bq]
   ·simp[St.set,h1]
  rw[e]
  exact bD.cut hq,m,l,q,b,D,hv,rfl⟩)
theorem FT{P:Program}{g:FuncId}{ms:List MV}{σ:St}{B:BK}{u:Nat→MV}{k:MV→St→Prop}(h:aA P g ms St.none fun v σ'=>∃m l q b,iT m l q b∧v=u b∧σ'=bkS m l q b B [])
 (hk:∀m l q b,σ m=none→σ l=none→σ q=none→σ b=none→iT m l q b→R (bR (u b) ((((σ.set m (.mp (cEs B.cards))).set l (shO B.nx m (.vec 3 q 0 B.dead.length))).set q (.row 90 3 (B.dead.map DE.c))).set b (bJ B.sq l (.lst 2 (B.gr.map GR.c) false))) k)):R (dA P g ms σ k) :=
 cE h (St.none_le σ) fun v σ' hv hf=>by
  obtain⟨m,l,q,b,D,rfl,rfl⟩:=hv
  have fr:∀j o,bkS m l q b B [] j=some o→σ j=none:=fun j o hj=>by
   rcases hf j o hj with h|⟨o',h⟩
   ·exact h
   ·simp[St.none] at h
  have fm:=fr m (.mp (cEs B.cards)) (by simp[St.set,Ne.symm D.lm,Ne.symm D.qm,Ne.symm D.bm])
  have fl:=fr l (shO B.nx m (.vec 3 q 0 B.dead.length)) (by simp[St.set,Ne.symm D.ql,Ne.symm D.bl])
  have fq:=fr q (.row 90 3 (B.dead.map DE.c++[])) (by simp[St.set,Ne.symm D.bq])
  have fb:=fr b _ (aK _ _ _)
  rw[hO,bZ,bZ,bZ,bZ,eC,List.append_nil]
  exact hk m l q b fm fl fq fb D
theorem rS(l:List ND)(hl:l.length≤1000000)(tt:Bool)(h:b9 l=0):aA Tryz.prog 12 [.lst 5 (l.map ND.c) tt] St.none (fun v σ'=>∃q,v=.ptr q 0 0∧σ'=St.none.set q (flD l false)):=Em l hl tt h
theorem Iw{m l q b f:Nat}{B:BK}{fl:List ND}{d:Bool}{σ:St}(hm:σ m=some (.mp (cEs B.cards)))(hl:σ l=some (shO B.nx m (.vec 3 q 0 B.dead.length)))(hq:σ q=some (.row 90 3 (B.dead.map DE.c)))(hb:σ b=some (bJ B.sq l (.lst 2 (B.gr.map GR.c) false)))(hf:σ f=some (flD fl d)):(bfS m l q b B f fl d).le σ :=
 St.aG (St.aG (St.aG (St.aG (St.aG (St.none_le _) hm) hl) (by rw[List.append_nil];exact hq)) hb) hf
theorem Iy{m l q b:Nat}{B:BK}{σ:St}(hm:σ m=some (.mp (cEs B.cards)))(hl:σ l=some (shO B.nx m (.vec 3 q 0 B.dead.length)))(hq:σ q=some (.row 90 3 (B.dead.map DE.c)))(hb:σ b=some (bJ B.sq l (.lst 2 (B.gr.map GR.c) false))):(bkS m l q b B []).le σ :=
 St.aG (St.aG (St.aG (St.aG (St.none_le _) hm) hl) (by rw[List.append_nil];exact hq)) hb
theorem KL{P:Program}{g:FuncId}{ms:List MV}{σ:St}{m l q b f:Nat}{B:BK}{fl:List ND}{d d':Bool}{r:MV}{k:MV→St→Prop}(h:aA P g ms (bfS m l q b B f fl d) fun v σ'=>v=r∧σ'=bfS m l q b B f fl d')(hle:(bfS m l q b B f fl d).le σ)(hk:R (bR r (σ.set f (flD fl d')) k)):R (dA P g ms σ k) :=
 cE h hle fun v σ' hv _=>by
  obtain⟨rfl,rfl⟩:=hv
  have e:(bfS m l q b B f fl d').over (σ.minus (bfS m l q b B f fl d))=σ.set f (flD fl d'):=by
   funext j
   by_cases hj:j=f
   ·subst hj;simp[St.over,St.set]
   ·have e1:bfS m l q b B f fl d' j=bkS m l q b B [] j:=aH _ _ _ _ hj
    have e2:bfS m l q b B f fl d j=bkS m l q b B [] j:=aH _ _ _ _ hj
    simp only[St.over,St.minus,e1,e2]
    rw[aH _ _ _ _ hj]
    cases hb:bkS m l q b B [] j with
    | none=>rfl
    | some o=>exact(hle j o (e2.trans hb)).symm
  rw[e];exact hk
theorem Mz{P:Program}{g:FuncId}{ms:List MV}{m l q b f:Nat}{B:BK}{fl:List ND}{d d':Bool}{r:MV}(h:aA P g ms (bfS m l q b B f fl d) fun v σ'=>v=r∧σ'=bfS m l q b B f fl d') :
  aA P g ms (St.ofList [f,b,q,l,m] [flD fl d,bJ B.sq l (.lst 2 (B.gr.map GR.c) false),.row 90 3 (B.dead.map DE.c),shO B.nx m (.vec 3 q 0 B.dead.length),.mp (cEs B.cards)]) fun v σ'=>v=r∧σ'=(St.ofList [f,b,q,l,m] [flD fl d,bJ B.sq l (.lst 2 (B.gr.map GR.c) false),.row 90 3 (B.dead.map DE.c),shO B.nx m (.vec 3 q 0 B.dead.length),.mp (cEs B.cards)]).set f (flD fl d'):=by
 have e:bfS m l q b B f fl d=St.ofList [f,b,q,l,m] [flD fl d,bJ B.sq l (.lst 2 (B.gr.map GR.c) false),.row 90 3 (B.dead.map DE.c),shO B.nx m (.vec 3 q 0 B.dead.length),.mp (cEs B.cards)]:=by
  simp only[bfS,bkS,shS,St.ofList,List.append_nil]
 rw[e] at h
 refine h.mono ?_
 rintro v σ' ⟨h1,rfl⟩
 refine⟨h1,funext fun j=>?_⟩
 by_cases hj:j=f<;>simp[St.ofList,St.set,hj]
theorem N5{P:Program}{g:FuncId}{ms:List MV}{m l q b:Nat}{B:BK}{r:MV}(h:aA P g ms (bkS m l q b B []) fun v σ'=>v=r∧σ'=bkS m l q b B []) :
  aA P g ms (St.ofList [b,q,l,m] [bJ B.sq l (.lst 2 (B.gr.map GR.c) false),.row 90 3 (B.dead.map DE.c),shO B.nx m (.vec 3 q 0 B.dead.length),.mp (cEs B.cards)]) fun v σ'=>v=r∧σ'=St.ofList [b,q,l,m] [bJ B.sq l (.lst 2 (B.gr.map GR.c) false),.row 90 3 (B.dead.map DE.c),shO B.nx m (.vec 3 q 0 B.dead.length),.mp (cEs B.cards)]:=by
 have e:bkS m l q b B []=St.ofList [b,q,l,m] [bJ B.sq l (.lst 2 (B.gr.map GR.c) false),.row 90 3 (B.dead.map DE.c),shO B.nx m (.vec 3 q 0 B.dead.length),.mp (cEs B.cards)]:=by
  simp only[bkS,shS,St.ofList,List.append_nil]
 rw[e] at h
 exact h
theorem IP{A:List Nat}:∀{l:List (FuncId × Fact)},(∀p,p∈l→∀x,x∈p.2.rd→x∈A)→∀g ms F,fnF l g ms=some F→∀x,x∈F.rd→x∈A
 | [],_=>fun g ms F h=>by simp[fnF] at h
 | (g',F')::r,h=>fun g ms F e x hx=>by
  simp only[fnF] at e
  split at e
  ·simp only[Option.some.injEq] at e
   subst e
   exact h _ (List.mem_cons_self ..) x hx
  ·exact IP (fun p hp=>h p (List.mem_cons_of_mem _ hp)) g ms F e x hx
theorem Kw(B:BK)(fl:List ND)(id:Int):o8 B fl id=((shown B fl id).getD ca0,(shown B fl id).isSome):=by
 unfold o8 gH shown
 cases h:B.cards.find? (fun c=>decide (c.id=id)) with
 | none =>
  simp only
  rw[if_neg]
  ·rfl
  ·rintro⟨h1,_⟩
   split at h1<;>cases h1
 | some c =>
  by_cases h2:cU B.gr fl c=true<;>simp[h2]
theorem IY(B:BK)(fl:List ND):(shC B fl).map idX=(Bh B fl).map aS:=by
 rw[Bi,List.map_map];rfl
end

section
set_option maxRecDepth 100000
set_option maxHeartbeats 8000000
theorem NK{P:Program}{g:FuncId}{ms:List MV}{σ:St}{o:aY}{u:Nat→MV}{k:MV→St→Prop}(h:aA P g ms σ fun v σ'=>∃q,v=u q∧σ'=St.none.set q o)(hk:∀q,R (bR (u q) (St.none.set q o) k)):R (dA P g ms σ k) :=
 h.mono fun v σ' ⟨q,hv,hσ⟩=>by subst hv;subst hσ;exact hk q
theorem bD.L2{v:MV}{q:Nat}{t:TypeId}{e:Nat}(pre post:List MV)(e':Nat)(tr:Bool):bD ⟨1,[(0,v)],[]⟩ (St.none.set q (.row t e [pre++.a8::post])) ⟨1,[(0,v)],[]⟩ (St.none.set q (.row t e [pre++.lst e' [] tr::post])):=by
 refine bD.tI St.none (St.none_le _) (fun k o1 hk=>?_) (fun k o hk=>rfl) (fun p hp=>by simp at hp;subst hp;exact .same _)
 by_cases e1:k=q
 ·subst e1
  rw[aK] at hk
  cases hk
  refine⟨_,aK _ _ _,.inr ⟨t,e,_,_,rfl,rfl,rfl,fun i x x1 hx hx1=>?_⟩⟩
  match i with
  | 0 =>
   simp only[List.getElem?_cons_zero,Option.some.injEq] at hx hx1
   subst hx hx1
   refine⟨by simp,fun j a b ha hb=>?_⟩
   by_cases hj:j<pre.length
   ·rw[List.getElem?_append_left hj] at ha hb
    rw[ha] at hb;cases hb
    exact .inl rfl
   ·rw[List.getElem?_append_right (by omega)] at ha hb
    match hk:j - pre.length with
    | 0 =>
     rw[hk] at ha hb
     simp only[List.getElem?_cons_zero,Option.some.injEq] at ha hb
     subst ha hb
     exact .inr ⟨rfl,.nil _ _⟩
    | k+1 =>
     rw[hk] at ha hb
     simp only[List.getElem?_cons_succ] at ha hb
     rw[ha] at hb;cases hb
     exact .inl rfl
  | i+1=>simp at hx
 ·exact absurd hk (by rw[aH _ _ _ _ e1];exact fun h=>by cases h)
theorem yR{σ:St}{a b a':MV}(h:View σ a a'):View σ (.tup [a,b]) (.tup [a',b]):=.tup rfl fun i m m' hm hm'=>by
 match i with
 | 0=>simp at hm hm';subst hm;subst hm';exact h
 | 1=>simp at hm hm';subst hm;subst hm';exact .same _
 | i+2=>simp at hm
theorem Eu(x:Int)(h1:1≤x)(h2:x<1073741824)(t:Bool):aA Tryz.prog 155 [.lst 1 [] t,.int .i64 x] St.none (fun r _=>r=.lst 1 [aS x] false):=by
 refine aA.cD (aA.body 30 [.tmp 4] Tryz.func155 rfl rfl rfl rfl ?_)
 have hb:=B9 [] (Nat.zero_le _) List.Pairwise.nil x t
 have hc:=vV 1 t true
 simp only[List.map_nil,List.not_mem_nil,decide_false,k9,List.filter_nil,List.length_nil] at hb
 repeat' (first|(refine aL hb ?_)|(refine aL hc ?_)|(with_reducible first|(refine wN fun _ hnl=>?_;revert hnl;(repeat refine wS fun _ _=>?_);intro hnl)|refine wE ?_|(refine wK ?_ ?_<;>intro h)|(refine wB ?_ ?_<;>intro h<;>simp only[h]))|simp(maxSteps:=4000000) (disch:=first|exact ddL|fail) only[go_sem,simprocAttr,Tryz.f155])
 refine fG (Er x) ?_
 repeat' (first|(with_reducible first|(refine wN fun _ hnl=>?_;revert hnl;(repeat refine wS fun _ _=>?_);intro hnl)|refine wE ?_|(refine wK ?_ ?_<;>intro h)|(refine wB ?_ ?_<;>intro h<;>simp only[h]))|simp(maxSteps:=4000000) (disch:=first|exact ddL|fail) only[go_sem,simprocAttr])
 all_goals first|exact⟨_,St.le_refl _,rfl⟩|exact⟨_,St.le_refl _⟩
theorem Ck(g:Int)(h1:0≤g)(h2:g<16)(t:Bool):aA Tryz.prog 114 [.lst 2 [] t,.int .i64 g] St.none (fun r _=>r=.tup [.lst 2 [(GR.mk g []).c] false,.int .i64 0]):=by
 refine aA.gh (aA.body 28 [.tmp 4,.tmp 5] Tryz.func114 rfl rfl rfl rfl ?_)
 have hb:=uO [] (Nat.zero_le _) List.Pairwise.nil g t
 have hc:=wZ t true
 simp only[List.map_nil,List.not_mem_nil,decide_false,k9,List.filter_nil,List.length_nil] at hb
 repeat' (first|(refine aL hb ?_)|(refine aL hc ?_)|(with_reducible first|(refine wN fun _ hnl=>?_;revert hnl;(repeat refine wS fun _ _=>?_);intro hnl)|refine wE ?_|(refine wK ?_ ?_<;>intro h)|(refine wB ?_ ?_<;>intro h<;>simp only[h]))|simp(maxSteps:=4000000) (disch:=first|exact ddL|fail) only[go_sem,simprocAttr,Tryz.f114])
 refine NK (Ep _ ⟨_,rfl⟩) fun q=>?_
 repeat' (first|(with_reducible first|(refine wN fun _ hnl=>?_;revert hnl;(repeat refine wS fun _ _=>?_);intro hnl)|refine wE ?_|(refine wK ?_ ?_<;>intro h)|(refine wB ?_ ?_<;>intro h<;>simp only[h]))|simp(maxSteps:=4000000) (disch:=first|exact ddL|fail) only[go_sem,simprocAttr])
 refine .step (bD.L2 [.int .i64 g] [] 1 false) (.of (bD.freeze (l1:=[(0,.tup [.lst 2 [(GR.mk g []).c] false,.int .i64 0])]) (St.none.set q (.row 94 2 [(GR.mk g []).c])) (St.le_refl _) (St.none_le _) (fun k o hk=>by cases hk) (fun p hp=>?_)) ⟨_,rfl,rfl⟩)
 simp only[List.mem_singleton] at hp
 subst hp
 exact yR (View.vecAll (aK _ _ _) rfl)
end

section
open Go.ChangeShapes Go.WideShapes Go.RowKit
set_option maxRecDepth 100000
theorem Oj{n:Nat}{x:List MV}(h:CT Tryz.prog (n+2) 46 x):∃l:List Int,x=[.lst 1 (l.map aS) false]:=by
 obtain⟨xs,hm,_,hx⟩:=mF (by rw[NH]) h
 obtain⟨l,rfl⟩:=mN (f:=aS) fun x hx'=>(pU (hx x hx')).imp fun _ h=>h.1
 rw[td3] at hm
 exact⟨l,hm⟩
theorem Nq{n:Nat}{x:List MV}(h:CT Tryz.prog (n+5) 22 x):∃l:List CA,x=[.lst 27 (l.map CA.c) false]:=by
 obtain⟨xs,hm,_,hx⟩:=mF (by rw[NB]) h
 obtain⟨l,rfl⟩:=mN fun x hx'=>Oh (hx x hx')
 rw[KF] at hm
 exact⟨l,hm⟩
theorem Oi{n:Nat}{x:List MV}(h:CT Tryz.prog (n+2) 90 x):∃d:DE,x=d.c:=by
 obtain⟨hl,hf⟩:=gW (congrArg TD.k Mn) h
 rw[Mn] at hl
 obtain⟨a,ha,_⟩:=pU (hf (0,3) (by simp))
 obtain⟨b,hb,_⟩:=pU (hf (1,3) (by simp))
 obtain⟨c,hc,_⟩:=pU (hf (2,3) (by simp))
 simp only[td3] at ha hb hc
 refine⟨⟨a,b,c⟩,?_⟩
 rw[kJ hl [(0,1),(1,1),(2,1)] rfl]
 simp only[rC,ha,hb,hc]
 rfl
theorem Nr{n:Nat}{x:List MV}(h:CT Tryz.prog (n+3) 23 x):∃l:List DE,x=[.lst 3 (l.map DE.c) false]:=by
 obtain⟨xs,hm,_,hx⟩:=mF (by rw[NC]) h
 obtain⟨l,rfl⟩:=mN fun x hx'=>Oi (hx x hx')
 rw[Mn] at hm
 exact⟨l,hm⟩
theorem Ns{n:Nat}{x:List MV}(h:CT Tryz.prog (n+3) 94 x):∃g:GR,x=g.c:=by
 obtain⟨hl,hf⟩:=gW (congrArg TD.k Mo) h
 rw[Mo] at hl
 obtain⟨a,ha,_⟩:=pU (hf (0,3) (by simp))
 obtain⟨b,hb⟩:=Oj (hf (1,46) (by simp))
 simp only[td3,NH] at ha hb
 refine⟨⟨a,b⟩,?_⟩
 rw[kJ hl [(0,1),(1,1)] rfl]
 simp only[rC,ha,hb]
 rfl
theorem L8{n:Nat}{x:List MV}(h:CT Tryz.prog (n+4) 24 x):∃l:List GR,x=[.lst 2 (l.map GR.c) false]:=by
 obtain⟨xs,hm,_,hx⟩:=mF (by rw[NF]) h
 obtain⟨l,rfl⟩:=mN fun x hx'=>Ns (hx x hx')
 rw[Mo] at hm
 exact⟨l,hm⟩
theorem Og{n:Nat}{x:List MV}(h:CT Tryz.prog (n+6) 26 x):∃b:BK,x=b.c:=by
 obtain⟨hl,hf⟩:=gW (congrArg TD.k Mk) h
 rw[Mk] at hl
 obtain⟨a,ha,_⟩:=pU (hf (0,3) (by simp))
 obtain⟨b,hb,_⟩:=pU (hf (1,3) (by simp))
 obtain⟨c,hc⟩:=Nq (hf (2,22) (by simp))
 obtain⟨d,hd⟩:=Nr (hf (3,23) (by simp))
 obtain⟨g,hg⟩:=L8 (hf (4,24) (by simp))
 simp only[td3,NB,NC,NF] at ha hb hc hd hg
 refine⟨⟨a,b,c,d,g⟩,?_⟩
 rw[kJ hl [(0,1),(1,1),(2,1),(3,1),(4,1)] rfl]
 simp only[rC,ha,hb,hc,hd,hg]
 rfl
end

section
set_option maxRecDepth 100000
theorem oset{n:Nat}{x:List MV}(h:CT Tryz.prog (n+7) 30 x):∃s:SET,x=s.c:=by
 obtain⟨hl,hf⟩:=gW (congrArg TD.k Ml) h
 rw[Ml] at hl
 obtain⟨b,hb⟩:=Og (hf (0,26) (by simp))
 obtain⟨l,hh⟩:=Nt (hf (5,27) (by simp))
 obtain⟨u,hu⟩:=Om (hf (6,28) (by simp))
 obtain⟨a,ha,_⟩:=pU (hf (7,3) (by simp))
 simp only[Mk,NG,EK,td3] at hb hh hu ha
 refine⟨⟨b,l,u,a⟩,?_⟩
 rw[kJ hl [(0,5),(5,1),(6,1),(7,1)] rfl]
 simp only[rC,hb,hh,hu,ha]
 rfl
theorem OU{m:MV}(h:AT Tryz.prog 10 30 m):∃s:SET,m=.agg s.c:=by
 obtain⟨cs,rfl,h1⟩:=M0 (by rw[Ml];rfl) h
 obtain⟨x,rfl⟩:=oset (n:=3) h1
 exact⟨x,rfl⟩
theorem OT{m:MV}(h:AT Tryz.prog 10 3 m):∃n:Int,m=.int .i64 n:=by
 obtain⟨n,hn,_⟩:=Dh (by rw[td3]) (K3 (by rw[td3];rfl) h)
 exact⟨n,K6 hn⟩
end
end Go.Proofs.YtaojijkdamfbnaaGreatDoor
