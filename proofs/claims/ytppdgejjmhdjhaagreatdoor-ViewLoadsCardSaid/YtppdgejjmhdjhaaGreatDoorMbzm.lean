/- Parts of the proof, joined; conditions: those that its theorems name. -/
import Derived.Test.YtppdgejjmhdjhaaGreatDoorMbzk
set_option linter.unusedVariables false
set_option linter.unusedSimpArgs false
set_option maxHeartbeats 4000000
namespace Go.Proofs.YtppdgejjmhdjhaaGreatDoor
section
set_option maxRecDepth 100000
set_option maxHeartbeats 8000000
theorem L5{P:Program}{g:FuncId}{ms:List MV}{σ τ:St}{m l b:Nat}{om ol ob:aW}{r:MV}{k:MV→St→Prop}(h:aA P g ms τ fun v σ'=>v=r∧σ'=((τ.set m om).set l ol).set b ob)(hle:τ.le σ)(hk:R (bQ r (((σ.set m om).set l ol).set b ob) k)):R (cQ P g ms σ k) :=
 bX h hle fun v σ' hv _=>by
  obtain⟨rfl,rfl⟩:=hv
  rw[a8,a8,a8,o5 hle];exact hk
abbrev mlb(m l b:Nat)(om ol ob:aW):St:=((St.none.set m om).set l ol).set b ob
theorem OF{m l b:Nat}{om ol ob om' ol' ob':aW}:mlb m l b om' ol' ob'=(((mlb m l b om ol ob).set m om').set l ol').set b ob':=by
 funext j
 by_cases h1:j=b
 ·simp[St.set,h1]
 ·by_cases h2:j=l
  ·simp[St.set,h1,h2]
  ·by_cases h3:j=m<;>simp[St.set,h1,h2,h3]
theorem OG{σ:St}{m l b:Nat}{om ol ob:aW}(hm:σ m=some om)(hl:σ l=some ol)(hb:σ b=some ob):(mlb m l b om ol ob).le σ:=St.aD (St.aD (St.aD (St.none_le _) hm) hl) hb
end

section
open Go.ChangeShapes Go.WideShapes Go.RowKit
set_option maxRecDepth 100000
theorem PK{n:Nat}{x:List MV}(h:CT Tryz.prog (n+2) 75 x):∃l:List Int,x=[.lst 1 (l.map aP) false]:=by
 obtain⟨xs,hm,_,hx⟩:=kN (by rw[OY]) h
 obtain⟨l,rfl⟩:=kS (f:=aP) fun x hx'=>(mR (hx x hx')).imp fun _ h=>h.1
 rw[td3] at hm
 exact⟨l,hm⟩
theorem OJ{n:Nat}{x:List MV}(h:CT Tryz.prog (n+5) 35 x):∃l:List CA,x=[.lst 27 (l.map CA.c) false]:=by
 obtain⟨xs,hm,_,hx⟩:=kN (by rw[OV]) h
 obtain⟨l,rfl⟩:=kS fun x hx'=>N2 (hx x hx')
 rw[wU] at hm
 exact⟨l,hm⟩
theorem PJ{n:Nat}{x:List MV}(h:CT Tryz.prog (n+2) 197 x):∃d:DE,x=d.c:=by
 obtain⟨hl,hf⟩:=fX (congrArg TD.k GL) h
 rw[GL] at hl
 obtain⟨a,ha,_⟩:=mR (hf (0,3) (by simp))
 obtain⟨b,hb,_⟩:=mR (hf (1,3) (by simp))
 obtain⟨c,hc,_⟩:=mR (hf (2,3) (by simp))
 simp only[td3] at ha hb hc
 refine⟨⟨a,b,c⟩,?_⟩
 rw[jG hl [(0,1),(1,1),(2,1)] rfl]
 simp only[qF,ha,hb,hc]
 rfl
theorem OK{n:Nat}{x:List MV}(h:CT Tryz.prog (n+3) 36 x):∃l:List DE,x=[.lst 3 (l.map DE.c) false]:=by
 obtain⟨xs,hm,_,hx⟩:=kN (by rw[OW]) h
 obtain⟨l,rfl⟩:=kS fun x hx'=>PJ (hx x hx')
 rw[GL] at hm
 exact⟨l,hm⟩
theorem OL{n:Nat}{x:List MV}(h:CT Tryz.prog (n+3) 200 x):∃g:GR,x=g.c:=by
 obtain⟨hl,hf⟩:=fX (congrArg TD.k GM) h
 rw[GM] at hl
 obtain⟨a,ha,_⟩:=mR (hf (0,3) (by simp))
 obtain⟨b,hb⟩:=PK (hf (1,75) (by simp))
 simp only[td3,OY] at ha hb
 refine⟨⟨a,b⟩,?_⟩
 rw[jG hl [(0,1),(1,1)] rfl]
 simp only[qF,ha,hb]
 rfl
theorem Nw{n:Nat}{x:List MV}(h:CT Tryz.prog (n+4) 39 x):∃l:List GR,x=[.lst 2 (l.map GR.c) false]:=by
 obtain⟨xs,hm,_,hx⟩:=kN (by rw[OX]) h
 obtain⟨l,rfl⟩:=kS fun x hx'=>OL (hx x hx')
 rw[GM] at hm
 exact⟨l,hm⟩
theorem PI{n:Nat}{x:List MV}(h:CT Tryz.prog (n+6) 47 x):∃b:BK,x=b.c:=by
 obtain⟨hl,hf⟩:=fX (congrArg TD.k NK) h
 rw[NK] at hl
 obtain⟨a,ha,_⟩:=mR (hf (0,3) (by simp))
 obtain⟨b,hb,_⟩:=mR (hf (1,3) (by simp))
 obtain⟨c,hc⟩:=OJ (hf (2,35) (by simp))
 obtain⟨d,hd⟩:=OK (hf (3,36) (by simp))
 obtain⟨g,hg⟩:=Nw (hf (4,39) (by simp))
 simp only[td3,OV,OW,OX] at ha hb hc hd hg
 refine⟨⟨a,b,c,d,g⟩,?_⟩
 rw[jG hl [(0,1),(1,1),(2,1),(3,1),(4,1)] rfl]
 simp only[qF,ha,hb,hc,hd,hg]
 rfl
theorem PM{n:Nat}{x:List MV}(h:CT Tryz.prog (n+5) 128 x):∃t:TU,x=t.c:=by
 obtain⟨hl,hf⟩:=fX (congrArg TD.k DA) h
 rw[DA] at hl
 obtain⟨a,ha,_⟩:=mR (hf (0,3) (by simp))
 obtain⟨b,hb,_⟩:=mR (hf (1,3) (by simp))
 obtain⟨c,hc,_⟩:=mR (hf (2,3) (by simp))
 obtain⟨d,hd,_⟩:=mR (hf (3,3) (by simp))
 obtain⟨e,he⟩:=N2 (hf (4,126) (by simp))
 simp only[td3,wU] at ha hb hc hd he
 refine⟨⟨a,b,c,d,e⟩,?_⟩
 rw[jG hl [(0,1),(1,1),(2,1),(3,1),(4,27)] rfl]
 simp only[qF,ha,hb,hc,hd,he,List.append_nil]
 rfl
theorem ON{n:Nat}{x:List MV}(h:CT Tryz.prog (n+6) 77 x):∃l:List TU,x=[.lst 31 (l.map TU.c) false]:=by
 obtain⟨xs,hm,_,hx⟩:=kN (by rw[NL]) h
 obtain⟨l,rfl⟩:=kS fun x hx'=>PM (hx x hx')
 rw[DA] at hm
 exact⟨l,hm⟩
end
end Go.Proofs.YtppdgejjmhdjhaaGreatDoor
