/- Parts of the proof; conditions: as its theorems name them. -/
import Derived.Test.YtppdgejjmhdjhaaGreatDoorMazk
set_option linter.unusedVariables false
set_option linter.unusedSimpArgs false
set_option maxHeartbeats 8000000
set_option maxRecDepth 100000
namespace Go.Proofs.YtppdgejjmhdjhaaGreatDoor
section
theorem QY{n:Nat}{x:List MV}(h:CT Tryz.prog (n+6) 24 x):∃l:List ED,x=[.lst 29 (l.map ED.c) false]:=by
 obtain⟨xs,hm,_,hx⟩:=Fm (by rw[VR]) h
 obtain⟨l,rfl⟩:=F7 fun x hx'=>WH (hx x hx')
 rw[Um] at hm
 exact⟨l,hm⟩
theorem Xt{n:Nat}{x:List MV}(h:CT Tryz.prog (n+7) 26 x):∃s:RU,x=s.c:=by
 obtain⟨hl,hf⟩:=lN (congrArg TD.k Uk) h
 rw[Uk] at hl
 obtain⟨l,hh⟩:=VD (hf (0,22) (by simp))
 obtain⟨u,hu⟩:=VF (hf (1,23) (by simp))
 obtain⟨a,ha⟩:=QY (hf (2,24) (by simp))
 obtain⟨b,hb⟩:=QY (hf (3,24) (by simp))
 simp only[VQ,KA,VR] at hh hu ha hb
 refine⟨⟨l,u,a,b⟩,?_⟩
 rw[oS hl [(0,1),(1,1),(2,1),(3,1)] rfl]
 simp only[yK,hh,hu,ha,hb]
 rfl
theorem Xk{m:MV}(h:AT Tryz.prog 10 26 m):∃s:RU,m=.agg s.c:=by
 obtain⟨cs,rfl,h1⟩:=O0 (by rw[Uk];rfl) h
 obtain⟨x,rfl⟩:=Xt (n:=3) h1
 exact⟨x,rfl⟩
end

section
theorem yL(x:RU)(q:ASK):aA Tryz.prog 3 [.agg x.c,.agg q.c] St.none (fun r _=>r=.bool true):=xC x q.frm q.cur q.page q.trim
end
end Go.Proofs.YtppdgejjmhdjhaaGreatDoor
