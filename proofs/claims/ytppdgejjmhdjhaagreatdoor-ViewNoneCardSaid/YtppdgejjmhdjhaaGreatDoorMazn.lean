/- Parts of the proof, joined; conditions: those that its theorems name. -/
import Derived.Test.YtppdgejjmhdjhaaGreatDoorMazl
import Derived.Test.YtppdgejjmhdjhaaGreatDoorMazm
set_option linter.unusedVariables false
set_option linter.unusedSimpArgs false
set_option maxHeartbeats 4000000
namespace Go.Proofs.YtppdgejjmhdjhaaGreatDoor
set_option maxRecDepth 100000
structure ASK where
 frm:Int
 cur:Int
 page:Int
 trim:Int
abbrev ASK.c(q:ASK):List MV:=[.int .i64 q.frm,.int .i64 q.cur,.int .i64 q.page,.int .i64 q.trim]
theorem sK(q:ASK):aA Tryz.prog 4 [.agg q.c] St.none (fun r _=>r=.bool true):=rH q.frm q.cur q.page q.trim
theorem Lr{n:Nat}{x:List MV}(h:CT Tryz.prog (n+2) 28 x):∃d:ASK,x=d.c:=by
 obtain⟨hl,hf⟩:=C8 (congrArg TD.k Ja) h
 rw[Ja] at hl
 obtain⟨a,ha,_⟩:=IY (hf (0,3) (by simp))
 obtain⟨b,hb,_⟩:=IY (hf (1,3) (by simp))
 obtain⟨c,hc,_⟩:=IY (hf (2,3) (by simp))
 obtain⟨d,hd,_⟩:=IY (hf (3,3) (by simp))
 simp only[td3] at ha hb hc hd
 refine⟨⟨a,b,c,d⟩,?_⟩
 rw[I6 hl [(0,1),(1,1),(2,1),(3,1)] rfl]
 simp only[EP,ha,hb,hc,hd]
 rfl
theorem Li{m:MV}(h:AT Tryz.prog 10 28 m):∃s:ASK,m=.agg s.c:=by
 obtain⟨cs,rfl,h1⟩:=JC (by rw[Ja];rfl) h
 obtain⟨x,rfl⟩:=Lr (n:=8) h1
 exact⟨x,rfl⟩
end Go.Proofs.YtppdgejjmhdjhaaGreatDoor
