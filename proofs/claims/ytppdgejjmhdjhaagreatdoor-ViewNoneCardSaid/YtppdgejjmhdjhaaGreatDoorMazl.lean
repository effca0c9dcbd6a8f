/- Parts of the proof, joined; conditions: those that its theorems name. -/
import Derived.Test.YtppdgejjmhdjhaaGreatDoorMazk
set_option linter.unusedVariables false
set_option linter.unusedSimpArgs false
set_option maxHeartbeats 4000000
namespace Go.Proofs.YtppdgejjmhdjhaaGreatDoor
set_option maxRecDepth 100000
set_option maxHeartbeats 8000000
theorem rH(a b c d:Int):aA Tryz.prog 4 [.agg [.int .i64 a,.int .i64 b,.int .i64 c,.int .i64 d]] St.none (fun r _=>r=.bool true):=by
 refine aA.dF (aA.body 71 [.tmp 2] Tryz.func4 rfl rfl rfl rfl ?_)
 have haw:=tR
 have h1:=fun l=>BG .nilp l
 have h2:=BH d
 have h3:=fun x y z=>zG x y z
 have h4:=sE
 have h5:=EK
 have h6:=zH
 have h7:=EL
 have h8:=BC
 have h9:=BE
 repeat' (first|((refine tJ (h1 _) ?_;intro r1 _))|((refine tJ h2 ?_;intro r2 _))|(refine aT (h3 _ _ _) ?_)|(refine aT h4 ?_)|(refine aT h5 ?_)|(refine aT h6 ?_)|(refine aT h7 ?_)|(refine aT h8 ?_)|(refine aT h9 ?_)|(refine aT haw ?_)|(with_reducible first|(refine wN fun _ hnl=>?_;revert hnl;(repeat refine wS fun _ _=>?_);intro hnl)|refine wE ?_|(refine wK ?_ ?_<;>intro h)|(refine wB ?_ ?_<;>intro h<;>simp only[h]))|simp(maxSteps:=4000000) (disch:=first|exact ddL|fail) only[go_sem,simprocAttr,Tryz.f4,FXs])
 all_goals first|exact⟨_,St.le_refl _,rfl⟩|exact⟨_,St.le_refl _⟩|trace_state
end Go.Proofs.YtppdgejjmhdjhaaGreatDoor
