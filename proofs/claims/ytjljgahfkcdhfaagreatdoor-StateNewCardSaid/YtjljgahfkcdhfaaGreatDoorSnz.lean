/- Parts of the proof, joined. Each part says what it proves, and under which conditions it does: those that its theorems name. -/
import Derived.Test.YtjljgahfkcdhfaaGreatDoorSnv
import Derived.Test.YtjljgahfkcdhfaaGreatDoorSnw
set_option linter.unusedVariables false
set_option linter.unusedSimpArgs false
set_option maxHeartbeats 4000000
section
namespace Go.Proofs.YtjljgahfkcdhfaaGreatDoor
set_option maxRecDepth 100000
class Few (bs : BL) : Prop where
 h : bs.length ≤ 1000000
end Go.Proofs.YtjljgahfkcdhfaaGreatDoor
end

section
namespace Go.Proofs.YtjljgahfkcdhfaaGreatDoor
theorem pcompare_call (a b : List ND) (la : a.length ≤ 1000000) (lb : b.length ≤ 1000000) (ta tb : Bool) : MCalls Tryz.prog 83 [.lst 5 (a.map ND.c) ta, .lst 5 (b.map ND.c) tb] St.none (fun r _ => r = .int .i64 (ordI (cmpF a b))) := by
 refine (MCalls.body 8 [.tmp 4] Tryz.func83 rfl rfl rfl rfl ?_)
 have h := cmpfn_call 127 a b la lb ta tb (fun x y _ _ => pcmp1_call x y)
 repeat' (first | (with_reducible refine use_pure h ?_) | (with_reducible first | (refine wN fun nl hnl => ?_; revert hnl; (repeat refine wS fun _ _ => ?_); intro hnl) | refine wD (by decide +kernel) ?_ | refine wI (fun h => ?_) fun h => ?_ | refine wF (fun h => ?_) fun h => ?_ | refine wG (fun h => ?_) fun h => ?_ | refine wH (fun h => ?_) fun h => ?_ | ((first | refine mfork_bool (fun h => ?_) fun h => ?_ | refine mgfork_bool (fun h => ?_) fun h => ?_) <;> simp only [h])) | simp (maxSteps := 4000000) (disch := first | decide | assumption | omega | (simp only [wL]; omega)) only [go_sem, simprocAttr, Tryz.f83])
end Go.Proofs.YtjljgahfkcdhfaaGreatDoor
end
