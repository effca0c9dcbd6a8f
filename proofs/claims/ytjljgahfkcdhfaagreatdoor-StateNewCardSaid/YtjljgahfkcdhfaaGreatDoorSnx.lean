/- Parts of the proof, joined. Each part says what it proves, and under which conditions it does: those that its theorems name. -/
import Derived.Test.YtjljgahfkcdhfaaGreatDoorSnh
set_option linter.unusedVariables false
set_option linter.unusedSimpArgs false
set_option maxHeartbeats 4000000
section
namespace Go.Proofs.YtjljgahfkcdhfaaGreatDoor
def T.depth : T → Nat
 | .leaf _ => 1
 | .one _ a => 1 + a.depth
 | .two _ a b => 1 + max a.depth b.depth
end Go.Proofs.YtjljgahfkcdhfaaGreatDoor
end

section
namespace Go.Proofs.YtjljgahfkcdhfaaGreatDoor
theorem cmpF_eq : ∀ {a b : List ND}, cmpF a b = .eq ↔ a = b
 | [], [] => by simp [cmpF]
 | [], _ :: _ => by simp [cmpF]
 | _ :: _, [] => by simp [cmpF]
 | a :: x, b :: y => by
  rw [cmpF_cons]
  constructor
  ·intro h
   split at h
   ·rename_i h1; rw [ND.key_inj (cmpL_eq.1 h1), cmpF_eq.1 h]
   ·contradiction
  ·intro h
   simp only [List.cons.injEq] at h
   rw [h.1, h.2, if_pos (cmpL_refl _)]
   exact cmpF_eq.2 rfl
end Go.Proofs.YtjljgahfkcdhfaaGreatDoor
end
