/- Parts of the proof, joined. Each part says what it proves, and under which conditions it does: those that its theorems name. -/
import Derived.Test.YtjljgahfkcdhfaaGreatDoorSni
set_option linter.unusedVariables false
set_option linter.unusedSimpArgs false
set_option maxHeartbeats 4000000
section
namespace Go.Proofs.YtjljgahfkcdhfaaGreatDoor
theorem Sk.cond {α : Type} {f : RD → α × RD} (h : Sk f) (d : α) (b : Bool) : Sk (fun r => if b = true then f r else (d, r)) := ⟨fun r hr => by
 cases b
 ·rfl
 ·simpa using h.stk r hr, fun r => by
 cases b
 ·exact List.suffix_refl _
 ·simpa using h.sfx r⟩
theorem Rt.cond {α : Type} {f : RD → α × RD} {ok : α → Prop} {w : α → BL} (h : Rt f ok w) (d : α) (b : Bool) : Rt (fun r => if b = true then f r else (d, r)) (fun x => if b = true then ok x else x = d) (fun x => if b = true then w x else []) where
 fwd x l hx := by
  cases b
  ·simp only [Bool.false_eq_true, if_false, List.nil_append] at hx ⊢; rw [hx]
  ·simp only [if_true] at hx ⊢; exact h.fwd x l hx
 bck r hr := by
  cases b
  ·exact ⟨by simpa using hr, by simp, by simp⟩
  ·simp only [if_true] at hr ⊢; exact h.bck r hr
end Go.Proofs.YtjljgahfkcdhfaaGreatDoor
end

section
namespace Go.Proofs.YtjljgahfkcdhfaaGreatDoor
section
variable {α : Type} {f : RD → α × RD} {ok : α → Prop} {w : α → BL}
end
section
variable {c : Prop} [Decidable c] {e : Int} {r : RD} {l : BL}
end
theorem u32_zero {x : UInt32} : x = 0 ↔ x.toNat = 0 := ⟨fun h => by rw [h]; rfl, fun h => UInt32.toNat_inj.1 (by rw [h]; rfl)⟩
end Go.Proofs.YtjljgahfkcdhfaaGreatDoor
end
