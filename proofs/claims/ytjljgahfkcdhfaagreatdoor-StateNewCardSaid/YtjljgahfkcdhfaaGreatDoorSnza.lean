/- Parts of the proof, joined. Each part says what it proves, and under which conditions it does: those that its theorems name. -/
import Derived.Test.YtjljgahfkcdhfaaGreatDoorSny
import Derived.Test.YtjljgahfkcdhfaaGreatDoorSnz
set_option linter.unusedVariables false
set_option linter.unusedSimpArgs false
set_option maxHeartbeats 4000000
namespace Go.Proofs.YtjljgahfkcdhfaaGreatDoor
set_option maxRecDepth 100000
set_option maxHeartbeats 4000000
theorem ppcheck1_call (x : ND) : MCalls Tryz.prog 111 [.agg x.c] St.none (fun r _ => r = .bool (!ndOk x)) := by
 refine MCalls.drops (MCalls.body 6 [.tmp 2] Tryz.func111 rfl rfl rfl rfl ?_)
 have h := pnode_call x
 repeat' (first | (with_reducible first | refine up h ?_) | (with_reducible first | (refine wN fun _ hnl => ?_; revert hnl; (repeat refine wS fun _ _ => ?_); intro hnl) | refine wE ?_ | (refine wK ?_ ?_ <;> intro h) | (refine wB ?_ ?_ <;> intro h <;> simp only [h])) | simp (maxSteps := 4000000) (disch := first | decide | assumption | omega | (simp only [wL]; omega)) only [go_sem, simprocAttr, Tryz.f111])
 all_goals first | exact ⟨_, St.le_refl _, rfl⟩ | exact ⟨_, St.le_refl _⟩
theorem ppcheck_call (l : List ND) (hl : l.length ≤ 1000000) (t : Bool) : MCalls Tryz.prog 61 [.lst 5 (l.map ND.c) t] St.none (fun r _ => r = .int .i64 (predErr l)) := by
 refine (MCalls.body 25 [.tmp 2] Tryz.func61 rfl rfl rfl rfl ?_)
 have hc := contains_call (fun x => !ndOk x) 111 l hl t (fun x _ => ppcheck1_call x)
 have hd := pdepth_call l hl t
 have he := pend_call l hl t 0
 have hall : (l.any fun x => !ndOk x) = !l.all ndOk := by
  rw [Bool.eq_iff_iff]
  simp
 rw [hall] at hc
 have hlen : l.length = 0 ↔ l = [] := List.length_eq_zero_iff
 obtain ⟨al, hal⟩ : ∃ b, l.all ndOk = b := ⟨_, rfl⟩
 obtain ⟨dd, hdd⟩ : ∃ d, depthS l = d := ⟨_, rfl⟩
 obtain ⟨ee, hee⟩ : ∃ d, endS l 0 = d := ⟨_, rfl⟩
 have e : predErr l = if 31 < l.length then 4 else if l.length = 0 ∨ ee ≠ l.length ∨ al = false then 1 else if 8 < dd then 5 else 0 := by
  unfold predErr; rw [hal, hdd, hee]; simp only [hlen]
 rw [e]
 rw [hal] at hc
 rw [hdd] at hd
 rw [hee] at he
 clear e hlen hall hal hdd hee
 by_cases h31 : 31 < l.length
 ·rw [if_pos h31]
  repeat' (first | (with_reducible first | (refine wN fun _ hnl => ?_; revert hnl; (repeat refine wS fun _ _ => ?_); intro hnl) | refine wE ?_ | (refine wK ?_ ?_ <;> intro h) | (refine wB ?_ ?_ <;> intro h <;> simp only [h])) | simp (maxSteps := 4000000) (disch := first | decide | assumption | omega | (simp only [wL]; omega)) only [go_sem, simprocAttr, Tryz.f61])
 ·rw [if_neg h31]
  by_cases h0 : l.length = 0
  ·rw [if_pos (.inl h0)]
   repeat' (first | (with_reducible first | refine up he ?_) | (with_reducible first | (refine wN fun _ hnl => ?_; revert hnl; (repeat refine wS fun _ _ => ?_); intro hnl) | refine wE ?_ | (refine wK ?_ ?_ <;> intro h) | (refine wB ?_ ?_ <;> intro h <;> simp only [h])) | simp (maxSteps := 4000000) (disch := first | decide | assumption | omega | (simp only [wL]; omega)) only [go_sem, simprocAttr, Tryz.f61])
  ·by_cases h1 : ee = l.length
   ·subst h1
    cases al
    ·rw [if_pos (.inr (.inr rfl))]
     repeat' (first | (with_reducible first | refine up he ?_ | refine up hc ?_) | (with_reducible first | (refine wN fun _ hnl => ?_; revert hnl; (repeat refine wS fun _ _ => ?_); intro hnl) | refine wE ?_ | (refine wK ?_ ?_ <;> intro h) | (refine wB ?_ ?_ <;> intro h <;> simp only [h])) | simp (maxSteps := 4000000) (disch := first | decide | assumption | omega | (simp only [wL]; omega)) only [go_sem, simprocAttr, Tryz.f61])
    ·rw [if_neg (by simp [h0])]
     by_cases h8 : 8 < dd
     ·rw [if_pos h8]
      repeat' (first | (with_reducible first | refine up he ?_ | refine up hc ?_ | refine up hd ?_) | (with_reducible first | (refine wN fun _ hnl => ?_; revert hnl; (repeat refine wS fun _ _ => ?_); intro hnl) | refine wE ?_ | (refine wK ?_ ?_ <;> intro h) | (refine wB ?_ ?_ <;> intro h <;> simp only [h])) | simp (maxSteps := 4000000) (disch := first | decide | assumption | omega | (simp only [wL]; omega)) only [go_sem, simprocAttr, Tryz.f61])
     ·rw [if_neg h8]
      repeat' (first | (with_reducible first | refine up he ?_ | refine up hc ?_ | refine up hd ?_) | (with_reducible first | (refine wN fun _ hnl => ?_; revert hnl; (repeat refine wS fun _ _ => ?_); intro hnl) | refine wE ?_ | (refine wK ?_ ?_ <;> intro h) | (refine wB ?_ ?_ <;> intro h <;> simp only [h])) | simp (maxSteps := 4000000) (disch := first | decide | assumption | omega | (simp only [wL]; omega)) only [go_sem, simprocAttr, Tryz.f61])
   ·rw [if_pos (.inr (.inl h1))]
    repeat' (first | (with_reducible first | refine up he ?_) | (with_reducible first | (refine wN fun _ hnl => ?_; revert hnl; (repeat refine wS fun _ _ => ?_); intro hnl) | refine wE ?_ | (refine wK ?_ ?_ <;> intro h) | (refine wB ?_ ?_ <;> intro h <;> simp only [h])) | simp (maxSteps := 4000000) (disch := first | decide | assumption | omega | (simp only [wL]; omega)) only [go_sem, simprocAttr, Tryz.f61])
end Go.Proofs.YtjljgahfkcdhfaaGreatDoor
