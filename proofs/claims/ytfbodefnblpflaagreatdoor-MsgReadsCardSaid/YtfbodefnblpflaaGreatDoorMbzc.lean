/- Parts of the proof, joined. Each part says what it proves, and under which conditions it does: those that its theorems name. -/
import Derived.Test.YtfbodefnblpflaaGreatDoorMbzb
set_option linter.unusedVariables false
set_option linter.unusedSimpArgs false
set_option maxHeartbeats 4000000
namespace Go.Proofs.YtfbodefnblpflaaGreatDoor
set_option maxRecDepth 100000
set_option maxHeartbeats 1000000
theorem reditR_call (r : RD) [hs : Sh r] (l : Nat) : MCalls Tryz.prog 93 [.ptr l 0 0] (St.none.set l (rR r)) (fun v σ' => v = .agg (editR r).1.c ∧ σ' = St.none.set l (rR (editR r).2)) := by
 refine MCalls.obj (MCalls.body 32 [.cell 2 29] Tryz.func93 rfl rfl rfl rfl ?_)
 obtain ⟨a, ha⟩ : ∃ a, fromR 1 7 r = a := ⟨_, rfl⟩
 have hsa : Sh a.2 := by rw [← ha]; infer_instance
 have ha1 := rabove_call 7 r l
 rw [ha] at ha1
 have hg := rgroup_call a.1
 have hi := rid_call a.1
 have hp := rispatch_call a.1
 unfold editR
 simp only [ha]
 obtain ⟨bg, hbg⟩ : ∃ b, edG a.1 = b := ⟨_, rfl⟩
 obtain ⟨bi, hbi⟩ : ∃ b, edI a.1 = b := ⟨_, rfl⟩
 obtain ⟨bp, hbp⟩ : ∃ b, edP a.1 = b := ⟨_, rfl⟩
 rw [hbg] at hg ⊢
 rw [hbi] at hi ⊢
 rw [hbp] at hp ⊢
 clear hs ha
 cases bg <;> cases bi <;> cases bp
 all_goals
  simp only [if_true, Bool.false_eq_true, if_false, idMax, Int.reduceSub]
  repeat' (first | (with_reducible refine ur2 (by assumption) (by assumption) ha1 ?_) | (with_reducible refine ur0 ha1 ?_) | (with_reducible refine ur1 (by assumption) ha1 ?_) | (with_reducible (refine wQ ?_; first | refine uR (rRNum_call ..) ?_ | refine uR (rabove_call ..) ?_ | refine uR (rmayR_call ..) ?_)) | (with_reducible first | refine up hg ?_ | refine up hi ?_ | refine up hp ?_) | (with_reducible first | (refine wN fun _ hnl => ?_; revert hnl; (repeat refine wS fun _ _ => ?_); intro hnl) | refine wE ?_ | (refine wK ?_ ?_ <;> intro h) | (refine wB ?_ ?_ <;> intro h <;> simp only [h])) | simp (maxSteps := 4000000) (disch := first | decide | assumption | omega | (simp only [wL]; omega)) only [go_sem, simprocAttr, Tryz.f93, FXs])
  all_goals (try simp only [Classical.not_not] at *)
  all_goals (first | (simp [okR, ed0, pa0, *]; done) | (simp only [okR, ed0, pa0]; (repeat' split) <;> (first | (simp_all; done) | omega | (exfalso; omega))) | skip)
theorem rtcheck_call (t : TO) : MCalls Tryz.prog 33 [.agg t.c] St.none (fun r _ => r = .bool (tokOk t)) := by
 refine MCalls.drops (MCalls.body 41 [.tmp 2] Tryz.func33 rfl rfl rfl rfl ?_)
 repeat' (first | (with_reducible first | (refine wN fun _ hnl => ?_; revert hnl; (repeat refine wS fun _ _ => ?_); intro hnl) | refine wE ?_ | (refine wK ?_ ?_ <;> intro h) | (refine wB ?_ ?_ <;> intro h <;> simp only [h])) | simp (maxSteps := 4000000) (disch := first | decide | assumption | omega | (simp only [wL]; omega)) only [go_sem, simprocAttr, Tryz.f33])
 all_goals first | refine ⟨_, St.le_refl _, ?_⟩ | skip
 all_goals (try simp only [Classical.not_not] at *)
 all_goals (first | (simp [tokOk, big, idMax, *]; done) | (simp only [tokOk, big, idMax]; (repeat' split) <;> (first | (simp_all; done) | omega | (exfalso; omega))) | skip)
theorem rtgoes_call (a b : TO) : MCalls Tryz.prog 83 [.agg a.c, .agg b.c] St.none (fun r _ => r = .bool (tokGo a b)) := by
 refine MCalls.drops (MCalls.body 39 [.tmp 4] Tryz.func83 rfl rfl rfl rfl ?_)
 have h1 := rtcheck_call a
 have h2 := rtcheck_call b
 unfold tokGo
 cases h3 : tokOk a <;> rw [h3] at h1
 ·repeat' (first | (with_reducible first | refine up h1 ?_ | refine up h2 ?_) | (with_reducible first | (refine wN fun _ hnl => ?_; revert hnl; (repeat refine wS fun _ _ => ?_); intro hnl) | refine wE ?_ | (refine wK ?_ ?_ <;> intro h) | (refine wB ?_ ?_ <;> intro h <;> simp only [h])) | simp (maxSteps := 4000000) (disch := first | decide | assumption | omega | (simp only [wL]; omega)) only [go_sem, simprocAttr, Tryz.f83])
  all_goals first | refine ⟨_, St.le_refl _, ?_⟩ | skip
  all_goals (try simp only [Classical.not_not] at *)
  all_goals (first | (simp [*]; done) | (simp only []; (repeat' split) <;> (first | (simp_all; done) | omega | (exfalso; omega))) | skip)
 ·cases h4 : tokOk b <;> rw [h4] at h2
  all_goals
   repeat' (first | (with_reducible first | refine up h1 ?_ | refine up h2 ?_) | (with_reducible first | (refine wN fun _ hnl => ?_; revert hnl; (repeat refine wS fun _ _ => ?_); intro hnl) | refine wE ?_ | (refine wK ?_ ?_ <;> intro h) | (refine wB ?_ ?_ <;> intro h <;> simp only [h])) | simp (maxSteps := 4000000) (disch := first | decide | assumption | omega | (simp only [wL]; omega)) only [go_sem, simprocAttr, Tryz.f83])
   all_goals first | refine ⟨_, St.le_refl _, ?_⟩ | skip
   all_goals (try simp only [Classical.not_not] at *)
   all_goals (first | (simp [*]; done) | (simp only []; (repeat' split) <;> (first | (simp_all; done) | omega | (exfalso; omega))) | skip)
theorem rtread_call (r : RD) [hs : Sh r] (l : Nat) : MCalls Tryz.prog 52 [.ptr l 0 0] (St.none.set l (rR r)) (fun v σ' => v = .agg (tokR r).1.c ∧ σ' = St.none.set l (rR (tokR r).2)) := by
 refine MCalls.obj (MCalls.body 23 [.cell 2 34] Tryz.func52 rfl rfl rfl rfl ?_)
 repeat' (first | (with_reducible (refine wQ ?_; first | refine uR (rRNum_call ..) ?_ | refine uR (rabove_call ..) ?_)) | (with_reducible first | (refine wN fun _ hnl => ?_; revert hnl; (repeat refine wS fun _ _ => ?_); intro hnl) | refine wE ?_ | (refine wK ?_ ?_ <;> intro h) | (refine wB ?_ ?_ <;> intro h <;> simp only [h])) | simp (maxSteps := 4000000) (disch := first | decide | assumption | omega | (simp only [wL]; omega)) only [go_sem, simprocAttr, Tryz.f52])
 all_goals (try simp only [Classical.not_not] at *)
 all_goals (first | (simp [tokR, okR, tk0, big, idMax, *]; done) | (simp only [tokR, okR, tk0, big, idMax]; (repeat' split) <;> (first | (simp_all; done) | omega | (exfalso; omega))) | skip)
end Go.Proofs.YtfbodefnblpflaaGreatDoor
