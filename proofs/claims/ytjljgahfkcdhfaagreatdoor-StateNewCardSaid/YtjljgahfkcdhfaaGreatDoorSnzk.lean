/- Parts of the proof, joined. Each part says what it proves, and under which conditions it does: those that its theorems name. -/
import Derived.Test.YtjljgahfkcdhfaaGreatDoorSnzj
set_option linter.unusedVariables false
set_option linter.unusedSimpArgs false
set_option maxHeartbeats 4000000
namespace Go.Proofs.YtjljgahfkcdhfaaGreatDoor
set_option maxRecDepth 100000
set_option maxHeartbeats 8000000
abbrev saR (l : List RW) : SA := ⟨bkZ, [], l⟩
abbrev stO (l : List RW) : MObj := .row 30 7 [(saR l).c]
theorem wr1_call (o : Nat) (ok : Bool) : MCalls Tryz.prog 21 [.ptr o 0 0] (St.none.set o (.row 4 1 [[.bool ok]])) (fun v σ' => v = .bool ok ∧ σ' = St.none.set o (.row 4 1 [[.bool ok]])) := by
 refine (MCalls.body 3 [.tmp 1] Tryz.func21 rfl rfl rfl rfl ?_)
 repeat' (first | (with_reducible first | (refine wN fun _ hnl => ?_; revert hnl; (repeat refine wS fun _ _ => ?_); intro hnl) | refine wE ?_ | (refine wK ?_ ?_ <;> intro h) | (refine wB ?_ ?_ <;> intro h <;> simp only [h])) | simp (maxSteps := 4000000) (disch := first | decide | assumption | omega | (simp only [wL]; omega)) only [go_sem, simprocAttr, Tryz.f21])
 all_goals exact ⟨rfl, rfl⟩
theorem wr2_call (p s b : Nat) (l : List RW) (h : s ≠ p) : MCalls Tryz.prog 22 [.ptr p 0 0, .ptr s 0 0] ((St.none.set p (.row 47 1 [[.ptr b 0 0]])).set s (stO l)) (fun v σ' => v = .bool true ∧ σ' = (St.none.set p (.row 47 1 [[.ptr b 0 0]])).set s (stO l)) := by
 refine (MCalls.body 13 [.tmp 2] Tryz.func22 rfl rfl rfl rfl ?_)
 have h' := Ne.symm h
 have hs := sbloadZ_call b
 repeat' (first | (with_reducible first | refine up hs ?_) | (with_reducible first | (refine wN fun _ hnl => ?_; revert hnl; (repeat refine wS fun _ _ => ?_); intro hnl) | refine wE ?_ | (refine wK ?_ ?_ <;> intro h) | (refine wB ?_ ?_ <;> intro h <;> simp only [h])) | simp (maxSteps := 4000000) (disch := first | decide | assumption | omega | (simp only [wL]; omega)) only [go_sem, simprocAttr, Tryz.f22, bkZ, List.map_nil])
 all_goals exact ⟨rfl, rfl⟩
theorem wr3_call (s : Nat) (l : List RW) (hl : l.length ≤ 1000000) (hf : ∀ r, r ∈ l → r.ans.fl.length ≤ 1000000) : MCalls Tryz.prog 24 [.ptr s 0 0] (St.none.set s (stO l)) (fun v σ' => v = .bool (rowsOk l) ∧ σ' = St.none.set s (stO l)) := by
 refine (MCalls.body 11 [.tmp 1] Tryz.func24 rfl rfl rfl rfl ?_)
 have hs := lgload_call l hl hf
 repeat' (first | (with_reducible first | refine up hs ?_) | (with_reducible first | (refine wN fun _ hnl => ?_; revert hnl; (repeat refine wS fun _ _ => ?_); intro hnl) | refine wE ?_ | (refine wK ?_ ?_ <;> intro h) | (refine wB ?_ ?_ <;> intro h <;> simp only [h])) | simp (maxSteps := 4000000) (disch := first | decide | assumption | omega | (simp only [wL]; omega)) only [go_sem, simprocAttr, Tryz.f24, bkZ, List.map_nil])
 all_goals exact ⟨rfl, rfl⟩
theorem wr4_call (s : Nat) (l : List RW) : MCalls Tryz.prog 26 [.ptr s 0 0] (St.none.set s (stO l)) (fun v σ' => v = .bool true ∧ σ' = St.none.set s (stO l)) := by
 refine (MCalls.body 22 [.tmp 1] Tryz.func26 rfl rfl rfl rfl ?_)
 repeat' (first | (with_reducible first | (refine wN fun _ hnl => ?_; revert hnl; (repeat refine wS fun _ _ => ?_); intro hnl) | refine wE ?_ | (refine wK ?_ ?_ <;> intro h) | (refine wB ?_ ?_ <;> intro h <;> simp only [h])) | simp (maxSteps := 4000000) (disch := first | decide | assumption | omega | (simp only [wL]; omega)) only [go_sem, simprocAttr, Tryz.f26, bkZ, List.map_nil])
 refine mloop_intro (α := Unit) (fun _ => ⟨22, [(7, .int .i64 0), (6, .int .i64 0)], []⟩)
  (fun _ => St.none.set s (stO l)) (fun _ => True) (fun _ => 0) ?_ ?_
 ·refine .of (.less ?_ (St.le_refl _)) ⟨(), rfl, rfl, trivial⟩
  simp (maxSteps := 4000000) (disch := first | decide | assumption | omega | (simp only [wL]; omega)) only [go_sem, simprocAttr, weak_int, weak_same]
  all_goals first | rfl | (simp; done)
 ·rintro ⟨⟩ -
  repeat' (first | (with_reducible first | (refine wN fun _ hnl => ?_; revert hnl; (repeat refine wS fun _ _ => ?_); intro hnl) | refine wE ?_ | (refine wK ?_ ?_ <;> intro h) | (refine wB ?_ ?_ <;> intro h <;> simp only [h])) | simp (maxSteps := 4000000) (disch := first | decide | assumption | omega | (simp only [wL]; omega)) only [go_sem, simprocAttr])
  all_goals exact ⟨rfl, rfl⟩
theorem stwrongR_call (l : List RW) (hl : l.length ≤ 1000000) (hf : ∀ r, r ∈ l → r.ans.fl.length ≤ 1000000) : MCalls Tryz.prog 6 [.agg (saR l).c] St.none (fun r _ => r = .int .i64 (if rowsOk l = true then 0 else 3)) := by
 refine MCalls.drops (MCalls.body 32 [.tmp 2] Tryz.func6 rfl rfl rfl rfl ?_)
 have hln : ∀ r, r ∈ l → r.ans.fl.length ≤ 1000000 := hf
 obtain ⟨res, hres⟩ : ∃ b, rowsOk l = b := ⟨_, rfl⟩
 have h3 := fun s => wr3_call s l hl hf
 rw [hres] at h3 ⊢
 repeat' (first | (refine use_new3 bkloadZ_call ?_; (intro pm ps pb hm hl hb hlm hbm hbl; have hml := Ne.symm hlm; have hmb := Ne.symm hbm; have hlb := Ne.symm hbl; have m1 := (none_ne hm).1; have l1 := (none_ne hl).1; have b1 := (none_ne hb).1; have m2 := Ne.symm m1; have l2 := Ne.symm l1; have b2 := Ne.symm b1)) | (with_reducible first | (refine wT ?_; (first | ((fail_if_success (have := nl1)); refine wN fun nl1 hnl => ?_) | ((fail_if_success (have := nl2)); refine wN fun nl2 hnl => ?_) | ((fail_if_success (have := nl3)); refine wN fun nl3 hnl => ?_) | ((fail_if_success (have := nl4)); refine wN fun nl4 hnl => ?_) | refine wN fun _ hnl => ?_); revert hnl; (repeat refine wS fun _ _ => ?_); intro hnl) | refine wE ?_ | (refine wK ?_ ?_ <;> intro h) | (refine wB ?_ ?_ <;> intro h <;> simp only [h])) | simp (maxSteps := 4000000) (disch := first | decide | assumption | omega | (simp only [wL]; omega)) only [go_sem, simprocAttr, Tryz.f6, bkZ, List.map_nil])
 have d21 : nl2 ≠ nl1 := by assumption
 have d31 : nl3 ≠ nl1 := by assumption
 have d32 : nl3 ≠ nl2 := by assumption
 have d41 : nl4 ≠ nl1 := by assumption
 have d42 : nl4 ≠ nl2 := by assumption
 have d43 : nl4 ≠ nl3 := by assumption
 obtain ⟨S, hS⟩ : ∃ S : St, S = (((St.none.set nl1 (stO l)).set nl2 (.row 47 1 [[.ptr pb 0 0]])).set nl3 (.row 4 1 [[.bool true]])).set nl4 (.row 42 1 [[.fn (.func 21) [] [.ptr nl3 0 0]], [.fn (.func 22) [] [.ptr nl2 0 0, .ptr nl1 0 0]], [.fn (.func 24) [] [.ptr nl1 0 0]], [.fn (.func 26) [] [.ptr nl1 0 0]]]) := ⟨_, rfl⟩
 have s1 : S nl1 = some (stO l) := by subst hS; simp [St.set, *, Ne.symm d21, Ne.symm d31, Ne.symm d41]
 have s2 : S nl2 = some (.row 47 1 [[.ptr pb 0 0]]) := by subst hS; simp [St.set, Ne.symm d42, Ne.symm d32]
 have s3 : S nl3 = some (.row 4 1 [[.bool true]]) := by subst hS; simp [St.set, Ne.symm d43]
 have s4 : S nl4 = some (.row 42 1 [[.fn (.func 21) [] [.ptr nl3 0 0]], [.fn (.func 22) [] [.ptr nl2 0 0, .ptr nl1 0 0]], [.fn (.func 24) [] [.ptr nl1 0 0]], [.fn (.func 26) [] [.ptr nl1 0 0]]]) := by subst hS; simp [St.set]
 refine mloop_intro (α := Nat) (fun i => ⟨32, [(21, .int .i64 (i : Int)), (20, .int .i64 4), (19, .vec 1 nl4 0 4)], []⟩) (fun _ => S) (fun i => i ≤ 4 ∧ (3 ≤ i → res = true)) (fun i => 4 - i) ?_ ?_
 ·refine .of (.less ?_ (σ1 := S) ?_) ⟨0, rfl, rfl, by omega, by omega⟩
  ·simp (maxSteps := 4000000) (disch := first | decide | assumption | omega | (simp only [wL]; omega)) only [go_sem, simprocAttr, weak_int, weak_same]
   all_goals first | rfl | (simp; done)
  ·subst hS
   exact St.set_le (St.set_le (St.set_le (St.set_le (St.none_le _) (by simp [St.set, bkZ, *])) (by simp [St.set, *])) (by simp [St.set, *])) (by simp [St.set, *])
 ·rintro i ⟨hi, h3i⟩
  obtain rfl | rfl | rfl | rfl | rfl : i = 0 ∨ i = 1 ∨ i = 2 ∨ i = 3 ∨ i = 4 := by omega
  ·repeat' (first | (refine use_same (wr1_call nl3 true) (St.set_le (St.none_le _) s3) ?_) | (with_reducible first | (refine wT ?_; (first | ((fail_if_success (have := nl1)); refine wN fun nl1 hnl => ?_) | ((fail_if_success (have := nl2)); refine wN fun nl2 hnl => ?_) | ((fail_if_success (have := nl3)); refine wN fun nl3 hnl => ?_) | ((fail_if_success (have := nl4)); refine wN fun nl4 hnl => ?_) | refine wN fun _ hnl => ?_); revert hnl; (repeat refine wS fun _ _ => ?_); intro hnl) | refine wE ?_ | (refine wK ?_ ?_ <;> intro h) | (refine wB ?_ ?_ <;> intro h <;> simp only [h])) | simp (maxSteps := 4000000) (disch := first | decide | assumption | omega | (simp only [wL]; omega)) only [go_sem, simprocAttr, s1, s2, s3, s4])
   refine .of (.less ?_ (St.le_refl _)) ⟨1, rfl, rfl, ⟨by omega, by omega⟩, by omega⟩
   simp (maxSteps := 4000000) (disch := first | decide | assumption | omega | (simp only [wL]; omega)) only [go_sem, simprocAttr, weak_int, weak_same]
   all_goals first | rfl | (simp; done)
  ·repeat' (first | (refine use_same (wr2_call nl2 nl1 pb l (Ne.symm d21)) (St.set_le (St.set_le (St.none_le _) s2) s1) ?_) | (with_reducible first | (refine wT ?_; (first | ((fail_if_success (have := nl1)); refine wN fun nl1 hnl => ?_) | ((fail_if_success (have := nl2)); refine wN fun nl2 hnl => ?_) | ((fail_if_success (have := nl3)); refine wN fun nl3 hnl => ?_) | ((fail_if_success (have := nl4)); refine wN fun nl4 hnl => ?_) | refine wN fun _ hnl => ?_); revert hnl; (repeat refine wS fun _ _ => ?_); intro hnl) | refine wE ?_ | (refine wK ?_ ?_ <;> intro h) | (refine wB ?_ ?_ <;> intro h <;> simp only [h])) | simp (maxSteps := 4000000) (disch := first | decide | assumption | omega | (simp only [wL]; omega)) only [go_sem, simprocAttr, s1, s2, s3, s4])
   refine .of (.less ?_ (St.le_refl _)) ⟨2, rfl, rfl, ⟨by omega, by omega⟩, by omega⟩
   simp (maxSteps := 4000000) (disch := first | decide | assumption | omega | (simp only [wL]; omega)) only [go_sem, simprocAttr, weak_int, weak_same]
   all_goals first | rfl | (simp; done)
  ·cases res
   ·repeat' (first | (refine use_same (h3 nl1) (St.set_le (St.none_le _) s1) ?_) | (with_reducible first | (refine wT ?_; (first | ((fail_if_success (have := nl1)); refine wN fun nl1 hnl => ?_) | ((fail_if_success (have := nl2)); refine wN fun nl2 hnl => ?_) | ((fail_if_success (have := nl3)); refine wN fun nl3 hnl => ?_) | ((fail_if_success (have := nl4)); refine wN fun nl4 hnl => ?_) | refine wN fun _ hnl => ?_); revert hnl; (repeat refine wS fun _ _ => ?_); intro hnl) | refine wE ?_ | (refine wK ?_ ?_ <;> intro h) | (refine wB ?_ ?_ <;> intro h <;> simp only [h])) | simp (maxSteps := 4000000) (disch := first | decide | assumption | omega | (simp only [wL]; omega)) only [go_sem, simprocAttr, s1, s2, s3, s4])
    all_goals first | exact ⟨_, St.le_refl _, rfl⟩ | exact ⟨_, St.le_refl _⟩
   ·repeat' (first | (refine use_same (h3 nl1) (St.set_le (St.none_le _) s1) ?_) | (with_reducible first | (refine wT ?_; (first | ((fail_if_success (have := nl1)); refine wN fun nl1 hnl => ?_) | ((fail_if_success (have := nl2)); refine wN fun nl2 hnl => ?_) | ((fail_if_success (have := nl3)); refine wN fun nl3 hnl => ?_) | ((fail_if_success (have := nl4)); refine wN fun nl4 hnl => ?_) | refine wN fun _ hnl => ?_); revert hnl; (repeat refine wS fun _ _ => ?_); intro hnl) | refine wE ?_ | (refine wK ?_ ?_ <;> intro h) | (refine wB ?_ ?_ <;> intro h <;> simp only [h])) | simp (maxSteps := 4000000) (disch := first | decide | assumption | omega | (simp only [wL]; omega)) only [go_sem, simprocAttr, s1, s2, s3, s4])
    refine .of (.less ?_ (St.le_refl _)) ⟨3, rfl, rfl, ⟨by omega, by simp⟩, by omega⟩
    simp (maxSteps := 4000000) (disch := first | decide | assumption | omega | (simp only [wL]; omega)) only [go_sem, simprocAttr, weak_int, weak_same]
    all_goals first | rfl | (simp; done)
  ·repeat' (first | (refine use_same (wr4_call nl1 l) (St.set_le (St.none_le _) s1) ?_) | (with_reducible first | (refine wT ?_; (first | ((fail_if_success (have := nl1)); refine wN fun nl1 hnl => ?_) | ((fail_if_success (have := nl2)); refine wN fun nl2 hnl => ?_) | ((fail_if_success (have := nl3)); refine wN fun nl3 hnl => ?_) | ((fail_if_success (have := nl4)); refine wN fun nl4 hnl => ?_) | refine wN fun _ hnl => ?_); revert hnl; (repeat refine wS fun _ _ => ?_); intro hnl) | refine wE ?_ | (refine wK ?_ ?_ <;> intro h) | (refine wB ?_ ?_ <;> intro h <;> simp only [h])) | simp (maxSteps := 4000000) (disch := first | decide | assumption | omega | (simp only [wL]; omega)) only [go_sem, simprocAttr, s1, s2, s3, s4])
   refine .of (.less ?_ (St.le_refl _)) ⟨4, rfl, rfl, ⟨by omega, fun _ => h3i (by omega)⟩, by omega⟩
   simp (maxSteps := 4000000) (disch := first | decide | assumption | omega | (simp only [wL]; omega)) only [go_sem, simprocAttr, weak_int, weak_same]
   all_goals first | rfl | (simp; done)
  ·have := h3i (by omega)
   subst this
   repeat' (first | (with_reducible first | (refine wT ?_; (first | ((fail_if_success (have := nl1)); refine wN fun nl1 hnl => ?_) | ((fail_if_success (have := nl2)); refine wN fun nl2 hnl => ?_) | ((fail_if_success (have := nl3)); refine wN fun nl3 hnl => ?_) | ((fail_if_success (have := nl4)); refine wN fun nl4 hnl => ?_) | refine wN fun _ hnl => ?_); revert hnl; (repeat refine wS fun _ _ => ?_); intro hnl) | refine wE ?_ | (refine wK ?_ ?_ <;> intro h) | (refine wB ?_ ?_ <;> intro h <;> simp only [h])) | simp (maxSteps := 4000000) (disch := first | decide | assumption | omega | (simp only [wL]; omega)) only [go_sem, simprocAttr, s1, s2, s3, s4])
   all_goals first | exact ⟨_, St.le_refl _, rfl⟩ | exact ⟨_, St.le_refl _⟩
end Go.Proofs.YtjljgahfkcdhfaaGreatDoor
