/- Parts of the proof, joined. Each part says what it proves, and under which conditions it does: those that its theorems name. -/
import Derived.Test.YtjljgahfkcdhfaaGreatDoorSnzg
set_option linter.unusedVariables false
set_option linter.unusedSimpArgs false
set_option maxHeartbeats 4000000
namespace Go.Proofs.YtjljgahfkcdhfaaGreatDoor
set_option maxRecDepth 100000
set_option maxHeartbeats 4000000
abbrev re0z : List MV := [.int .i64 0, .int .i64 0, .int .i64 0, .int .i64 0, .int .i64 0, .int .i64 0, .int .i64 0, .int .i64 0, .nils, .int .u32 0]
abbrev rw0z : List MV := [.int .i64 0, .int .i64 0, .int .i64 0, .int .i64 0, .int .i64 0, .int .i64 0, .int .i64 0, .int .i64 0, .int .i64 0, .int .i64 0, .nils, .int .u32 0]
abbrev lg0z : List MV := rw0z ++ (rw0z ++ (rw0z ++ (rw0z ++ (rw0z ++ rw0z))))
theorem clonedN0_call : MCalls Tryz.prog 62 [.nils] St.none (fun r _ => r = .nils) := by
 refine (MCalls.body 8 [.tmp 2] Tryz.func62 rfl rfl rfl rfl ?_)
 repeat' (first | (with_reducible first | (refine wN fun _ hnl => ?_; revert hnl; (repeat refine wS fun _ _ => ?_); intro hnl) | refine wE ?_ | (refine wK ?_ ?_ <;> intro h) | (refine wB ?_ ?_ <;> intro h <;> simp only [h])) | simp (maxSteps := 4000000) (disch := first | decide | assumption | omega | (simp only [wL]; omega)) only [go_sem, simprocAttr, Tryz.f62])
theorem own0_call : MCalls Tryz.prog 49 [.agg re0z] St.none (fun r _ => r = .agg re0z) := by
 refine MCalls.drops (MCalls.body 8 [.cell 2 39] Tryz.func49 rfl rfl rfl rfl ?_)
 have h := clonedN0_call
 repeat' (first | (with_reducible first | refine up h ?_) | (with_reducible first | (refine wN fun _ hnl => ?_; revert hnl; (repeat refine wS fun _ _ => ?_); intro hnl) | refine wE ?_ | (refine wK ?_ ?_ <;> intro h) | (refine wB ?_ ?_ <;> intro h <;> simp only [h])) | simp (maxSteps := 4000000) (disch := first | decide | assumption | omega | (simp only [wL]; omega)) only [go_sem, simprocAttr, Tryz.f49])
 all_goals first | exact ⟨_, St.le_refl _, rfl⟩ | exact ⟨_, St.le_refl _⟩
theorem lgnew_call : MCalls Tryz.prog 18 [] St.none (fun v σ' => ∃ l, v = .ptr l 0 0 ∧ σ' = St.none.set l (.row 102 72 [lg0z])) := by
 refine (MCalls.body 3 [.tmp 0] Tryz.func18 rfl rfl rfl rfl ?_)
 repeat' (first | (with_reducible first | (refine wN fun _ hnl => ?_; revert hnl; (repeat refine wS fun _ _ => ?_); intro hnl) | refine wE ?_ | (refine wK ?_ ?_ <;> intro h) | (refine wB ?_ ?_ <;> intro h <;> simp only [h])) | simp (maxSteps := 4000000) (disch := first | decide | assumption | omega | (simp only [wL]; omega)) only [go_sem, simprocAttr, Tryz.f18])
 all_goals exact ⟨_, rfl, rfl⟩
theorem lgdata0_call (g : Nat) : MCalls Tryz.prog 19 [.ptr g 0 0] (St.none.set g (.row 102 72 [lg0z])) (fun v σ' => ∃ q, (St.none.set g (.row 102 72 [lg0z])) q = none ∧ v = .vec 12 q 0 6 ∧ σ' = (St.none.set g (.row 102 72 [lg0z])).set q (.row 41 12 (List.replicate 6 rw0z))) := by
 refine (MCalls.body 35 [.tmp 2] Tryz.func19 rfl rfl rfl rfl ?_)
 have ho := own0_call
 have hld : ∀ o, lg0z[o]? = some (.int .i64 0) → MCalls Tryz.prog 48 [.ptr g 0 o] (St.ofList [g] [.row 102 72 [lg0z]]) (fun v σ' => v = .int .i64 0 ∧ σ' = St.ofList [g] [.row 102 72 [lg0z]]) := fun o h => i64load_call h
 obtain ⟨C, c1, c2⟩ : ∃ C : Know, (∀ ms, C 48 ms = some ⟨[g], fun v => v = .int .i64 0, none⟩) ∧ (∀ ms, C 49 ms = some ⟨[], fun v => v = .agg re0z, none⟩) :=
  ⟨fnF [(48, ⟨[g], fun v => v = .int .i64 0, none⟩), (49, ⟨[], fun v => v = .agg re0z, none⟩)], fun _ => fnF_hit, fun _ => fnF_skip fnF_hit⟩
 repeat' (first | (with_reducible first | (refine wT ?_; (first | ((fail_if_success (have := nl1)); refine wN fun nl1 hnl => ?_) | ((fail_if_success (have := nl2)); refine wN fun nl2 hnl => ?_) | refine wN fun _ hnl => ?_); revert hnl; (repeat refine wS fun _ _ => ?_); intro hnl) | refine wE ?_ | (refine wK ?_ ?_ <;> intro h) | (refine wB ?_ ?_ <;> intro h <;> simp only [h])) | simp (maxSteps := 4000000) (disch := first | decide | assumption | omega | (simp only [wL]; omega)) only [go_sem, simprocAttr, Tryz.f19])
 refine mloop_intro (α := Nat × Nat) (fun a => ⟨35, [(8, .int .i64 (a.1 : Int)), (3, .vec 12 a.2 0 a.1), (0, .ptr g 0 0)], []⟩)
  (fun a => (St.none.set g (.row 102 72 [lg0z])).set a.2 (.row 41 12 (List.replicate a.1 rw0z))) (fun a => a.1 ≤ 6 ∧ a.2 ≠ g) (fun a => 6 - a.1) ?_ ?_
 ·refine Gh.rowNew 41 12 (fun q => [(8, .int .i64 0), (3, .vec 12 q 0 0), (0, .ptr g 0 0)]) (fun k => by (repeat' (refine And.intro ?_ ?_)) <;> first | exact trivial | exact .inl rfl | exact .inr ⟨rfl, .inl rfl⟩ | exact .inr ⟨rfl, .inr rfl⟩) fun q hq => ?_
  exact .done ⟨(0, q), rfl, rfl, Nat.zero_le _, (none_ne hq).1⟩
 ·rintro ⟨i, q⟩ ⟨hi, hq⟩
  simp only at hi hq ⊢
  have hq' := Ne.symm hq
  obtain rfl | rfl | rfl | rfl | rfl | rfl | rfl : i = 0 ∨ i = 1 ∨ i = 2 ∨ i = 3 ∨ i = 4 ∨ i = 5 ∨ i = 6 := by omega
  all_goals
   try simp only [List.replicate]
  ·repeat' (first | ((with_reducible refine mdraw_know mixed ?chk C ?_); (case chk => decide +kernel)) | (with_reducible refine know_eq [g] [.row 102 72 [lg0z]] (c1 _) (by simp [St.set, *]) (hld _ rfl) ?_) | (with_reducible refine know_pure (c2 _) ho ?_) | (with_reducible first | (refine wT ?_; (first | ((fail_if_success (have := nl1)); refine wN fun nl1 hnl => ?_) | ((fail_if_success (have := nl2)); refine wN fun nl2 hnl => ?_) | refine wN fun _ hnl => ?_); revert hnl; (repeat refine wS fun _ _ => ?_); intro hnl) | refine wE ?_ | (refine wK ?_ ?_ <;> intro h) | (refine wB ?_ ?_ <;> intro h <;> simp only [h])) | simp (maxSteps := 4000000) (disch := first | decide | assumption | omega | (simp only [wL]; omega)) only [go_sem, simprocAttr, re0z])
   refine .of (.less ?_ (σ1 := (St.none.set g (.row 102 72 [lg0z])).set nl2 (.row 41 12 (List.replicate 1 rw0z))) (le_skip (by simp [St.set, St.none, *]))) ⟨(1, nl2), rfl, rfl, ⟨by simp only; omega, by assumption⟩, by simp only; omega⟩
   simp (maxSteps := 4000000) (disch := first | decide | assumption | omega | (simp only [wL]; omega)) only [go_sem, simprocAttr, weak_int, weak_same]
   all_goals first | rfl | (simp; done)
  ·repeat' (first | ((with_reducible refine mdraw_know mixed ?chk C ?_); (case chk => decide +kernel)) | (with_reducible refine know_eq [g] [.row 102 72 [lg0z]] (c1 _) (by simp [St.set, *]) (hld _ rfl) ?_) | (with_reducible refine know_pure (c2 _) ho ?_) | (with_reducible first | (refine wT ?_; (first | ((fail_if_success (have := nl1)); refine wN fun nl1 hnl => ?_) | ((fail_if_success (have := nl2)); refine wN fun nl2 hnl => ?_) | refine wN fun _ hnl => ?_); revert hnl; (repeat refine wS fun _ _ => ?_); intro hnl) | refine wE ?_ | (refine wK ?_ ?_ <;> intro h) | (refine wB ?_ ?_ <;> intro h <;> simp only [h])) | simp (maxSteps := 4000000) (disch := first | decide | assumption | omega | (simp only [wL]; omega)) only [go_sem, simprocAttr, re0z])
   refine .of (.less ?_ (σ1 := (St.none.set g (.row 102 72 [lg0z])).set nl2 (.row 41 12 (List.replicate 2 rw0z))) (le_skip (by simp [St.set, St.none, *]))) ⟨(2, nl2), rfl, rfl, ⟨by simp only; omega, by assumption⟩, by simp only; omega⟩
   simp (maxSteps := 4000000) (disch := first | decide | assumption | omega | (simp only [wL]; omega)) only [go_sem, simprocAttr, weak_int, weak_same]
   all_goals first | rfl | (simp; done)
  ·repeat' (first | ((with_reducible refine mdraw_know mixed ?chk C ?_); (case chk => decide +kernel)) | (with_reducible refine know_eq [g] [.row 102 72 [lg0z]] (c1 _) (by simp [St.set, *]) (hld _ rfl) ?_) | (with_reducible refine know_pure (c2 _) ho ?_) | (with_reducible first | (refine wT ?_; (first | ((fail_if_success (have := nl1)); refine wN fun nl1 hnl => ?_) | ((fail_if_success (have := nl2)); refine wN fun nl2 hnl => ?_) | refine wN fun _ hnl => ?_); revert hnl; (repeat refine wS fun _ _ => ?_); intro hnl) | refine wE ?_ | (refine wK ?_ ?_ <;> intro h) | (refine wB ?_ ?_ <;> intro h <;> simp only [h])) | simp (maxSteps := 4000000) (disch := first | decide | assumption | omega | (simp only [wL]; omega)) only [go_sem, simprocAttr, re0z])
   refine .of (.less ?_ (σ1 := (St.none.set g (.row 102 72 [lg0z])).set nl2 (.row 41 12 (List.replicate 3 rw0z))) (le_skip (by simp [St.set, St.none, *]))) ⟨(3, nl2), rfl, rfl, ⟨by simp only; omega, by assumption⟩, by simp only; omega⟩
   simp (maxSteps := 4000000) (disch := first | decide | assumption | omega | (simp only [wL]; omega)) only [go_sem, simprocAttr, weak_int, weak_same]
   all_goals first | rfl | (simp; done)
  ·repeat' (first | ((with_reducible refine mdraw_know mixed ?chk C ?_); (case chk => decide +kernel)) | (with_reducible refine know_eq [g] [.row 102 72 [lg0z]] (c1 _) (by simp [St.set, *]) (hld _ rfl) ?_) | (with_reducible refine know_pure (c2 _) ho ?_) | (with_reducible first | (refine wT ?_; (first | ((fail_if_success (have := nl1)); refine wN fun nl1 hnl => ?_) | ((fail_if_success (have := nl2)); refine wN fun nl2 hnl => ?_) | refine wN fun _ hnl => ?_); revert hnl; (repeat refine wS fun _ _ => ?_); intro hnl) | refine wE ?_ | (refine wK ?_ ?_ <;> intro h) | (refine wB ?_ ?_ <;> intro h <;> simp only [h])) | simp (maxSteps := 4000000) (disch := first | decide | assumption | omega | (simp only [wL]; omega)) only [go_sem, simprocAttr, re0z])
   refine .of (.less ?_ (σ1 := (St.none.set g (.row 102 72 [lg0z])).set nl2 (.row 41 12 (List.replicate 4 rw0z))) (le_skip (by simp [St.set, St.none, *]))) ⟨(4, nl2), rfl, rfl, ⟨by simp only; omega, by assumption⟩, by simp only; omega⟩
   simp (maxSteps := 4000000) (disch := first | decide | assumption | omega | (simp only [wL]; omega)) only [go_sem, simprocAttr, weak_int, weak_same]
   all_goals first | rfl | (simp; done)
  ·repeat' (first | ((with_reducible refine mdraw_know mixed ?chk C ?_); (case chk => decide +kernel)) | (with_reducible refine know_eq [g] [.row 102 72 [lg0z]] (c1 _) (by simp [St.set, *]) (hld _ rfl) ?_) | (with_reducible refine know_pure (c2 _) ho ?_) | (with_reducible first | (refine wT ?_; (first | ((fail_if_success (have := nl1)); refine wN fun nl1 hnl => ?_) | ((fail_if_success (have := nl2)); refine wN fun nl2 hnl => ?_) | refine wN fun _ hnl => ?_); revert hnl; (repeat refine wS fun _ _ => ?_); intro hnl) | refine wE ?_ | (refine wK ?_ ?_ <;> intro h) | (refine wB ?_ ?_ <;> intro h <;> simp only [h])) | simp (maxSteps := 4000000) (disch := first | decide | assumption | omega | (simp only [wL]; omega)) only [go_sem, simprocAttr, re0z])
   refine .of (.less ?_ (σ1 := (St.none.set g (.row 102 72 [lg0z])).set nl2 (.row 41 12 (List.replicate 5 rw0z))) (le_skip (by simp [St.set, St.none, *]))) ⟨(5, nl2), rfl, rfl, ⟨by simp only; omega, by assumption⟩, by simp only; omega⟩
   simp (maxSteps := 4000000) (disch := first | decide | assumption | omega | (simp only [wL]; omega)) only [go_sem, simprocAttr, weak_int, weak_same]
   all_goals first | rfl | (simp; done)
  ·repeat' (first | ((with_reducible refine mdraw_know mixed ?chk C ?_); (case chk => decide +kernel)) | (with_reducible refine know_eq [g] [.row 102 72 [lg0z]] (c1 _) (by simp [St.set, *]) (hld _ rfl) ?_) | (with_reducible refine know_pure (c2 _) ho ?_) | (with_reducible first | (refine wT ?_; (first | ((fail_if_success (have := nl1)); refine wN fun nl1 hnl => ?_) | ((fail_if_success (have := nl2)); refine wN fun nl2 hnl => ?_) | refine wN fun _ hnl => ?_); revert hnl; (repeat refine wS fun _ _ => ?_); intro hnl) | refine wE ?_ | (refine wK ?_ ?_ <;> intro h) | (refine wB ?_ ?_ <;> intro h <;> simp only [h])) | simp (maxSteps := 4000000) (disch := first | decide | assumption | omega | (simp only [wL]; omega)) only [go_sem, simprocAttr, re0z])
   refine .of (.less ?_ (σ1 := (St.none.set g (.row 102 72 [lg0z])).set nl2 (.row 41 12 (List.replicate 6 rw0z))) (le_skip (by simp [St.set, St.none, *]))) ⟨(6, nl2), rfl, rfl, ⟨by simp only; omega, by assumption⟩, by simp only; omega⟩
   simp (maxSteps := 4000000) (disch := first | decide | assumption | omega | (simp only [wL]; omega)) only [go_sem, simprocAttr, weak_int, weak_same]
   all_goals first | rfl | (simp; done)
  ·repeat' (first | (with_reducible first | (refine wT ?_; (first | ((fail_if_success (have := nl1)); refine wN fun nl1 hnl => ?_) | ((fail_if_success (have := nl2)); refine wN fun nl2 hnl => ?_) | refine wN fun _ hnl => ?_); revert hnl; (repeat refine wS fun _ _ => ?_); intro hnl) | refine wE ?_ | (refine wK ?_ ?_ <;> intro h) | (refine wB ?_ ?_ <;> intro h <;> simp only [h])) | simp (maxSteps := 4000000) (disch := first | decide | assumption | omega | (simp only [wL]; omega)) only [go_sem, simprocAttr, re0z])
   exact ⟨q, by simp [St.set, St.none, hq], rfl, rfl⟩
end Go.Proofs.YtjljgahfkcdhfaaGreatDoor
