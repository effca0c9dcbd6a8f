/- Parts of the proof, joined. Each part says what it proves, and under which conditions it does: those that its theorems name. -/
import Derived.Test.YtjljgahfkcdhfaaGreatDoorSnzi
import Derived.Test.YtjljgahfkcdhfaaGreatDoorSnzl
set_option linter.unusedVariables false
set_option linter.unusedSimpArgs false
set_option maxHeartbeats 4000000
namespace Go.Proofs.YtjljgahfkcdhfaaGreatDoor
set_option maxRecDepth 100000
set_option maxHeartbeats 8000000
theorem rsubsZ_call : MCalls Tryz.prog 30 [.lst 7 [] false, .lst 7 [] false] St.none (fun r _ => r = .bool true) := by
 refine (MCalls.body 107 [.tmp 4] Tryz.func30 rfl rfl rfl rfl ?_)
 repeat' (first | (with_reducible first | (refine wN fun _ hnl => ?_; revert hnl; (repeat refine wS fun _ _ => ?_); intro hnl) | refine wE ?_ | (refine wK ?_ ?_ <;> intro h) | (refine wB ?_ ?_ <;> intro h <;> simp only [h])) | simp (maxSteps := 4000000) (disch := first | decide | assumption | omega | (simp only [wL]; omega)) only [go_sem, simprocAttr, Tryz.f30])
 refine mloop_intro (α := Unit) (fun _ => ⟨107, [(5, .int .i64 0), (0, .lst 7 [] false), (1, .lst 7 [] false)], []⟩)
  (fun _ => St.none) (fun _ => True) (fun _ => 0) ?_ ?_
 ·refine .of (.less ?_ (St.le_refl _)) ⟨(), rfl, rfl, trivial⟩
  simp (maxSteps := 4000000) (disch := first | decide | assumption | omega | (simp only [wL]; omega)) only [go_sem, simprocAttr, weak_int, weak_same]
  all_goals first | rfl | (simp; done)
 ·rintro ⟨⟩ -
  repeat' (first | (with_reducible first | (refine wN fun _ hnl => ?_; revert hnl; (repeat refine wS fun _ _ => ?_); intro hnl) | refine wE ?_ | (refine wK ?_ ?_ <;> intro h) | (refine wB ?_ ?_ <;> intro h <;> simp only [h])) | simp (maxSteps := 4000000) (disch := first | decide | assumption | omega | (simp only [wL]; omega)) only [go_sem, simprocAttr])
theorem rbook_call (a b : BK) (h1 : a.cards.length ≤ 1000000) (h2 : a.dead.length ≤ 1000000) (h3 : a.gr.length ≤ 1000000) (h4 : ∀ g, g ∈ a.gr → g.mem.length ≤ 1000000) : MCalls Tryz.prog 29 [.agg a.c, .agg b.c] St.none (fun r _ => r = .bool (decide (a = b))) := by
 refine MCalls.drops (MCalls.body 38 [.tmp 4] Tryz.func29 rfl rfl rfl rfl ?_)
 have c1 := rcards_call a.cards b.cards h1 false false
 have c2 := rdead_call a.dead b.dead h2 false false
 have c3 := rgroups_call a.gr b.gr h3 h4 false false
 obtain ⟨res, hres⟩ : ∃ r, decide (a = b) = r := ⟨_, rfl⟩
 have e : Unit → decide (a.sq = b.sq ∧ a.nx = b.nx ∧ a.cards = b.cards ∧ a.dead = b.dead ∧ a.gr = b.gr) = res := fun _ => by
  rw [← hres]
  exact decide_eq_decide.mpr bk_iff.symm
 rw [hres]
 clear hres
 repeat' (first | (with_reducible first | refine up c1 ?_ | refine up c2 ?_ | refine up c3 ?_) | (with_reducible first | (refine wN fun _ hnl => ?_; revert hnl; (repeat refine wS fun _ _ => ?_); intro hnl) | refine wE ?_ | (refine wK ?_ ?_ <;> intro h) | (refine wB ?_ ?_ <;> intro h <;> simp only [h])) | simp (maxSteps := 4000000) (disch := first | decide | assumption | omega | (simp only [wL]; omega)) only [go_sem, simprocAttr, Tryz.f29])
 all_goals first | refine ⟨_, St.le_refl _, ?_⟩ | skip
 all_goals rw [← e ()]
 all_goals clear e
 all_goals simp [*]
theorem rrnew_call : MCalls Tryz.prog 32 [] St.none (fun v σ' => ∃ q, v = .vec 12 q 0 6 ∧ σ' = St.none.set q rw6) := by
 refine (MCalls.body 13 [.tmp 0] Tryz.func32 rfl rfl rfl rfl ?_)
 repeat' (first | (with_reducible first | (refine wT ?_; (first | ((fail_if_success (have := nl1)); refine wN fun nl1 hnl => ?_) | ((fail_if_success (have := nl2)); refine wN fun nl2 hnl => ?_) | ((fail_if_success (have := nl3)); refine wN fun nl3 hnl => ?_) | refine wN fun _ hnl => ?_); revert hnl; (repeat refine wS fun _ _ => ?_); intro hnl) | refine wE ?_ | (refine wK ?_ ?_ <;> intro h) | (refine wB ?_ ?_ <;> intro h <;> simp only [h])) | simp (maxSteps := 4000000) (disch := first | decide | assumption | omega | (simp only [wL]; omega)) only [go_sem, simprocAttr, Tryz.f32])
 refine mloop_intro (α := Nat × Nat) (fun a => ⟨13, [(2, .int .i64 (a.1 : Int)), (1, .vec 12 a.2 0 a.1)], []⟩)
  (fun a => St.none.set a.2 (.row 41 12 (List.replicate a.1 rw0z))) (fun a => a.1 ≤ 6) (fun a => 6 - a.1) ?_ ?_
 ·refine .of (.less ?_ (St.le_refl _)) ⟨(0, nl1), rfl, rfl, Nat.zero_le _⟩
  simp (maxSteps := 4000000) (disch := first | decide | assumption | omega | (simp only [wL]; omega)) only [go_sem, simprocAttr, weak_int, weak_same]
  all_goals first | rfl | (simp; done)
 ·rintro ⟨i, q⟩ hi
  simp only at hi ⊢
  obtain rfl | rfl | rfl | rfl | rfl | rfl | rfl : i = 0 ∨ i = 1 ∨ i = 2 ∨ i = 3 ∨ i = 4 ∨ i = 5 ∨ i = 6 := by omega
  all_goals
   try simp only [List.replicate]
  ·repeat' (first | (with_reducible first | (refine wT ?_; (first | ((fail_if_success (have := nl1)); refine wN fun nl1 hnl => ?_) | ((fail_if_success (have := nl2)); refine wN fun nl2 hnl => ?_) | ((fail_if_success (have := nl3)); refine wN fun nl3 hnl => ?_) | refine wN fun _ hnl => ?_); revert hnl; (repeat refine wS fun _ _ => ?_); intro hnl) | refine wE ?_ | (refine wK ?_ ?_ <;> intro h) | (refine wB ?_ ?_ <;> intro h <;> simp only [h])) | simp (maxSteps := 4000000) (disch := first | decide | assumption | omega | (simp only [wL]; omega)) only [go_sem, simprocAttr])
   refine .of (.less ?_ (σ1 := St.none.set nl3 (.row 41 12 (List.replicate 1 rw0z))) (St.set_le (St.none_le _) (by simp [St.set, List.replicate, *]))) ⟨(1, nl3), rfl, rfl, by simp only; omega, by simp only; omega⟩
   simp (maxSteps := 4000000) (disch := first | decide | assumption | omega | (simp only [wL]; omega)) only [go_sem, simprocAttr, weak_int, weak_same]
   all_goals first | rfl | (simp; done)
  ·repeat' (first | (with_reducible first | (refine wT ?_; (first | ((fail_if_success (have := nl1)); refine wN fun nl1 hnl => ?_) | ((fail_if_success (have := nl2)); refine wN fun nl2 hnl => ?_) | ((fail_if_success (have := nl3)); refine wN fun nl3 hnl => ?_) | refine wN fun _ hnl => ?_); revert hnl; (repeat refine wS fun _ _ => ?_); intro hnl) | refine wE ?_ | (refine wK ?_ ?_ <;> intro h) | (refine wB ?_ ?_ <;> intro h <;> simp only [h])) | simp (maxSteps := 4000000) (disch := first | decide | assumption | omega | (simp only [wL]; omega)) only [go_sem, simprocAttr])
   refine .of (.less ?_ (σ1 := St.none.set nl3 (.row 41 12 (List.replicate 2 rw0z))) (St.set_le (St.none_le _) (by simp [St.set, List.replicate, *]))) ⟨(2, nl3), rfl, rfl, by simp only; omega, by simp only; omega⟩
   simp (maxSteps := 4000000) (disch := first | decide | assumption | omega | (simp only [wL]; omega)) only [go_sem, simprocAttr, weak_int, weak_same]
   all_goals first | rfl | (simp; done)
  ·repeat' (first | (with_reducible first | (refine wT ?_; (first | ((fail_if_success (have := nl1)); refine wN fun nl1 hnl => ?_) | ((fail_if_success (have := nl2)); refine wN fun nl2 hnl => ?_) | ((fail_if_success (have := nl3)); refine wN fun nl3 hnl => ?_) | refine wN fun _ hnl => ?_); revert hnl; (repeat refine wS fun _ _ => ?_); intro hnl) | refine wE ?_ | (refine wK ?_ ?_ <;> intro h) | (refine wB ?_ ?_ <;> intro h <;> simp only [h])) | simp (maxSteps := 4000000) (disch := first | decide | assumption | omega | (simp only [wL]; omega)) only [go_sem, simprocAttr])
   refine .of (.less ?_ (σ1 := St.none.set nl3 (.row 41 12 (List.replicate 3 rw0z))) (St.set_le (St.none_le _) (by simp [St.set, List.replicate, *]))) ⟨(3, nl3), rfl, rfl, by simp only; omega, by simp only; omega⟩
   simp (maxSteps := 4000000) (disch := first | decide | assumption | omega | (simp only [wL]; omega)) only [go_sem, simprocAttr, weak_int, weak_same]
   all_goals first | rfl | (simp; done)
  ·repeat' (first | (with_reducible first | (refine wT ?_; (first | ((fail_if_success (have := nl1)); refine wN fun nl1 hnl => ?_) | ((fail_if_success (have := nl2)); refine wN fun nl2 hnl => ?_) | ((fail_if_success (have := nl3)); refine wN fun nl3 hnl => ?_) | refine wN fun _ hnl => ?_); revert hnl; (repeat refine wS fun _ _ => ?_); intro hnl) | refine wE ?_ | (refine wK ?_ ?_ <;> intro h) | (refine wB ?_ ?_ <;> intro h <;> simp only [h])) | simp (maxSteps := 4000000) (disch := first | decide | assumption | omega | (simp only [wL]; omega)) only [go_sem, simprocAttr])
   refine .of (.less ?_ (σ1 := St.none.set nl3 (.row 41 12 (List.replicate 4 rw0z))) (St.set_le (St.none_le _) (by simp [St.set, List.replicate, *]))) ⟨(4, nl3), rfl, rfl, by simp only; omega, by simp only; omega⟩
   simp (maxSteps := 4000000) (disch := first | decide | assumption | omega | (simp only [wL]; omega)) only [go_sem, simprocAttr, weak_int, weak_same]
   all_goals first | rfl | (simp; done)
  ·repeat' (first | (with_reducible first | (refine wT ?_; (first | ((fail_if_success (have := nl1)); refine wN fun nl1 hnl => ?_) | ((fail_if_success (have := nl2)); refine wN fun nl2 hnl => ?_) | ((fail_if_success (have := nl3)); refine wN fun nl3 hnl => ?_) | refine wN fun _ hnl => ?_); revert hnl; (repeat refine wS fun _ _ => ?_); intro hnl) | refine wE ?_ | (refine wK ?_ ?_ <;> intro h) | (refine wB ?_ ?_ <;> intro h <;> simp only [h])) | simp (maxSteps := 4000000) (disch := first | decide | assumption | omega | (simp only [wL]; omega)) only [go_sem, simprocAttr])
   refine .of (.less ?_ (σ1 := St.none.set nl3 (.row 41 12 (List.replicate 5 rw0z))) (St.set_le (St.none_le _) (by simp [St.set, List.replicate, *]))) ⟨(5, nl3), rfl, rfl, by simp only; omega, by simp only; omega⟩
   simp (maxSteps := 4000000) (disch := first | decide | assumption | omega | (simp only [wL]; omega)) only [go_sem, simprocAttr, weak_int, weak_same]
   all_goals first | rfl | (simp; done)
  ·repeat' (first | (with_reducible first | (refine wT ?_; (first | ((fail_if_success (have := nl1)); refine wN fun nl1 hnl => ?_) | ((fail_if_success (have := nl2)); refine wN fun nl2 hnl => ?_) | ((fail_if_success (have := nl3)); refine wN fun nl3 hnl => ?_) | refine wN fun _ hnl => ?_); revert hnl; (repeat refine wS fun _ _ => ?_); intro hnl) | refine wE ?_ | (refine wK ?_ ?_ <;> intro h) | (refine wB ?_ ?_ <;> intro h <;> simp only [h])) | simp (maxSteps := 4000000) (disch := first | decide | assumption | omega | (simp only [wL]; omega)) only [go_sem, simprocAttr])
   refine .of (.less ?_ (σ1 := St.none.set nl3 (.row 41 12 (List.replicate 6 rw0z))) (St.set_le (St.none_le _) (by simp [St.set, List.replicate, *]))) ⟨(6, nl3), rfl, rfl, by simp only; omega, by simp only; omega⟩
   simp (maxSteps := 4000000) (disch := first | decide | assumption | omega | (simp only [wL]; omega)) only [go_sem, simprocAttr, weak_int, weak_same]
   all_goals first | rfl | (simp; done)
  ·repeat' (first | (with_reducible first | (refine wT ?_; (first | ((fail_if_success (have := nl1)); refine wN fun nl1 hnl => ?_) | ((fail_if_success (have := nl2)); refine wN fun nl2 hnl => ?_) | ((fail_if_success (have := nl3)); refine wN fun nl3 hnl => ?_) | refine wN fun _ hnl => ?_); revert hnl; (repeat refine wS fun _ _ => ?_); intro hnl) | refine wE ?_ | (refine wK ?_ ?_ <;> intro h) | (refine wB ?_ ?_ <;> intro h <;> simp only [h])) | simp (maxSteps := 4000000) (disch := first | decide | assumption | omega | (simp only [wL]; omega)) only [go_sem, simprocAttr])
   exact ⟨q, rfl, rfl⟩
theorem rnew_call : MCalls Tryz.prog 9 [] St.none (fun r _ => r = .agg saZ.c) := by
 refine MCalls.seen (MCalls.ghost (Q := fun v σ' => View σ' v (.agg saZ.c)) (MCalls.less (Q' := fun v σ' => ∃ q, v = .agg [.int .i64 0, .int .i64 1, .nils, .nils, .nils, .nils, .vec 12 q 0 6] ∧ σ' q = some rw6) (Q := fun v σ' => ∃ v1 σ1, Ghost ⟨1, [(0, v)], []⟩ σ' ⟨1, [(0, v1)], []⟩ σ1 ∧ View σ1 v1 (.agg saZ.c)) ?_ fun v σ' h => ?_))
 rotate_left
 ·obtain ⟨q, rfl, h⟩ := h
  refine ⟨_, St.set_le (St.none_le _) h, .agg (saZ.v q), St.none.set q saZ.o, Ghost.freezeIn St.none (St.none_le _) (fun k o1 h => ?_) (fun _ _ _ => rfl) (fun p hp => ?_), ?_⟩
  ·have hk : k = q := by
    apply Classical.byContradiction
    intro e
    simp [St.set, e, St.none] at h
   subst hk
   rw [set_hit] at h
   cases h
   exact ⟨_, set_hit _ _ _, oview_z⟩
  ·simp at hp
   subst hp
   simp only [lget, if_true]
   exact .aggL ⟨.same _, .same _, .nil 27 false, .nil 3 false, .nil 2 false, .nil 7 false, .same _, trivial⟩ rfl
  ·exact .aggL ⟨.same _, .same _, .same _, .same _, .same _, .same _, .vecAll (set_hit _ _ _) rfl, trivial⟩ rfl
 refine (MCalls.body 4 [.cell 0 30] Tryz.func9 rfl rfl rfl rfl ?_)
 repeat' (first | (refine use_new rrnew_call ?_; (intro q hq; have q1 := (none_ne hq).1; have q2 := Ne.symm q1)) | (with_reducible first | (refine wN fun _ hnl => ?_; revert hnl; (repeat refine wS fun _ _ => ?_); intro hnl) | refine wE ?_ | (refine wK ?_ ?_ <;> intro h) | (refine wB ?_ ?_ <;> intro h <;> simp only [h])) | simp (maxSteps := 4000000) (disch := first | decide | assumption | omega | (simp only [wL]; omega)) only [go_sem, simprocAttr, Tryz.f9])
 exact ⟨q, rfl, by first | exact set_hit _ _ _ | simp [St.set, List.replicate, *]⟩
theorem rsame_stZ (l : List RW) (hl : l.length ≤ 1000000) (hf : ∀ r, r ∈ l → r.ans.fl.length ≤ 1000000) : MCalls Tryz.prog 8 [.agg (⟨bkZ, [], l⟩ : SA).c, .agg saZ.c] St.none (fun r _ => r = .bool (decide (l = rowsZ))) := by
 refine MCalls.drops (MCalls.body 24 [.tmp 4] Tryz.func8 rfl rfl rfl rfl ?_)
 have c1 := rbook_call bkZ bkZ (by simp [bkZ]) (by simp [bkZ]) (by simp [bkZ]) (by simp [bkZ])
 rw [decide_eq_true rfl] at c1
 have c2 := rsubsZ_call
 have c3 := rrows_call l rowsZ hl hf false false
 repeat' (first | (with_reducible first | refine up c1 ?_ | refine up c2 ?_ | refine up c3 ?_) | (with_reducible first | (refine wN fun _ hnl => ?_; revert hnl; (repeat refine wS fun _ _ => ?_); intro hnl) | refine wE ?_ | (refine wK ?_ ?_ <;> intro h) | (refine wB ?_ ?_ <;> intro h <;> simp only [h])) | simp (maxSteps := 4000000) (disch := first | decide | assumption | omega | (simp only [wL]; omega)) only [go_sem, simprocAttr, Tryz.f8, List.map_nil, saZ])
 all_goals first | exact ⟨_, St.le_refl _, rfl⟩ | exact ⟨_, St.le_refl _⟩
theorem stcardsZ_call (l : List RW) (dev : Int) : MCalls Tryz.prog 7 [.agg (⟨bkZ, [], l⟩ : SA).c, .int .i64 dev] St.none (fun r _ => r = .nils) := by
 refine MCalls.drops (MCalls.body 34 [.tmp 4] Tryz.func7 rfl rfl rfl rfl ?_)
 repeat' (first | (with_reducible first | (refine wN fun _ hnl => ?_; revert hnl; (repeat refine wS fun _ _ => ?_); intro hnl) | refine wE ?_ | (refine wK ?_ ?_ <;> intro h) | (refine wB ?_ ?_ <;> intro h <;> simp only [h])) | simp (maxSteps := 4000000) (disch := first | decide | assumption | omega | (simp only [wL]; omega)) only [go_sem, simprocAttr, Tryz.f7, List.map_nil])
 refine mloop_intro (α := Unit) (fun _ => ⟨34, [(12, .int .i64 0), (11, .int .i64 0)], []⟩)
  (fun _ => St.none) (fun _ => True) (fun _ => 0) ?_ ?_
 ·refine .of (.less ?_ (St.none_le _)) ⟨(), rfl, rfl, trivial⟩
  simp (maxSteps := 4000000) (disch := first | decide | assumption | omega | (simp only [wL]; omega)) only [go_sem, simprocAttr, weak_int, weak_same]
  all_goals first | rfl | (simp; done)
 ·rintro ⟨⟩ -
  repeat' (first | (with_reducible first | (refine wN fun _ hnl => ?_; revert hnl; (repeat refine wS fun _ _ => ?_); intro hnl) | refine wE ?_ | (refine wK ?_ ?_ <;> intro h) | (refine wB ?_ ?_ <;> intro h <;> simp only [h])) | simp (maxSteps := 4000000) (disch := first | decide | assumption | omega | (simp only [wL]; omega)) only [go_sem, simprocAttr])
  all_goals first | exact ⟨_, St.le_refl _, rfl⟩ | exact ⟨_, St.le_refl _⟩
end Go.Proofs.YtjljgahfkcdhfaaGreatDoor
