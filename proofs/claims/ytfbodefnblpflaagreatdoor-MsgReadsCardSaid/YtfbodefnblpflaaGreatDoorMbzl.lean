/- Parts of the proof, joined. Each part says what it proves, and under which conditions it does: those that its theorems name. -/
import Derived.Test.YtfbodefnblpflaaGreatDoorMbzd
import Derived.Test.YtfbodefnblpflaaGreatDoorMbzj
set_option linter.unusedVariables false
set_option linter.unusedSimpArgs false
set_option maxHeartbeats 4000000
namespace Go.Proofs.YtfbodefnblpflaaGreatDoor
set_option maxRecDepth 100000
set_option maxHeartbeats 4000000
theorem rpgread_call (r : RD) [hs : Sh r] (l : Nat) : MCalls Tryz.prog 54 [.ptr l 0 0] (St.none.set l (rR r)) (fun v σ' => v = .agg (pageR r).1.c ∧ σ' = St.none.set l (rR (pageR r).2)) := by
 refine MCalls.seenO (MCalls.body 78 [.cell 2 40] Tryz.func54 rfl rfl rfl rfl ?_)
 have h1 := rRNum_call 16 r l
 haveI hcs : Sh (numR 16 r).2 := inferInstance
 obtain ⟨c, hc⟩ : ∃ c, numR 16 r = c := ⟨_, rfl⟩
 rw [hc] at h1 hcs
 have h2 := rtread_call c.2 l
 haveI hfs : Sh (tokR c.2).2 := inferInstance
 obtain ⟨f, hf⟩ : ∃ f, tokR c.2 = f := ⟨_, rfl⟩
 rw [hf] at h2 hfs
 have hfail := fun s => rRFail_call 3 s l
 by_cases hgo : f.2.e = 0 ∧ c.1 = 0
 ·have h3 := rRFlag_call f.2 l
  haveI hss : Sh (flagR f.2).2 := inferInstance
  obtain ⟨⟨sb, ss⟩, hs'⟩ : ∃ s, flagR f.2 = s := ⟨_, rfl⟩
  rw [hs'] at h3 hss
  simp only at h3 hss
  have h4 := rtread_call ss l
  haveI hts : Sh (tokR ss).2 := inferInstance
  obtain ⟨t, ht⟩ : ∃ t, tokR ss = t := ⟨_, rfl⟩
  rw [ht] at h4 hts
  by_cases hz : t.2.e = 0 ∧ sb = false
  ·have h5 := rRNum_call 16 t.2 l
   haveI hns : Sh (numR 16 t.2).2 := inferInstance
   have hr := (numR_rng 16 t.2).1
   have hm := numR_most (most := 16) (by decide) t.2
   obtain ⟨⟨k, y⟩, hn⟩ : ∃ n, numR 16 t.2 = n := ⟨_, rfl⟩
   rw [hn] at h5 hns hr hm
   simp only at h5 hns hr hm
   obtain ⟨K, rfl⟩ : ∃ K : Nat, k = K := ⟨k.toNat, by omega⟩
   have hK : K ≤ 16 := by omega
   obtain ⟨T, hT⟩ : ∃ T, listR itemR K ([], y) = T := ⟨_, rfl⟩
   have e : pageR r = okR pg0 (⟨c.1, sb, f.1, t.1, T.1⟩, if pageOk ⟨c.1, sb, f.1, t.1, T.1⟩ = true then T.2 else failR 3 T.2) := by
    simp [pageR, hc, hf, hgo, hs', ht, hz, hn, hT]
   obtain ⟨hg1, hg2⟩ := hgo
   obtain ⟨hz1, hz2⟩ := hz
   clear hc hf hs' ht hn
   repeat' (first | (with_reducible (refine wQ ?_; first | refine uR (h1 ..) ?_ | refine uR (h2 ..) ?_ | refine uR (h3 ..) ?_ | refine uR (h4 ..) ?_ | refine uR (h5 ..) ?_)) | (with_reducible first | (refine wT ?_; (first | ((fail_if_success (have := nl1)); refine wN fun nl1 hnl => ?_) | ((fail_if_success (have := nl2)); refine wN fun nl2 hnl => ?_) | ((fail_if_success (have := nl3)); refine wN fun nl3 hnl => ?_) | ((fail_if_success (have := nl4)); refine wN fun nl4 hnl => ?_) | refine wN fun _ hnl => ?_); revert hnl; (repeat refine wS fun _ _ => ?_); intro hnl) | refine wE ?_ | (refine wK ?_ ?_ <;> intro h) | (refine wB ?_ ?_ <;> intro h <;> simp only [h])) | simp (maxSteps := 4000000) (disch := first | decide | assumption | omega | (simp only [wL]; omega)) only [go_sem, simprocAttr, Tryz.f54, FXs])
   all_goals (try (exfalso; simp_all; done))
   have d1 : nl1 ≠ l := by assumption
   have d2 : nl2 ≠ l := by assumption
   have d3 : nl2 ≠ nl1 := by assumption
   clear h1 h2 h3 h4 h5 hr hm
   refine mloop_intro (α := Nat × List IT × RD × Nat × List (List MV)) (fun a => ⟨78, [(5, .int .i64 (a.1 : Int)), (4, .int .i64 (K : Int)), (3, .ptr nl2 0 0), (2, .ptr nl1 0 0), (0, .ptr l 0 0)], []⟩)
    (fun a => (((St.none.set l (rR a.2.2.1)).set nl1 (.row 40 11 [pg0.k .nils])).set nl2 (.row 40 11 [(PG.mk c.1 sb f.1 t.1 []).k (.vec 28 a.2.2.2.1 0 a.2.1.length)])).set a.2.2.2.1 (.row 119 28 (IT.ks a.2.1 ++ a.2.2.2.2)))
    (fun a => a.1 ≤ K ∧ (a.2.2.2.1 ≠ l ∧ a.2.2.2.1 ≠ nl1 ∧ a.2.2.2.1 ≠ nl2) ∧ listR itemR (K - a.1) (a.2.1, a.2.2.1) = T ∧ Sh a.2.2.1 ∧ a.2.1.length ≤ a.1) (fun a => K - a.1) ?_ ?_
   ·refine Gh.rowIn (b := nl2) (t := 40) (e := 11) (pre := [.int .i64 c.1, .bool sb, .int .i64 f.1.dev, .int .i64 f.1.ep, .int .i64 f.1.sq, .int .i64 f.1.cu, .int .i64 t.1.dev, .int .i64 t.1.ep, .int .i64 t.1.sq, .int .i64 t.1.cu]) (post := []) 119 28 (by simp [St.set, *]) fun q hq => ?_
    have q1 : q ≠ l := fun e => by subst e; simp [St.set, *] at hq
    have q2 : q ≠ nl1 := fun e => by subst e; simp [St.set, *] at hq
    have q3 : q ≠ nl2 := fun e => by subst e; simp [St.set, *] at hq
    have q1' := Ne.symm q1
    have q2' := Ne.symm q2
    have q3' := Ne.symm q3
    have d1' := Ne.symm d1
    have d2' := Ne.symm d2
    have d3' := Ne.symm d3
    refine .of (.less ?_ (σ1 := (((St.none.set l (rR y)).set nl1 (.row 40 11 [pg0.k .nils])).set nl2 (.row 40 11 [(PG.mk c.1 sb f.1 t.1 []).k (.vec 28 q 0 0)])).set q (.row 119 28 [])) (le4 (by simp [St.set, *]) (by simp [St.set, pg0, tk0, *]) (by simp [St.set, *]) (by simp [St.set, *]))) ⟨(0, [], y, q, []), rfl, rfl, Nat.zero_le _, ⟨q1, q2, q3⟩, hT, hns, Nat.le_refl _⟩
    simp (maxSteps := 4000000) (disch := first | decide | assumption | omega | (simp only [wL]; omega)) only [go_sem, simprocAttr, weak_int, weak_same]
    all_goals rfl
   ·rintro ⟨i, acc, x, q, ex⟩ ⟨hi, ⟨q1, q2, q3⟩, hq, hsx, hal⟩
    simp only at hi q1 q2 q3 hq hsx hal ⊢
    have q1' := Ne.symm q1
    have q2' := Ne.symm q2
    have q3' := Ne.symm q3
    have d1' := Ne.symm d1
    have d2' := Ne.symm d2
    have d3' := Ne.symm d3
    by_cases hx : i < K ∧ x.e = 0
    ·have hstep : listR itemR (K - i) (acc, x) = listR itemR (K - (i + 1)) (acc ++ [(itemR x).1], (itemR x).2) := by
      rw [show K - i = (K - (i + 1)) + 1 by omega, listR, if_pos hx.2]
     rw [hstep] at hq
     have hcl := ritemR_call x l
     obtain ⟨w, hw⟩ : ∃ w, itemR x = w := ⟨_, rfl⟩
     haveI hsw : Sh w.2 := by rw [← hw]; infer_instance
     rw [hw] at hcl hq
     obtain ⟨hx1, hx2⟩ := hx
     clear hT hstep hw e
     repeat' (first | (with_reducible first | (refine wT ?_; (first | ((fail_if_success (have := nl1)); refine wN fun nl1 hnl => ?_) | ((fail_if_success (have := nl2)); refine wN fun nl2 hnl => ?_) | ((fail_if_success (have := nl3)); refine wN fun nl3 hnl => ?_) | ((fail_if_success (have := nl4)); refine wN fun nl4 hnl => ?_) | refine wN fun _ hnl => ?_); revert hnl; (repeat refine wS fun _ _ => ?_); intro hnl) | refine wE ?_ | (refine wK ?_ ?_ <;> intro h) | (refine wB ?_ ?_ <;> intro h <;> simp only [h])) | simp (maxSteps := 4000000) (disch := first | decide | assumption | omega | (simp only [wL]; omega)) only [go_sem, simprocAttr, FXs, tk_app, dr_app])
     refine mdraw_upd mixed [(0, l), (3, nl2)] [0, 3] rfl [(52, 3), (58, 3)] 0 (by decide) (by decide +kernel) (kn [(97, [.ptr l 0 0], ⟨[l], fun _ => True, some (rR w.2, fun _ => .agg (IT.k w.1))⟩)]) ?_ ?_ ?_ (by decide) ?_ ?_
     ·intro g ms F hF l' hl'
      rw [kn_one hF] at hl'
      exact List.mem_singleton.1 hl'
     ·intro p hp
      simp only [List.mem_cons, List.not_mem_nil, or_false] at hp
      rcases hp with rfl | rfl
      ·exact ⟨0, 0, rfl⟩
      ·exact ⟨0, 0, rfl⟩
     ·simp [Ne.symm d2]
     ·intro p hp
      simp only [List.mem_cons, List.not_mem_nil, or_false] at hp
      rcases hp with rfl | rfl
      ·exact ⟨by decide, fun l i o h => absurd h (by simp [FR.get, lget])⟩
      ·exact ⟨by decide, fun l i o h => absurd h (by simp [FR.get, lget])⟩
     ·repeat' (first | (((with_reducible refine knowU_upd kn_hit ?ho hcl ?_); (case ho => simp [St.set, *]))) | (with_reducible first | (refine wT ?_; (first | ((fail_if_success (have := nl1)); refine wN fun nl1 hnl => ?_) | ((fail_if_success (have := nl2)); refine wN fun nl2 hnl => ?_) | ((fail_if_success (have := nl3)); refine wN fun nl3 hnl => ?_) | ((fail_if_success (have := nl4)); refine wN fun nl4 hnl => ?_) | refine wN fun _ hnl => ?_); revert hnl; (repeat refine wS fun _ _ => ?_); intro hnl) | refine wE ?_ | (refine wK ?_ ?_ <;> intro h) | (refine wB ?_ ?_ <;> intro h <;> simp only [h])) | simp (maxSteps := 4000000) (disch := first | decide | assumption | omega | (simp only [wL]; omega)) only [go_sem, simprocAttr, FXs, tk_app, dr_app])
      ·have hex : ex = [] := List.eq_nil_of_length_eq_zero (by omega)
       subst hex
       clear h
       refine .of (.less ?_ (σ1 := (((St.none.set l (rR w.2)).set nl1 (.row 40 11 [pg0.k .nils])).set nl2 (.row 40 11 [(PG.mk c.1 sb f.1 t.1 []).k (.vec 28 nl4 0 (acc ++ [w.1]).length)])).set nl4 (.row 119 28 (IT.ks (acc ++ [w.1]) ++ []))) (le4 (by simp [St.set, *]) (by simp [St.set, pg0, tk0, *]) (by simp [St.set, *]) (by simp [St.set, *]))) ⟨(i + 1, acc ++ [w.1], w.2, nl4, []), rfl, rfl, ⟨by simp only; omega, ⟨by assumption, by assumption, by assumption⟩, hq, hsw, by simp only [List.length_append, List.length_cons, List.length_nil]; omega⟩, by simp only; omega⟩
       simp (maxSteps := 4000000) (disch := first | decide | assumption | omega | (simp only [wL]; omega)) only [go_sem, simprocAttr, weak_int, weak_same]
       all_goals (simp; done)
      ·refine .of (.less ?_ (σ1 := (((St.none.set l (rR w.2)).set nl1 (.row 40 11 [pg0.k .nils])).set nl2 (.row 40 11 [(PG.mk c.1 sb f.1 t.1 []).k (.vec 28 nl4 0 (acc ++ [w.1]).length)])).set nl4 (.row 119 28 (IT.ks (acc ++ [w.1]) ++ ex.drop 1))) (le4 (by simp [St.set, *]) (by simp [St.set, pg0, tk0, *]) (by simp [St.set, *]) (by simp [St.set, *]))) ⟨(i + 1, acc ++ [w.1], w.2, nl4, ex.drop 1), rfl, rfl, ⟨by simp only; omega, ⟨by assumption, by assumption, by assumption⟩, hq, hsw, by simp only [List.length_append, List.length_cons, List.length_nil]; omega⟩, by simp only; omega⟩
       simp (maxSteps := 4000000) (disch := first | decide | assumption | omega | (simp only [wL]; omega)) only [go_sem, simprocAttr, weak_int, weak_same]
       all_goals (simp; done)
    ·have hend : listR itemR (K - i) (acc, x) = (acc, x) := by
      by_cases hiK : i < K
      ·exact listR_stk _ _ (fun h => hx ⟨hiK, h⟩)
      ·rw [show K - i = 0 by omega, listR]
     rw [hend] at hq
     have hT1 : T.1 = acc := by rw [← hq]
     have hT2 : T.2 = x := by rw [← hq]
     rw [hT1, hT2] at e
     clear hT hend hq hT1 hT2
     have hfail := rRFail_call 3 x l
     have hk := rpgcheck_call ⟨c.1, sb, f.1, t.1, acc⟩ (by first | (simp; done) | (simp only; omega))
     have hxK : x.e = 0 → i = K := fun h => Classical.byContradiction fun h2 => hx ⟨by omega, h⟩
     clear hx
     by_cases he : x.e = 0
     ·cases hok : pageOk ⟨c.1, sb, f.1, t.1, acc⟩ <;> rw [hok] at hk
      ·rw [hok, if_neg (by simp), okR_n (failR_ne (by decide) _)] at e
       rw [e]
       clear e
       have hne := failR_ne (e := 3) (by decide) x
       all_goals (try (exfalso; omega))
       repeat' (first | (with_reducible refine use_lend [.agg (PG.c ⟨c.1, sb, f.1, t.1, acc⟩)] hk (.bool _) rfl (views_one (vpg (p := ⟨c.1, sb, f.1, t.1, acc⟩) (viewR (set_hit _ _ _)))) ?_) | (with_reducible (refine wQ ?_; first | refine uR (hfail ..) ?_)) | (with_reducible first | (refine wT ?_; (first | ((fail_if_success (have := nl1)); refine wN fun nl1 hnl => ?_) | ((fail_if_success (have := nl2)); refine wN fun nl2 hnl => ?_) | ((fail_if_success (have := nl3)); refine wN fun nl3 hnl => ?_) | ((fail_if_success (have := nl4)); refine wN fun nl4 hnl => ?_) | refine wN fun _ hnl => ?_); revert hnl; (repeat refine wS fun _ _ => ?_); intro hnl) | refine wE ?_ | (refine wK ?_ ?_ <;> intro h) | (refine wB ?_ ?_ <;> intro h <;> simp only [h])) | simp (maxSteps := 4000000) (disch := first | decide | assumption | omega | (simp only [wL]; omega)) only [go_sem, simprocAttr, FXs, tk_app, dr_app, pg0])
       all_goals first | exact vpg (p := pg0) (.nil _ _) | exact ⟨vpg (p := pg0) (.nil _ _), rfl⟩
      ·rw [hok, if_pos rfl, okR_y he] at e
       rw [e]
       clear e
       all_goals (try (exfalso; omega))
       repeat' (first | (with_reducible refine use_lend [.agg (PG.c ⟨c.1, sb, f.1, t.1, acc⟩)] hk (.bool _) rfl (views_one (vpg (p := ⟨c.1, sb, f.1, t.1, acc⟩) (viewR (set_hit _ _ _)))) ?_) | (with_reducible (refine wQ ?_; first | refine uR (hfail ..) ?_)) | (with_reducible first | (refine wT ?_; (first | ((fail_if_success (have := nl1)); refine wN fun nl1 hnl => ?_) | ((fail_if_success (have := nl2)); refine wN fun nl2 hnl => ?_) | ((fail_if_success (have := nl3)); refine wN fun nl3 hnl => ?_) | ((fail_if_success (have := nl4)); refine wN fun nl4 hnl => ?_) | refine wN fun _ hnl => ?_); revert hnl; (repeat refine wS fun _ _ => ?_); intro hnl) | refine wE ?_ | (refine wK ?_ ?_ <;> intro h) | (refine wB ?_ ?_ <;> intro h <;> simp only [h])) | simp (maxSteps := 4000000) (disch := first | decide | assumption | omega | (simp only [wL]; omega)) only [go_sem, simprocAttr, FXs, tk_app, dr_app, pg0])
       all_goals first | exact vpg (p := ⟨c.1, sb, f.1, t.1, acc⟩) (viewR (set_hit _ _ _)) | exact ⟨vpg (p := ⟨c.1, sb, f.1, t.1, acc⟩) (viewR (set_hit _ _ _)), rfl⟩
     ·rw [failR_stk he, ite_self, okR_n he] at e
      rw [e]
      clear e
      all_goals (try (exfalso; omega))
      repeat' (first | (with_reducible refine use_lend [.agg (PG.c ⟨c.1, sb, f.1, t.1, acc⟩)] hk (.bool _) rfl (views_one (vpg (p := ⟨c.1, sb, f.1, t.1, acc⟩) (viewR (set_hit _ _ _)))) ?_) | (with_reducible (refine wQ ?_; first | refine uR (hfail ..) ?_)) | (with_reducible first | (refine wT ?_; (first | ((fail_if_success (have := nl1)); refine wN fun nl1 hnl => ?_) | ((fail_if_success (have := nl2)); refine wN fun nl2 hnl => ?_) | ((fail_if_success (have := nl3)); refine wN fun nl3 hnl => ?_) | ((fail_if_success (have := nl4)); refine wN fun nl4 hnl => ?_) | refine wN fun _ hnl => ?_); revert hnl; (repeat refine wS fun _ _ => ?_); intro hnl) | refine wE ?_ | (refine wK ?_ ?_ <;> intro h) | (refine wB ?_ ?_ <;> intro h <;> simp only [h])) | simp (maxSteps := 4000000) (disch := first | decide | assumption | omega | (simp only [wL]; omega)) only [go_sem, simprocAttr, FXs, tk_app, dr_app, pg0])
      all_goals first | exact vpg (p := pg0) (.nil _ _) | exact ⟨vpg (p := pg0) (.nil _ _), rfl⟩
  ·have e : pageR r = okR pg0 (⟨c.1, sb, f.1, t.1, []⟩, if pageOk ⟨c.1, sb, f.1, t.1, []⟩ = true then t.2 else failR 3 t.2) := by
    have : ¬ ((decide (t.2.e = 0) && !sb) = true) := by
     intro h
     simp only [Bool.and_eq_true, decide_eq_true_eq, Bool.not_eq_true'] at h
     exact hz h
    simp [pageR, hc, hf, hgo, hs', ht, this, listR]
   obtain ⟨hg1, hg2⟩ := hgo
   clear hc hf hs' ht
   have hzz : t.2.e = 0 → sb = true := fun h => by cases sb with
    | true => rfl
    | false => exact absurd ⟨h, rfl⟩ hz
   repeat' (first | (with_reducible (refine wQ ?_; first | refine uR (h1 ..) ?_ | refine uR (h2 ..) ?_ | refine uR (h3 ..) ?_ | refine uR (h4 ..) ?_)) | (with_reducible first | (refine wT ?_; (first | ((fail_if_success (have := nl1)); refine wN fun nl1 hnl => ?_) | ((fail_if_success (have := nl2)); refine wN fun nl2 hnl => ?_) | ((fail_if_success (have := nl3)); refine wN fun nl3 hnl => ?_) | ((fail_if_success (have := nl4)); refine wN fun nl4 hnl => ?_) | refine wN fun _ hnl => ?_); revert hnl; (repeat refine wS fun _ _ => ?_); intro hnl) | refine wE ?_ | (refine wK ?_ ?_ <;> intro h) | (refine wB ?_ ?_ <;> intro h <;> simp only [h])) | simp (maxSteps := 4000000) (disch := first | decide | assumption | omega | (simp only [wL]; omega)) only [go_sem, simprocAttr, Tryz.f54, FXs])
   all_goals (try (exfalso; simp_all; done))
   all_goals
    have d1 : nl1 ≠ l := by assumption
    have d2 : nl2 ≠ l := by assumption
    have d3 : nl2 ≠ nl1 := by assumption
    refine mloop_intro (α := Unit) (fun _ => ⟨78, [(5, .int .i64 0), (4, .int .i64 0), (3, .ptr nl2 0 0), (2, .ptr nl1 0 0), (0, .ptr l 0 0)], []⟩) (fun _ => ((St.none.set l (rR t.2)).set nl1 (.row 40 11 [pg0.k .nils])).set nl2 (.row 40 11 [(PG.mk c.1 sb f.1 t.1 []).k .nils])) (fun _ => True) (fun _ => 0) (.of (.less ?_ (St.le_refl _)) ⟨(), rfl, rfl, trivial⟩) ?_
    ·simp (maxSteps := 4000000) (disch := first | decide | assumption | omega | (simp only [wL]; omega)) only [go_sem, simprocAttr, weak_int, weak_same]
     all_goals rfl
    ·rintro - -
     clear h1 h2 h3 h4 hz
     have hk := rpgcheck_call ⟨c.1, sb, f.1, t.1, []⟩ (by first | (simp; done) | (simp only; omega))
     by_cases he : t.2.e = 0
     ·cases hok : pageOk ⟨c.1, sb, f.1, t.1, []⟩ <;> rw [hok] at hk
      ·rw [hok, if_neg (by simp), okR_n (failR_ne (by decide) _)] at e
       rw [e]
       clear e
       have hne := failR_ne (e := 3) (by decide) t.2
       all_goals (try (exfalso; omega))
       repeat' (first | (with_reducible refine use_lend [.agg (PG.c ⟨c.1, sb, f.1, t.1, []⟩)] hk (.bool _) rfl (views_one (vpg (p := ⟨c.1, sb, f.1, t.1, []⟩) (.nil _ _))) ?_) | (with_reducible (refine wQ ?_; first | refine uR (hfail ..) ?_)) | (with_reducible first | (refine wT ?_; (first | ((fail_if_success (have := nl1)); refine wN fun nl1 hnl => ?_) | ((fail_if_success (have := nl2)); refine wN fun nl2 hnl => ?_) | ((fail_if_success (have := nl3)); refine wN fun nl3 hnl => ?_) | ((fail_if_success (have := nl4)); refine wN fun nl4 hnl => ?_) | refine wN fun _ hnl => ?_); revert hnl; (repeat refine wS fun _ _ => ?_); intro hnl) | refine wE ?_ | (refine wK ?_ ?_ <;> intro h) | (refine wB ?_ ?_ <;> intro h <;> simp only [h])) | simp (maxSteps := 4000000) (disch := first | decide | assumption | omega | (simp only [wL]; omega)) only [go_sem, simprocAttr, FXs, tk_app, dr_app, pg0])
       all_goals first | exact vpg (p := pg0) (.nil _ _) | exact ⟨vpg (p := pg0) (.nil _ _), rfl⟩
      ·rw [hok, if_pos rfl, okR_y he] at e
       rw [e]
       clear e
       all_goals (try (exfalso; omega))
       repeat' (first | (with_reducible refine use_lend [.agg (PG.c ⟨c.1, sb, f.1, t.1, []⟩)] hk (.bool _) rfl (views_one (vpg (p := ⟨c.1, sb, f.1, t.1, []⟩) (.nil _ _))) ?_) | (with_reducible (refine wQ ?_; first | refine uR (hfail ..) ?_)) | (with_reducible first | (refine wT ?_; (first | ((fail_if_success (have := nl1)); refine wN fun nl1 hnl => ?_) | ((fail_if_success (have := nl2)); refine wN fun nl2 hnl => ?_) | ((fail_if_success (have := nl3)); refine wN fun nl3 hnl => ?_) | ((fail_if_success (have := nl4)); refine wN fun nl4 hnl => ?_) | refine wN fun _ hnl => ?_); revert hnl; (repeat refine wS fun _ _ => ?_); intro hnl) | refine wE ?_ | (refine wK ?_ ?_ <;> intro h) | (refine wB ?_ ?_ <;> intro h <;> simp only [h])) | simp (maxSteps := 4000000) (disch := first | decide | assumption | omega | (simp only [wL]; omega)) only [go_sem, simprocAttr, FXs, tk_app, dr_app, pg0])
       all_goals first | exact vpg (p := ⟨c.1, sb, f.1, t.1, []⟩) (.nil _ _) | exact ⟨vpg (p := ⟨c.1, sb, f.1, t.1, []⟩) (.nil _ _), rfl⟩
     ·rw [failR_stk he, ite_self, okR_n he] at e
      rw [e]
      clear e
      all_goals (try (exfalso; omega))
      repeat' (first | (with_reducible refine use_lend [.agg (PG.c ⟨c.1, sb, f.1, t.1, []⟩)] hk (.bool _) rfl (views_one (vpg (p := ⟨c.1, sb, f.1, t.1, []⟩) (.nil _ _))) ?_) | (with_reducible (refine wQ ?_; first | refine uR (hfail ..) ?_)) | (with_reducible first | (refine wT ?_; (first | ((fail_if_success (have := nl1)); refine wN fun nl1 hnl => ?_) | ((fail_if_success (have := nl2)); refine wN fun nl2 hnl => ?_) | ((fail_if_success (have := nl3)); refine wN fun nl3 hnl => ?_) | ((fail_if_success (have := nl4)); refine wN fun nl4 hnl => ?_) | refine wN fun _ hnl => ?_); revert hnl; (repeat refine wS fun _ _ => ?_); intro hnl) | refine wE ?_ | (refine wK ?_ ?_ <;> intro h) | (refine wB ?_ ?_ <;> intro h <;> simp only [h])) | simp (maxSteps := 4000000) (disch := first | decide | assumption | omega | (simp only [wL]; omega)) only [go_sem, simprocAttr, FXs, tk_app, dr_app, pg0])
      all_goals first | exact vpg (p := pg0) (.nil _ _) | exact ⟨vpg (p := pg0) (.nil _ _), rfl⟩

 ·have e : pageR r = okR pg0 (⟨c.1, false, f.1, tk0, []⟩, if pageOk ⟨c.1, false, f.1, tk0, []⟩ = true then f.2 else failR 3 f.2) := by
   simp [pageR, hc, hf, hgo, listR]
  clear hc hf
  have hk := rpgcheck_call ⟨c.1, false, f.1, tk0, []⟩ (by first | (simp; done) | (simp only; omega))
  by_cases he : f.2.e = 0
  ·cases hok : pageOk ⟨c.1, false, f.1, tk0, []⟩ <;> rw [hok] at hk
   ·rw [hok, if_neg (by simp), okR_n (failR_ne (by decide) _)] at e
    rw [e]
    clear e
    have hne := failR_ne (e := 3) (by decide) f.2
    all_goals (try (exfalso; omega))
    repeat' (first | (with_reducible refine use_lend [.agg (PG.c ⟨c.1, false, f.1, tk0, []⟩)] hk (.bool _) rfl (views_one (vpg (p := ⟨c.1, false, f.1, tk0, []⟩) (.nil _ _))) ?_) | (with_reducible (refine wQ ?_; first | refine uR (hfail ..) ?_ | refine uR (h1 ..) ?_ | refine uR (h2 ..) ?_)) | (with_reducible first | (refine wT ?_; (first | ((fail_if_success (have := nl1)); refine wN fun nl1 hnl => ?_) | ((fail_if_success (have := nl2)); refine wN fun nl2 hnl => ?_) | ((fail_if_success (have := nl3)); refine wN fun nl3 hnl => ?_) | ((fail_if_success (have := nl4)); refine wN fun nl4 hnl => ?_) | refine wN fun _ hnl => ?_); revert hnl; (repeat refine wS fun _ _ => ?_); intro hnl) | refine wE ?_ | (refine wK ?_ ?_ <;> intro h) | (refine wB ?_ ?_ <;> intro h <;> simp only [h])) | simp (maxSteps := 4000000) (disch := first | decide | assumption | omega | (simp only [wL]; omega)) only [go_sem, simprocAttr, Tryz.f54, FXs])
    all_goals first | exact vpg (p := pg0) (.nil _ _) | exact ⟨vpg (p := pg0) (.nil _ _), rfl⟩
   ·rw [hok, if_pos rfl, okR_y he] at e
    rw [e]
    clear e
    all_goals (try (exfalso; omega))
    repeat' (first | (with_reducible refine use_lend [.agg (PG.c ⟨c.1, false, f.1, tk0, []⟩)] hk (.bool _) rfl (views_one (vpg (p := ⟨c.1, false, f.1, tk0, []⟩) (.nil _ _))) ?_) | (with_reducible (refine wQ ?_; first | refine uR (hfail ..) ?_ | refine uR (h1 ..) ?_ | refine uR (h2 ..) ?_)) | (with_reducible first | (refine wT ?_; (first | ((fail_if_success (have := nl1)); refine wN fun nl1 hnl => ?_) | ((fail_if_success (have := nl2)); refine wN fun nl2 hnl => ?_) | ((fail_if_success (have := nl3)); refine wN fun nl3 hnl => ?_) | ((fail_if_success (have := nl4)); refine wN fun nl4 hnl => ?_) | refine wN fun _ hnl => ?_); revert hnl; (repeat refine wS fun _ _ => ?_); intro hnl) | refine wE ?_ | (refine wK ?_ ?_ <;> intro h) | (refine wB ?_ ?_ <;> intro h <;> simp only [h])) | simp (maxSteps := 4000000) (disch := first | decide | assumption | omega | (simp only [wL]; omega)) only [go_sem, simprocAttr, Tryz.f54, FXs])
    all_goals first | exact vpg (p := ⟨c.1, false, f.1, tk0, []⟩) (.nil _ _) | exact ⟨vpg (p := ⟨c.1, false, f.1, tk0, []⟩) (.nil _ _), rfl⟩
  ·rw [failR_stk he, ite_self, okR_n he] at e
   rw [e]
   clear e
   all_goals (try (exfalso; omega))
   repeat' (first | (with_reducible refine use_lend [.agg (PG.c ⟨c.1, false, f.1, tk0, []⟩)] hk (.bool _) rfl (views_one (vpg (p := ⟨c.1, false, f.1, tk0, []⟩) (.nil _ _))) ?_) | (with_reducible (refine wQ ?_; first | refine uR (hfail ..) ?_ | refine uR (h1 ..) ?_ | refine uR (h2 ..) ?_)) | (with_reducible first | (refine wT ?_; (first | ((fail_if_success (have := nl1)); refine wN fun nl1 hnl => ?_) | ((fail_if_success (have := nl2)); refine wN fun nl2 hnl => ?_) | ((fail_if_success (have := nl3)); refine wN fun nl3 hnl => ?_) | ((fail_if_success (have := nl4)); refine wN fun nl4 hnl => ?_) | refine wN fun _ hnl => ?_); revert hnl; (repeat refine wS fun _ _ => ?_); intro hnl) | refine wE ?_ | (refine wK ?_ ?_ <;> intro h) | (refine wB ?_ ?_ <;> intro h <;> simp only [h])) | simp (maxSteps := 4000000) (disch := first | decide | assumption | omega | (simp only [wL]; omega)) only [go_sem, simprocAttr, Tryz.f54, FXs])
   all_goals first | exact vpg (p := pg0) (.nil _ _) | exact ⟨vpg (p := pg0) (.nil _ _), rfl⟩
end Go.Proofs.YtfbodefnblpflaaGreatDoor
