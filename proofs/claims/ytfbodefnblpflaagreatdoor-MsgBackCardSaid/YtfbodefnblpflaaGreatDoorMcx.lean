/- Parts of the proof, joined. Each part says what it proves, and under which conditions it does: those that its theorems name. -/
import Derived.Test.YtfbodefnblpflaaGreatDoorMcm
set_option linter.unusedVariables false
set_option linter.unusedSimpArgs false
set_option maxHeartbeats 4000000
section
namespace Go.Proofs.YtfbodefnblpflaaGreatDoor
set_option maxRecDepth 100000
theorem rccheck_call (c : CA) : MCalls Tryz.prog 132 [.agg c.c] St.none (fun r _ => r = .bool (cardOk c)) := by
 refine MCalls.drops (MCalls.body 37 [.tmp 2] Tryz.func132 rfl rfl rfl rfl ?_)
 have hlt := c.lab.toNat_lt
 by_cases h : 1 ≤ c.id ∧ c.id < idMax ∧ 1 ≤ c.ver ∧ c.ver ≤ big ∧ c.lab.toNat < 65536
 ·have e : cardOk c = c.f.l.all vaOk := by unfold cardOk; rw [decide_eq_true h, Bool.true_and]
  rw [e]
  obtain ⟨h1, h2, h3, h4, h5⟩ := h
  unfold idMax at h2
  unfold big at h4
  repeat' (first | (with_reducible first | (refine wT ?_; (first | ((fail_if_success (have := nl1)); refine wN fun nl1 hnl => ?_) | refine wN fun _ hnl => ?_); revert hnl; (repeat refine wS fun _ _ => ?_); intro hnl) | refine wE ?_ | (refine wK ?_ ?_ <;> intro h) | (refine wB ?_ ?_ <;> intro h <;> simp only [h])) | simp (maxSteps := 4000000) (disch := first | decide | assumption | omega | (simp only [wL]; omega)) only [go_sem, simprocAttr, Tryz.f132, fc_len, fc_cell])
  refine mloop_intro (α := Nat) (fun i => ⟨37, [(3, .int .i64 (i : Int)), (1, .ptr nl1 0 0)], []⟩) (fun _ => St.none.set nl1 (.row 117 27 [c.c])) (fun i => i ≤ 8 ∧ ∀ j, j < i → vaOk (c.f.get j) = true) (fun i => 8 - i) (.of (.less ?_ (St.le_refl _)) ⟨0, rfl, rfl, Nat.zero_le _, fun j h => absurd h (Nat.not_lt_zero _)⟩) ?_
  ·simp (maxSteps := 4000000) (disch := first | decide | assumption | omega | (simp only [wL]; omega)) only [go_sem, simprocAttr, weak_int, weak_same]
   all_goals rfl
  ·rintro i ⟨hi, hq⟩
   by_cases h8 : i < 8
   ·have hc := rvcheck_call (c.f.get i).kd (c.f.get i).n (c.f.get i).s
    cases hok : vaOk (c.f.get i)
    ·rw [hok] at hc
     repeat' (first | (with_reducible first | refine up hc ?_) | (with_reducible first | (refine wT ?_; (first | ((fail_if_success (have := nl1)); refine wN fun nl1 hnl => ?_) | refine wN fun _ hnl => ?_); revert hnl; (repeat refine wS fun _ _ => ?_); intro hnl) | refine wE ?_ | (refine wK ?_ ?_ <;> intro h) | (refine wB ?_ ?_ <;> intro h <;> simp only [h])) | simp (maxSteps := 4000000) (disch := first | decide | assumption | omega | (simp only [wL]; omega)) only [go_sem, simprocAttr, fc_len, fc_cell, drop_three, fc_at])
     have e : c.f.l.all vaOk = false := by
      cases hb : c.f.l.all vaOk
      ·rfl
      ·have := (F8.all_iff c.f vaOk).1 hb i h8
       rw [hok] at this; cases this
     rw [e]
     first | exact ⟨_, St.le_refl _, rfl⟩ | exact ⟨_, St.le_refl _⟩
    ·rw [hok] at hc
     repeat' (first | (with_reducible first | refine up hc ?_) | (with_reducible first | (refine wT ?_; (first | ((fail_if_success (have := nl1)); refine wN fun nl1 hnl => ?_) | refine wN fun _ hnl => ?_); revert hnl; (repeat refine wS fun _ _ => ?_); intro hnl) | refine wE ?_ | (refine wK ?_ ?_ <;> intro h) | (refine wB ?_ ?_ <;> intro h <;> simp only [h])) | simp (maxSteps := 4000000) (disch := first | decide | assumption | omega | (simp only [wL]; omega)) only [go_sem, simprocAttr, fc_len, fc_cell, drop_three, fc_at])
     refine .of (.less ?_ (St.le_refl _)) ⟨i + 1, rfl, rfl, ⟨by omega, fun j hj => ?_⟩, by omega⟩
     ·simp (maxSteps := 4000000) (disch := first | decide | assumption | omega | (simp only [wL]; omega)) only [go_sem, simprocAttr, weak_int, weak_same]
      all_goals rfl
     ·by_cases hji : j = i
      ·rw [hji]; exact hok
      ·exact hq j (by omega)
   ·have : i = 8 := by omega
    subst this
    rw [(F8.all_iff c.f vaOk).2 hq]
    repeat' (first | (with_reducible first | (refine wT ?_; (first | ((fail_if_success (have := nl1)); refine wN fun nl1 hnl => ?_) | refine wN fun _ hnl => ?_); revert hnl; (repeat refine wS fun _ _ => ?_); intro hnl) | refine wE ?_ | (refine wK ?_ ?_ <;> intro h) | (refine wB ?_ ?_ <;> intro h <;> simp only [h])) | simp (maxSteps := 4000000) (disch := first | decide | assumption | omega | (simp only [wL]; omega)) only [go_sem, simprocAttr])
    first | exact ⟨_, St.le_refl _, rfl⟩ | exact ⟨_, St.le_refl _⟩
 ·have e : cardOk c = false := by unfold cardOk; rw [decide_eq_false h, Bool.false_and]
  rw [e]
  unfold idMax big at h
  repeat' (first | (with_reducible first | (refine wT ?_; (first | ((fail_if_success (have := nl1)); refine wN fun nl1 hnl => ?_) | refine wN fun _ hnl => ?_); revert hnl; (repeat refine wS fun _ _ => ?_); intro hnl) | refine wE ?_ | (refine wK ?_ ?_ <;> intro h) | (refine wB ?_ ?_ <;> intro h <;> simp only [h])) | simp (maxSteps := 4000000) (disch := first | decide | assumption | omega | (simp only [wL]; omega)) only [go_sem, simprocAttr, Tryz.f132, fc_len, fc_cell])
  all_goals first | exact ⟨_, St.le_refl _, rfl⟩ | exact ⟨_, St.le_refl _⟩ | (exfalso; omega)
set_option maxHeartbeats 4000000 in
theorem rcpatch_call (p : PA) : MCalls Tryz.prog 80 [.agg p.c] St.none (fun r _ => r = .int .i64 (patchErr p)) := by
 refine MCalls.drops (MCalls.body 52 [.tmp 2] Tryz.func80 rfl rfl rfl rfl ?_)
 have hm := rmcheck_call p.mask
 have hl := rmlab_call p.mask
 have hmt := p.mask.toNat_lt
 have hlt := p.lab.toNat_lt
 by_cases h0 : p.mask.toNat = 0 ∨ 511 < p.mask.toNat
 ·have e : patchErr p = 11 := by unfold patchErr; rw [if_pos h0]
  rw [e]
  repeat' (first | (with_reducible first | refine up hm ?_ | refine up hl ?_) | (with_reducible first | (refine wT ?_; (first | ((fail_if_success (have := nl1)); refine wN fun nl1 hnl => ?_) | refine wN fun _ hnl => ?_); revert hnl; (repeat refine wS fun _ _ => ?_); intro hnl) | refine wE ?_ | (refine wK ?_ ?_ <;> intro h) | (refine wB ?_ ?_ <;> intro h <;> simp only [h])) | simp (maxSteps := 4000000) (disch := first | decide | assumption | omega | (simp only [wL]; omega)) only [go_sem, simprocAttr, Tryz.f80, fc_len, fc_cell])
  all_goals first | exact ⟨_, St.le_refl _, rfl⟩ | exact ⟨_, St.le_refl _⟩ | (exfalso; omega)
 ·by_cases h1 : 65536 ≤ p.lab.toNat ∨ p.lab.toNat ≠ 0 ∧ bit p.mask.toNat 8 = false
  ·have e : patchErr p = 1 := by unfold patchErr; rw [if_neg h0, if_pos h1]
   rw [e]
   generalize bit p.mask.toNat 8 = b8 at hl h1
   cases b8
   all_goals
    repeat' (first | (with_reducible first | refine up hm ?_ | refine up hl ?_) | (with_reducible first | (refine wT ?_; (first | ((fail_if_success (have := nl1)); refine wN fun nl1 hnl => ?_) | refine wN fun _ hnl => ?_); revert hnl; (repeat refine wS fun _ _ => ?_); intro hnl) | refine wE ?_ | (refine wK ?_ ?_ <;> intro h) | (refine wB ?_ ?_ <;> intro h <;> simp only [h])) | simp (maxSteps := 4000000) (disch := first | decide | assumption | omega | (simp only [wL]; omega)) only [go_sem, simprocAttr, Tryz.f80, fc_len, fc_cell])
    all_goals first | exact ⟨_, St.le_refl _, rfl⟩ | exact ⟨_, St.le_refl _⟩ | (exfalso; simp only [reduceCtorEq, and_false, or_false, and_true] at h1; omega)
  ·have hbad := fun i => patchErr_bad (i := i) h0 h1
   have hgood := patchErr_good h0 h1
   have h1' : p.lab.toNat < 65536 := by omega
   have h1'' : p.lab.toNat = 0 ∨ bit p.mask.toNat 8 = true := by
    cases hb : bit p.mask.toNat 8
    ·rw [hb] at h1; left; simp at h1; omega
    ·right; rfl
   clear h1
   generalize bit p.mask.toNat 8 = b8 at hl h1''
   cases b8
   all_goals
    repeat' (first | (with_reducible first | refine up hm ?_ | refine up hl ?_) | (with_reducible first | (refine wT ?_; (first | ((fail_if_success (have := nl1)); refine wN fun nl1 hnl => ?_) | refine wN fun _ hnl => ?_); revert hnl; (repeat refine wS fun _ _ => ?_); intro hnl) | refine wE ?_ | (refine wK ?_ ?_ <;> intro h) | (refine wB ?_ ?_ <;> intro h <;> simp only [h])) | simp (maxSteps := 4000000) (disch := first | decide | assumption | omega | (simp only [wL]; omega)) only [go_sem, simprocAttr, Tryz.f80, fc_len, fc_cell])
    all_goals try (exfalso; simp only [reduceCtorEq, or_false] at h1''; omega)
    all_goals
     refine mloop_intro (α := Nat) (fun i => ⟨52, [(3, .int .i64 (i : Int)), (1, .ptr nl1 0 0)], []⟩) (fun _ => St.none.set nl1 (.row 27 26 [p.c])) (fun i => i ≤ 8 ∧ ∀ j, j < i → (vaOk (p.f.get j) && (decide ((p.f.get j).kd = 0) || bit p.mask.toNat j)) = true) (fun i => 8 - i) (.of (.less ?_ (St.le_refl _)) ⟨0, rfl, rfl, Nat.zero_le _, fun j h => absurd h (Nat.not_lt_zero _)⟩) ?_
     ·simp (maxSteps := 4000000) (disch := first | decide | assumption | omega | (simp only [wL]; omega)) only [go_sem, simprocAttr, weak_int, weak_same]
      all_goals rfl
     ·rintro i ⟨hi, hq⟩
      by_cases h8 : i < 8
      ·have hc := rvcheck_call (p.f.get i).kd (p.f.get i).n (p.f.get i).s
       have hb := rbit_call p.mask i (by omega)
       have hbad := hbad i h8
       cases hok : (vaOk (p.f.get i) && (decide ((p.f.get i).kd = 0) || bit p.mask.toNat i))
       ·rw [hbad hok]
        clear hbad hgood hq
        have eta : (⟨(p.f.get i).kd, (p.f.get i).n, (p.f.get i).s⟩ : VA) = p.f.get i := rfl
        rw [eta] at hc
        cases hv : vaOk (p.f.get i) <;> rw [hv] at hc hok
        ·repeat' (first | (with_reducible first | refine up hc ?_ | refine up hb ?_) | (with_reducible first | (refine wT ?_; (first | ((fail_if_success (have := nl1)); refine wN fun nl1 hnl => ?_) | refine wN fun _ hnl => ?_); revert hnl; (repeat refine wS fun _ _ => ?_); intro hnl) | refine wE ?_ | (refine wK ?_ ?_ <;> intro h) | (refine wB ?_ ?_ <;> intro h <;> simp only [h])) | simp (maxSteps := 4000000) (disch := first | decide | assumption | omega | (simp only [wL]; omega)) only [go_sem, simprocAttr, fc_len, fc_cell, drop_two, getD_two, fc_at, fc_get0])
         all_goals first | exact ⟨_, St.le_refl _, rfl⟩ | exact ⟨_, St.le_refl _⟩
        ·cases hbb : bit p.mask.toNat i <;> rw [hbb] at hb hok
         ·repeat' (first | (with_reducible first | refine up hc ?_ | refine up hb ?_) | (with_reducible first | (refine wT ?_; (first | ((fail_if_success (have := nl1)); refine wN fun nl1 hnl => ?_) | refine wN fun _ hnl => ?_); revert hnl; (repeat refine wS fun _ _ => ?_); intro hnl) | refine wE ?_ | (refine wK ?_ ?_ <;> intro h) | (refine wB ?_ ?_ <;> intro h <;> simp only [h])) | simp (maxSteps := 4000000) (disch := first | decide | assumption | omega | (simp only [wL]; omega)) only [go_sem, simprocAttr, fc_len, fc_cell, drop_two, getD_two, fc_at, fc_get0])
          all_goals first | exact ⟨_, St.le_refl _, rfl⟩ | exact ⟨_, St.le_refl _⟩ | (exfalso; simp_all)
         ·simp at hok
       ·clear hbad hgood
        have eta : (⟨(p.f.get i).kd, (p.f.get i).n, (p.f.get i).s⟩ : VA) = p.f.get i := rfl
        rw [eta] at hc
        have hok' := hok
        simp only [Bool.and_eq_true, Bool.or_eq_true, decide_eq_true_eq] at hok
        rw [hok.1] at hc
        have hok2 := hok.2
        cases hbb : bit p.mask.toNat i <;> rw [hbb] at hb hok2
        all_goals
         repeat' (first | (with_reducible first | refine up hc ?_ | refine up hb ?_) | (with_reducible first | (refine wT ?_; (first | ((fail_if_success (have := nl1)); refine wN fun nl1 hnl => ?_) | refine wN fun _ hnl => ?_); revert hnl; (repeat refine wS fun _ _ => ?_); intro hnl) | refine wE ?_ | (refine wK ?_ ?_ <;> intro h) | (refine wB ?_ ?_ <;> intro h <;> simp only [h])) | simp (maxSteps := 4000000) (disch := first | decide | assumption | omega | (simp only [wL]; omega)) only [go_sem, simprocAttr, fc_len, fc_cell, drop_two, getD_two, fc_at, fc_get0])
         all_goals try (exfalso; simp_all; done)
         all_goals
          refine .of (.less ?_ (St.le_refl _)) ⟨i + 1, rfl, rfl, ⟨by omega, fun j hj => ?_⟩, by omega⟩
          ·simp (maxSteps := 4000000) (disch := first | decide | assumption | omega | (simp only [wL]; omega)) only [go_sem, simprocAttr, weak_int, weak_same]
           all_goals rfl
          ·by_cases hji : j = i
           ·rw [hji]; exact hok'
           ·exact hq j (by omega)
      ·have : i = 8 := by omega
       subst this
       rw [hgood hq]
       repeat' (first | (with_reducible first | (refine wT ?_; (first | ((fail_if_success (have := nl1)); refine wN fun nl1 hnl => ?_) | refine wN fun _ hnl => ?_); revert hnl; (repeat refine wS fun _ _ => ?_); intro hnl) | refine wE ?_ | (refine wK ?_ ?_ <;> intro h) | (refine wB ?_ ?_ <;> intro h <;> simp only [h])) | simp (maxSteps := 4000000) (disch := first | decide | assumption | omega | (simp only [wL]; omega)) only [go_sem, simprocAttr])
       first | exact ⟨_, St.le_refl _, rfl⟩ | exact ⟨_, St.le_refl _⟩
end Go.Proofs.YtfbodefnblpflaaGreatDoor
end

section
namespace Go.Proofs.YtfbodefnblpflaaGreatDoor
set_option maxRecDepth 100000
theorem rgroup_call (k : Int) : MCalls Tryz.prog 126 [.int .i64 k] St.none (fun r _ => r = .bool (edG k)) := by
 refine (MCalls.body 17 [.tmp 2] Tryz.func126 rfl rfl rfl rfl ?_)
 repeat' (first | (with_reducible first | (refine wN fun _ hnl => ?_; revert hnl; (repeat refine wS fun _ _ => ?_); intro hnl) | refine wE ?_ | (refine wK ?_ ?_ <;> intro h) | (refine wB ?_ ?_ <;> intro h <;> simp only [h])) | simp (maxSteps := 4000000) (disch := first | decide | assumption | omega | (simp only [wL]; omega)) only [go_sem, simprocAttr, Tryz.f126])
 all_goals (try simp only [Classical.not_not] at *)
 all_goals (first | (simp [edG, *]; done) | (simp only [edG]; (repeat' split) <;> (first | (simp_all; done) | omega | (exfalso; omega))) | skip)
theorem rid_call (k : Int) : MCalls Tryz.prog 127 [.int .i64 k] St.none (fun r _ => r = .bool (edI k)) := by
 refine (MCalls.body 17 [.tmp 2] Tryz.func127 rfl rfl rfl rfl ?_)
 repeat' (first | (with_reducible first | (refine wN fun _ hnl => ?_; revert hnl; (repeat refine wS fun _ _ => ?_); intro hnl) | refine wE ?_ | (refine wK ?_ ?_ <;> intro h) | (refine wB ?_ ?_ <;> intro h <;> simp only [h])) | simp (maxSteps := 4000000) (disch := first | decide | assumption | omega | (simp only [wL]; omega)) only [go_sem, simprocAttr, Tryz.f127])
 all_goals (try simp only [Classical.not_not] at *)
 all_goals (first | (simp [edI, *]; done) | (simp only [edI]; (repeat' split) <;> (first | (simp_all; done) | omega | (exfalso; omega))) | skip)
theorem rispatch_call (k : Int) : MCalls Tryz.prog 128 [.int .i64 k] St.none (fun r _ => r = .bool (edP k)) := by
 refine (MCalls.body 9 [.tmp 2] Tryz.func128 rfl rfl rfl rfl ?_)
 repeat' (first | (with_reducible first | (refine wN fun _ hnl => ?_; revert hnl; (repeat refine wS fun _ _ => ?_); intro hnl) | refine wE ?_ | (refine wK ?_ ?_ <;> intro h) | (refine wB ?_ ?_ <;> intro h <;> simp only [h])) | simp (maxSteps := 4000000) (disch := first | decide | assumption | omega | (simp only [wL]; omega)) only [go_sem, simprocAttr, Tryz.f128])
 all_goals (try simp only [Classical.not_not] at *)
 all_goals (first | (simp [edP, *]; done) | (simp only [edP]; (repeat' split) <;> (first | (simp_all; done) | omega | (exfalso; omega))) | skip)
set_option maxHeartbeats 4000000 in
theorem recheck_call (e : ED) : MCalls Tryz.prog 79 [.agg e.c] St.none (fun r _ => r = .int .i64 (editErr e)) := by
 refine MCalls.drops (MCalls.body 74 [.tmp 2] Tryz.func79 rfl rfl rfl rfl ?_)
 have hg := rgroup_call e.kd
 have hi := rid_call e.kd
 have hp := rispatch_call e.kd
 have hc := rcpatch_call e.p
 have hq : mbin Tryz.prog 27 .neq (.agg (.int .u32 (e.p.mask.toNat : Int) :: .int .u32 (e.p.lab.toNat : Int) :: fc e.p.f)) (.agg (.int .u32 0 :: .int .u32 0 :: fc f80)) = some (True, .bool (!decide (e.p = pa0))) := mbn_patch e.p pa0
 by_cases hk : e.kd < 1 ∨ 7 < e.kd
 ·have e1 : editErr e = 1 := by unfold editErr; rw [if_pos hk]
  rw [e1]
  repeat' (first | (with_reducible first | (refine wN fun _ hnl => ?_; revert hnl; (repeat refine wS fun _ _ => ?_); intro hnl) | refine wE ?_ | (refine wK ?_ ?_ <;> intro h) | (refine wB ?_ ?_ <;> intro h <;> simp only [h])) | simp (maxSteps := 4000000) (disch := first | decide | assumption | omega | (simp only [wL]; omega)) only [go_sem, simprocAttr, Tryz.f79, FXs])
  all_goals first | exact ⟨_, St.le_refl _, rfl⟩ | exact ⟨_, St.le_refl _⟩ | (exfalso; omega)
 ·have hk1 : 1 ≤ e.kd := by omega
  have hk2 : e.kd ≤ 7 := by omega
  obtain ⟨bg, hbg⟩ : ∃ b, edG e.kd = b := ⟨_, rfl⟩
  obtain ⟨bi, hbi⟩ : ∃ b, edI e.kd = b := ⟨_, rfl⟩
  obtain ⟨bp, hbp⟩ : ∃ b, edP e.kd = b := ⟨_, rfl⟩
  obtain ⟨bz, hbz⟩ : ∃ b, decide (e.p = pa0) = b := ⟨_, rfl⟩
  have e0 : Unit → editErr e = if bg = false ∧ e.gr ≠ 0 ∨ bi = false ∧ e.id ≠ 0 ∨ bp = false ∧ bz = false then 1 else if e.gr < 0 ∨ 16 ≤ e.gr ∨ bi = true ∧ (e.id < 1 ∨ 1073741824 ≤ e.id) then 1 else if bp = true then patchErr e.p else 0 := by
   intro _
   unfold editErr idMax
   rw [if_neg hk, hbg, hbi, hbp, ← hbz]
   simp only [decide_eq_false_iff_not, ne_eq]
  rw [hbg] at hg
  rw [hbi] at hi
  rw [hbp] at hp
  rw [hbz] at hq
  obtain ⟨res, hres⟩ : ∃ r, editErr e = r := ⟨_, rfl⟩
  rw [hres] at e0 ⊢
  clear hbg hbi hbp hbz hres hk
  cases bg <;> cases bi <;> cases bp <;> cases bz
  all_goals
   repeat' (first | (with_reducible first | refine up hg ?_ | refine up hi ?_ | refine up hp ?_ | refine up hc ?_) | (with_reducible first | (refine wN fun _ hnl => ?_; revert hnl; (repeat refine wS fun _ _ => ?_); intro hnl) | refine wE ?_ | (refine wK ?_ ?_ <;> intro h) | (refine wB ?_ ?_ <;> intro h <;> simp only [h])) | simp (maxSteps := 4000000) (disch := first | decide | assumption | omega | (simp only [wL]; omega)) only [go_sem, simprocAttr, Tryz.f79, FXs, hq])
   all_goals (first | refine ⟨_, St.le_refl _, ?_⟩ | skip)
   all_goals rw [e0 ()]
   all_goals (try simp only [Classical.not_not] at *)
   all_goals (first | (simp [*]; done) | (simp only []; (repeat' split) <;> (first | (simp_all; done) | omega | (exfalso; omega))) | skip)
end Go.Proofs.YtfbodefnblpflaaGreatDoor
end
