/- Parts of the proof, joined. Each part says what it proves, and under which conditions it does: those that its theorems name. -/
import Derived.Test.YtfbodefnblpflaaGreatDoorMczg
import Derived.Test.YtfbodefnblpflaaGreatDoorMczj
import Derived.Test.YtfbodefnblpflaaGreatDoorMczk
set_option linter.unusedVariables false
set_option linter.unusedSimpArgs false
set_option maxHeartbeats 4000000
namespace Go.Proofs.YtfbodefnblpflaaGreatDoor
set_option maxRecDepth 100000
set_option maxHeartbeats 4000000
theorem rxsame_call (a b : MS) (hs : Sm a) : MCalls Tryz.prog 14 [.agg a.c, .agg b.c] St.none (fun r _ => r = .bool (decide (a = b))) := by
 refine MCalls.drops (MCalls.body 52 [.tmp 4] Tryz.func14 rfl rfl rfl rfl ?_)
 have h1 := rcmsame_call a.cmd b.cmd hs.f
 have h2 := rrsame_call a.rep b.rep hs.g
 have h3 := rpgsame_call a.page b.page hs.i
 have h4 := mbe_token a.tok b.tok
 obtain ⟨b1, hb1⟩ : ∃ x, decide (a.cmd = b.cmd) = x := ⟨_, rfl⟩
 obtain ⟨b2, hb2⟩ : ∃ x, decide (a.rep = b.rep) = x := ⟨_, rfl⟩
 obtain ⟨b3, hb3⟩ : ∃ x, decide (a.page = b.page) = x := ⟨_, rfl⟩
 obtain ⟨b4, hb4⟩ : ∃ x, decide (a.tok = b.tok) = x := ⟨_, rfl⟩
 obtain ⟨res, hres⟩ : ∃ r, decide (a = b) = r := ⟨_, rfl⟩
 have e : Unit → decide (a.kd = b.kd ∧ a.size = b.size ∧ b1 = true ∧ b4 = true ∧ b2 = true ∧ b3 = true ∧ a.code = b.code) = res := fun _ => by
  rw [← hres, ← hb1, ← hb2, ← hb3, ← hb4]
  refine decide_eq_decide.mpr ?_
  rw [ms_iff, decide_eq_true_iff, decide_eq_true_iff, decide_eq_true_iff, decide_eq_true_iff]
 rw [hb1] at h1
 rw [hb2] at h2
 rw [hb3] at h3
 rw [hb4] at h4
 rw [hres]
 clear hres hb1 hb2 hb3 hb4
 cases b1
 case' true => cases b4
 case' true.true => cases b2
 case' true.true.true => cases b3
 all_goals
  repeat' (first | (with_reducible first | refine up h1 ?_ | refine up h2 ?_ | refine up h3 ?_) | (with_reducible first | (refine wN fun _ hnl => ?_; revert hnl; (repeat refine wS fun _ _ => ?_); intro hnl) | refine wE ?_ | (refine wK ?_ ?_ <;> intro h) | (refine wB ?_ ?_ <;> intro h <;> simp only [h])) | simp (maxSteps := 4000000) (disch := first | decide | assumption | omega | (simp only [wL]; omega)) only [go_sem, simprocAttr, Tryz.f14, FYs, h4])
  all_goals first | refine ⟨_, St.le_refl _, ?_⟩ | skip
  all_goals rw [← e ()]
  all_goals clear e
  all_goals (first | (simp [*]; done) | skip)
theorem rxcheck_call (m : MS) (hs : Sm m) : MCalls Tryz.prog 12 [.agg m.c] St.none (fun r _ => r = .bool (msgOk m)) := by
 refine MCalls.drops (MCalls.body 86 [.tmp 2] Tryz.func12 rfl rfl rfl rfl ?_)
 obtain ⟨res, hres⟩ : ∃ b, msgOk m = b := ⟨_, rfl⟩
 rw [hres]
 by_cases k1 : m.kd = 1
 ·rw [msgOk_1 k1] at hres
  have hc := rcmcheck_call m.cmd
  have hq := rxsame_call ({ ms0 with kd := m.kd, cmd := m.cmd }) m ⟨by first | exact hs.f | simp [ms0, cm0], by first | exact hs.g | simp [ms0, re0], by first | exact hs.i | simp [ms0, pg0]⟩
  obtain ⟨b, hb⟩ : ∃ b, decide (({ ms0 with kd := m.kd, cmd := m.cmd } : MS) = m) = b := ⟨_, rfl⟩
  rw [hb] at hres hq
  have hv := fun (σ : St) (f g i : MV) => vms (σ := σ) (m := { ms0 with kd := m.kd, cmd := m.cmd }) (f := f) (g := g) (i := i)
  simp only [MS.c, MS.k, ms0, cm0, ed0, pa0, tk0, re0, pg0, u32z] at hv hq
  have e := fun (_ : Unit) => hres
  clear hres hb
  cases b <;> cases hk : cmdOk m.cmd <;> rw [hk] at hc e
  all_goals
   repeat' (first | (with_reducible refine use_lend _ hq (.bool _) rfl (views_two (hv _ _ _ _ (.same _) (.nil _ _) (.nil _ _)) (.same _)) ?_) | (with_reducible first | refine up hc ?_) | (with_reducible first | (refine wN fun _ hnl => ?_; revert hnl; (repeat refine wS fun _ _ => ?_); intro hnl) | refine wE ?_ | (refine wK ?_ ?_ <;> intro h) | (refine wB ?_ ?_ <;> intro h <;> simp only [h])) | simp (maxSteps := 4000000) (disch := first | decide | assumption | omega | (simp only [wL]; omega)) only [go_sem, simprocAttr, Tryz.f12, FYs])
   all_goals first | refine ⟨_, St.le_refl _, ?_⟩ | refine ⟨_, St.le_refl _⟩ | skip
   all_goals rw [← e ()]
   all_goals (first | (simp [*]; done) | (simp; omega) | skip)
 ·by_cases k2 : m.kd = 2
  ·rw [msgOk_2 k2] at hres
   have hc := rtcheck_call m.tok
   have hq := rxsame_call ({ ms0 with kd := m.kd, tok := m.tok, size := m.size }) m ⟨by first | exact hs.f | simp [ms0, cm0], by first | exact hs.g | simp [ms0, re0], by first | exact hs.i | simp [ms0, pg0]⟩
   obtain ⟨b, hb⟩ : ∃ b, decide (({ ms0 with kd := m.kd, tok := m.tok, size := m.size } : MS) = m) = b := ⟨_, rfl⟩
   rw [hb] at hres hq
   have hv := fun (σ : St) (f g i : MV) => vms (σ := σ) (m := { ms0 with kd := m.kd, tok := m.tok, size := m.size }) (f := f) (g := g) (i := i)
   simp only [MS.c, MS.k, ms0, cm0, ed0, pa0, tk0, re0, pg0, u32z] at hv hq
   have e := fun (_ : Unit) => hres
   clear hres hb
   cases b <;> cases hk : tokOk m.tok <;> rw [hk] at hc e
   all_goals
    repeat' (first | (with_reducible refine use_lend _ hq (.bool _) rfl (views_two (hv _ _ _ _ (.nil _ _) (.nil _ _) (.nil _ _)) (.same _)) ?_) | (with_reducible first | refine up hc ?_) | (with_reducible first | (refine wN fun _ hnl => ?_; revert hnl; (repeat refine wS fun _ _ => ?_); intro hnl) | refine wE ?_ | (refine wK ?_ ?_ <;> intro h) | (refine wB ?_ ?_ <;> intro h <;> simp only [h])) | simp (maxSteps := 4000000) (disch := first | decide | assumption | omega | (simp only [wL]; omega)) only [go_sem, simprocAttr, Tryz.f12, FYs])
    all_goals first | refine ⟨_, St.le_refl _, ?_⟩ | refine ⟨_, St.le_refl _⟩ | skip
    all_goals rw [← e ()]
    all_goals (first | (simp [*]; done) | (simp; omega) | skip)
  ·by_cases k3 : m.kd = 3
   ·rw [msgOk_3 k3] at hres
    have hc := rrcheck_call m.rep
    have hq := rxsame_call ({ ms0 with kd := m.kd, rep := m.rep }) m ⟨by first | exact hs.f | simp [ms0, cm0], by first | exact hs.g | simp [ms0, re0], by first | exact hs.i | simp [ms0, pg0]⟩
    obtain ⟨b, hb⟩ : ∃ b, decide (({ ms0 with kd := m.kd, rep := m.rep } : MS) = m) = b := ⟨_, rfl⟩
    rw [hb] at hres hq
    have hv := fun (σ : St) (f g i : MV) => vms (σ := σ) (m := { ms0 with kd := m.kd, rep := m.rep }) (f := f) (g := g) (i := i)
    simp only [MS.c, MS.k, ms0, cm0, ed0, pa0, tk0, re0, pg0, u32z] at hv hq
    have e := fun (_ : Unit) => hres
    clear hres hb
    cases b <;> cases hk : repOk m.rep <;> rw [hk] at hc e
    all_goals
     repeat' (first | (with_reducible refine use_lend _ hq (.bool _) rfl (views_two (hv _ _ _ _ (.nil _ _) (.same _) (.nil _ _)) (.same _)) ?_) | (with_reducible first | refine up hc ?_) | (with_reducible first | (refine wN fun _ hnl => ?_; revert hnl; (repeat refine wS fun _ _ => ?_); intro hnl) | refine wE ?_ | (refine wK ?_ ?_ <;> intro h) | (refine wB ?_ ?_ <;> intro h <;> simp only [h])) | simp (maxSteps := 4000000) (disch := first | decide | assumption | omega | (simp only [wL]; omega)) only [go_sem, simprocAttr, Tryz.f12, FYs])
     all_goals first | refine ⟨_, St.le_refl _, ?_⟩ | refine ⟨_, St.le_refl _⟩ | skip
     all_goals rw [← e ()]
     all_goals (first | (simp [*]; done) | (simp; omega) | skip)
   ·by_cases k4 : m.kd = 4
    ·rw [msgOk_4 k4] at hres
     have hc := rpgcheck_call m.page hs.i
     have hq := rxsame_call ({ ms0 with kd := m.kd, page := m.page }) m ⟨by first | exact hs.f | simp [ms0, cm0], by first | exact hs.g | simp [ms0, re0], by first | exact hs.i | simp [ms0, pg0]⟩
     obtain ⟨b, hb⟩ : ∃ b, decide (({ ms0 with kd := m.kd, page := m.page } : MS) = m) = b := ⟨_, rfl⟩
     rw [hb] at hres hq
     have hv := fun (σ : St) (f g i : MV) => vms (σ := σ) (m := { ms0 with kd := m.kd, page := m.page }) (f := f) (g := g) (i := i)
     simp only [MS.c, MS.k, ms0, cm0, ed0, pa0, tk0, re0, pg0, u32z] at hv hq
     have e := fun (_ : Unit) => hres
     clear hres hb
     cases b <;> cases hk : pageOk m.page <;> rw [hk] at hc e
     all_goals
      repeat' (first | (with_reducible refine use_lend _ hq (.bool _) rfl (views_two (hv _ _ _ _ (.nil _ _) (.nil _ _) (.same _)) (.same _)) ?_) | (with_reducible first | refine up hc ?_) | (with_reducible first | (refine wN fun _ hnl => ?_; revert hnl; (repeat refine wS fun _ _ => ?_); intro hnl) | refine wE ?_ | (refine wK ?_ ?_ <;> intro h) | (refine wB ?_ ?_ <;> intro h <;> simp only [h])) | simp (maxSteps := 4000000) (disch := first | decide | assumption | omega | (simp only [wL]; omega)) only [go_sem, simprocAttr, Tryz.f12, FYs])
      all_goals first | refine ⟨_, St.le_refl _, ?_⟩ | refine ⟨_, St.le_refl _⟩ | skip
      all_goals rw [← e ()]
      all_goals (first | (simp [*]; done) | (simp; omega) | skip)
    ·by_cases k5 : m.kd = 5
     ·rw [msgOk_5 k5] at hres
      have hq := rxsame_call ({ ms0 with kd := m.kd, code := m.code }) m ⟨by first | exact hs.f | simp [ms0, cm0], by first | exact hs.g | simp [ms0, re0], by first | exact hs.i | simp [ms0, pg0]⟩
      obtain ⟨b, hb⟩ : ∃ b, decide (({ ms0 with kd := m.kd, code := m.code } : MS) = m) = b := ⟨_, rfl⟩
      rw [hb] at hres hq
      have hv := fun (σ : St) (f g i : MV) => vms (σ := σ) (m := { ms0 with kd := m.kd, code := m.code }) (f := f) (g := g) (i := i)
      simp only [MS.c, MS.k, ms0, cm0, ed0, pa0, tk0, re0, pg0, u32z] at hv hq
      have e := fun (_ : Unit) => hres
      clear hres hb
      cases b
      all_goals
       repeat' (first | (with_reducible refine use_lend _ hq (.bool _) rfl (views_two (hv _ _ _ _ (.nil _ _) (.nil _ _) (.nil _ _)) (.same _)) ?_) | (with_reducible first | (refine wN fun _ hnl => ?_; revert hnl; (repeat refine wS fun _ _ => ?_); intro hnl) | refine wE ?_ | (refine wK ?_ ?_ <;> intro h) | (refine wB ?_ ?_ <;> intro h <;> simp only [h])) | simp (maxSteps := 4000000) (disch := first | decide | assumption | omega | (simp only [wL]; omega)) only [go_sem, simprocAttr, Tryz.f12, FYs])
       all_goals first | refine ⟨_, St.le_refl _, ?_⟩ | refine ⟨_, St.le_refl _⟩ | skip
       all_goals rw [← e ()]
       all_goals (first | (simp [*]; done) | (simp; omega) | skip)
     ·rw [msgOk_o k1 k2 k3 k4 k5] at hres
      subst hres
      repeat' (first | (with_reducible first | (refine wN fun _ hnl => ?_; revert hnl; (repeat refine wS fun _ _ => ?_); intro hnl) | refine wE ?_ | (refine wK ?_ ?_ <;> intro h) | (refine wB ?_ ?_ <;> intro h <;> simp only [h])) | simp (maxSteps := 4000000) (disch := first | decide | assumption | omega | (simp only [wL]; omega)) only [go_sem, simprocAttr, Tryz.f12, FYs])
      all_goals first | exact ⟨_, St.le_refl _, rfl⟩ | exact ⟨_, St.le_refl _⟩ | (exfalso; omega)
end Go.Proofs.YtfbodefnblpflaaGreatDoor
