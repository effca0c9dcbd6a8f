/- Parts of the proof, joined. Each part says what it proves, and under which conditions it does: those that its theorems name. -/
import Derived.Test.YtfbodefnblpflaaGreatDoorMbzk
import Derived.Test.YtfbodefnblpflaaGreatDoorMbzl
set_option linter.unusedVariables false
set_option linter.unusedSimpArgs false
set_option maxHeartbeats 4000000
section
namespace Go.Proofs.YtfbodefnblpflaaGreatDoor
set_option maxRecDepth 100000
set_option maxHeartbeats 4000000
theorem rxsame_call (a b : MS) (hs : Sm a) : MCalls Tryz.prog 14 [.agg a.c, .agg b.c] St.none (fun r _ => r = .bool (decide (a = b))) := by
 refine MCalls.drops (MCalls.body 52 [.tmp 4] Tryz.func14 rfl rfl rfl rfl ?_)
 have h1 := rcmsame_call a.cmd b.cmd hs.f
 have h2 := rrsame_call a.rep b.rep hs.g
 have h3 := rpgsame_call a.page b.page hs.i
 have h4 := mbe_token a.tok b.tok
 obtain ⟨b1, hb1⟩ : ∃ x, decide (a.cmd = b.cmd) = x := ⟨_, rfl⟩
 obtain ⟨b2, hb2⟩ : ∃ x, decide (a.rep = b.rep) = x := ⟨_, rfl⟩
 obtain ⟨b3, hb3⟩ : ∃ x, decide (a.page = b.page) = x := ⟨_, rfl⟩
 obtain ⟨b4, hb4⟩ : ∃ x, decide (a.tok = b.tok) = x := ⟨_, rfl⟩
 obtain ⟨res, hres⟩ : ∃ r, decide (a = b) = r := ⟨_, rfl⟩
 have e : Unit → decide (a.kd = b.kd ∧ a.size = b.size ∧ b1 = true ∧ b4 = true ∧ b2 = true ∧ b3 = true ∧ a.code = b.code) = res := fun _ => by
  rw [← hres, ← hb1, ← hb2, ← hb3, ← hb4]
  refine decide_eq_decide.mpr ?_
  rw [ms_iff, decide_eq_true_iff, decide_eq_true_iff, decide_eq_true_iff, decide_eq_true_iff]
 rw [hb1] at h1
 rw [hb2] at h2
 rw [hb3] at h3
 rw [hb4] at h4
 rw [hres]
 clear hres hb1 hb2 hb3 hb4
 cases b1
 case' true => cases b4
 case' true.true => cases b2
 case' true.true.true => cases b3
 all_goals
  repeat' (first | (with_reducible first | refine up h1 ?_ | refine up h2 ?_ | refine up h3 ?_) | (with_reducible first | (refine wN fun _ hnl => ?_; revert hnl; (repeat refine wS fun _ _ => ?_); intro hnl) | refine wE ?_ | (refine wK ?_ ?_ <;> intro h) | (refine wB ?_ ?_ <;> intro h <;> simp only [h])) | simp (maxSteps := 4000000) (disch := first | decide | assumption | omega | (simp only [wL]; omega)) only [go_sem, simprocAttr, Tryz.f14, FYs, h4])
  all_goals first | refine ⟨_, St.le_refl _, ?_⟩ | skip
  all_goals rw [← e ()]
  all_goals clear e
  all_goals (first | (simp [*]; done) | skip)
end Go.Proofs.YtfbodefnblpflaaGreatDoor
end

section
namespace Go.Proofs.YtfbodefnblpflaaGreatDoor
set_option maxRecDepth 100000
set_option maxHeartbeats 4000000
theorem rxdec_call (s : BL) (hl : s.length ≤ 1000000) : MCalls Tryz.prog 16 [.str (bsS s)] St.none (fun r _ => r = .tup [.agg (msgD s).1.c, .int .i64 (msgD s).2]) := by
 refine MCalls.seen (MCalls.body 73 [.cell 2 42, .tmp 3] Tryz.func16 rfl rfl rfl rfl ?_)
 by_cases hlen : 4096 < s.length
 ·have e : msgD s = (ms0, 4) := by unfold msgD; rw [if_pos hlen]
  rw [e]
  repeat' (first | (with_reducible first | (refine wN fun _ hnl => ?_; revert hnl; (repeat refine wS fun _ _ => ?_); intro hnl) | refine wE ?_ | (refine wK ?_ ?_ <;> intro h) | (refine wB ?_ ?_ <;> intro h <;> simp only [h])) | simp (maxSteps := 4000000) (disch := first | decide | assumption | omega | (simp only [wL]; omega)) only [go_sem, simprocAttr, Tryz.f16, FYs, bsS_size])
  all_goals exact View.two (vms (m := ms0) (.nil _ _) (.nil _ _) (.nil _ _)) (.same _)
 ·haveI hrs : Sh (⟨s, 0⟩ : RD) := ⟨hl⟩
  have h1 := fun l => rabove_call 5 (⟨s, 0⟩ : RD) l
  haveI hks : Sh (fromR 1 5 (⟨s, 0⟩ : RD)).2 := inferInstance
  obtain ⟨k, hk⟩ : ∃ k, fromR 1 5 (⟨s, 0⟩ : RD) = k := ⟨_, rfl⟩
  rw [hk] at h1 hks
  by_cases k1 : k.1 = 1
  ·have h2 := fun l => rcmread_call k.2 l
   haveI hcs : Sh (cmdR k.2).2 := inferInstance
   obtain ⟨c, hc⟩ : ∃ c, cmdR k.2 = c := ⟨_, rfl⟩
   rw [hc] at hcs
   simp only [hc] at h2
   have h3 := fun l => rRFail_call 3 c.2 l
   by_cases hf : c.2.e = 0 ∧ (c.1.kd = 1 ∨ c.1.kd = 5)
   ·have e0 : msgR ⟨s, 0⟩ = ({ ms0 with kd := 1, cmd := c.1 }, failR 3 c.2) := by simp [msgR, hk, k1, hc, hf]
    obtain ⟨hf1, hf2⟩ := hf
    have e : msgD s = if endR (failR 3 c.2) = 0 then ({ ms0 with kd := 1, cmd := c.1 }, 0) else (ms0, endR (failR 3 c.2)) := by unfold msgD; rw [if_neg hlen, e0]
    haveI hxs : Sh (failR 3 c.2) := by infer_instance
    have hend := fun l => rREnd_call (failR 3 c.2) l
    obtain ⟨ev, hev⟩ : ∃ x, endR (failR 3 c.2) = x := ⟨_, rfl⟩
    rw [hev] at e
    simp only [hev] at hend
    have hrec := fun (σ : St) (f g i : MV) => vms (σ := σ) (m := { ms0 with kd := 1, cmd := c.1 }) (f := f) (g := g) (i := i)
    simp only [MS.c, MS.k, ms0, cm0, ed0, pa0, tk0, re0, pg0, u32z] at hrec
    clear hev e0
    by_cases hz : ev = 0
    ·rw [if_pos hz] at e
     rw [e]
     clear e
     repeat' (first | (with_reducible (refine wQ ?_; first | refine uR (h1 ..) ?_ | refine uR (h2 ..) ?_ | refine uR (h3 ..) ?_ | refine uR (hend ..) ?_)) | (with_reducible first | (refine wN fun _ hnl => ?_; revert hnl; (repeat refine wS fun _ _ => ?_); intro hnl) | refine wE ?_ | (refine wK ?_ ?_ <;> intro h) | (refine wB ?_ ?_ <;> intro h <;> simp only [h])) | simp (maxSteps := 4000000) (disch := first | decide | assumption | omega | (simp only [wL]; omega)) only [go_sem, simprocAttr, Tryz.f16, FYs, bsS_size, k1])
     all_goals (try (exfalso; omega))
     all_goals exact View.two (hrec _ _ _ _ (.same _) (.nil _ _) (.nil _ _)) (.same _)
    ·rw [if_neg hz] at e
     rw [e]
     clear e
     repeat' (first | (with_reducible (refine wQ ?_; first | refine uR (h1 ..) ?_ | refine uR (h2 ..) ?_ | refine uR (h3 ..) ?_ | refine uR (hend ..) ?_)) | (with_reducible first | (refine wN fun _ hnl => ?_; revert hnl; (repeat refine wS fun _ _ => ?_); intro hnl) | refine wE ?_ | (refine wK ?_ ?_ <;> intro h) | (refine wB ?_ ?_ <;> intro h <;> simp only [h])) | simp (maxSteps := 4000000) (disch := first | decide | assumption | omega | (simp only [wL]; omega)) only [go_sem, simprocAttr, Tryz.f16, FYs, bsS_size, k1])
     all_goals (try (exfalso; omega))
     all_goals exact View.two (vms (m := ms0) (.nil _ _) (.nil _ _) (.nil _ _)) (.same _)
   ·have e0 : msgR ⟨s, 0⟩ = ({ ms0 with kd := 1, cmd := c.1 }, c.2) := by simp [msgR, hk, k1, hc, hf]
    have e : msgD s = if endR (c.2) = 0 then ({ ms0 with kd := 1, cmd := c.1 }, 0) else (ms0, endR (c.2)) := by unfold msgD; rw [if_neg hlen, e0]
    haveI hxs : Sh (c.2) := by infer_instance
    have hend := fun l => rREnd_call (c.2) l
    obtain ⟨ev, hev⟩ : ∃ x, endR (c.2) = x := ⟨_, rfl⟩
    rw [hev] at e
    simp only [hev] at hend
    have hrec := fun (σ : St) (f g i : MV) => vms (σ := σ) (m := { ms0 with kd := 1, cmd := c.1 }) (f := f) (g := g) (i := i)
    simp only [MS.c, MS.k, ms0, cm0, ed0, pa0, tk0, re0, pg0, u32z] at hrec
    clear hev e0
    by_cases hz : ev = 0
    ·rw [if_pos hz] at e
     rw [e]
     clear e
     repeat' (first | (with_reducible (refine wQ ?_; first | refine uR (h1 ..) ?_ | refine uR (h2 ..) ?_ | refine uR (h3 ..) ?_ | refine uR (hend ..) ?_)) | (with_reducible first | (refine wN fun _ hnl => ?_; revert hnl; (repeat refine wS fun _ _ => ?_); intro hnl) | refine wE ?_ | (refine wK ?_ ?_ <;> intro h) | (refine wB ?_ ?_ <;> intro h <;> simp only [h])) | simp (maxSteps := 4000000) (disch := first | decide | assumption | omega | (simp only [wL]; omega)) only [go_sem, simprocAttr, Tryz.f16, FYs, bsS_size, k1])
     all_goals (try (exfalso; omega))
     all_goals exact View.two (hrec _ _ _ _ (.same _) (.nil _ _) (.nil _ _)) (.same _)
    ·rw [if_neg hz] at e
     rw [e]
     clear e
     repeat' (first | (with_reducible (refine wQ ?_; first | refine uR (h1 ..) ?_ | refine uR (h2 ..) ?_ | refine uR (h3 ..) ?_ | refine uR (hend ..) ?_)) | (with_reducible first | (refine wN fun _ hnl => ?_; revert hnl; (repeat refine wS fun _ _ => ?_); intro hnl) | refine wE ?_ | (refine wK ?_ ?_ <;> intro h) | (refine wB ?_ ?_ <;> intro h <;> simp only [h])) | simp (maxSteps := 4000000) (disch := first | decide | assumption | omega | (simp only [wL]; omega)) only [go_sem, simprocAttr, Tryz.f16, FYs, bsS_size, k1])
     all_goals (try (exfalso; omega))
     all_goals exact View.two (vms (m := ms0) (.nil _ _) (.nil _ _) (.nil _ _)) (.same _)
  ·by_cases k2 : k.1 = 2
   ·have h2 := fun l => rtread_call k.2 l
    haveI hts : Sh (tokR k.2).2 := inferInstance
    obtain ⟨t, ht⟩ : ∃ t, tokR k.2 = t := ⟨_, rfl⟩
    rw [ht] at hts
    simp only [ht] at h2
    have h3 := fun l => rabove_call 16 t.2 l
    haveI hzs : Sh (fromR 1 16 t.2).2 := inferInstance
    obtain ⟨z, hzz⟩ : ∃ z, fromR 1 16 t.2 = z := ⟨_, rfl⟩
    rw [hzz] at hzs
    simp only [hzz] at h3
    have e0 : msgR ⟨s, 0⟩ = ({ ms0 with kd := 2, tok := t.1, size := z.1 }, z.2) := by simp [msgR, hk, k2, ht, hzz]
    have e : msgD s = if endR (z.2) = 0 then ({ ms0 with kd := 2, tok := t.1, size := z.1 }, 0) else (ms0, endR (z.2)) := by unfold msgD; rw [if_neg hlen, e0]
    haveI hxs : Sh (z.2) := by infer_instance
    have hend := fun l => rREnd_call (z.2) l
    obtain ⟨ev, hev⟩ : ∃ x, endR (z.2) = x := ⟨_, rfl⟩
    rw [hev] at e
    simp only [hev] at hend
    have hrec := fun (σ : St) (f g i : MV) => vms (σ := σ) (m := { ms0 with kd := 2, tok := t.1, size := z.1 }) (f := f) (g := g) (i := i)
    simp only [MS.c, MS.k, ms0, cm0, ed0, pa0, tk0, re0, pg0, u32z] at hrec
    clear hev e0
    by_cases hz : ev = 0
    ·rw [if_pos hz] at e
     rw [e]
     clear e
     repeat' (first | (with_reducible (refine wQ ?_; first | refine uR (h1 ..) ?_ | refine uR (h2 ..) ?_ | refine uR (h3 ..) ?_ | refine uR (hend ..) ?_)) | (with_reducible first | (refine wN fun _ hnl => ?_; revert hnl; (repeat refine wS fun _ _ => ?_); intro hnl) | refine wE ?_ | (refine wK ?_ ?_ <;> intro h) | (refine wB ?_ ?_ <;> intro h <;> simp only [h])) | simp (maxSteps := 4000000) (disch := first | decide | assumption | omega | (simp only [wL]; omega)) only [go_sem, simprocAttr, Tryz.f16, FYs, bsS_size, k2])
     all_goals (try (exfalso; omega))
     all_goals exact View.two (hrec _ _ _ _ (.nil _ _) (.nil _ _) (.nil _ _)) (.same _)
    ·rw [if_neg hz] at e
     rw [e]
     clear e
     repeat' (first | (with_reducible (refine wQ ?_; first | refine uR (h1 ..) ?_ | refine uR (h2 ..) ?_ | refine uR (h3 ..) ?_ | refine uR (hend ..) ?_)) | (with_reducible first | (refine wN fun _ hnl => ?_; revert hnl; (repeat refine wS fun _ _ => ?_); intro hnl) | refine wE ?_ | (refine wK ?_ ?_ <;> intro h) | (refine wB ?_ ?_ <;> intro h <;> simp only [h])) | simp (maxSteps := 4000000) (disch := first | decide | assumption | omega | (simp only [wL]; omega)) only [go_sem, simprocAttr, Tryz.f16, FYs, bsS_size, k2])
     all_goals (try (exfalso; omega))
     all_goals exact View.two (vms (m := ms0) (.nil _ _) (.nil _ _) (.nil _ _)) (.same _)
   ·by_cases k3 : k.1 = 3
    ·have h2 := fun l => rrread_call k.2 l
     haveI hcs : Sh (repR k.2).2 := inferInstance
     obtain ⟨c, hc⟩ : ∃ c, repR k.2 = c := ⟨_, rfl⟩
     rw [hc] at hcs
     simp only [hc] at h2
     have e0 : msgR ⟨s, 0⟩ = ({ ms0 with kd := 3, rep := c.1 }, c.2) := by simp [msgR, hk, k3, hc]
     have e : msgD s = if endR (c.2) = 0 then ({ ms0 with kd := 3, rep := c.1 }, 0) else (ms0, endR (c.2)) := by unfold msgD; rw [if_neg hlen, e0]
     haveI hxs : Sh (c.2) := by infer_instance
     have hend := fun l => rREnd_call (c.2) l
     obtain ⟨ev, hev⟩ : ∃ x, endR (c.2) = x := ⟨_, rfl⟩
     rw [hev] at e
     simp only [hev] at hend
     have hrec := fun (σ : St) (f g i : MV) => vms (σ := σ) (m := { ms0 with kd := 3, rep := c.1 }) (f := f) (g := g) (i := i)
     simp only [MS.c, MS.k, ms0, cm0, ed0, pa0, tk0, re0, pg0, u32z] at hrec
     clear hev e0
     by_cases hz : ev = 0
     ·rw [if_pos hz] at e
      rw [e]
      clear e
      repeat' (first | (with_reducible (refine wQ ?_; first | refine uR (h1 ..) ?_ | refine uR (h2 ..) ?_ | refine uR (hend ..) ?_)) | (with_reducible first | (refine wN fun _ hnl => ?_; revert hnl; (repeat refine wS fun _ _ => ?_); intro hnl) | refine wE ?_ | (refine wK ?_ ?_ <;> intro h) | (refine wB ?_ ?_ <;> intro h <;> simp only [h])) | simp (maxSteps := 4000000) (disch := first | decide | assumption | omega | (simp only [wL]; omega)) only [go_sem, simprocAttr, Tryz.f16, FYs, bsS_size, k3])
      all_goals (try (exfalso; omega))
      all_goals exact View.two (hrec _ _ _ _ (.nil _ _) (.same _) (.nil _ _)) (.same _)
     ·rw [if_neg hz] at e
      rw [e]
      clear e
      repeat' (first | (with_reducible (refine wQ ?_; first | refine uR (h1 ..) ?_ | refine uR (h2 ..) ?_ | refine uR (hend ..) ?_)) | (with_reducible first | (refine wN fun _ hnl => ?_; revert hnl; (repeat refine wS fun _ _ => ?_); intro hnl) | refine wE ?_ | (refine wK ?_ ?_ <;> intro h) | (refine wB ?_ ?_ <;> intro h <;> simp only [h])) | simp (maxSteps := 4000000) (disch := first | decide | assumption | omega | (simp only [wL]; omega)) only [go_sem, simprocAttr, Tryz.f16, FYs, bsS_size, k3])
      all_goals (try (exfalso; omega))
      all_goals exact View.two (vms (m := ms0) (.nil _ _) (.nil _ _) (.nil _ _)) (.same _)
    ·by_cases k4 : k.1 = 4
     ·have h2 := fun l => rpgread_call k.2 l
      haveI hcs : Sh (pageR k.2).2 := inferInstance
      obtain ⟨c, hc⟩ : ∃ c, pageR k.2 = c := ⟨_, rfl⟩
      rw [hc] at hcs
      simp only [hc] at h2
      have e0 : msgR ⟨s, 0⟩ = ({ ms0 with kd := 4, page := c.1 }, c.2) := by simp [msgR, hk, k4, hc]
      have e : msgD s = if endR (c.2) = 0 then ({ ms0 with kd := 4, page := c.1 }, 0) else (ms0, endR (c.2)) := by unfold msgD; rw [if_neg hlen, e0]
      haveI hxs : Sh (c.2) := by infer_instance
      have hend := fun l => rREnd_call (c.2) l
      obtain ⟨ev, hev⟩ : ∃ x, endR (c.2) = x := ⟨_, rfl⟩
      rw [hev] at e
      simp only [hev] at hend
      have hrec := fun (σ : St) (f g i : MV) => vms (σ := σ) (m := { ms0 with kd := 4, page := c.1 }) (f := f) (g := g) (i := i)
      simp only [MS.c, MS.k, ms0, cm0, ed0, pa0, tk0, re0, pg0, u32z] at hrec
      clear hev e0
      by_cases hz : ev = 0
      ·rw [if_pos hz] at e
       rw [e]
       clear e
       repeat' (first | (with_reducible (refine wQ ?_; first | refine uR (h1 ..) ?_ | refine uR (h2 ..) ?_ | refine uR (hend ..) ?_)) | (with_reducible first | (refine wN fun _ hnl => ?_; revert hnl; (repeat refine wS fun _ _ => ?_); intro hnl) | refine wE ?_ | (refine wK ?_ ?_ <;> intro h) | (refine wB ?_ ?_ <;> intro h <;> simp only [h])) | simp (maxSteps := 4000000) (disch := first | decide | assumption | omega | (simp only [wL]; omega)) only [go_sem, simprocAttr, Tryz.f16, FYs, bsS_size, k4])
       all_goals (try (exfalso; omega))
       all_goals exact View.two (hrec _ _ _ _ (.nil _ _) (.nil _ _) (.same _)) (.same _)
      ·rw [if_neg hz] at e
       rw [e]
       clear e
       repeat' (first | (with_reducible (refine wQ ?_; first | refine uR (h1 ..) ?_ | refine uR (h2 ..) ?_ | refine uR (hend ..) ?_)) | (with_reducible first | (refine wN fun _ hnl => ?_; revert hnl; (repeat refine wS fun _ _ => ?_); intro hnl) | refine wE ?_ | (refine wK ?_ ?_ <;> intro h) | (refine wB ?_ ?_ <;> intro h <;> simp only [h])) | simp (maxSteps := 4000000) (disch := first | decide | assumption | omega | (simp only [wL]; omega)) only [go_sem, simprocAttr, Tryz.f16, FYs, bsS_size, k4])
       all_goals (try (exfalso; omega))
       all_goals exact View.two (vms (m := ms0) (.nil _ _) (.nil _ _) (.nil _ _)) (.same _)
     ·by_cases k5 : k.1 = 5
      ·have h2 := fun l => rabove_call 16 k.2 l
       haveI hcs : Sh (fromR 1 16 k.2).2 := inferInstance
       obtain ⟨c, hc⟩ : ∃ c, fromR 1 16 k.2 = c := ⟨_, rfl⟩
       rw [hc] at hcs
       simp only [hc] at h2
       have e0 : msgR ⟨s, 0⟩ = ({ ms0 with kd := 5, code := c.1 }, c.2) := by simp [msgR, hk, k5, hc]
       have e : msgD s = if endR (c.2) = 0 then ({ ms0 with kd := 5, code := c.1 }, 0) else (ms0, endR (c.2)) := by unfold msgD; rw [if_neg hlen, e0]
       haveI hxs : Sh (c.2) := by infer_instance
       have hend := fun l => rREnd_call (c.2) l
       obtain ⟨ev, hev⟩ : ∃ x, endR (c.2) = x := ⟨_, rfl⟩
       rw [hev] at e
       simp only [hev] at hend
       have hrec := fun (σ : St) (f g i : MV) => vms (σ := σ) (m := { ms0 with kd := 5, code := c.1 }) (f := f) (g := g) (i := i)
       simp only [MS.c, MS.k, ms0, cm0, ed0, pa0, tk0, re0, pg0, u32z] at hrec
       clear hev e0
       by_cases hz : ev = 0
       ·rw [if_pos hz] at e
        rw [e]
        clear e
        repeat' (first | (with_reducible (refine wQ ?_; first | refine uR (h1 ..) ?_ | refine uR (h2 ..) ?_ | refine uR (hend ..) ?_)) | (with_reducible first | (refine wN fun _ hnl => ?_; revert hnl; (repeat refine wS fun _ _ => ?_); intro hnl) | refine wE ?_ | (refine wK ?_ ?_ <;> intro h) | (refine wB ?_ ?_ <;> intro h <;> simp only [h])) | simp (maxSteps := 4000000) (disch := first | decide | assumption | omega | (simp only [wL]; omega)) only [go_sem, simprocAttr, Tryz.f16, FYs, bsS_size, k5])
        all_goals (try (exfalso; omega))
        all_goals exact View.two (hrec _ _ _ _ (.nil _ _) (.nil _ _) (.nil _ _)) (.same _)
       ·rw [if_neg hz] at e
        rw [e]
        clear e
        repeat' (first | (with_reducible (refine wQ ?_; first | refine uR (h1 ..) ?_ | refine uR (h2 ..) ?_ | refine uR (hend ..) ?_)) | (with_reducible first | (refine wN fun _ hnl => ?_; revert hnl; (repeat refine wS fun _ _ => ?_); intro hnl) | refine wE ?_ | (refine wK ?_ ?_ <;> intro h) | (refine wB ?_ ?_ <;> intro h <;> simp only [h])) | simp (maxSteps := 4000000) (disch := first | decide | assumption | omega | (simp only [wL]; omega)) only [go_sem, simprocAttr, Tryz.f16, FYs, bsS_size, k5])
        all_goals (try (exfalso; omega))
        all_goals exact View.two (vms (m := ms0) (.nil _ _) (.nil _ _) (.nil _ _)) (.same _)
      ·have e0 : msgR ⟨s, 0⟩ = ({ ms0 with kd := k.1 }, k.2) := by simp [msgR, hk, k1, k2, k3, k4, k5]
       have e : msgD s = if endR (k.2) = 0 then ({ ms0 with kd := k.1 }, 0) else (ms0, endR (k.2)) := by unfold msgD; rw [if_neg hlen, e0]
       haveI hxs : Sh (k.2) := by infer_instance
       have hend := fun l => rREnd_call (k.2) l
       obtain ⟨ev, hev⟩ : ∃ x, endR (k.2) = x := ⟨_, rfl⟩
       rw [hev] at e
       simp only [hev] at hend
       have hrec := fun (σ : St) (f g i : MV) => vms (σ := σ) (m := { ms0 with kd := k.1 }) (f := f) (g := g) (i := i)
       simp only [MS.c, MS.k, ms0, cm0, ed0, pa0, tk0, re0, pg0, u32z] at hrec
       clear hev e0
       by_cases hz : ev = 0
       ·rw [if_pos hz] at e
        rw [e]
        clear e
        repeat' (first | (with_reducible (refine wQ ?_; first | refine uR (h1 ..) ?_ | refine uR (hend ..) ?_)) | (with_reducible first | (refine wN fun _ hnl => ?_; revert hnl; (repeat refine wS fun _ _ => ?_); intro hnl) | refine wE ?_ | (refine wK ?_ ?_ <;> intro h) | (refine wB ?_ ?_ <;> intro h <;> simp only [h])) | simp (maxSteps := 4000000) (disch := first | decide | assumption | omega | (simp only [wL]; omega)) only [go_sem, simprocAttr, Tryz.f16, FYs, bsS_size])
        all_goals (try (exfalso; omega))
        all_goals exact View.two (hrec _ _ _ _ (.nil _ _) (.nil _ _) (.nil _ _)) (.same _)
       ·rw [if_neg hz] at e
        rw [e]
        clear e
        repeat' (first | (with_reducible (refine wQ ?_; first | refine uR (h1 ..) ?_ | refine uR (hend ..) ?_)) | (with_reducible first | (refine wN fun _ hnl => ?_; revert hnl; (repeat refine wS fun _ _ => ?_); intro hnl) | refine wE ?_ | (refine wK ?_ ?_ <;> intro h) | (refine wB ?_ ?_ <;> intro h <;> simp only [h])) | simp (maxSteps := 4000000) (disch := first | decide | assumption | omega | (simp only [wL]; omega)) only [go_sem, simprocAttr, Tryz.f16, FYs, bsS_size])
        all_goals (try (exfalso; omega))
        all_goals exact View.two (vms (m := ms0) (.nil _ _) (.nil _ _) (.nil _ _)) (.same _)
end Go.Proofs.YtfbodefnblpflaaGreatDoor
end
