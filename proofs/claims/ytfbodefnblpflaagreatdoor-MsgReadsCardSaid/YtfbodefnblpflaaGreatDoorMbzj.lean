/- Parts of the proof, joined. Each part says what it proves, and under which conditions it does: those that its theorems name. -/
import Derived.Test.YtfbodefnblpflaaGreatDoorMbz
import Derived.Test.YtfbodefnblpflaaGreatDoorMbzc
set_option linter.unusedVariables false
set_option linter.unusedSimpArgs false
set_option maxHeartbeats 4000000
namespace Go.Proofs.YtfbodefnblpflaaGreatDoor
set_option maxRecDepth 100000
set_option maxHeartbeats 4000000
theorem rrsame_call (a b : RE) (hl : a.fl.length ≤ 1000000) : MCalls Tryz.prog 40 [.agg a.c, .agg b.c] St.none (fun r _ => r = .bool (decide (a = b))) := by
 refine MCalls.drops (MCalls.body 73 [.tmp 4] Tryz.func40 rfl rfl rfl rfl ?_)
 have hs := rsame_call a.fl b.fl hl false false
 obtain ⟨bf, hbf⟩ : ∃ x, decide (a.fl = b.fl) = x := ⟨_, rfl⟩
 have hu := u32_int (a := a.mask) (b := b.mask)
 obtain ⟨res, hres⟩ : ∃ r, decide (a = b) = r := ⟨_, rfl⟩
 have e : Unit → decide (a.kd = b.kd ∧ a.dev = b.dev ∧ a.req = b.req ∧ a.code = b.code ∧ a.id = b.id ∧ a.ver = b.ver ∧ a.sq = b.sq ∧ a.ep = b.ep ∧ bf = true ∧ (a.mask.toNat : Int) = (b.mask.toNat : Int)) = res := fun _ => by
  rw [← hres, ← hbf]
  refine decide_eq_decide.mpr ?_
  rw [re_iff, hu, decide_eq_true_iff]
 rw [hbf] at hs
 rw [hres]
 clear hres hbf hu
 cases bf
 all_goals
  repeat' (first | (with_reducible first | refine up hs ?_) | (with_reducible first | (refine wN fun _ hnl => ?_; revert hnl; (repeat refine wS fun _ _ => ?_); intro hnl) | refine wE ?_ | (refine wK ?_ ?_ <;> intro h) | (refine wB ?_ ?_ <;> intro h <;> simp only [h])) | simp (maxSteps := 4000000) (disch := first | decide | assumption | omega | (simp only [wL]; omega)) only [go_sem, simprocAttr, Tryz.f40])
 all_goals first | refine ⟨_, St.le_refl _, ?_⟩ | skip
 all_goals rw [← e ()]
 all_goals clear e
 all_goals (first | (simp [*]; done) | skip)
theorem rrread_call (r : RD) [hs : Sh r] (l : Nat) : MCalls Tryz.prog 53 [.ptr l 0 0] (St.none.set l (rR r)) (fun v σ' => v = .agg (repR r).1.c ∧ σ' = St.none.set l (rR (repR r).2)) := by
 refine MCalls.seenO (MCalls.body 70 [.cell 2 37] Tryz.func53 rfl rfl rfl rfl ?_)
 have h1 := rRNum_call 4 r l
 have hr := numR_rng 4 r
 haveI hns : Sh (numR 4 r).2 := inferInstance
 obtain ⟨⟨k, s0⟩, hn⟩ : ∃ n, numR 4 r = n := ⟨_, rfl⟩
 have hpe : fromR 2 4 r = (k, if s0.e = 0 ∧ k < 2 then failR 3 s0 else s0) := by
  unfold fromR
  rw [hn]
  simp only
  by_cases h0 : s0.e = 0
  ·simp only [h0, true_and]
  ·simp [h0, failR_stk h0]
 rw [hn] at h1 hr hns
 simp only at h1 hr hns
 obtain ⟨s, hse⟩ : ∃ s, (if s0.e = 0 ∧ k < 2 then failR 3 s0 else s0) = s := ⟨_, rfl⟩
 rw [hse] at hpe
 haveI hss : Sh s := by rw [← hse]; infer_instance
 have h2 := rRNum_call 5 s l
 haveI hds : Sh (numR 5 s).2 := inferInstance
 obtain ⟨d, hd⟩ : ∃ d, numR 5 s = d := ⟨_, rfl⟩
 rw [hd] at h2 hds
 have h3 := rabove_call 1099511627776 d.2 l
 haveI hqs : Sh (fromR 1 1099511627776 d.2).2 := inferInstance
 obtain ⟨q, hq⟩ : ∃ q, fromR 1 1099511627776 d.2 = q := ⟨_, rfl⟩
 rw [hq] at h3 hqs
 have h4 := rRNum_call 16 q.2 l
 haveI hcs : Sh (numR 16 q.2).2 := inferInstance
 obtain ⟨c, hc⟩ : ∃ c, numR 16 q.2 = c := ⟨_, rfl⟩
 rw [hc] at h4 hcs
 have hh : (s0.e = 0 ∧ k < 2 ∧ MCalls Tryz.prog 51 [.ptr l 0 0, .int .i64 3] (St.none.set l (rR s0)) (fun v σ' => v = .tup [] ∧ σ' = St.none.set l (rR s))) ∨ (¬ (s0.e = 0 ∧ k < 2) ∧ s0 = s) := by
  by_cases hf : s0.e = 0 ∧ k < 2
  ·rw [if_pos hf] at hse
   have := rRFail_call 3 s0 l
   rw [hse] at this
   exact .inl ⟨hf.1, hf.2, this⟩
  ·rw [if_neg hf] at hse
   exact .inr ⟨hf, hse⟩
 have h5 := rRNum_call 1099511627776 c.2 l
 haveI hts : Sh (numR 1099511627776 c.2).2 := inferInstance
 obtain ⟨t, ht⟩ : ∃ t, numR 1099511627776 c.2 = t := ⟨_, rfl⟩
 rw [ht] at h5 hts
 have hw : True := trivial
 have h8 := h5
 by_cases hgo : c.2.e = 0 ∧ c.1 = 0
 ·by_cases hk2 : k = 2
  ·have h6 := rabove_call 1073741823 t.2 l
   haveI his : Sh (fromR 1 1073741823 t.2).2 := inferInstance
   obtain ⟨i, hi⟩ : ∃ i, fromR 1 1073741823 t.2 = i := ⟨_, rfl⟩
   rw [hi] at h6 his
   have h7 := rabove_call 1099511627776 i.2 l
   obtain ⟨v, hv⟩ : ∃ v, fromR 1 1099511627776 i.2 = v := ⟨_, rfl⟩
   rw [hv] at h7
   have e : repR r = okR re0 (⟨k, d.1, q.1, c.1, i.1, v.1, t.1, 0, [], 0⟩, v.2) := by
    simp [repR, big, idMax, hpe, hd, hq, hc, hgo, ht, hi, hv, hk2]
   obtain ⟨hg1, hg2⟩ := hgo
   rw [e]
   clear e hpe hn hd hq hc ht hi hv hse hr
   rcases hh with ⟨hf1, hf2, h1b⟩ | ⟨hf, rfl⟩
   ·exfalso; omega
   have h1b := h1
   by_cases he : v.2.e = 0
   ·rw [okR_y he]
    repeat' (first | (with_reducible (refine wQ ?_; first | refine uR (h1 ..) ?_ | refine uR (h1b ..) ?_ | refine uR (h2 ..) ?_ | refine uR (h3 ..) ?_ | refine uR (h4 ..) ?_ | refine uR (h5 ..) ?_ | refine uR (h6 ..) ?_ | refine uR (h7 ..) ?_ | refine uR (h8 ..) ?_)) | (with_reducible first | (refine wN fun _ hnl => ?_; revert hnl; (repeat refine wS fun _ _ => ?_); intro hnl) | refine wE ?_ | (refine wK ?_ ?_ <;> intro h) | (refine wB ?_ ?_ <;> intro h <;> simp only [h])) | simp (maxSteps := 4000000) (disch := first | decide | assumption | omega | (simp only [wL]; omega)) only [go_sem, simprocAttr, Tryz.f53, hw])
    all_goals (try (exfalso; omega))
    all_goals first | exact vre (a := ⟨k, d.1, q.1, c.1, i.1, v.1, t.1, 0, [], 0⟩) (.nil _ _) | exact ⟨vre (a := ⟨k, d.1, q.1, c.1, i.1, v.1, t.1, 0, [], 0⟩) (.nil _ _), rfl⟩
   ·rw [okR_n he]
    repeat' (first | (with_reducible (refine wQ ?_; first | refine uR (h1 ..) ?_ | refine uR (h1b ..) ?_ | refine uR (h2 ..) ?_ | refine uR (h3 ..) ?_ | refine uR (h4 ..) ?_ | refine uR (h5 ..) ?_ | refine uR (h6 ..) ?_ | refine uR (h7 ..) ?_ | refine uR (h8 ..) ?_)) | (with_reducible first | (refine wN fun _ hnl => ?_; revert hnl; (repeat refine wS fun _ _ => ?_); intro hnl) | refine wE ?_ | (refine wK ?_ ?_ <;> intro h) | (refine wB ?_ ?_ <;> intro h <;> simp only [h])) | simp (maxSteps := 4000000) (disch := first | decide | assumption | omega | (simp only [wL]; omega)) only [go_sem, simprocAttr, Tryz.f53, hw])
    all_goals (try (exfalso; omega))
    all_goals first | exact vre (a := re0) (.nil _ _) | exact ⟨vre (a := re0) (.nil _ _), rfl⟩
  ·by_cases hk3 : k = 3
   ·have h6 := rabove_call 1099511627776 t.2 l
    haveI his : Sh (fromR 1 1099511627776 t.2).2 := inferInstance
    obtain ⟨i, hi⟩ : ∃ i, fromR 1 1099511627776 t.2 = i := ⟨_, rfl⟩
    rw [hi] at h6 his
    have h7 := rpredR_call i.2 l
    haveI hvs : Sh (predR i.2).2 := inferInstance
    obtain ⟨v, hv⟩ : ∃ v, predR i.2 = v := ⟨_, rfl⟩
    rw [hv] at h7 hvs
    have h8 := rRNum_call 511 v.2 l
    have hm1 := (numR_rng 511 v.2).1
    have hm2 := numR_most (most := 511) (by decide) v.2
    obtain ⟨m, hm⟩ : ∃ m, numR 511 v.2 = m := ⟨_, rfl⟩
    rw [hm] at h8 hm1 hm2
    have hw := u32_wrap hm1 (by omega)
    have e : repR r = okR re0 (⟨k, d.1, q.1, c.1, 0, 0, t.1, i.1, v.1, UInt32.ofNat m.1.toNat⟩, m.2) := by
     simp [repR, big, idMax, hpe, hd, hq, hc, hgo, ht, hi, hv, hk3, hm]
    obtain ⟨hg1, hg2⟩ := hgo
    rw [e]
    clear e hpe hn hd hq hc ht hi hv hm hse hr
    rcases hh with ⟨hf1, hf2, h1b⟩ | ⟨hf, rfl⟩
    ·exfalso; omega
    have h1b := h1
    by_cases he : m.2.e = 0
    ·rw [okR_y he]
     repeat' (first | (with_reducible (refine wQ ?_; first | refine uR (h1 ..) ?_ | refine uR (h1b ..) ?_ | refine uR (h2 ..) ?_ | refine uR (h3 ..) ?_ | refine uR (h4 ..) ?_ | refine uR (h5 ..) ?_ | refine uR (h6 ..) ?_ | refine uR (h7 ..) ?_ | refine uR (h8 ..) ?_)) | (with_reducible first | (refine wN fun _ hnl => ?_; revert hnl; (repeat refine wS fun _ _ => ?_); intro hnl) | refine wE ?_ | (refine wK ?_ ?_ <;> intro h) | (refine wB ?_ ?_ <;> intro h <;> simp only [h])) | simp (maxSteps := 4000000) (disch := first | decide | assumption | omega | (simp only [wL]; omega)) only [go_sem, simprocAttr, Tryz.f53, hw])
     all_goals (try (exfalso; omega))
     all_goals first | exact vre (a := ⟨k, d.1, q.1, c.1, 0, 0, t.1, i.1, v.1, UInt32.ofNat m.1.toNat⟩) (.same _) | exact ⟨vre (a := ⟨k, d.1, q.1, c.1, 0, 0, t.1, i.1, v.1, UInt32.ofNat m.1.toNat⟩) (.same _), rfl⟩
    ·rw [okR_n he]
     repeat' (first | (with_reducible (refine wQ ?_; first | refine uR (h1 ..) ?_ | refine uR (h1b ..) ?_ | refine uR (h2 ..) ?_ | refine uR (h3 ..) ?_ | refine uR (h4 ..) ?_ | refine uR (h5 ..) ?_ | refine uR (h6 ..) ?_ | refine uR (h7 ..) ?_ | refine uR (h8 ..) ?_)) | (with_reducible first | (refine wN fun _ hnl => ?_; revert hnl; (repeat refine wS fun _ _ => ?_); intro hnl) | refine wE ?_ | (refine wK ?_ ?_ <;> intro h) | (refine wB ?_ ?_ <;> intro h <;> simp only [h])) | simp (maxSteps := 4000000) (disch := first | decide | assumption | omega | (simp only [wL]; omega)) only [go_sem, simprocAttr, Tryz.f53, hw])
     all_goals (try (exfalso; omega))
     all_goals first | exact vre (a := re0) (.nil _ _) | exact ⟨vre (a := re0) (.nil _ _), rfl⟩
   ·have h6 := h5
    have h7 := h5
    have e : repR r = okR re0 (⟨k, d.1, q.1, c.1, 0, 0, t.1, 0, [], 0⟩, t.2) := by
     simp [repR, big, idMax, hpe, hd, hq, hc, hgo, ht, hk2, hk3]
    obtain ⟨hg1, hg2⟩ := hgo
    rw [e]
    clear e hpe hn hd hq hc ht hse hr
    by_cases he : t.2.e = 0
    ·rw [okR_y he]
     rcases hh with ⟨hf1, hf2, h1b⟩ | ⟨hf, rfl⟩
     case' inr => have h1b := h1
     all_goals
      repeat' (first | (with_reducible (refine wQ ?_; first | refine uR (h1 ..) ?_ | refine uR (h1b ..) ?_ | refine uR (h2 ..) ?_ | refine uR (h3 ..) ?_ | refine uR (h4 ..) ?_ | refine uR (h5 ..) ?_ | refine uR (h6 ..) ?_ | refine uR (h7 ..) ?_ | refine uR (h8 ..) ?_)) | (with_reducible first | (refine wN fun _ hnl => ?_; revert hnl; (repeat refine wS fun _ _ => ?_); intro hnl) | refine wE ?_ | (refine wK ?_ ?_ <;> intro h) | (refine wB ?_ ?_ <;> intro h <;> simp only [h])) | simp (maxSteps := 4000000) (disch := first | decide | assumption | omega | (simp only [wL]; omega)) only [go_sem, simprocAttr, Tryz.f53, hw])
      all_goals (try (exfalso; omega))
      all_goals first | exact vre (a := ⟨k, d.1, q.1, c.1, 0, 0, t.1, 0, [], 0⟩) (.nil _ _) | exact ⟨vre (a := ⟨k, d.1, q.1, c.1, 0, 0, t.1, 0, [], 0⟩) (.nil _ _), rfl⟩
    ·rw [okR_n he]
     rcases hh with ⟨hf1, hf2, h1b⟩ | ⟨hf, rfl⟩
     case' inr => have h1b := h1
     all_goals
      repeat' (first | (with_reducible (refine wQ ?_; first | refine uR (h1 ..) ?_ | refine uR (h1b ..) ?_ | refine uR (h2 ..) ?_ | refine uR (h3 ..) ?_ | refine uR (h4 ..) ?_ | refine uR (h5 ..) ?_ | refine uR (h6 ..) ?_ | refine uR (h7 ..) ?_ | refine uR (h8 ..) ?_)) | (with_reducible first | (refine wN fun _ hnl => ?_; revert hnl; (repeat refine wS fun _ _ => ?_); intro hnl) | refine wE ?_ | (refine wK ?_ ?_ <;> intro h) | (refine wB ?_ ?_ <;> intro h <;> simp only [h])) | simp (maxSteps := 4000000) (disch := first | decide | assumption | omega | (simp only [wL]; omega)) only [go_sem, simprocAttr, Tryz.f53, hw])
      all_goals (try (exfalso; omega))
      all_goals first | exact vre (a := re0) (.nil _ _) | exact ⟨vre (a := re0) (.nil _ _), rfl⟩
 ·have h6 := h5
  have h7 := h5
  have e : repR r = okR re0 (⟨k, d.1, q.1, c.1, 0, 0, 0, 0, [], 0⟩, c.2) := by
   simp [repR, big, idMax, hpe, hd, hq, hc, hgo]
  rw [e]
  clear e hpe hn hd hq hc ht hse hr
  by_cases he : c.2.e = 0
  ·rw [okR_y he]
   rcases hh with ⟨hf1, hf2, h1b⟩ | ⟨hf, rfl⟩
   case' inr => have h1b := h1
   all_goals
    repeat' (first | (with_reducible (refine wQ ?_; first | refine uR (h1 ..) ?_ | refine uR (h1b ..) ?_ | refine uR (h2 ..) ?_ | refine uR (h3 ..) ?_ | refine uR (h4 ..) ?_ | refine uR (h5 ..) ?_ | refine uR (h6 ..) ?_ | refine uR (h7 ..) ?_ | refine uR (h8 ..) ?_)) | (with_reducible first | (refine wN fun _ hnl => ?_; revert hnl; (repeat refine wS fun _ _ => ?_); intro hnl) | refine wE ?_ | (refine wK ?_ ?_ <;> intro h) | (refine wB ?_ ?_ <;> intro h <;> simp only [h])) | simp (maxSteps := 4000000) (disch := first | decide | assumption | omega | (simp only [wL]; omega)) only [go_sem, simprocAttr, Tryz.f53, hw])
    all_goals (try (exfalso; omega))
    all_goals first | exact vre (a := ⟨k, d.1, q.1, c.1, 0, 0, 0, 0, [], 0⟩) (.nil _ _) | exact ⟨vre (a := ⟨k, d.1, q.1, c.1, 0, 0, 0, 0, [], 0⟩) (.nil _ _), rfl⟩
  ·rw [okR_n he]
   rcases hh with ⟨hf1, hf2, h1b⟩ | ⟨hf, rfl⟩
   case' inr => have h1b := h1
   all_goals
    repeat' (first | (with_reducible (refine wQ ?_; first | refine uR (h1 ..) ?_ | refine uR (h1b ..) ?_ | refine uR (h2 ..) ?_ | refine uR (h3 ..) ?_ | refine uR (h4 ..) ?_ | refine uR (h5 ..) ?_ | refine uR (h6 ..) ?_ | refine uR (h7 ..) ?_ | refine uR (h8 ..) ?_)) | (with_reducible first | (refine wN fun _ hnl => ?_; revert hnl; (repeat refine wS fun _ _ => ?_); intro hnl) | refine wE ?_ | (refine wK ?_ ?_ <;> intro h) | (refine wB ?_ ?_ <;> intro h <;> simp only [h])) | simp (maxSteps := 4000000) (disch := first | decide | assumption | omega | (simp only [wL]; omega)) only [go_sem, simprocAttr, Tryz.f53, hw])
    all_goals (try (exfalso; omega))
    all_goals first | exact vre (a := re0) (.nil _ _) | exact ⟨vre (a := re0) (.nil _ _), rfl⟩
end Go.Proofs.YtfbodefnblpflaaGreatDoor
