/- Parts of the proof, joined. Each part says what it proves, and under which conditions it does: those that its theorems name. -/
import Derived.Test.YtfbodefnblpflaaGreatDoorMbzi
import Derived.Test.YtfbodefnblpflaaGreatDoorMbzj
set_option linter.unusedVariables false
set_option linter.unusedSimpArgs false
set_option maxHeartbeats 4000000
namespace Go.Proofs.YtfbodefnblpflaaGreatDoor
set_option maxRecDepth 100000
set_option maxHeartbeats 4000000
theorem rcmread_call (r : RD) [hs : Sh r] (l : Nat) : MCalls Tryz.prog 50 [.ptr l 0 0] (St.none.set l (rR r)) (fun v σ' => v = .agg (cmdR r).1.c ∧ σ' = St.none.set l (rR (cmdR r).2)) := by
 refine MCalls.seenO (MCalls.body 54 [.cell 2 32] Tryz.func50 rfl rfl rfl rfl ?_)
 have h1 := rabove_call 5 r l
 haveI hks : Sh (fromR 1 5 r).2 := inferInstance
 obtain ⟨k, hk⟩ : ∃ k, fromR 1 5 r = k := ⟨_, rfl⟩
 rw [hk] at h1 hks
 by_cases k1 : k.1 = 1
 ·have h2 := reditR_call k.2 l
  obtain ⟨e, hee⟩ : ∃ e, editR k.2 = e := ⟨_, rfl⟩
  rw [hee] at h2
  have e0 : cmdR r = okR cm0 ({ cm0 with kd := 1, e := e.1 }, e.2) := by simp [cmdR, hk, k1, hee]
  rw [e0]
  clear e0 hk
  have hrec : e.2.e = 0 → ∀ (σ : St) (mv : MV), View σ mv (.lst 5 (({ cm0 with kd := 1, e := e.1 } : CM).fl.map ND.c) false) → View σ (.agg (({ cm0 with kd := 1, e := e.1 } : CM).k mv)) (.agg ({ cm0 with kd := 1, e := e.1 } : CM).c) := fun _ _ _ h => vcm h
  simp only [CM.c, CM.k, cm0, ed0, pa0, u32z] at hrec
  by_cases he : e.2.e = 0
  ·rw [okR_y he]
   have hrec := hrec he
   repeat' (first | (with_reducible (refine wQ ?_; first | refine uR (h1 ..) ?_ | refine uR (h2 ..) ?_)) | (with_reducible first | (refine wN fun _ hnl => ?_; revert hnl; (repeat refine wS fun _ _ => ?_); intro hnl) | refine wE ?_ | (refine wK ?_ ?_ <;> intro h) | (refine wB ?_ ?_ <;> intro h <;> simp only [h])) | simp (maxSteps := 4000000) (disch := first | decide | assumption | omega | (simp only [wL]; omega)) only [go_sem, simprocAttr, Tryz.f50, FYs])
   all_goals (try (exfalso; omega))
   all_goals (try simp only [cm0, ed0, pa0, u32z, *])
   all_goals first | exact hrec _ _ (.nil _ _) | exact ⟨hrec _ _ (.nil _ _), rfl⟩
  ·rw [okR_n he]
   clear hrec
   have hz := fun (σ : St) => vcm (σ := σ) (c := cm0) (.nil _ _)
   repeat' (first | (with_reducible (refine wQ ?_; first | refine uR (h1 ..) ?_ | refine uR (h2 ..) ?_)) | (with_reducible first | (refine wN fun _ hnl => ?_; revert hnl; (repeat refine wS fun _ _ => ?_); intro hnl) | refine wE ?_ | (refine wK ?_ ?_ <;> intro h) | (refine wB ?_ ?_ <;> intro h <;> simp only [h])) | simp (maxSteps := 4000000) (disch := first | decide | assumption | omega | (simp only [wL]; omega)) only [go_sem, simprocAttr, Tryz.f50, FYs])
   all_goals (try (exfalso; omega))
   all_goals first | exact hz _ | exact ⟨hz _, rfl⟩
 ·by_cases k5 : k.1 = 5
  ·have h2 := rRNum_call 1099511627776 k.2 l
   obtain ⟨e, hee⟩ : ∃ e, numR 1099511627776 k.2 = e := ⟨_, rfl⟩
   rw [hee] at h2
   have e0 : cmdR r = okR cm0 ({ cm0 with kd := 5, keep := e.1 }, e.2) := by simp [cmdR, big, hk, k5, hee]
   rw [e0]
   clear e0 hk
   have hrec : e.2.e = 0 → ∀ (σ : St) (mv : MV), View σ mv (.lst 5 (({ cm0 with kd := 5, keep := e.1 } : CM).fl.map ND.c) false) → View σ (.agg (({ cm0 with kd := 5, keep := e.1 } : CM).k mv)) (.agg ({ cm0 with kd := 5, keep := e.1 } : CM).c) := fun _ _ _ h => vcm h
   simp only [CM.c, CM.k, cm0, ed0, pa0, u32z] at hrec
   by_cases he : e.2.e = 0
   ·rw [okR_y he]
    have hrec := hrec he
    repeat' (first | (with_reducible (refine wQ ?_; first | refine uR (h1 ..) ?_ | refine uR (h2 ..) ?_)) | (with_reducible first | (refine wN fun _ hnl => ?_; revert hnl; (repeat refine wS fun _ _ => ?_); intro hnl) | refine wE ?_ | (refine wK ?_ ?_ <;> intro h) | (refine wB ?_ ?_ <;> intro h <;> simp only [h])) | simp (maxSteps := 4000000) (disch := first | decide | assumption | omega | (simp only [wL]; omega)) only [go_sem, simprocAttr, Tryz.f50, FYs])
    all_goals (try (exfalso; omega))
    all_goals (try simp only [cm0, ed0, pa0, u32z, *])
    all_goals first | exact hrec _ _ (.nil _ _) | exact ⟨hrec _ _ (.nil _ _), rfl⟩
   ·rw [okR_n he]
    clear hrec
    have hz := fun (σ : St) => vcm (σ := σ) (c := cm0) (.nil _ _)
    repeat' (first | (with_reducible (refine wQ ?_; first | refine uR (h1 ..) ?_ | refine uR (h2 ..) ?_)) | (with_reducible first | (refine wN fun _ hnl => ?_; revert hnl; (repeat refine wS fun _ _ => ?_); intro hnl) | refine wE ?_ | (refine wK ?_ ?_ <;> intro h) | (refine wB ?_ ?_ <;> intro h <;> simp only [h])) | simp (maxSteps := 4000000) (disch := first | decide | assumption | omega | (simp only [wL]; omega)) only [go_sem, simprocAttr, Tryz.f50, FYs])
    all_goals (try (exfalso; omega))
    all_goals first | exact hz _ | exact ⟨hz _, rfl⟩
  ·have h2 := rRNum_call 5 k.2 l
   haveI hds : Sh (numR 5 k.2).2 := inferInstance
   obtain ⟨d, hd⟩ : ∃ d, numR 5 k.2 = d := ⟨_, rfl⟩
   rw [hd] at h2 hds
   have h3 := rabove_call 1099511627776 d.2 l
   haveI hqs : Sh (fromR 1 1099511627776 d.2).2 := inferInstance
   obtain ⟨q, hq⟩ : ∃ q, fromR 1 1099511627776 d.2 = q := ⟨_, rfl⟩
   rw [hq] at h3 hqs
   by_cases k2 : k.1 = 2
   ·have h4 := rabove_call 1073741823 q.2 l
    haveI his : Sh (fromR 1 1073741823 q.2).2 := inferInstance
    obtain ⟨i, hi⟩ : ∃ i, fromR 1 1073741823 q.2 = i := ⟨_, rfl⟩
    rw [hi] at h4 his
    have h5 := rabove_call 1099511627776 i.2 l
    haveI hbs : Sh (fromR 1 1099511627776 i.2).2 := inferInstance
    obtain ⟨b, hb⟩ : ∃ b, fromR 1 1099511627776 i.2 = b := ⟨_, rfl⟩
    rw [hb] at h5 hbs
    have h6 := rmayR_call b.2 l
    obtain ⟨p, hp⟩ : ∃ p, mayR b.2 = p := ⟨_, rfl⟩
    rw [hp] at h6
    have e0 : cmdR r = okR cm0 ({ cm0 with kd := 2, dev := d.1, req := q.1, id := i.1, base := b.1, p := p.1 }, p.2) := by simp [cmdR, big, idMax, hk, k2, hd, hq, hi, hb, hp]
    rw [e0]
    clear e0 hk
    have hrec : p.2.e = 0 → ∀ (σ : St) (mv : MV), View σ mv (.lst 5 (({ cm0 with kd := 2, dev := d.1, req := q.1, id := i.1, base := b.1, p := p.1 } : CM).fl.map ND.c) false) → View σ (.agg (({ cm0 with kd := 2, dev := d.1, req := q.1, id := i.1, base := b.1, p := p.1 } : CM).k mv)) (.agg ({ cm0 with kd := 2, dev := d.1, req := q.1, id := i.1, base := b.1, p := p.1 } : CM).c) := fun _ _ _ h => vcm h
    simp only [CM.c, CM.k, cm0, ed0, pa0, u32z] at hrec
    by_cases he : p.2.e = 0
    ·rw [okR_y he]
     have hrec := hrec he
     repeat' (first | (with_reducible (refine wQ ?_; first | refine uR (h1 ..) ?_ | refine uR (h2 ..) ?_ | refine uR (h3 ..) ?_ | refine uR (h4 ..) ?_ | refine uR (h5 ..) ?_ | refine uR (h6 ..) ?_)) | (with_reducible first | (refine wN fun _ hnl => ?_; revert hnl; (repeat refine wS fun _ _ => ?_); intro hnl) | refine wE ?_ | (refine wK ?_ ?_ <;> intro h) | (refine wB ?_ ?_ <;> intro h <;> simp only [h])) | simp (maxSteps := 4000000) (disch := first | decide | assumption | omega | (simp only [wL]; omega)) only [go_sem, simprocAttr, Tryz.f50, FYs])
     all_goals (try (exfalso; omega))
     all_goals (try simp only [cm0, ed0, pa0, u32z, *])
     all_goals first | exact hrec _ _ (.nil _ _) | exact ⟨hrec _ _ (.nil _ _), rfl⟩
    ·rw [okR_n he]
     clear hrec
     have hz := fun (σ : St) => vcm (σ := σ) (c := cm0) (.nil _ _)
     repeat' (first | (with_reducible (refine wQ ?_; first | refine uR (h1 ..) ?_ | refine uR (h2 ..) ?_ | refine uR (h3 ..) ?_ | refine uR (h4 ..) ?_ | refine uR (h5 ..) ?_ | refine uR (h6 ..) ?_)) | (with_reducible first | (refine wN fun _ hnl => ?_; revert hnl; (repeat refine wS fun _ _ => ?_); intro hnl) | refine wE ?_ | (refine wK ?_ ?_ <;> intro h) | (refine wB ?_ ?_ <;> intro h <;> simp only [h])) | simp (maxSteps := 4000000) (disch := first | decide | assumption | omega | (simp only [wL]; omega)) only [go_sem, simprocAttr, Tryz.f50, FYs])
     all_goals (try (exfalso; omega))
     all_goals first | exact hz _ | exact ⟨hz _, rfl⟩
   ·by_cases k3 : k.1 = 3
    ·have h4 := rpredR_call q.2 l
     haveI hfs : Sh (predR q.2).2 := inferInstance
     obtain ⟨f, hf⟩ : ∃ f, predR q.2 = f := ⟨_, rfl⟩
     rw [hf] at h4 hfs
     have h5 := rRNum_call 511 f.2 l
     have hm1 := (numR_rng 511 f.2).1
     have hm2 := numR_most (most := 511) (by decide) f.2
     obtain ⟨m, hm⟩ : ∃ m, numR 511 f.2 = m := ⟨_, rfl⟩
     rw [hm] at h5 hm1 hm2
     have hw := u32_wrap hm1 (by omega)
     have e0 : cmdR r = okR cm0 ({ cm0 with kd := 3, dev := d.1, req := q.1, fl := f.1, mask := UInt32.ofNat m.1.toNat }, m.2) := by simp [cmdR, big, idMax, hk, k3, hd, hq, hf, hm]
     rw [e0]
     clear e0 hk
     have hrec : m.2.e = 0 → ∀ (σ : St) (mv : MV), View σ mv (.lst 5 (({ cm0 with kd := 3, dev := d.1, req := q.1, fl := f.1, mask := UInt32.ofNat m.1.toNat } : CM).fl.map ND.c) false) → View σ (.agg (({ cm0 with kd := 3, dev := d.1, req := q.1, fl := f.1, mask := UInt32.ofNat m.1.toNat } : CM).k mv)) (.agg ({ cm0 with kd := 3, dev := d.1, req := q.1, fl := f.1, mask := UInt32.ofNat m.1.toNat } : CM).c) := fun _ _ _ h => vcm h
     simp only [CM.c, CM.k, cm0, ed0, pa0, u32z] at hrec
     by_cases he : m.2.e = 0
     ·rw [okR_y he]
      have hrec := hrec he
      repeat' (first | (with_reducible (refine wQ ?_; first | refine uR (h1 ..) ?_ | refine uR (h2 ..) ?_ | refine uR (h3 ..) ?_ | refine uR (h4 ..) ?_ | refine uR (h5 ..) ?_)) | (with_reducible first | (refine wN fun _ hnl => ?_; revert hnl; (repeat refine wS fun _ _ => ?_); intro hnl) | refine wE ?_ | (refine wK ?_ ?_ <;> intro h) | (refine wB ?_ ?_ <;> intro h <;> simp only [h])) | simp (maxSteps := 4000000) (disch := first | decide | assumption | omega | (simp only [wL]; omega)) only [go_sem, simprocAttr, Tryz.f50, FYs, hw])
      all_goals (try (exfalso; omega))
      all_goals (try simp only [cm0, ed0, pa0, u32z, *])
      all_goals first | exact hrec _ _ (.same _) | exact ⟨hrec _ _ (.same _), rfl⟩
     ·rw [okR_n he]
      clear hrec
      have hz := fun (σ : St) => vcm (σ := σ) (c := cm0) (.nil _ _)
      repeat' (first | (with_reducible (refine wQ ?_; first | refine uR (h1 ..) ?_ | refine uR (h2 ..) ?_ | refine uR (h3 ..) ?_ | refine uR (h4 ..) ?_ | refine uR (h5 ..) ?_)) | (with_reducible first | (refine wN fun _ hnl => ?_; revert hnl; (repeat refine wS fun _ _ => ?_); intro hnl) | refine wE ?_ | (refine wK ?_ ?_ <;> intro h) | (refine wB ?_ ?_ <;> intro h <;> simp only [h])) | simp (maxSteps := 4000000) (disch := first | decide | assumption | omega | (simp only [wL]; omega)) only [go_sem, simprocAttr, Tryz.f50, FYs, hw])
      all_goals (try (exfalso; omega))
      all_goals first | exact hz _ | exact ⟨hz _, rfl⟩
    ·have e0 : cmdR r = okR cm0 ({ cm0 with kd := k.1, dev := d.1, req := q.1 }, q.2) := by simp [cmdR, big, idMax, hk, k1, k2, k3, k5, hd, hq]
     rw [e0]
     clear e0 hk
     have hrec : q.2.e = 0 → ∀ (σ : St) (mv : MV), View σ mv (.lst 5 (({ cm0 with kd := k.1, dev := d.1, req := q.1 } : CM).fl.map ND.c) false) → View σ (.agg (({ cm0 with kd := k.1, dev := d.1, req := q.1 } : CM).k mv)) (.agg ({ cm0 with kd := k.1, dev := d.1, req := q.1 } : CM).c) := fun _ _ _ h => vcm h
     simp only [CM.c, CM.k, cm0, ed0, pa0, u32z] at hrec
     by_cases he : q.2.e = 0
     ·rw [okR_y he]
      have hrec := hrec he
      repeat' (first | (with_reducible (refine wQ ?_; first | refine uR (h1 ..) ?_ | refine uR (h2 ..) ?_ | refine uR (h3 ..) ?_)) | (with_reducible first | (refine wN fun _ hnl => ?_; revert hnl; (repeat refine wS fun _ _ => ?_); intro hnl) | refine wE ?_ | (refine wK ?_ ?_ <;> intro h) | (refine wB ?_ ?_ <;> intro h <;> simp only [h])) | simp (maxSteps := 4000000) (disch := first | decide | assumption | omega | (simp only [wL]; omega)) only [go_sem, simprocAttr, Tryz.f50, FYs])
      all_goals (try (exfalso; omega))
      all_goals (try simp only [cm0, ed0, pa0, u32z, *])
      all_goals first | exact hrec _ _ (.nil _ _) | exact ⟨hrec _ _ (.nil _ _), rfl⟩
     ·rw [okR_n he]
      clear hrec
      have hz := fun (σ : St) => vcm (σ := σ) (c := cm0) (.nil _ _)
      repeat' (first | (with_reducible (refine wQ ?_; first | refine uR (h1 ..) ?_ | refine uR (h2 ..) ?_ | refine uR (h3 ..) ?_)) | (with_reducible first | (refine wN fun _ hnl => ?_; revert hnl; (repeat refine wS fun _ _ => ?_); intro hnl) | refine wE ?_ | (refine wK ?_ ?_ <;> intro h) | (refine wB ?_ ?_ <;> intro h <;> simp only [h])) | simp (maxSteps := 4000000) (disch := first | decide | assumption | omega | (simp only [wL]; omega)) only [go_sem, simprocAttr, Tryz.f50, FYs])
      all_goals (try (exfalso; omega))
      all_goals first | exact hz _ | exact ⟨hz _, rfl⟩
end Go.Proofs.YtfbodefnblpflaaGreatDoor
