/- Parts of the proof, joined. Each part says what it proves, and under which conditions it does: those that its theorems name. -/
import Derived.Test.YtfbodefnblpflaaGreatDoorMcp
set_option linter.unusedVariables false
set_option linter.unusedSimpArgs false
set_option maxHeartbeats 4000000
namespace Go.Proofs.YtfbodefnblpflaaGreatDoor
set_option maxRecDepth 100000
set_option maxHeartbeats 4000000
theorem wrapU {n : Int} (h0 : 0 ≤ n) (h : n ≤ 4294967295) : IntKind.u32.wrap n = ((UInt32.ofNat n.toNat).toNat : Int) := by
 rw [u32_toN h0 h]
 obtain ⟨k, rfl⟩ : ∃ k : Nat, n = k := ⟨n.toNat, by omega⟩
 exact wrap32' (by omega)
theorem maskU {n : Int} (h0 : 0 ≤ n) (h : n ≤ 4294967295) : (UInt32.ofNat n.toNat).toNat = n.toNat := by
 have := u32_toN h0 h
 omega
theorem pcardR_call {bs : BL} [hb : Few bs] (r : RD) [hs : Sfx bs r] (l : Nat) : MCalls Tryz.prog 167 [.ptr l 0 0] (St.none.set l (rP bs r)) (fun v σ' => v = .agg (cardR r).1.c ∧ σ' = St.none.set l (rP bs (cardR r).2)) := by
 refine MCalls.obj (MCalls.body 24 [.cell 2 117] Tryz.func167 rfl rfl rfl rfl ?_)
 have h1 := pabove_call 1073741823 (bs := bs) r l
 haveI has : Sfx bs (fromR 1 1073741823 r).2 := inferInstance
 obtain ⟨a, ha⟩ : ∃ a, fromR 1 1073741823 r = a := ⟨_, rfl⟩
 rw [ha] at h1 has
 have h2 := pabove_call 1099511627776 (bs := bs) a.2 l
 haveI hbs : Sfx bs (fromR 1 1099511627776 a.2).2 := inferInstance
 obtain ⟨b, hbb⟩ : ∃ b, fromR 1 1099511627776 a.2 = b := ⟨_, rfl⟩
 rw [hbb] at h2 hbs
 have h3 := plabels_call (bs := bs) b.2 l
 haveI hcs : Sfx bs (numR 65535 b.2).2 := inferInstance
 obtain ⟨c, hc⟩ : ∃ c, numR 65535 b.2 = c := ⟨_, rfl⟩
 rw [hc] at h3 hcs
 obtain ⟨lb, hlb⟩ : ∃ x, UInt32.ofNat c.1.toNat = x := ⟨_, rfl⟩
 rw [hlb] at h3
 have h4 := pRNum_call 255 (bs := bs) c.2 l
 haveI hms : Sfx bs (numR 255 c.2).2 := inferInstance
 have hml := numR_most (most := 255) (by decide) c.2
 have hmr := (numR_rng 255 c.2).1
 obtain ⟨m, hm⟩ : ∃ m, numR 255 c.2 = m := ⟨_, rfl⟩
 rw [hm] at h4 hms hml hmr
 have hw := wrapU hmr (by omega)
 have hmk := maskU hmr (by omega)
 obtain ⟨mk, hmke⟩ : ∃ x, UInt32.ofNat m.1.toNat = x := ⟨_, rfl⟩
 rw [hmke] at hw hmk
 have h5 := pfieldsR_call (bs := bs) m.2 mk false l
 obtain ⟨f, hf⟩ : ∃ f, fieldsR mk.toNat false 8 (f80, m.2) = f := ⟨_, rfl⟩
 rw [hf] at h5
 have h6 := pRErr_call (bs := bs) f.2 l
 have e : cardR r = okR ca0 (⟨a.1, b.1, lb, f.1⟩, f.2) := by
  unfold cardR idMax big
  simp only [Int.reduceSub, ha, hbb, hc, hm, hlb, ← hmk, hf]
 rw [e]
 clear e ha hbb hc hm hf hmk hml hmr hmke hlb
 by_cases he : f.2.e = 0
 ·rw [okR_y he]
  repeat' (first | (with_reducible (refine wQ ?_; first | refine uR (h1 ..) ?_ | refine uR (h2 ..) ?_ | refine uR (h3 ..) ?_ | refine uR (h4 ..) ?_ | refine uR (h5 ..) ?_ | refine uR (h6 ..) ?_)) | (with_reducible first | (refine wN fun _ hnl => ?_; revert hnl; (repeat refine wS fun _ _ => ?_); intro hnl) | refine wE ?_ | (refine wK ?_ ?_ <;> intro h) | (refine wB ?_ ?_ <;> intro h <;> simp only [h])) | simp (maxSteps := 4000000) (disch := first | decide | assumption | omega | (simp only [wL]; omega)) only [go_sem, simprocAttr, Tryz.f167, FXs, hw])
  all_goals simp
 ·rw [okR_n he]
  repeat' (first | (with_reducible (refine wQ ?_; first | refine uR (h1 ..) ?_ | refine uR (h2 ..) ?_ | refine uR (h3 ..) ?_ | refine uR (h4 ..) ?_ | refine uR (h5 ..) ?_ | refine uR (h6 ..) ?_)) | (with_reducible first | (refine wN fun _ hnl => ?_; revert hnl; (repeat refine wS fun _ _ => ?_); intro hnl) | refine wE ?_ | (refine wK ?_ ?_ <;> intro h) | (refine wB ?_ ?_ <;> intro h <;> simp only [h])) | simp (maxSteps := 4000000) (disch := first | decide | assumption | omega | (simp only [wL]; omega)) only [go_sem, simprocAttr, Tryz.f167, FXs, hw])
  all_goals simp [ca0]
theorem ppatchR_call {bs : BL} [hb : Few bs] (r : RD) [hs : Sfx bs r] (l : Nat) : MCalls Tryz.prog 162 [.ptr l 0 0] (St.none.set l (rP bs r)) (fun v σ' => v = .agg (patchR r).1.c ∧ σ' = St.none.set l (rP bs (patchR r).2)) := by
 refine MCalls.obj (MCalls.body 24 [.cell 2 27] Tryz.func162 rfl rfl rfl rfl ?_)
 have h1 := pabove_call 511 (bs := bs) r l
 haveI has : Sfx bs (fromR 1 511 r).2 := inferInstance
 have hal := fromR_most (least := 1) (most := 511) (by decide) r
 have har := (fromR_rng 1 511 r).1
 obtain ⟨a, ha⟩ : ∃ a, fromR 1 511 r = a := ⟨_, rfl⟩
 rw [ha] at h1 has hal har
 have hw := wrapU har (by omega)
 have hmk := maskU har (by omega)
 obtain ⟨mk, hmke⟩ : ∃ x, UInt32.ofNat a.1.toNat = x := ⟨_, rfl⟩
 rw [hmke] at hw hmk
 have hl := pmlab_call mk
 obtain ⟨b8, hb8⟩ : ∃ b, bit mk.toNat 8 = b := ⟨_, rfl⟩
 rw [hb8] at hl
 have h2 := plabels_call (bs := bs) a.2 l
 haveI hcs : Sfx bs (numR 65535 a.2).2 := inferInstance
 obtain ⟨c, hc⟩ : ∃ c, (if b8 = true then numR 65535 a.2 else (0, a.2)) = c := ⟨_, rfl⟩
 haveI hcs2 : Sfx bs c.2 := by rw [← hc]; split <;> infer_instance
 have h5 := pfieldsR_call (bs := bs) c.2 mk true l
 obtain ⟨lb, hlb⟩ : ∃ x, UInt32.ofNat c.1.toNat = x := ⟨_, rfl⟩
 have e : patchR r = okR pa0 (⟨mk, lb, (fieldsR mk.toNat true 8 (f80, c.2)).1⟩, (fieldsR mk.toNat true 8 (f80, c.2)).2) := by
  unfold patchR
  simp only [ha, ← hmk, hb8, hc, hlb]
  rw [hmk, hmke]
 obtain ⟨f, hf⟩ : ∃ f, fieldsR mk.toNat true 8 (f80, c.2) = f := ⟨_, rfl⟩
 rw [hf] at h5 e
 have h6 := pRErr_call (bs := bs) f.2 l
 rw [e]
 clear e ha hf hmk hal har hb8 hmke
 cases b8
 all_goals
  simp only [if_true, Bool.false_eq_true, if_false] at hc
  subst hc
  first | (simp only [hlb] at h2) | (have hl0 : lb = 0 := hlb.symm; subst hl0)
  by_cases he : f.2.e = 0
  ·rw [okR_y he]
   repeat' (first | (with_reducible (refine wQ ?_; first | refine uR (h1 ..) ?_ | refine uR (h2 ..) ?_ | refine uR (h5 ..) ?_ | refine uR (h6 ..) ?_)) | (with_reducible first | refine up hl ?_) | (with_reducible first | (refine wN fun _ hnl => ?_; revert hnl; (repeat refine wS fun _ _ => ?_); intro hnl) | refine wE ?_ | (refine wK ?_ ?_ <;> intro h) | (refine wB ?_ ?_ <;> intro h <;> simp only [h])) | simp (maxSteps := 4000000) (disch := first | decide | assumption | omega | (simp only [wL]; omega)) only [go_sem, simprocAttr, Tryz.f162, FXs, hw])
   all_goals simp
  ·rw [okR_n he]
   repeat' (first | (with_reducible (refine wQ ?_; first | refine uR (h1 ..) ?_ | refine uR (h2 ..) ?_ | refine uR (h5 ..) ?_ | refine uR (h6 ..) ?_)) | (with_reducible first | refine up hl ?_) | (with_reducible first | (refine wN fun _ hnl => ?_; revert hnl; (repeat refine wS fun _ _ => ?_); intro hnl) | refine wE ?_ | (refine wK ?_ ?_ <;> intro h) | (refine wB ?_ ?_ <;> intro h <;> simp only [h])) | simp (maxSteps := 4000000) (disch := first | decide | assumption | omega | (simp only [wL]; omega)) only [go_sem, simprocAttr, Tryz.f162, FXs, hw])
   all_goals simp [pa0]
end Go.Proofs.YtfbodefnblpflaaGreatDoor
