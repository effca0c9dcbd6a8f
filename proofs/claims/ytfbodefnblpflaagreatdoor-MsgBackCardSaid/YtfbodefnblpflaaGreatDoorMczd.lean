/- Parts of the proof, joined. Each part says what it proves, and under which conditions it does: those that its theorems name. -/
import Derived.Test.YtfbodefnblpflaaGreatDoorMct
set_option linter.unusedVariables false
set_option linter.unusedSimpArgs false
set_option maxHeartbeats 4000000
section
namespace Go.Proofs.YtfbodefnblpflaaGreatDoor
set_option maxRecDepth 100000
set_option maxHeartbeats 4000000
theorem editErr_kd {e : ED} (h : editErr e = 0) : 1 ≤ e.kd ∧ e.kd ≤ 7 := by
 unfold editErr at h
 by_cases hk : e.kd < 1 ∨ 7 < e.kd
 ·rw [if_pos hk] at h; cases h
 ·omega
theorem pputedit_call (bs : BL) (hb : bs.length ≤ 300000) (t : Bool) (e : ED) (hok : editErr e = 0) : MCalls Tryz.prog 104 [.lst 1 (bs.map bc) t, .agg e.c] St.none (fun r _ => r = .lst 1 ((bs ++ editB e).map bc) false) := by
 refine MCalls.drops (MCalls.body 36 [.tmp 4] Tryz.func104 rfl rfl rfl rfl ?_)
 have hc := pecheck_call e
 rw [hok] at hc
 obtain ⟨k1, k7⟩ := editErr_kd hok
 have hg := phas_call e.kd 1 (by omega) (by omega) (.inl rfl)
 have hi := phas_call e.kd 2 (by omega) (by omega) (.inr (.inl rfl))
 have hp := phas_call e.kd 4 (by omega) (by omega) (.inr (.inr rfl))
 rw [show edW 1 e.kd = edG e.kd from rfl] at hg
 rw [show edW 2 e.kd = edI e.kd from rfl] at hi
 rw [show edW 4 e.kd = edP e.kd from rfl] at hp
 have l1 := numB_len e.kd
 have l2 := numB_len e.gr
 have l3 := numB_len e.id
 have hpe : edP e.kd = true → patchErr e.p = 0 := fun h => by
  have := ((editErr_iff e).1 hok).2.2.2
  rwa [if_pos h] at this
 have n1 := pnum_call bs t e.kd (by omega)
 obtain ⟨b1, hb1⟩ : ∃ b, bs ++ numB e.kd = b := ⟨_, rfl⟩
 have hl1 : b1.length ≤ 300010 := by rw [← hb1, List.length_append]; omega
 obtain ⟨bg, hbg⟩ : ∃ b, edG e.kd = b := ⟨_, rfl⟩
 obtain ⟨bi, hbi⟩ : ∃ b, edI e.kd = b := ⟨_, rfl⟩
 obtain ⟨bp, hbp⟩ : ∃ b, edP e.kd = b := ⟨_, rfl⟩
 have n2 := pnum_call b1 false e.gr (by omega)
 obtain ⟨b2, hb2⟩ : ∃ b, b1 ++ (if bg = true then numB e.gr else []) = b := ⟨_, rfl⟩
 have hl2 : b2.length ≤ 300020 := by rw [← hb2, List.length_append]; split <;> (try simp only [List.length_nil]) <;> omega
 have n3 := pnum_call b2 false e.id (by omega)
 obtain ⟨b3, hb3⟩ : ∃ b, b2 ++ (if bi = true then numB e.id else []) = b := ⟨_, rfl⟩
 have hl3 : b3.length ≤ 300030 := by rw [← hb3, List.length_append]; split <;> (try simp only [List.length_nil]) <;> omega
 have n4 := fun h => pputpatch_call b3 (by omega) false e.p (hpe h)
 have e1 : bs ++ editB e = b3 ++ (if bp = true then patchB e.p else []) := by
  unfold editB
  rw [if_pos hok, hbg, hbi, hbp, ← hb3, ← hb2, ← hb1]
  simp only [List.append_assoc]
 rw [e1]
 rw [hbg] at hg
 rw [hbi] at hi
 rw [hbp] at hp n4
 rw [hb1] at n1
 clear hpe hbg hbi hbp hb1 e1 hok
 cases bg <;> cases bi <;> cases bp
 all_goals
  simp only [if_true, Bool.false_eq_true, if_false, List.append_nil] at hb2 hb3 ⊢
  try have n4 := n4 rfl
  try rw [hb2] at n2
  try rw [hb3] at n3
  try subst hb2
  try subst hb3
  repeat' (first | (with_reducible first | refine up hc ?_ | refine up hg ?_ | refine up hi ?_ | refine up hp ?_ | refine up n1 ?_ | refine up n2 ?_ | refine up n3 ?_ | refine up n4 ?_) | (with_reducible first | (refine wN fun _ hnl => ?_; revert hnl; (repeat refine wS fun _ _ => ?_); intro hnl) | refine wE ?_ | (refine wK ?_ ?_ <;> intro h) | (refine wB ?_ ?_ <;> intro h <;> simp only [h])) | simp (maxSteps := 4000000) (disch := first | decide | assumption | omega | (simp only [wL]; omega)) only [go_sem, simprocAttr, Tryz.f104, FXs])
  all_goals first | exact ⟨_, St.le_refl _, rfl⟩ | exact ⟨_, St.le_refl _⟩
end Go.Proofs.YtfbodefnblpflaaGreatDoor
end

section
namespace Go.Proofs.YtfbodefnblpflaaGreatDoor
set_option maxRecDepth 100000
set_option maxHeartbeats 4000000
theorem fromR_0 {most : Int} {r : RD} {n : Int × RD} (hn : numR most r = n) : fromR 1 most r = (n.1, if n.1 = 0 then failR 3 n.2 else n.2) := by
 have hr := (numR_rng most r).1
 unfold fromR
 rw [hn] at hr ⊢
 by_cases h0 : n.1 = 0
 ·rw [if_pos h0, if_pos (by omega)]
 ·rw [if_neg h0, if_neg (by omega)]
theorem fromR_n {most n : Int} {r n2 : RD} (hn : numR most r = (n, n2)) (h : n ≠ 0) : fromR 1 most r = (n, n2) := by
 rw [fromR_0 hn, if_neg h]
theorem okR_may {d : ED} {F : PA → ED} {s : RD} {x : PA × RD} (hx : patchR s = x) : okR d (F (mayR s).1, (mayR s).2) = okR d (F x.1, if patchErr x.1 = 0 then x.2 else failR 3 x.2) := by
 unfold mayR okR
 simp only [hx]
 by_cases h : (if patchErr x.1 = 0 then x.2 else failR 3 x.2).e = 0
 ·simp [h]
 ·simp [h]
theorem editR_1 {r : RD} {n2 : RD} {x : PA × RD} (ha : fromR 1 7 r = (1, n2)) (hx : patchR n2 = x) : editR r = okR ed0 (⟨1, 0, 0, x.1⟩, if patchErr x.1 = 0 then x.2 else failR 3 x.2) := by
 have := okR_may (d := ed0) (F := fun p => ⟨1, 0, 0, p⟩) hx
 unfold editR
 simp only [ha, show edG 1 = false from rfl, show edI 1 = false from rfl, show edP 1 = true from rfl, Bool.false_eq_true, if_false, if_true]
 exact this
theorem editR_2 {r : RD} {n2 : RD} {i : Int × RD} {x : PA × RD} (ha : fromR 1 7 r = (2, n2)) (hi : fromR 1 1073741823 n2 = i) (hx : patchR i.2 = x) : editR r = okR ed0 (⟨2, i.1, 0, x.1⟩, if patchErr x.1 = 0 then x.2 else failR 3 x.2) := by
 have := okR_may (d := ed0) (F := fun p => ⟨2, i.1, 0, p⟩) hx
 unfold editR
 simp only [ha, show edG 2 = false from rfl, show edI 2 = true from rfl, show edP 2 = true from rfl, Bool.false_eq_true, if_false, if_true, idMax, Int.reduceSub, hi]
 exact this
theorem editR_3 {r : RD} {n2 : RD} {i : Int × RD} (ha : fromR 1 7 r = (3, n2)) (hi : fromR 1 1073741823 n2 = i) : editR r = okR ed0 (⟨3, i.1, 0, pa0⟩, i.2) := by
 unfold editR
 simp only [ha, show edG 3 = false from rfl, show edI 3 = true from rfl, show edP 3 = false from rfl, Bool.false_eq_true, if_false, if_true, idMax, Int.reduceSub, hi]
theorem editR_4 {r : RD} {n : Int} {n2 : RD} {g : Int × RD} (h : n = 4 ∨ n = 5) (ha : fromR 1 7 r = (n, n2)) (hg : numR 15 n2 = g) : editR r = okR ed0 (⟨n, 0, g.1, pa0⟩, g.2) := by
 unfold editR
 rcases h with rfl | rfl
 ·simp only [ha, show edG 4 = true from rfl, show edI 4 = false from rfl, show edP 4 = false from rfl, Bool.false_eq_true, if_false, if_true, hg]
 ·simp only [ha, show edG 5 = true from rfl, show edI 5 = false from rfl, show edP 5 = false from rfl, Bool.false_eq_true, if_false, if_true, hg]
theorem editR_6 {r : RD} {n : Int} {n2 : RD} {g i : Int × RD} (h : n = 6 ∨ n = 7) (ha : fromR 1 7 r = (n, n2)) (hg : numR 15 n2 = g) (hi : fromR 1 1073741823 g.2 = i) : editR r = okR ed0 (⟨n, i.1, g.1, pa0⟩, i.2) := by
 unfold editR
 rcases h with rfl | rfl
 ·simp only [ha, show edG 6 = true from rfl, show edI 6 = true from rfl, show edP 6 = false from rfl, Bool.false_eq_true, if_false, if_true, idMax, Int.reduceSub, hg, hi]
 ·simp only [ha, show edG 7 = true from rfl, show edI 7 = true from rfl, show edP 7 = false from rfl, Bool.false_eq_true, if_false, if_true, idMax, Int.reduceSub, hg, hi]
theorem phasE (n : Int) (h1 : 1 ≤ n) (h7 : n ≤ 7) : MCalls Tryz.prog 149 [.int .i64 n, .int .i64 1] St.none (fun r _ => r = .bool (edG n)) ∧ MCalls Tryz.prog 149 [.int .i64 n, .int .i64 2] St.none (fun r _ => r = .bool (edI n)) ∧ MCalls Tryz.prog 149 [.int .i64 n, .int .i64 4] St.none (fun r _ => r = .bool (edP n)) :=
 ⟨phas_call n 1 (by omega) h7 (.inl rfl), phas_call n 2 (by omega) h7 (.inr (.inl rfl)), phas_call n 4 (by omega) h7 (.inr (.inr rfl))⟩
theorem peditR0 {bs : BL} [hb : Few bs] (r : RD) [hs : Sfx bs r] (n2 : RD) (hn : numR 7 r = (0, n2)) (l : Nat) : MCalls Tryz.prog 108 [.ptr l 0 0] (St.none.set l (rP bs r)) (fun v σ' => v = .agg (editR r).1.c ∧ σ' = St.none.set l (rP bs (editR r).2)) := by
 refine MCalls.obj (MCalls.body 46 [.cell 2 29] Tryz.func108 rfl rfl rfl rfl ?_)
 have h1 := pRNum_call 7 (bs := bs) r l
 rw [hn] at h1
 have ha := fromR_0 hn
 have h2 := pRFail_call 3 (bs := bs) n2 l
 haveI hns : Sfx bs n2 := by have : Sfx bs (numR 7 r).2 := inferInstance; rwa [hn] at this
 have hg := phas_call 0 1 (by omega) (by omega) (.inl rfl)
 have hi := phas_call 0 2 (by omega) (by omega) (.inr (.inl rfl))
 have hp := phas_call 0 4 (by omega) (by omega) (.inr (.inr rfl))
 rw [show edW 1 0 = false from rfl] at hg
 rw [show edW 2 0 = false from rfl] at hi
 rw [show edW 4 0 = false from rfl] at hp
 have hf := failR_ne (e := 3) (by decide) n2
 have e : editR r = okR ed0 (⟨0, 0, 0, pa0⟩, failR 3 n2) := by
  unfold editR
  simp only [ha, if_true, show edG 0 = false from rfl, show edI 0 = false from rfl, show edP 0 = false from rfl, Bool.false_eq_true, if_false]
 rw [e]
 obtain ⟨f, hfe⟩ : ∃ f, failR 3 n2 = f := ⟨_, rfl⟩
 haveI hsf : Sfx bs f := by rw [← hfe]; infer_instance
 rw [hfe] at h2 hf ⊢
 have h3 := pRErr_call (bs := bs) f l
 rw [okR_n hf]
 clear ha hn hfe e
 repeat' (first | (with_reducible (refine wQ ?_; first | refine uR (h1 ..) ?_ | refine uR (h2 ..) ?_ | refine uR (h3 ..) ?_)) | (with_reducible first | refine up hg ?_ | refine up hi ?_ | refine up hp ?_) | (with_reducible first | (refine wN fun _ hnl => ?_; revert hnl; (repeat refine wS fun _ _ => ?_); intro hnl) | refine wE ?_ | (refine wK ?_ ?_ <;> intro h) | (refine wB ?_ ?_ <;> intro h <;> simp only [h])) | simp (maxSteps := 4000000) (disch := first | decide | assumption | omega | (simp only [wL]; omega)) only [go_sem, simprocAttr, Tryz.f108, FXs])
 all_goals simp [ed0, pa0]
theorem peditR1 {bs : BL} [hb : Few bs] (r : RD) [hs : Sfx bs r] (n2 : RD) (hn : numR 7 r = (1, n2)) (l : Nat) : MCalls Tryz.prog 108 [.ptr l 0 0] (St.none.set l (rP bs r)) (fun v σ' => v = .agg (editR r).1.c ∧ σ' = St.none.set l (rP bs (editR r).2)) := by
 refine MCalls.obj (MCalls.body 46 [.cell 2 29] Tryz.func108 rfl rfl rfl rfl ?_)
 have h1 := pRNum_call 7 (bs := bs) r l
 rw [hn] at h1
 have ha := fromR_n hn (by decide)
 haveI hns : Sfx bs n2 := by have : Sfx bs (numR 7 r).2 := inferInstance; rwa [hn] at this
 obtain ⟨hg, hi, hp⟩ := phasE 1 (by decide) (by decide)
 rw [show edG 1 = false from rfl] at hg
 rw [show edI 1 = false from rfl] at hi
 rw [show edP 1 = true from rfl] at hp
 have h2 := ppatchR_call (bs := bs) n2 l
 haveI hxs : Sfx bs (patchR n2).2 := inferInstance
 obtain ⟨x, hx⟩ : ∃ x, patchR n2 = x := ⟨_, rfl⟩
 have e := editR_1 ha hx
 rw [hx] at h2 hxs
 have hcp := pcpatch_call x.1
 have h3 := pRFail_call 3 (bs := bs) x.2 l
 rw [e]
 clear e ha hn hx
 by_cases hok : patchErr x.1 = 0
 ·rw [if_pos hok]
  rw [hok] at hcp
  have h4 := pRErr_call (bs := bs) x.2 l
  by_cases he : x.2.e = 0
  ·rw [okR_y he]
   repeat' (first | (with_reducible (refine wQ ?_; first | refine uR (h1 ..) ?_ | refine uR (h2 ..) ?_ | refine uR (h4 ..) ?_)) | (with_reducible first | refine up hg ?_ | refine up hi ?_ | refine up hp ?_ | refine up hcp ?_) | (with_reducible first | (refine wN fun _ hnl => ?_; revert hnl; (repeat refine wS fun _ _ => ?_); intro hnl) | refine wE ?_ | (refine wK ?_ ?_ <;> intro h) | (refine wB ?_ ?_ <;> intro h <;> simp only [h])) | simp (maxSteps := 4000000) (disch := first | decide | assumption | omega | (simp only [wL]; omega)) only [go_sem, simprocAttr, Tryz.f108, FXs])
   all_goals simp
  ·rw [okR_n he]
   repeat' (first | (with_reducible (refine wQ ?_; first | refine uR (h1 ..) ?_ | refine uR (h2 ..) ?_ | refine uR (h4 ..) ?_)) | (with_reducible first | refine up hg ?_ | refine up hi ?_ | refine up hp ?_ | refine up hcp ?_) | (with_reducible first | (refine wN fun _ hnl => ?_; revert hnl; (repeat refine wS fun _ _ => ?_); intro hnl) | refine wE ?_ | (refine wK ?_ ?_ <;> intro h) | (refine wB ?_ ?_ <;> intro h <;> simp only [h])) | simp (maxSteps := 4000000) (disch := first | decide | assumption | omega | (simp only [wL]; omega)) only [go_sem, simprocAttr, Tryz.f108, FXs])
   all_goals simp [ed0, pa0]
 ·rw [if_neg hok]
  have hf := failR_ne (e := 3) (by decide) x.2
  obtain ⟨f, hfe⟩ : ∃ f, failR 3 x.2 = f := ⟨_, rfl⟩
  haveI hsf : Sfx bs f := by rw [← hfe]; infer_instance
  rw [hfe] at h3 hf ⊢
  have h4 := pRErr_call (bs := bs) f l
  rw [okR_n hf]
  clear hfe
  repeat' (first | (with_reducible (refine wQ ?_; first | refine uR (h1 ..) ?_ | refine uR (h2 ..) ?_ | refine uR (h3 ..) ?_ | refine uR (h4 ..) ?_)) | (with_reducible first | refine up hg ?_ | refine up hi ?_ | refine up hp ?_ | refine up hcp ?_) | (with_reducible first | (refine wN fun _ hnl => ?_; revert hnl; (repeat refine wS fun _ _ => ?_); intro hnl) | refine wE ?_ | (refine wK ?_ ?_ <;> intro h) | (refine wB ?_ ?_ <;> intro h <;> simp only [h])) | simp (maxSteps := 4000000) (disch := first | decide | assumption | omega | (simp only [wL]; omega)) only [go_sem, simprocAttr, Tryz.f108, FXs])
  all_goals simp [ed0, pa0]
theorem pfrom_two {bs : BL} [hb : Few bs] (most : Int) (r : RD) [hs : Sfx bs r] (l : Nat) : ∃ k i : Int × RD, numR most r = k ∧ fromR 1 most r = i ∧ Sfx bs i.2 ∧ k.1 = i.1 ∧ (k.1 = 0 → failR 3 k.2 = i.2 ∧ i.2.e ≠ 0) ∧ (k.1 ≠ 0 → k.2 = i.2) := by
 refine ⟨_, _, rfl, rfl, inferInstance, ?_, fun h => ?_, fun h => ?_⟩
 ·rw [fromR_0 rfl]
 ·rw [fromR_0 rfl, if_pos h]
  exact ⟨rfl, failR_ne (by decide) _⟩
 ·rw [fromR_0 rfl, if_neg h]
theorem peditR2 {bs : BL} [hb : Few bs] (r : RD) [hs : Sfx bs r] (n2 : RD) (hn : numR 7 r = (2, n2)) (l : Nat) : MCalls Tryz.prog 108 [.ptr l 0 0] (St.none.set l (rP bs r)) (fun v σ' => v = .agg (editR r).1.c ∧ σ' = St.none.set l (rP bs (editR r).2)) := by
 refine MCalls.obj (MCalls.body 46 [.cell 2 29] Tryz.func108 rfl rfl rfl rfl ?_)
 have h1 := pRNum_call 7 (bs := bs) r l
 rw [hn] at h1
 have ha := fromR_n hn (by decide)
 haveI hns : Sfx bs n2 := by have : Sfx bs (numR 7 r).2 := inferInstance; rwa [hn] at this
 obtain ⟨hg, hi, hp⟩ := phasE 2 (by decide) (by decide)
 rw [show edG 2 = false from rfl] at hg
 rw [show edI 2 = true from rfl] at hi
 rw [show edP 2 = true from rfl] at hp
 have h5 := pRNum_call 1073741823 (bs := bs) n2 l
 obtain ⟨k, i, hk, hfi, his, hki, hk0, hk1⟩ := pfrom_two (bs := bs) 1073741823 n2 l
 rw [hk] at h5
 have h6 := pRFail_call 3 (bs := bs) k.2 l
 have h2 := ppatchR_call (bs := bs) i.2 l
 haveI hxs : Sfx bs (patchR i.2).2 := inferInstance
 obtain ⟨x, hx⟩ : ∃ x, patchR i.2 = x := ⟨_, rfl⟩
 have e := editR_2 ha hfi hx
 rw [hx] at h2 hxs
 have hcp := pcpatch_call x.1
 have h3 := pRFail_call 3 (bs := bs) x.2 l
 rw [e]
 clear e ha hn hx hfi hk
 obtain ⟨k1, k2⟩ := k
 obtain ⟨i1, i2⟩ := i
 simp only at *
 subst hki
 by_cases h0 : k1 = 0
 case' pos =>
  rw [(hk0 h0).1] at h6
  subst h0
 case' neg =>
  have := (hk1 h0).symm
  subst this
 all_goals
  clear hk0 hk1
  by_cases hok : patchErr x.1 = 0
  ·rw [if_pos hok]
   rw [hok] at hcp
   have h4 := pRErr_call (bs := bs) x.2 l
   by_cases he : x.2.e = 0
   ·rw [okR_y he]
    repeat' (first | (with_reducible (refine wQ ?_; first | refine uR (h1 ..) ?_ | refine uR (h5 ..) ?_ | refine uR (h6 ..) ?_ | refine uR (h2 ..) ?_ | refine uR (h4 ..) ?_)) | (with_reducible first | refine up hg ?_ | refine up hi ?_ | refine up hp ?_ | refine up hcp ?_) | (with_reducible first | (refine wN fun _ hnl => ?_; revert hnl; (repeat refine wS fun _ _ => ?_); intro hnl) | refine wE ?_ | (refine wK ?_ ?_ <;> intro h) | (refine wB ?_ ?_ <;> intro h <;> simp only [h])) | simp (maxSteps := 4000000) (disch := first | decide | assumption | omega | (simp only [wL]; omega)) only [go_sem, simprocAttr, Tryz.f108, FXs])
    all_goals simp
   ·rw [okR_n he]
    repeat' (first | (with_reducible (refine wQ ?_; first | refine uR (h1 ..) ?_ | refine uR (h5 ..) ?_ | refine uR (h6 ..) ?_ | refine uR (h2 ..) ?_ | refine uR (h4 ..) ?_)) | (with_reducible first | refine up hg ?_ | refine up hi ?_ | refine up hp ?_ | refine up hcp ?_) | (with_reducible first | (refine wN fun _ hnl => ?_; revert hnl; (repeat refine wS fun _ _ => ?_); intro hnl) | refine wE ?_ | (refine wK ?_ ?_ <;> intro h) | (refine wB ?_ ?_ <;> intro h <;> simp only [h])) | simp (maxSteps := 4000000) (disch := first | decide | assumption | omega | (simp only [wL]; omega)) only [go_sem, simprocAttr, Tryz.f108, FXs])
    all_goals simp [ed0, pa0]
  ·rw [if_neg hok]
   have hf := failR_ne (e := 3) (by decide) x.2
   obtain ⟨f, hfe⟩ : ∃ f, failR 3 x.2 = f := ⟨_, rfl⟩
   haveI hsf : Sfx bs f := by rw [← hfe]; infer_instance
   rw [hfe] at h3 hf ⊢
   have h4 := pRErr_call (bs := bs) f l
   rw [okR_n hf]
   clear hfe
   repeat' (first | (with_reducible (refine wQ ?_; first | refine uR (h1 ..) ?_ | refine uR (h5 ..) ?_ | refine uR (h6 ..) ?_ | refine uR (h2 ..) ?_ | refine uR (h3 ..) ?_ | refine uR (h4 ..) ?_)) | (with_reducible first | refine up hg ?_ | refine up hi ?_ | refine up hp ?_ | refine up hcp ?_) | (with_reducible first | (refine wN fun _ hnl => ?_; revert hnl; (repeat refine wS fun _ _ => ?_); intro hnl) | refine wE ?_ | (refine wK ?_ ?_ <;> intro h) | (refine wB ?_ ?_ <;> intro h <;> simp only [h])) | simp (maxSteps := 4000000) (disch := first | decide | assumption | omega | (simp only [wL]; omega)) only [go_sem, simprocAttr, Tryz.f108, FXs])
   all_goals simp [ed0, pa0]
theorem peditR3 {bs : BL} [hb : Few bs] (r : RD) [hs : Sfx bs r] (n2 : RD) (hn : numR 7 r = (3, n2)) (l : Nat) : MCalls Tryz.prog 108 [.ptr l 0 0] (St.none.set l (rP bs r)) (fun v σ' => v = .agg (editR r).1.c ∧ σ' = St.none.set l (rP bs (editR r).2)) := by
 refine MCalls.obj (MCalls.body 46 [.cell 2 29] Tryz.func108 rfl rfl rfl rfl ?_)
 have h1 := pRNum_call 7 (bs := bs) r l
 rw [hn] at h1
 have ha := fromR_n hn (by decide)
 haveI hns : Sfx bs n2 := by have : Sfx bs (numR 7 r).2 := inferInstance; rwa [hn] at this
 obtain ⟨hg, hi, hp⟩ := phasE 3 (by decide) (by decide)
 rw [show edG 3 = false from rfl] at hg
 rw [show edI 3 = true from rfl] at hi
 rw [show edP 3 = false from rfl] at hp
 have h5 := pRNum_call 1073741823 (bs := bs) n2 l
 obtain ⟨k, i, hk, hfi, his, hki, hk0, hk1⟩ := pfrom_two (bs := bs) 1073741823 n2 l
 rw [hk] at h5
 have h6 := pRFail_call 3 (bs := bs) k.2 l
 have h4 := pRErr_call (bs := bs) i.2 l
 have e := editR_3 ha hfi
 rw [e]
 clear e ha hn hfi hk
 obtain ⟨k1, k2⟩ := k
 obtain ⟨i1, i2⟩ := i
 simp only at *
 subst hki
 by_cases h0 : k1 = 0
 case' pos =>
  rw [(hk0 h0).1] at h6
  subst h0
 case' neg =>
  have := (hk1 h0).symm
  subst this
 all_goals
  clear hk0 hk1
  by_cases he : i2.e = 0
  ·rw [okR_y he]
   repeat' (first | (with_reducible (refine wQ ?_; first | refine uR (h1 ..) ?_ | refine uR (h5 ..) ?_ | refine uR (h6 ..) ?_ | refine uR (h4 ..) ?_)) | (with_reducible first | refine up hg ?_ | refine up hi ?_ | refine up hp ?_) | (with_reducible first | (refine wN fun _ hnl => ?_; revert hnl; (repeat refine wS fun _ _ => ?_); intro hnl) | refine wE ?_ | (refine wK ?_ ?_ <;> intro h) | (refine wB ?_ ?_ <;> intro h <;> simp only [h])) | simp (maxSteps := 4000000) (disch := first | decide | assumption | omega | (simp only [wL]; omega)) only [go_sem, simprocAttr, Tryz.f108, FXs])
   all_goals simp [pa0]
  ·rw [okR_n he]
   repeat' (first | (with_reducible (refine wQ ?_; first | refine uR (h1 ..) ?_ | refine uR (h5 ..) ?_ | refine uR (h6 ..) ?_ | refine uR (h4 ..) ?_)) | (with_reducible first | refine up hg ?_ | refine up hi ?_ | refine up hp ?_) | (with_reducible first | (refine wN fun _ hnl => ?_; revert hnl; (repeat refine wS fun _ _ => ?_); intro hnl) | refine wE ?_ | (refine wK ?_ ?_ <;> intro h) | (refine wB ?_ ?_ <;> intro h <;> simp only [h])) | simp (maxSteps := 4000000) (disch := first | decide | assumption | omega | (simp only [wL]; omega)) only [go_sem, simprocAttr, Tryz.f108, FXs])
   all_goals simp [ed0, pa0]
theorem peditR4 {bs : BL} [hb : Few bs] (r : RD) [hs : Sfx bs r] (n : Int) (hn4 : n = 4 ∨ n = 5) (n2 : RD) (hn : numR 7 r = (n, n2)) (l : Nat) : MCalls Tryz.prog 108 [.ptr l 0 0] (St.none.set l (rP bs r)) (fun v σ' => v = .agg (editR r).1.c ∧ σ' = St.none.set l (rP bs (editR r).2)) := by
 refine MCalls.obj (MCalls.body 46 [.cell 2 29] Tryz.func108 rfl rfl rfl rfl ?_)
 have h1 := pRNum_call 7 (bs := bs) r l
 rw [hn] at h1
 have ha := fromR_n hn (by omega)
 haveI hns : Sfx bs n2 := by have : Sfx bs (numR 7 r).2 := inferInstance; rwa [hn] at this
 obtain ⟨hg, hi, hp⟩ := phasE n (by omega) (by omega)
 rw [show edG n = true by rcases hn4 with rfl | rfl <;> rfl] at hg
 rw [show edI n = false by rcases hn4 with rfl | rfl <;> rfl] at hi
 rw [show edP n = false by rcases hn4 with rfl | rfl <;> rfl] at hp
 have h5 := pRNum_call 15 (bs := bs) n2 l
 haveI hgs : Sfx bs (numR 15 n2).2 := inferInstance
 obtain ⟨g, hge⟩ : ∃ g, numR 15 n2 = g := ⟨_, rfl⟩
 have e := editR_4 hn4 ha hge
 rw [hge] at h5 hgs
 have h4 := pRErr_call (bs := bs) g.2 l
 rw [e]
 clear e ha hn hge
 by_cases he : g.2.e = 0
 ·rw [okR_y he]
  repeat' (first | (with_reducible (refine wQ ?_; first | refine uR (h1 ..) ?_ | refine uR (h5 ..) ?_ | refine uR (h4 ..) ?_)) | (with_reducible first | refine up hg ?_ | refine up hi ?_ | refine up hp ?_) | (with_reducible first | (refine wN fun _ hnl => ?_; revert hnl; (repeat refine wS fun _ _ => ?_); intro hnl) | refine wE ?_ | (refine wK ?_ ?_ <;> intro h) | (refine wB ?_ ?_ <;> intro h <;> simp only [h])) | simp (maxSteps := 4000000) (disch := first | decide | assumption | omega | (simp only [wL]; omega)) only [go_sem, simprocAttr, Tryz.f108, FXs])
  all_goals first | (exfalso; omega) | simp [pa0]
 ·rw [okR_n he]
  repeat' (first | (with_reducible (refine wQ ?_; first | refine uR (h1 ..) ?_ | refine uR (h5 ..) ?_ | refine uR (h4 ..) ?_)) | (with_reducible first | refine up hg ?_ | refine up hi ?_ | refine up hp ?_) | (with_reducible first | (refine wN fun _ hnl => ?_; revert hnl; (repeat refine wS fun _ _ => ?_); intro hnl) | refine wE ?_ | (refine wK ?_ ?_ <;> intro h) | (refine wB ?_ ?_ <;> intro h <;> simp only [h])) | simp (maxSteps := 4000000) (disch := first | decide | assumption | omega | (simp only [wL]; omega)) only [go_sem, simprocAttr, Tryz.f108, FXs])
  all_goals first | (exfalso; omega) | simp [ed0, pa0]
theorem peditR6 {bs : BL} [hb : Few bs] (r : RD) [hs : Sfx bs r] (n : Int) (hn6 : n = 6 ∨ n = 7) (n2 : RD) (hn : numR 7 r = (n, n2)) (l : Nat) : MCalls Tryz.prog 108 [.ptr l 0 0] (St.none.set l (rP bs r)) (fun v σ' => v = .agg (editR r).1.c ∧ σ' = St.none.set l (rP bs (editR r).2)) := by
 refine MCalls.obj (MCalls.body 46 [.cell 2 29] Tryz.func108 rfl rfl rfl rfl ?_)
 have h1 := pRNum_call 7 (bs := bs) r l
 rw [hn] at h1
 have ha := fromR_n hn (by omega)
 haveI hns : Sfx bs n2 := by have : Sfx bs (numR 7 r).2 := inferInstance; rwa [hn] at this
 obtain ⟨hg, hi, hp⟩ := phasE n (by omega) (by omega)
 rw [show edG n = true by rcases hn6 with rfl | rfl <;> rfl] at hg
 rw [show edI n = true by rcases hn6 with rfl | rfl <;> rfl] at hi
 rw [show edP n = false by rcases hn6 with rfl | rfl <;> rfl] at hp
 have h7 := pRNum_call 15 (bs := bs) n2 l
 haveI hgs : Sfx bs (numR 15 n2).2 := inferInstance
 obtain ⟨g, hge⟩ : ∃ g, numR 15 n2 = g := ⟨_, rfl⟩
 have e := fun i => editR_6 (i := i) hn6 ha hge
 rw [hge] at h7 hgs
 have h5 := pRNum_call 1073741823 (bs := bs) g.2 l
 obtain ⟨k, i, hk, hfi, his, hki, hk0, hk1⟩ := pfrom_two (bs := bs) 1073741823 g.2 l
 rw [hk] at h5
 have h6 := pRFail_call 3 (bs := bs) k.2 l
 have h4 := pRErr_call (bs := bs) i.2 l
 rw [e i hfi]
 clear e ha hn hfi hk hge
 obtain ⟨k1, k2⟩ := k
 obtain ⟨i1, i2⟩ := i
 simp only at *
 subst hki
 by_cases h0 : k1 = 0
 case' pos =>
  rw [(hk0 h0).1] at h6
  subst h0
 case' neg =>
  have := (hk1 h0).symm
  subst this
 all_goals
  clear hk0 hk1
  by_cases he : i2.e = 0
  ·rw [okR_y he]
   repeat' (first | (with_reducible (refine wQ ?_; first | refine uR (h1 ..) ?_ | refine uR (h7 ..) ?_ | refine uR (h5 ..) ?_ | refine uR (h6 ..) ?_ | refine uR (h4 ..) ?_)) | (with_reducible first | refine up hg ?_ | refine up hi ?_ | refine up hp ?_) | (with_reducible first | (refine wN fun _ hnl => ?_; revert hnl; (repeat refine wS fun _ _ => ?_); intro hnl) | refine wE ?_ | (refine wK ?_ ?_ <;> intro h) | (refine wB ?_ ?_ <;> intro h <;> simp only [h])) | simp (maxSteps := 4000000) (disch := first | decide | assumption | omega | (simp only [wL]; omega)) only [go_sem, simprocAttr, Tryz.f108, FXs])
   all_goals first | (exfalso; omega) | simp [pa0]
  ·rw [okR_n he]
   repeat' (first | (with_reducible (refine wQ ?_; first | refine uR (h1 ..) ?_ | refine uR (h7 ..) ?_ | refine uR (h5 ..) ?_ | refine uR (h6 ..) ?_ | refine uR (h4 ..) ?_)) | (with_reducible first | refine up hg ?_ | refine up hi ?_ | refine up hp ?_) | (with_reducible first | (refine wN fun _ hnl => ?_; revert hnl; (repeat refine wS fun _ _ => ?_); intro hnl) | refine wE ?_ | (refine wK ?_ ?_ <;> intro h) | (refine wB ?_ ?_ <;> intro h <;> simp only [h])) | simp (maxSteps := 4000000) (disch := first | decide | assumption | omega | (simp only [wL]; omega)) only [go_sem, simprocAttr, Tryz.f108, FXs])
   all_goals first | (exfalso; omega) | simp [ed0, pa0]
theorem peditR_call {bs : BL} [hb : Few bs] (r : RD) [hs : Sfx bs r] (l : Nat) : MCalls Tryz.prog 108 [.ptr l 0 0] (St.none.set l (rP bs r)) (fun v σ' => v = .agg (editR r).1.c ∧ σ' = St.none.set l (rP bs (editR r).2)) := by
 have hr1 := (numR_rng 7 r).1
 have hr2 := numR_most (most := 7) (by decide) r
 obtain ⟨⟨n, n2⟩, hn⟩ : ∃ n, numR 7 r = n := ⟨_, rfl⟩
 rw [hn] at hr1 hr2
 simp only at hr1 hr2
 have hk : n = 0 ∨ n = 1 ∨ n = 2 ∨ n = 3 ∨ (n = 4 ∨ n = 5) ∨ (n = 6 ∨ n = 7) := by omega
 rcases hk with rfl | rfl | rfl | rfl | h | h
 ·exact peditR0 r n2 hn l
 ·exact peditR1 r n2 hn l
 ·exact peditR2 r n2 hn l
 ·exact peditR3 r n2 hn l
 ·exact peditR4 r n h n2 hn l
 ·exact peditR6 r n h n2 hn l
end Go.Proofs.YtfbodefnblpflaaGreatDoor
end
