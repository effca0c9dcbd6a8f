/- Parts of the proof, joined. Each part says what it proves, and under which conditions it does: those that its theorems name. -/
import Derived.Test.YtfbodefnblpflaaGreatDoorMcw
import Derived.Test.YtfbodefnblpflaaGreatDoorMczc
import Derived.Test.YtfbodefnblpflaaGreatDoorMczd
set_option linter.unusedVariables false
set_option linter.unusedSimpArgs false
set_option maxHeartbeats 4000000
section
namespace Go.Proofs.YtfbodefnblpflaaGreatDoor
set_option maxRecDepth 100000
set_option maxHeartbeats 4000000
theorem pputcm_call (bs : BL) (hb : bs.length ≤ 200000) (tt : Bool) (c : CM) (hg : Rg c) (hl : c.fl.length ≤ 1000000) (hok : cmdOk c = true) : MCalls Tryz.prog 59 [.lst 1 (bs.map bc) tt, .agg c.c] St.none (fun r _ => r = .lst 1 ((bs ++ cmdB c).map bc) false) := by
 refine MCalls.drops (MCalls.body 60 [.tmp 4] Tryz.func59 rfl rfl rfl rfl ?_)
 have hc := pcmcheck_call c hg hl
 rw [hok] at hc
 have l1 := numB_len c.kd
 have l2 := numB_len c.dev
 have l3 := numB_len c.req
 have l4 := numB_len c.id
 have l5 := numB_len c.base
 have n1 := pnum_call bs tt c.kd (by omega)
 obtain ⟨hd, hhd⟩ : ∃ hd, bs ++ numB c.kd = hd := ⟨_, rfl⟩
 have hdl : hd.length ≤ 200010 := by rw [← hhd]; simp only [List.length_append]; omega
 have e1 : bs ++ cmdB c = hd ++ (if c.kd = 1 then editB c.e else if c.kd = 5 then numB c.keep else numB c.dev ++ numB c.req ++ (if c.kd = 2 then numB c.id ++ numB c.base ++ patchB c.p else []) ++ (if c.kd = 3 then predB c.fl ++ numB c.mask.toNat else [])) := by
  unfold cmdB
  rw [if_pos hok, ← hhd]
  simp only [List.append_assoc]
 rw [e1]
 rw [hhd] at n1
 clear e1 hhd
 by_cases k1 : c.kd = 1
 ·rw [if_pos k1]
  have m1 := pputedit_call hd (by omega) false c.e (cmdOk_e hok k1)
  repeat' (first | (with_reducible first | refine up hc ?_ | refine up n1 ?_ | refine up m1 ?_) | (with_reducible first | (refine wN fun _ hnl => ?_; revert hnl; (repeat refine wS fun _ _ => ?_); intro hnl) | refine wE ?_ | (refine wK ?_ ?_ <;> intro h) | (refine wB ?_ ?_ <;> intro h <;> simp only [h])) | simp (maxSteps := 4000000) (disch := first | decide | assumption | omega | (simp only [wL]; omega)) only [go_sem, simprocAttr, Tryz.f59, FYs])
  all_goals first | refine ⟨_, St.le_refl _, ?_⟩ | refine ⟨_, St.le_refl _⟩ | (exfalso; omega)
  all_goals rfl
 ·rw [if_neg k1]
  by_cases k5 : c.kd = 5
  ·rw [if_pos k5]
   have m1 := pnum_call hd false c.keep (by omega)
   repeat' (first | (with_reducible first | refine up hc ?_ | refine up n1 ?_ | refine up m1 ?_) | (with_reducible first | (refine wN fun _ hnl => ?_; revert hnl; (repeat refine wS fun _ _ => ?_); intro hnl) | refine wE ?_ | (refine wK ?_ ?_ <;> intro h) | (refine wB ?_ ?_ <;> intro h <;> simp only [h])) | simp (maxSteps := 4000000) (disch := first | decide | assumption | omega | (simp only [wL]; omega)) only [go_sem, simprocAttr, Tryz.f59, FYs])
   all_goals first | refine ⟨_, St.le_refl _, ?_⟩ | refine ⟨_, St.le_refl _⟩ | (exfalso; omega)
   all_goals rfl
  ·rw [if_neg k5]
   have hr := cmdOk_rng hok k1 k5
   have m1 := pnum_call hd false c.dev (by omega)
   have m2 := pnum_call (hd ++ numB c.dev) false c.req (by simp only [List.length_append]; omega)
   obtain ⟨h2, hh2⟩ : ∃ h, hd ++ numB c.dev ++ numB c.req = h := ⟨_, rfl⟩
   have h2l : h2.length ≤ 200030 := by rw [← hh2]; simp only [List.length_append]; omega
   have e2 : hd ++ (numB c.dev ++ numB c.req ++ (if c.kd = 2 then numB c.id ++ numB c.base ++ patchB c.p else []) ++ (if c.kd = 3 then predB c.fl ++ numB c.mask.toNat else [])) = h2 ++ (if c.kd = 2 then numB c.id ++ numB c.base ++ patchB c.p else []) ++ (if c.kd = 3 then predB c.fl ++ numB c.mask.toNat else []) := by
    rw [← hh2]; simp only [List.append_assoc]
   rw [e2]
   rw [hh2] at m2
   have hmt := c.mask.toNat_lt
   obtain ⟨C, hN, hN2, hF, hP⟩ : ∃ C : Know, (∀ (bs : BL) t n, C 21 [.lst 1 (bs.map bc) t, .int .i64 n] = some ⟨[], fun v => v = .lst 1 ((bs ++ numB n).map bc) false, none⟩) ∧ C 21 [.lst 1 ((hd ++ numB c.dev).map bc) false, .int .i64 c.req] = some ⟨[], fun v => v = .lst 1 (h2.map bc) false, none⟩
     ∧ C 106 [.lst 1 (h2.map bc) false, .lst 5 (c.fl.map ND.c) false] = some ⟨[], fun w => w = .lst 1 ((h2 ++ predB c.fl).map bc) false, none⟩ ∧ C 105 [.lst 1 ((h2 ++ numB c.id ++ numB c.base).map bc) false, .agg c.p.c] = some ⟨[], fun w => w = .lst 1 ((h2 ++ numB c.id ++ numB c.base ++ patchB c.p).map bc) false, none⟩ :=
    ⟨pnumK (kn [(106, [.lst 1 (h2.map bc) false, .lst 5 (c.fl.map ND.c) false], ⟨[], fun w => w = .lst 1 ((h2 ++ predB c.fl).map bc) false, none⟩), (105, [.lst 1 ((h2 ++ numB c.id ++ numB c.base).map bc) false, .agg c.p.c], ⟨[], fun w => w = .lst 1 ((h2 ++ numB c.id ++ numB c.base ++ patchB c.p).map bc) false, none⟩)]), fun _ _ _ => pnumK_hit, by rw [← hh2]; exact pnumK_hit, pnumK_skip kn_hit rfl, pnumK_skip (kn_skip (fun h => absurd h.1 (by decide)) kn_hit) rfl⟩
   clear e2 hh2
   by_cases k2 : c.kd = 2
   ·rw [if_pos k2, if_neg (by omega)]
    have m3 := pnum_call h2 false c.id (by omega)
    have m4 := pnum_call (h2 ++ numB c.id) false c.base (by simp only [List.length_append]; omega)
    have m5 := pputpatch_call (h2 ++ numB c.id ++ numB c.base) (by simp only [List.length_append]; omega) false c.p (cmdOk_p hok k2)
    repeat' (first | ((with_reducible refine mdraw_know mixed ?chk C ?_); (case chk => decide +kernel)) | (with_reducible refine know_pure (hN _ _ _) m1 ?_) | (with_reducible refine know_pure hN2 m2 ?_) | (with_reducible refine know_pure (hN _ _ _) m3 ?_) | (with_reducible refine know_pure (hN _ _ _) m4 ?_) | (with_reducible refine know_pure hP m5 ?_) | (with_reducible first | refine up hc ?_ | refine up n1 ?_) | (with_reducible first | (refine wN fun _ hnl => ?_; revert hnl; (repeat refine wS fun _ _ => ?_); intro hnl) | refine wE ?_ | (refine wK ?_ ?_ <;> intro h) | (refine wB ?_ ?_ <;> intro h <;> simp only [h])) | simp (maxSteps := 4000000) (disch := first | decide | assumption | omega | (simp only [wL]; omega)) only [go_sem, simprocAttr, Tryz.f59, FYs])
    all_goals first | refine ⟨_, St.le_refl _, ?_⟩ | refine ⟨_, St.le_refl _⟩ | (exfalso; omega)
    all_goals simp only [List.append_assoc, List.append_nil]
   ·rw [if_neg k2]
    by_cases k3 : c.kd = 3
    ·rw [if_pos k3]
     have lp := (inferInstance : LB (predB c.fl) 1600).h
     have m3 := pputpred_call h2 (by omega) false c.fl false (cmdOk_f hok k3)
     have m4 := pnum_call (h2 ++ predB c.fl) false (c.mask.toNat : Int) (by simp only [List.length_append]; omega)
     repeat' (first | ((with_reducible refine mdraw_know mixed ?chk C ?_); (case chk => decide +kernel)) | (with_reducible refine know_pure (hN _ _ _) m1 ?_) | (with_reducible refine know_pure hN2 m2 ?_) | (with_reducible refine know_pure hF m3 ?_) | (with_reducible refine know_pure (hN _ _ _) m4 ?_) | (with_reducible first | refine up hc ?_ | refine up n1 ?_) | (with_reducible first | (refine wN fun _ hnl => ?_; revert hnl; (repeat refine wS fun _ _ => ?_); intro hnl) | refine wE ?_ | (refine wK ?_ ?_ <;> intro h) | (refine wB ?_ ?_ <;> intro h <;> simp only [h])) | simp (maxSteps := 4000000) (disch := first | decide | assumption | omega | (simp only [wL]; omega)) only [go_sem, simprocAttr, Tryz.f59, FYs])
     all_goals first | refine ⟨_, St.le_refl _, ?_⟩ | refine ⟨_, St.le_refl _⟩ | (exfalso; omega)
     all_goals simp only [List.append_assoc, List.append_nil]
    ·rw [if_neg k3]
     repeat' (first | ((with_reducible refine mdraw_know mixed ?chk C ?_); (case chk => decide +kernel)) | (with_reducible refine know_pure (hN _ _ _) m1 ?_) | (with_reducible refine know_pure hN2 m2 ?_) | (with_reducible first | refine up hc ?_ | refine up n1 ?_) | (with_reducible first | (refine wN fun _ hnl => ?_; revert hnl; (repeat refine wS fun _ _ => ?_); intro hnl) | refine wE ?_ | (refine wK ?_ ?_ <;> intro h) | (refine wB ?_ ?_ <;> intro h <;> simp only [h])) | simp (maxSteps := 4000000) (disch := first | decide | assumption | omega | (simp only [wL]; omega)) only [go_sem, simprocAttr, Tryz.f59, FYs])
     all_goals first | refine ⟨_, St.le_refl _, ?_⟩ | refine ⟨_, St.le_refl _⟩ | (exfalso; omega)
     all_goals simp only [List.append_assoc, List.append_nil]
end Go.Proofs.YtfbodefnblpflaaGreatDoor
end

section
namespace Go.Proofs.YtfbodefnblpflaaGreatDoor
set_option maxRecDepth 100000
set_option maxHeartbeats 4000000
theorem pxsame_call (a b : MS) (hs : Sm a) (ht : Sm b) : MCalls Tryz.prog 13 [.agg a.c, .agg b.c] St.none (fun r _ => r = .bool (decide (a = b))) := by
 refine MCalls.drops (MCalls.body 50 [.tmp 4] Tryz.func13 rfl rfl rfl rfl ?_)
 have h1 := pcmsame_call a.cmd b.cmd hs.f ht.f
 have h2 := prsame_call a.rep b.rep hs.g ht.g
 have h3 := ppgsame_call a.page b.page hs.i
 have h4 := mbn_token a.tok b.tok
 obtain ⟨b1, hb1⟩ : ∃ x, decide (a.cmd = b.cmd) = x := ⟨_, rfl⟩
 obtain ⟨b2, hb2⟩ : ∃ x, decide (a.rep = b.rep) = x := ⟨_, rfl⟩
 obtain ⟨b3, hb3⟩ : ∃ x, decide (a.page = b.page) = x := ⟨_, rfl⟩
 obtain ⟨b4, hb4⟩ : ∃ x, decide (a.tok = b.tok) = x := ⟨_, rfl⟩
 obtain ⟨res, hres⟩ : ∃ r, decide (a = b) = r := ⟨_, rfl⟩
 have e : Unit → decide (a.kd = b.kd ∧ a.size = b.size ∧ b1 = true ∧ b4 = true ∧ b2 = true ∧ b3 = true ∧ a.code = b.code) = res := fun _ => by
  rw [← hres, ← hb1, ← hb2, ← hb3, ← hb4]
  refine decide_eq_decide.mpr ?_
  rw [ms_iff, decide_eq_true_iff, decide_eq_true_iff, decide_eq_true_iff, decide_eq_true_iff]
 rw [hb1] at h1
 rw [hb2] at h2
 rw [hb3] at h3
 rw [hb4] at h4
 rw [hres]
 clear hres hb1 hb2 hb3 hb4
 cases b1
 case' true => cases b4
 case' true.true => cases b2
 case' true.true.true => cases b3
 all_goals
  repeat' (first | (with_reducible first | refine up h1 ?_ | refine up h2 ?_ | refine up h3 ?_) | (with_reducible first | (refine wN fun _ hnl => ?_; revert hnl; (repeat refine wS fun _ _ => ?_); intro hnl) | refine wE ?_ | (refine wK ?_ ?_ <;> intro h) | (refine wB ?_ ?_ <;> intro h <;> simp only [h])) | simp (maxSteps := 4000000) (disch := first | decide | assumption | omega | (simp only [wL]; omega)) only [go_sem, simprocAttr, Tryz.f13, FYs, h4])
  all_goals first | refine ⟨_, St.le_refl _, ?_⟩ | skip
  all_goals rw [← e ()]
  all_goals clear e
  all_goals (first | (simp [*]; done) | (simp_all; done) | exact decide_eq_decide.mpr (by omega) | skip)
abbrev fnP (g : FuncId) : MV := .fn (.func g) [] []
theorem pasks_call : MCalls Tryz.prog 22 [] St.none (fun r _ => r = .agg [fnP 57, fnP 59, fnP 60]) := by
 refine MCalls.drops (MCalls.body 4 [.cell 0 68] Tryz.func22 rfl rfl rfl rfl ?_)
 repeat' (first | (with_reducible first | (refine wN fun _ hnl => ?_; revert hnl; (repeat refine wS fun _ _ => ?_); intro hnl) | refine wE ?_ | (refine wK ?_ ?_ <;> intro h) | (refine wB ?_ ?_ <;> intro h <;> simp only [h])) | simp (maxSteps := 4000000) (disch := first | decide | assumption | omega | (simp only [wL]; omega)) only [go_sem, simprocAttr, Tryz.f22])
 all_goals first | exact ⟨_, St.le_refl _, rfl⟩ | exact ⟨_, St.le_refl _⟩
theorem ptokens_call : MCalls Tryz.prog 23 [] St.none (fun r _ => r = .agg [fnP 61, fnP 62, fnP 63]) := by
 refine MCalls.drops (MCalls.body 2 [.cell 0 74] Tryz.func23 rfl rfl rfl rfl ?_)
 repeat' (first | (with_reducible first | (refine wN fun _ hnl => ?_; revert hnl; (repeat refine wS fun _ _ => ?_); intro hnl) | refine wE ?_ | (refine wK ?_ ?_ <;> intro h) | (refine wB ?_ ?_ <;> intro h <;> simp only [h])) | simp (maxSteps := 4000000) (disch := first | decide | assumption | omega | (simp only [wL]; omega)) only [go_sem, simprocAttr, Tryz.f23])
 all_goals first | exact ⟨_, St.le_refl _, rfl⟩ | exact ⟨_, St.le_refl _⟩
theorem preplies_call : MCalls Tryz.prog 24 [] St.none (fun r _ => r = .agg [fnP 64, fnP 65, fnP 66]) := by
 refine MCalls.drops (MCalls.body 2 [.cell 0 80] Tryz.func24 rfl rfl rfl rfl ?_)
 repeat' (first | (with_reducible first | (refine wN fun _ hnl => ?_; revert hnl; (repeat refine wS fun _ _ => ?_); intro hnl) | refine wE ?_ | (refine wK ?_ ?_ <;> intro h) | (refine wB ?_ ?_ <;> intro h <;> simp only [h])) | simp (maxSteps := 4000000) (disch := first | decide | assumption | omega | (simp only [wL]; omega)) only [go_sem, simprocAttr, Tryz.f24])
 all_goals first | exact ⟨_, St.le_refl _, rfl⟩ | exact ⟨_, St.le_refl _⟩
theorem ppages_call : MCalls Tryz.prog 25 [] St.none (fun r _ => r = .agg [fnP 67, fnP 68, fnP 69]) := by
 refine MCalls.drops (MCalls.body 2 [.cell 0 86] Tryz.func25 rfl rfl rfl rfl ?_)
 repeat' (first | (with_reducible first | (refine wN fun _ hnl => ?_; revert hnl; (repeat refine wS fun _ _ => ?_); intro hnl) | refine wE ?_ | (refine wK ?_ ?_ <;> intro h) | (refine wB ?_ ?_ <;> intro h <;> simp only [h])) | simp (maxSteps := 4000000) (disch := first | decide | assumption | omega | (simp only [wL]; omega)) only [go_sem, simprocAttr, Tryz.f25])
 all_goals first | exact ⟨_, St.le_refl _, rfl⟩ | exact ⟨_, St.le_refl _⟩
theorem pask1_call (c : CM) (hg : Rg c) (hl : c.fl.length ≤ 1000000) : MCalls Tryz.prog 57 [.agg c.c] St.none (fun r _ => r = .bool (cmdOk c && decide (c.kd ≠ 1 ∧ c.kd ≠ 5))) := by
 refine MCalls.drops (MCalls.body 15 [.tmp 2] Tryz.func57 rfl rfl rfl rfl ?_)
 have hc := pcmcheck_call c hg hl
 cases hk : cmdOk c <;> rw [hk] at hc
 all_goals
  repeat' (first | (with_reducible first | refine up hc ?_) | (with_reducible first | (refine wN fun _ hnl => ?_; revert hnl; (repeat refine wS fun _ _ => ?_); intro hnl) | refine wE ?_ | (refine wK ?_ ?_ <;> intro h) | (refine wB ?_ ?_ <;> intro h <;> simp only [h])) | simp (maxSteps := 4000000) (disch := first | decide | assumption | omega | (simp only [wL]; omega)) only [go_sem, simprocAttr, Tryz.f57, FYs])
  all_goals first | refine ⟨_, St.le_refl _, ?_⟩ | refine ⟨_, St.le_refl _⟩ | skip
  all_goals simp [*]
abbrev nbP (b : Nat) : List MV := [.fn (.func 75) [] [.ptr b 0 0], fnP 21, .fn (.func 76) [] [.ptr b 0 0]]
abbrev nbO (most : Int) : MObj := .row 3 1 [[.int .i64 most]]
theorem pnumber_call (most : Int) : MCalls Tryz.prog 31 [.int .i64 most] St.none (fun v σ' => ∃ l, v = .agg (nbP l) ∧ σ' = St.none.set l (nbO most)) := by
 refine MCalls.drops (MCalls.body 6 [.cell 2 96] Tryz.func31 rfl rfl rfl rfl ?_)
 repeat' (first | (with_reducible first | (refine wT ?_; (first | ((fail_if_success (have := nl1)); refine wN fun nl1 hnl => ?_) | ((fail_if_success (have := nl2)); refine wN fun nl2 hnl => ?_) | refine wN fun _ hnl => ?_); revert hnl; (repeat refine wS fun _ _ => ?_); intro hnl) | refine wE ?_ | (refine wK ?_ ?_ <;> intro h) | (refine wB ?_ ?_ <;> intro h <;> simp only [h])) | simp (maxSteps := 4000000) (disch := first | decide | assumption | omega | (simp only [wL]; omega)) only [go_sem, simprocAttr, Tryz.f31])
 have d1 : nl2 ≠ nl1 := by assumption
 exact ⟨St.none.set nl1 (nbO most), St.set_le (St.none_le _) (by simp [St.set, Ne.symm d1]), nl1, rfl, rfl⟩
theorem pnumber1_call (most n : Int) (b : Nat) : MCalls Tryz.prog 75 [.int .i64 n, .ptr b 0 0] (St.none.set b (nbO most)) (fun v σ' => v = .bool (decide (1 ≤ n ∧ n ≤ most)) ∧ σ' = St.none.set b (nbO most)) := by
 refine (MCalls.body 11 [.tmp 3] Tryz.func75 rfl rfl rfl rfl ?_)
 repeat' (first | (with_reducible first | (refine wN fun _ hnl => ?_; revert hnl; (repeat refine wS fun _ _ => ?_); intro hnl) | refine wE ?_ | (refine wK ?_ ?_ <;> intro h) | (refine wB ?_ ?_ <;> intro h <;> simp only [h])) | simp (maxSteps := 4000000) (disch := first | decide | assumption | omega | (simp only [wL]; omega)) only [go_sem, simprocAttr, Tryz.f75])
 all_goals first | exact decide_eq_decide.mpr (by omega) | exact (decide_eq_false (by omega)).symm
noncomputable def nbK (most : Int) (C : Know) : Know := fun g ms => if g = 31 then some ⟨[], fun _ => True, some (nbO most, fun b => .agg (nbP b))⟩ else if g = 75 then match ms with | [.int .i64 n, .ptr b 0 0] => some ⟨[b], fun v => v = .bool (decide (1 ≤ n ∧ n ≤ most)), none⟩ | _ => none else C g ms
theorem nbK_new {most : Int} {C : Know} {ms : List MV} : nbK most C 31 ms = some ⟨[], fun _ => True, some (nbO most, fun b => .agg (nbP b))⟩ := rfl
theorem nbK_may {most n : Int} {C : Know} {b : Nat} : nbK most C 75 [.int .i64 n, .ptr b 0 0] = some ⟨[b], fun v => v = .bool (decide (1 ≤ n ∧ n ≤ most)), none⟩ := rfl
theorem nbK_skip {most : Int} {C : Know} {g : FuncId} {ms : List MV} {F : Fact} (h : C g ms = some F) (h1 : (g == 31) = false) (h2 : (g == 75) = false) : nbK most C g ms = some F := by
 unfold nbK
 rw [if_neg (by simpa using h1), if_neg (by simpa using h2)]
 exact h
theorem know_nb {most n : Int} {C : Know} {b : Nat} {σ : St} {k : MV → St → Prop} (hσ : σ b = some (nbO most)) (hk : R (mlet (.bool (decide (1 ≤ n ∧ n ≤ most))) σ k)) : R (mcallC Tryz.prog (nbK most C) 75 [.int .i64 n, .ptr b 0 0] σ k) :=
 know_at [b] [nbO most] nbK_may (by simp [hσ]) (pnumber1_call most n b) ⟨_, rfl⟩ fun v hv => by subst hv; exact hk
theorem pxcheck1 (m : MS) (hs : Sm m) (hg : Rg m.cmd) (k1 : m.kd = 1) : MCalls Tryz.prog 11 [.agg m.c] St.none (fun r _ => r = .bool (msgOk m)) := by
 refine MCalls.drops (MCalls.body 76 [.tmp 2] Tryz.func11 rfl rfl rfl rfl ?_)
 obtain ⟨res, hres⟩ : ∃ b, msgOk m = b := ⟨_, rfl⟩
 rw [hres]
 rw [msgOk_1 k1] at hres
 have ha := pasks_call
 have hc := pask1_call m.cmd hg hs.f
 have hq := pxsame_call ({ ms0 with kd := m.kd, cmd := m.cmd }) m ⟨by first | exact hs.f | simp [ms0, cm0], by first | exact hs.g | simp [ms0, re0], by first | exact hs.i | simp [ms0, pg0]⟩ hs
 obtain ⟨b, hb⟩ : ∃ b, decide (({ ms0 with kd := m.kd, cmd := m.cmd } : MS) = m) = b := ⟨_, rfl⟩
 rw [hb] at hres hq
 have hv := fun (σ : St) (f g i : MV) => vms (σ := σ) (m := { ms0 with kd := m.kd, cmd := m.cmd }) (f := f) (g := g) (i := i)
 simp only [MS.c, MS.k, ms0, cm0, ed0, pa0, tk0, re0, pg0, u32z] at hv hq
 have e := fun (_ : Unit) => hres
 clear hres hb
 obtain ⟨ok, hok⟩ : ∃ b, (cmdOk m.cmd && decide (m.cmd.kd ≠ 1 ∧ m.cmd.kd ≠ 5)) = b := ⟨_, rfl⟩
 rw [hok] at hc e
 obtain ⟨C, hC1, hC2⟩ : ∃ C : Know, C 22 [] = some ⟨[], fun v => v = .agg [fnP 57, fnP 59, fnP 60], none⟩ ∧ C 57 [.agg m.cmd.c] = some ⟨[], fun v => v = .bool ok, none⟩ :=
  ⟨kn [(22, [], ⟨[], fun v => v = .agg [fnP 57, fnP 59, fnP 60], none⟩), (57, [.agg m.cmd.c], ⟨[], fun v => v = .bool ok, none⟩)], kn_hit, kn_skip (fun h => absurd h.1 (by decide)) kn_hit⟩
 clear hok
 cases b <;> cases ok
 all_goals
  repeat' (first | ((with_reducible refine mdraw_know mixed ?chk C ?_); (case chk => decide +kernel)) | (with_reducible refine know_pure hC1 ha ?_) | (with_reducible refine know_pure hC2 hc ?_) | (with_reducible refine use_lend _ hq (.bool _) rfl (views_two (hv _ _ _ _ (.same _) (.nil _ _) (.nil _ _)) (.same _)) ?_) | (with_reducible first | (refine wN fun _ hnl => ?_; revert hnl; (repeat refine wS fun _ _ => ?_); intro hnl) | refine wE ?_ | (refine wK ?_ ?_ <;> intro h) | (refine wB ?_ ?_ <;> intro h <;> simp only [h])) | simp (maxSteps := 4000000) (disch := first | decide | assumption | omega | (simp only [wL]; omega)) only [go_sem, simprocAttr, Tryz.f11, FYs])
  all_goals first | refine ⟨_, St.le_refl _, ?_⟩ | refine ⟨_, St.le_refl _⟩ | skip
  all_goals rw [← e ()]
  all_goals (first | (simp [*]; done) | (simp; omega) | skip)
end Go.Proofs.YtfbodefnblpflaaGreatDoor
end

section
namespace Go.Proofs.YtfbodefnblpflaaGreatDoor
set_option maxRecDepth 100000
set_option maxHeartbeats 4000000
theorem mdraw_rs {P : Program} {id : Nat} {l : List Oper} {f : FR} {σ : St} {Q : MQ} (hm : P.follows .mixedOrders = true) (ds : List (Nat × Nat)) (Ds : List Nat) (hds : ds.map (·.1) = Ds) (Rs : List (Nat × Nat)) (hchk : chkD ⟨Ds, Rs, none⟩ l.toArray = true) (C : Know)
  (h1 : ∀ p, p ∈ ds → ∃ i o, f.get p.1 = .ptr p.2 i o) (h2 : (ds.map (·.2)).Pairwise (· ≠ ·)) (h3 : Ds.Pairwise (· ≠ ·)) (h4 : ∀ p, p ∈ Rs → p.2 ∈ Ds ∧ ∀ l i o, f.get p.1 = .ptr l i o → l = locD ds p.2)
  (h : R (mopsC P C (@OfNat.ofNat (Array Oper) (nat_lit 0) (@_root_.id (OfNat (Array Oper) (nat_lit 0)) (OfNat.mk (l.toArray)))) (Q .normal) (@OfNat.ofNat (List Oper) (nat_lit 0) (@_root_.id (OfNat (List Oper) (nat_lit 0)) (OfNat.mk l))) f σ)) : R (mdraw P id (@OfNat.ofNat (List Oper) (nat_lit 0) (@_root_.id (OfNat (List Oper) (nat_lit 0)) (OfNat.mk l))) f σ Q) := by
 subst hds
 exact mwp_drawX (C := C.pl) (X := ⟨ds.map (·.1), Rs, none⟩) (loc := locD ds) hm (show CalOk ⟨ds.map (·.1), Rs, none⟩ (locD ds) C.pl from C.pl_pl) hchk (fun _ _ hd _ _ _ h => gs_call hd h) (DOk.of h1 h2 h3 h4) h
theorem pxcheck3 (m : MS) (hs : Sm m) (hg : Rg m.cmd) (k1 : m.kd = 3) : MCalls Tryz.prog 11 [.agg m.c] St.none (fun r _ => r = .bool (msgOk m)) := by
 refine MCalls.drops (MCalls.body 76 [.tmp 2] Tryz.func11 rfl rfl rfl rfl ?_)
 obtain ⟨res, hres⟩ : ∃ b, msgOk m = b := ⟨_, rfl⟩
 rw [hres]
 rw [msgOk_3 k1] at hres
 have hq := pxsame_call ({ ms0 with kd := m.kd, rep := m.rep }) m ⟨by first | exact hs.f | simp [ms0, cm0], by first | exact hs.g | simp [ms0, re0], by first | exact hs.i | simp [ms0, pg0]⟩ hs
 obtain ⟨b, hb⟩ : ∃ b, decide (({ ms0 with kd := m.kd, rep := m.rep } : MS) = m) = b := ⟨_, rfl⟩
 rw [hb] at hres hq
 have hv := fun (σ : St) (f g i : MV) => vms (σ := σ) (m := { ms0 with kd := m.kd, rep := m.rep }) (f := f) (g := g) (i := i)
 simp only [MS.c, MS.k, ms0, cm0, ed0, pa0, tk0, re0, pg0, u32z] at hv hq
 have e := fun (_ : Unit) => hres
 clear hres hb
 have ha := preplies_call
 have hc := prcheck_call m.rep hs.g
 obtain ⟨ok, hok⟩ : ∃ b, repOk m.rep = b := ⟨_, rfl⟩
 rw [hok] at hc e
 obtain ⟨C, hC1, hC2⟩ : ∃ C : Know, C 24 [] = some ⟨[], fun v => v = .agg [fnP 64, fnP 65, fnP 66], none⟩ ∧ C 64 [.agg m.rep.c] = some ⟨[], fun v => v = .bool ok, none⟩ :=
  ⟨kn [(24, [], ⟨[], fun v => v = .agg [fnP 64, fnP 65, fnP 66], none⟩), (64, [.agg m.rep.c], ⟨[], fun v => v = .bool ok, none⟩)], kn_hit, kn_skip (fun h => absurd h.1 (by decide)) kn_hit⟩
 clear hok
 cases b <;> cases ok
 all_goals
  repeat' (first | ((with_reducible refine mdraw_know mixed ?chk C ?_); (case chk => decide +kernel)) | (with_reducible refine know_pure hC1 ha ?_) | (with_reducible refine know_pure hC2 hc ?_) | (with_reducible refine use_lend _ hq (.bool _) rfl (views_two (hv _ _ _ _ (.nil _ _) (.same _) (.nil _ _)) (.same _)) ?_) | (with_reducible first | (refine wN fun _ hnl => ?_; revert hnl; (repeat refine wS fun _ _ => ?_); intro hnl) | refine wE ?_ | (refine wK ?_ ?_ <;> intro h) | (refine wB ?_ ?_ <;> intro h <;> simp only [h])) | simp (maxSteps := 4000000) (disch := first | decide | assumption | omega | (simp only [wL]; omega)) only [go_sem, simprocAttr, Tryz.f11, FYs])
  all_goals first | refine ⟨_, St.le_refl _, ?_⟩ | refine ⟨_, St.le_refl _⟩ | skip
  all_goals rw [← e ()]
  all_goals (first | (simp [*]; done) | (simp; omega) | skip)
theorem pxcheck4 (m : MS) (hs : Sm m) (hg : Rg m.cmd) (k1 : m.kd = 4) : MCalls Tryz.prog 11 [.agg m.c] St.none (fun r _ => r = .bool (msgOk m)) := by
 refine MCalls.drops (MCalls.body 76 [.tmp 2] Tryz.func11 rfl rfl rfl rfl ?_)
 obtain ⟨res, hres⟩ : ∃ b, msgOk m = b := ⟨_, rfl⟩
 rw [hres]
 rw [msgOk_4 k1] at hres
 have hq := pxsame_call ({ ms0 with kd := m.kd, page := m.page }) m ⟨by first | exact hs.f | simp [ms0, cm0], by first | exact hs.g | simp [ms0, re0], by first | exact hs.i | simp [ms0, pg0]⟩ hs
 obtain ⟨b, hb⟩ : ∃ b, decide (({ ms0 with kd := m.kd, page := m.page } : MS) = m) = b := ⟨_, rfl⟩
 rw [hb] at hres hq
 have hv := fun (σ : St) (f g i : MV) => vms (σ := σ) (m := { ms0 with kd := m.kd, page := m.page }) (f := f) (g := g) (i := i)
 simp only [MS.c, MS.k, ms0, cm0, ed0, pa0, tk0, re0, pg0, u32z] at hv hq
 have e := fun (_ : Unit) => hres
 clear hres hb
 have ha := ppages_call
 have hc := ppgcheck_call m.page hs.i
 obtain ⟨ok, hok⟩ : ∃ b, pageOk m.page = b := ⟨_, rfl⟩
 rw [hok] at hc e
 obtain ⟨C, hC1, hC2⟩ : ∃ C : Know, C 25 [] = some ⟨[], fun v => v = .agg [fnP 67, fnP 68, fnP 69], none⟩ ∧ C 67 [.agg m.page.c] = some ⟨[], fun v => v = .bool ok, none⟩ :=
  ⟨kn [(25, [], ⟨[], fun v => v = .agg [fnP 67, fnP 68, fnP 69], none⟩), (67, [.agg m.page.c], ⟨[], fun v => v = .bool ok, none⟩)], kn_hit, kn_skip (fun h => absurd h.1 (by decide)) kn_hit⟩
 clear hok
 cases b <;> cases ok
 all_goals
  repeat' (first | ((with_reducible refine mdraw_know mixed ?chk C ?_); (case chk => decide +kernel)) | (with_reducible refine know_pure hC1 ha ?_) | (with_reducible refine know_pure hC2 hc ?_) | (with_reducible refine use_lend _ hq (.bool _) rfl (views_two (hv _ _ _ _ (.nil _ _) (.nil _ _) (.same _)) (.same _)) ?_) | (with_reducible first | (refine wN fun _ hnl => ?_; revert hnl; (repeat refine wS fun _ _ => ?_); intro hnl) | refine wE ?_ | (refine wK ?_ ?_ <;> intro h) | (refine wB ?_ ?_ <;> intro h <;> simp only [h])) | simp (maxSteps := 4000000) (disch := first | decide | assumption | omega | (simp only [wL]; omega)) only [go_sem, simprocAttr, Tryz.f11, FYs])
  all_goals first | refine ⟨_, St.le_refl _, ?_⟩ | refine ⟨_, St.le_refl _⟩ | skip
  all_goals rw [← e ()]
  all_goals (first | (simp [*]; done) | (simp; omega) | skip)
theorem pxcheck5 (m : MS) (hs : Sm m) (hg : Rg m.cmd) (k1 : m.kd = 5) : MCalls Tryz.prog 11 [.agg m.c] St.none (fun r _ => r = .bool (msgOk m)) := by
 refine MCalls.drops (MCalls.body 76 [.tmp 2] Tryz.func11 rfl rfl rfl rfl ?_)
 obtain ⟨res, hres⟩ : ∃ b, msgOk m = b := ⟨_, rfl⟩
 rw [hres]
 rw [msgOk_5 k1] at hres
 have hq := pxsame_call ({ ms0 with kd := m.kd, code := m.code }) m ⟨by first | exact hs.f | simp [ms0, cm0], by first | exact hs.g | simp [ms0, re0], by first | exact hs.i | simp [ms0, pg0]⟩ hs
 obtain ⟨b, hb⟩ : ∃ b, decide (({ ms0 with kd := m.kd, code := m.code } : MS) = m) = b := ⟨_, rfl⟩
 rw [hb] at hres hq
 have hv := fun (σ : St) (f g i : MV) => vms (σ := σ) (m := { ms0 with kd := m.kd, code := m.code }) (f := f) (g := g) (i := i)
 simp only [MS.c, MS.k, ms0, cm0, ed0, pa0, tk0, re0, pg0, u32z] at hv hq
 have e := fun (_ : Unit) => hres
 clear hres hb
 have hn := pnumber_call 16
 obtain ⟨ok, hok⟩ : ∃ x, decide (1 ≤ m.code ∧ m.code ≤ 16) = x := ⟨_, rfl⟩
 rw [hok] at e
 cases b <;> cases ok
 all_goals
  repeat' (first | ((with_reducible refine mdraw_know mixed ?chk (nbK 16 (fun _ _ => none)) ?_); (case chk => decide +kernel)) | (((with_reducible refine know_new nbK_new hn ?_); intro bb hbb; revert hbb; (repeat refine wS fun _ _ => ?_); intro hbb)) | (((with_reducible refine know_nb ?hh ?_); (case hh => simp [St.set, *]))) | (with_reducible refine use_lend _ hq (.bool _) rfl (views_two (hv _ _ _ _ (.nil _ _) (.nil _ _) (.nil _ _)) (.same _)) ?_) | (with_reducible first | (refine wN fun _ hnl => ?_; revert hnl; (repeat refine wS fun _ _ => ?_); intro hnl) | refine wE ?_ | (refine wK ?_ ?_ <;> intro h) | (refine wB ?_ ?_ <;> intro h <;> simp only [h])) | simp (maxSteps := 4000000) (disch := first | decide | assumption | omega | (simp only [wL]; omega)) only [go_sem, simprocAttr, Tryz.f11, FYs, hok])
  all_goals first | refine ⟨_, St.le_refl _, ?_⟩ | refine ⟨_, St.le_refl _⟩ | skip
  all_goals rw [← e ()]
  all_goals (first | (simp [*]; done) | (simp; omega) | skip)
theorem pxcheck2 (m : MS) (hs : Sm m) (hg : Rg m.cmd) (k1 : m.kd = 2) : MCalls Tryz.prog 11 [.agg m.c] St.none (fun r _ => r = .bool (msgOk m)) := by
 refine MCalls.drops (MCalls.body 76 [.tmp 2] Tryz.func11 rfl rfl rfl rfl ?_)
 obtain ⟨res, hres⟩ : ∃ b, msgOk m = b := ⟨_, rfl⟩
 rw [hres]
 rw [msgOk_2 k1] at hres
 have hq := pxsame_call ({ ms0 with kd := m.kd, tok := m.tok, size := m.size }) m ⟨by first | exact hs.f | simp [ms0, cm0], by first | exact hs.g | simp [ms0, re0], by first | exact hs.i | simp [ms0, pg0]⟩ hs
 obtain ⟨b, hb⟩ : ∃ b, decide (({ ms0 with kd := m.kd, tok := m.tok, size := m.size } : MS) = m) = b := ⟨_, rfl⟩
 rw [hb] at hres hq
 have hv := fun (σ : St) (f g i : MV) => vms (σ := σ) (m := { ms0 with kd := m.kd, tok := m.tok, size := m.size }) (f := f) (g := g) (i := i)
 simp only [MS.c, MS.k, ms0, cm0, ed0, pa0, tk0, re0, pg0, u32z] at hv hq
 have e := fun (_ : Unit) => hres
 clear hres hb
 have hn := pnumber_call 16
 have ha := ptokens_call
 have hc := ptcheck_call m.tok
 obtain ⟨ok, hok⟩ : ∃ b, tokOk m.tok = b := ⟨_, rfl⟩
 rw [hok] at hc e
 obtain ⟨C, hC1, hC2⟩ : ∃ C : Know, C 23 [] = some ⟨[], fun v => v = .agg [fnP 61, fnP 62, fnP 63], none⟩ ∧ C 61 [.agg m.tok.c] = some ⟨[], fun v => v = .bool ok, none⟩ :=
  ⟨kn [(23, [], ⟨[], fun v => v = .agg [fnP 61, fnP 62, fnP 63], none⟩), (61, [.agg m.tok.c], ⟨[], fun v => v = .bool ok, none⟩)], kn_hit, kn_skip (fun h => absurd h.1 (by decide)) kn_hit⟩
 clear hok
 obtain ⟨zk, hz⟩ : ∃ x, decide (1 ≤ m.size ∧ m.size ≤ 16) = x := ⟨_, rfl⟩
 rw [hz] at e
 cases b <;> cases ok <;> cases zk
 all_goals
  repeat' (first | (with_reducible first | (refine wT ?_; (first | ((fail_if_success (have := nl1)); refine wN fun nl1 hnl => ?_) | ((fail_if_success (have := nl2)); refine wN fun nl2 hnl => ?_) | refine wN fun _ hnl => ?_); revert hnl; (repeat refine wS fun _ _ => ?_); intro hnl) | refine wE ?_ | (refine wK ?_ ?_ <;> intro h) | (refine wB ?_ ?_ <;> intro h <;> simp only [h])) | simp (maxSteps := 4000000) (disch := first | decide | assumption | omega | (simp only [wL]; omega)) only [go_sem, simprocAttr, Tryz.f11, FYs])
  have d1 : nl2 ≠ nl1 := by assumption
  refine mdraw_rs mixed [(1, nl1), (3, nl2)] [1, 3] rfl [(22, 1), (24, 1), (26, 3), (27, 3)] (by decide +kernel) (fun _ _ => none) ?h1 ?h2 (by decide) ?h4 ?go
  case h1 =>
   intro p hp
   simp only [List.mem_cons, List.not_mem_nil, or_false] at hp
   rcases hp with rfl | rfl
   ·exact ⟨0, 0, rfl⟩
   ·exact ⟨0, 0, rfl⟩
  case h2 => simp [Ne.symm d1]
  case h4 =>
   intro p hp
   simp only [List.mem_cons, List.not_mem_nil, or_false] at hp
   rcases hp with rfl | rfl | rfl | rfl
   all_goals exact ⟨by decide, fun l i o h => absurd h (by simp [FR.get, lget])⟩
  case go =>
   repeat' (first | ((with_reducible refine mdraw_know mixed ?chk (nbK 16 C) ?_); (case chk => decide +kernel)) | (((with_reducible refine know_new nbK_new hn ?_); intro bb hbb; revert hbb; (repeat refine wS fun _ _ => ?_); intro hbb)) | (((with_reducible refine know_nb ?hh ?_); (case hh => simp [St.set, *]))) | (with_reducible refine know_pure (nbK_skip hC1 rfl rfl) ha ?_) | (with_reducible refine know_pure (nbK_skip hC2 rfl rfl) hc ?_) | (with_reducible refine use_lend _ hq (.bool _) rfl (views_two (hv _ _ _ _ (.nil _ _) (.nil _ _) (.nil _ _)) (.same _)) ?_) | (with_reducible first | (refine wT ?_; (first | ((fail_if_success (have := nl1)); refine wN fun nl1 hnl => ?_) | ((fail_if_success (have := nl2)); refine wN fun nl2 hnl => ?_) | refine wN fun _ hnl => ?_); revert hnl; (repeat refine wS fun _ _ => ?_); intro hnl) | refine wE ?_ | (refine wK ?_ ?_ <;> intro h) | (refine wB ?_ ?_ <;> intro h <;> simp only [h])) | simp (maxSteps := 4000000) (disch := first | decide | assumption | omega | (simp only [wL]; omega)) only [go_sem, simprocAttr, FYs, hz])
   all_goals first | refine ⟨_, St.le_refl _, ?_⟩ | refine ⟨_, St.le_refl _⟩ | skip
   all_goals rw [← e ()]
   all_goals (first | (simp [*]; done) | (simp; omega) | skip)
theorem pxcheck_call (m : MS) (hs : Sm m) (hg : Rg m.cmd) : MCalls Tryz.prog 11 [.agg m.c] St.none (fun r _ => r = .bool (msgOk m)) := by
 by_cases k1 : m.kd = 1
 ·exact pxcheck1 m hs hg k1
 by_cases k2 : m.kd = 2
 ·exact pxcheck2 m hs hg k2
 by_cases k3 : m.kd = 3
 ·exact pxcheck3 m hs hg k3
 by_cases k4 : m.kd = 4
 ·exact pxcheck4 m hs hg k4
 by_cases k5 : m.kd = 5
 ·exact pxcheck5 m hs hg k5
 refine MCalls.drops (MCalls.body 76 [.tmp 2] Tryz.func11 rfl rfl rfl rfl ?_)
 rw [msgOk_o k1 k2 k3 k4 k5]
 repeat' (first | (with_reducible first | (refine wN fun _ hnl => ?_; revert hnl; (repeat refine wS fun _ _ => ?_); intro hnl) | refine wE ?_ | (refine wK ?_ ?_ <;> intro h) | (refine wB ?_ ?_ <;> intro h <;> simp only [h])) | simp (maxSteps := 4000000) (disch := first | decide | assumption | omega | (simp only [wL]; omega)) only [go_sem, simprocAttr, Tryz.f11, FYs])
 all_goals first | exact ⟨_, St.le_refl _, rfl⟩ | exact ⟨_, St.le_refl _⟩ | (exfalso; omega)
end Go.Proofs.YtfbodefnblpflaaGreatDoor
end

section
namespace Go.Proofs.YtfbodefnblpflaaGreatDoor
set_option maxRecDepth 100000
set_option maxHeartbeats 4000000
theorem pxenc1 (m : MS) (hs : Sm m) (hg : Rg m.cmd) (k1 : m.kd = 1) (hok : msgOk m = true) : MCalls Tryz.prog 8 [.agg m.c] St.none (fun r _ => r = .tup [.str (bsS (msgE m).1), .int .i64 (msgE m).2]) := by
 refine MCalls.drops (MCalls.body 59 [.tmp 2, .tmp 3] Tryz.func8 rfl rfl rfl rfl ?_)
 have hc := pxcheck_call m hs hg
 rw [hok] at hc
 have e : msgE m = if 4096 < (msgB m).length then ([], 4) else (msgB m, 0) := by unfold msgE; rw [hok, if_pos rfl]
 have hb : msgB m = numB m.kd ++ cmdB m.cmd := by unfold msgB; simp [k1]
 rw [e, hb]
 clear e hb
 have l1 := numB_len m.kd
 have n1 := pnum_call [] false m.kd (by simp)
 rw [List.nil_append] at n1
 have hk : cmdOk m.cmd = true := by rw [msgOk_1 k1] at hok; simp only [Bool.and_eq_true] at hok; exact hok.1.1
 obtain ⟨hd, hhd⟩ : ∃ h, numB m.kd = h := ⟨_, rfl⟩
 rw [hhd] at n1 l1 ⊢
 clear hok
 have lp := (inferInstance : LB (cmdB m.cmd) 3000).h
 have ha := pasks_call
 have hp := pputcm_call hd (by omega) false m.cmd hg hs.f hk
 obtain ⟨b2, hb2⟩ : ∃ b, hd ++ cmdB m.cmd = b := ⟨_, rfl⟩
 have hbl : b2.length ≤ 20000 := by rw [← hb2, List.length_append]; omega
 rw [hb2] at hp ⊢
 obtain ⟨C, hC1, hC2⟩ : ∃ C : Know, C 22 [] = some ⟨[], fun v => v = .agg [fnP 57, fnP 59, fnP 60], none⟩ ∧ C 59 [.lst 1 (hd.map bc) false, .agg m.cmd.c] = some ⟨[], fun v => v = .lst 1 (b2.map bc) false, none⟩ :=
  ⟨kn [(22, [], ⟨[], fun v => v = .agg [fnP 57, fnP 59, fnP 60], none⟩), (59, [.lst 1 (hd.map bc) false, .agg m.cmd.c], ⟨[], fun v => v = .lst 1 (b2.map bc) false, none⟩)], kn_hit, kn_skip (fun h => absurd h.1 (by decide)) kn_hit⟩
 clear hb2 hhd
 by_cases hlen : 4096 < b2.length
 ·rw [if_pos hlen]
  repeat' (first | (with_reducible refine use_weak [.lst 1 (([] : BL).map bc) false, .int .i64 m.kd] n1 rfl (views_two (.nil _ _) (.same _)) ?_) | ((with_reducible refine mdraw_know mixed ?chk C ?_); (case chk => decide +kernel)) | (with_reducible refine know_pure hC1 ha ?_) | (with_reducible refine know_pure hC2 hp ?_) | (with_reducible first | refine up hc ?_) | (with_reducible first | (refine wN fun _ hnl => ?_; revert hnl; (repeat refine wS fun _ _ => ?_); intro hnl) | refine wE ?_ | (refine wK ?_ ?_ <;> intro h) | (refine wB ?_ ?_ <;> intro h <;> simp only [h])) | simp (maxSteps := 4000000) (disch := first | decide | assumption | omega | (simp only [wL]; omega)) only [go_sem, simprocAttr, Tryz.f8, FYs, bytesOf_bc, isByte_bc])
  all_goals first | refine ⟨_, St.le_refl _, ?_⟩ | refine ⟨_, St.le_refl _⟩ | (exfalso; omega)
  all_goals rfl
 ·rw [if_neg hlen]
  repeat' (first | (with_reducible refine use_weak [.lst 1 (([] : BL).map bc) false, .int .i64 m.kd] n1 rfl (views_two (.nil _ _) (.same _)) ?_) | ((with_reducible refine mdraw_know mixed ?chk C ?_); (case chk => decide +kernel)) | (with_reducible refine know_pure hC1 ha ?_) | (with_reducible refine know_pure hC2 hp ?_) | (with_reducible first | refine up hc ?_) | (with_reducible first | (refine wN fun _ hnl => ?_; revert hnl; (repeat refine wS fun _ _ => ?_); intro hnl) | refine wE ?_ | (refine wK ?_ ?_ <;> intro h) | (refine wB ?_ ?_ <;> intro h <;> simp only [h])) | simp (maxSteps := 4000000) (disch := first | decide | assumption | omega | (simp only [wL]; omega)) only [go_sem, simprocAttr, Tryz.f8, FYs, bytesOf_bc, isByte_bc])
  all_goals first | refine ⟨_, St.le_refl _, ?_⟩ | refine ⟨_, St.le_refl _⟩ | (exfalso; omega)
  all_goals rfl
theorem pxenc3 (m : MS) (hs : Sm m) (hg : Rg m.cmd) (k1 : m.kd = 3) (hok : msgOk m = true) : MCalls Tryz.prog 8 [.agg m.c] St.none (fun r _ => r = .tup [.str (bsS (msgE m).1), .int .i64 (msgE m).2]) := by
 refine MCalls.drops (MCalls.body 59 [.tmp 2, .tmp 3] Tryz.func8 rfl rfl rfl rfl ?_)
 have hc := pxcheck_call m hs hg
 rw [hok] at hc
 have e : msgE m = if 4096 < (msgB m).length then ([], 4) else (msgB m, 0) := by unfold msgE; rw [hok, if_pos rfl]
 have hb : msgB m = numB m.kd ++ repB m.rep := by unfold msgB; simp [k1]
 rw [e, hb]
 clear e hb
 have l1 := numB_len m.kd
 have n1 := pnum_call [] false m.kd (by simp)
 rw [List.nil_append] at n1
 have hk : repOk m.rep = true := by rw [msgOk_3 k1] at hok; simp only [Bool.and_eq_true] at hok; exact hok.1
 obtain ⟨hd, hhd⟩ : ∃ h, numB m.kd = h := ⟨_, rfl⟩
 rw [hhd] at n1 l1 ⊢
 clear hok
 have lp := (inferInstance : LB (repB m.rep) 1700).h
 have ha := preplies_call
 have hp := pputrep_call hd (by omega) false m.rep hs.g hk
 obtain ⟨b2, hb2⟩ : ∃ b, hd ++ repB m.rep = b := ⟨_, rfl⟩
 have hbl : b2.length ≤ 20000 := by rw [← hb2, List.length_append]; omega
 rw [hb2] at hp ⊢
 obtain ⟨C, hC1, hC2⟩ : ∃ C : Know, C 24 [] = some ⟨[], fun v => v = .agg [fnP 64, fnP 65, fnP 66], none⟩ ∧ C 65 [.lst 1 (hd.map bc) false, .agg m.rep.c] = some ⟨[], fun v => v = .lst 1 (b2.map bc) false, none⟩ :=
  ⟨kn [(24, [], ⟨[], fun v => v = .agg [fnP 64, fnP 65, fnP 66], none⟩), (65, [.lst 1 (hd.map bc) false, .agg m.rep.c], ⟨[], fun v => v = .lst 1 (b2.map bc) false, none⟩)], kn_hit, kn_skip (fun h => absurd h.1 (by decide)) kn_hit⟩
 clear hb2 hhd
 by_cases hlen : 4096 < b2.length
 ·rw [if_pos hlen]
  repeat' (first | (with_reducible refine use_weak [.lst 1 (([] : BL).map bc) false, .int .i64 m.kd] n1 rfl (views_two (.nil _ _) (.same _)) ?_) | ((with_reducible refine mdraw_know mixed ?chk C ?_); (case chk => decide +kernel)) | (with_reducible refine know_pure hC1 ha ?_) | (with_reducible refine know_pure hC2 hp ?_) | (with_reducible first | refine up hc ?_) | (with_reducible first | (refine wN fun _ hnl => ?_; revert hnl; (repeat refine wS fun _ _ => ?_); intro hnl) | refine wE ?_ | (refine wK ?_ ?_ <;> intro h) | (refine wB ?_ ?_ <;> intro h <;> simp only [h])) | simp (maxSteps := 4000000) (disch := first | decide | assumption | omega | (simp only [wL]; omega)) only [go_sem, simprocAttr, Tryz.f8, FYs, bytesOf_bc, isByte_bc])
  all_goals first | refine ⟨_, St.le_refl _, ?_⟩ | refine ⟨_, St.le_refl _⟩ | (exfalso; omega)
  all_goals rfl
 ·rw [if_neg hlen]
  repeat' (first | (with_reducible refine use_weak [.lst 1 (([] : BL).map bc) false, .int .i64 m.kd] n1 rfl (views_two (.nil _ _) (.same _)) ?_) | ((with_reducible refine mdraw_know mixed ?chk C ?_); (case chk => decide +kernel)) | (with_reducible refine know_pure hC1 ha ?_) | (with_reducible refine know_pure hC2 hp ?_) | (with_reducible first | refine up hc ?_) | (with_reducible first | (refine wN fun _ hnl => ?_; revert hnl; (repeat refine wS fun _ _ => ?_); intro hnl) | refine wE ?_ | (refine wK ?_ ?_ <;> intro h) | (refine wB ?_ ?_ <;> intro h <;> simp only [h])) | simp (maxSteps := 4000000) (disch := first | decide | assumption | omega | (simp only [wL]; omega)) only [go_sem, simprocAttr, Tryz.f8, FYs, bytesOf_bc, isByte_bc])
  all_goals first | refine ⟨_, St.le_refl _, ?_⟩ | refine ⟨_, St.le_refl _⟩ | (exfalso; omega)
  all_goals rfl
theorem pxenc4 (m : MS) (hs : Sm m) (hg : Rg m.cmd) (k1 : m.kd = 4) (hok : msgOk m = true) : MCalls Tryz.prog 8 [.agg m.c] St.none (fun r _ => r = .tup [.str (bsS (msgE m).1), .int .i64 (msgE m).2]) := by
 refine MCalls.drops (MCalls.body 59 [.tmp 2, .tmp 3] Tryz.func8 rfl rfl rfl rfl ?_)
 have hc := pxcheck_call m hs hg
 rw [hok] at hc
 have e : msgE m = if 4096 < (msgB m).length then ([], 4) else (msgB m, 0) := by unfold msgE; rw [hok, if_pos rfl]
 have hb : msgB m = numB m.kd ++ pageB m.page := by unfold msgB; simp [k1]
 rw [e, hb]
 clear e hb
 have l1 := numB_len m.kd
 have n1 := pnum_call [] false m.kd (by simp)
 rw [List.nil_append] at n1
 have hk : pageOk m.page = true := by rw [msgOk_4 k1] at hok; simp only [Bool.and_eq_true] at hok; exact hok.1
 obtain ⟨hd, hhd⟩ : ∃ h, numB m.kd = h := ⟨_, rfl⟩
 rw [hhd] at n1 l1 ⊢
 clear hok
 have lp := (inferInstance : LB (pageB m.page) 7000).h
 have ha := ppages_call
 have hp := pputpg_call hd (by omega) false m.page hs.i hk
 obtain ⟨b2, hb2⟩ : ∃ b, hd ++ pageB m.page = b := ⟨_, rfl⟩
 have hbl : b2.length ≤ 20000 := by rw [← hb2, List.length_append]; omega
 rw [hb2] at hp ⊢
 obtain ⟨C, hC1, hC2⟩ : ∃ C : Know, C 25 [] = some ⟨[], fun v => v = .agg [fnP 67, fnP 68, fnP 69], none⟩ ∧ C 68 [.lst 1 (hd.map bc) false, .agg m.page.c] = some ⟨[], fun v => v = .lst 1 (b2.map bc) false, none⟩ :=
  ⟨kn [(25, [], ⟨[], fun v => v = .agg [fnP 67, fnP 68, fnP 69], none⟩), (68, [.lst 1 (hd.map bc) false, .agg m.page.c], ⟨[], fun v => v = .lst 1 (b2.map bc) false, none⟩)], kn_hit, kn_skip (fun h => absurd h.1 (by decide)) kn_hit⟩
 clear hb2 hhd
 by_cases hlen : 4096 < b2.length
 ·rw [if_pos hlen]
  repeat' (first | (with_reducible refine use_weak [.lst 1 (([] : BL).map bc) false, .int .i64 m.kd] n1 rfl (views_two (.nil _ _) (.same _)) ?_) | ((with_reducible refine mdraw_know mixed ?chk C ?_); (case chk => decide +kernel)) | (with_reducible refine know_pure hC1 ha ?_) | (with_reducible refine know_pure hC2 hp ?_) | (with_reducible first | refine up hc ?_) | (with_reducible first | (refine wN fun _ hnl => ?_; revert hnl; (repeat refine wS fun _ _ => ?_); intro hnl) | refine wE ?_ | (refine wK ?_ ?_ <;> intro h) | (refine wB ?_ ?_ <;> intro h <;> simp only [h])) | simp (maxSteps := 4000000) (disch := first | decide | assumption | omega | (simp only [wL]; omega)) only [go_sem, simprocAttr, Tryz.f8, FYs, bytesOf_bc, isByte_bc])
  all_goals first | refine ⟨_, St.le_refl _, ?_⟩ | refine ⟨_, St.le_refl _⟩ | (exfalso; omega)
  all_goals rfl
 ·rw [if_neg hlen]
  repeat' (first | (with_reducible refine use_weak [.lst 1 (([] : BL).map bc) false, .int .i64 m.kd] n1 rfl (views_two (.nil _ _) (.same _)) ?_) | ((with_reducible refine mdraw_know mixed ?chk C ?_); (case chk => decide +kernel)) | (with_reducible refine know_pure hC1 ha ?_) | (with_reducible refine know_pure hC2 hp ?_) | (with_reducible first | refine up hc ?_) | (with_reducible first | (refine wN fun _ hnl => ?_; revert hnl; (repeat refine wS fun _ _ => ?_); intro hnl) | refine wE ?_ | (refine wK ?_ ?_ <;> intro h) | (refine wB ?_ ?_ <;> intro h <;> simp only [h])) | simp (maxSteps := 4000000) (disch := first | decide | assumption | omega | (simp only [wL]; omega)) only [go_sem, simprocAttr, Tryz.f8, FYs, bytesOf_bc, isByte_bc])
  all_goals first | refine ⟨_, St.le_refl _, ?_⟩ | refine ⟨_, St.le_refl _⟩ | (exfalso; omega)
  all_goals rfl
theorem pxenc2 (m : MS) (hs : Sm m) (hg : Rg m.cmd) (k1 : m.kd = 2) (hok : msgOk m = true) : MCalls Tryz.prog 8 [.agg m.c] St.none (fun r _ => r = .tup [.str (bsS (msgE m).1), .int .i64 (msgE m).2]) := by
 refine MCalls.drops (MCalls.body 59 [.tmp 2, .tmp 3] Tryz.func8 rfl rfl rfl rfl ?_)
 have hc := pxcheck_call m hs hg
 rw [hok] at hc
 have e : msgE m = if 4096 < (msgB m).length then ([], 4) else (msgB m, 0) := by unfold msgE; rw [hok, if_pos rfl]
 have hb : msgB m = numB m.kd ++ (tokB m.tok ++ numB m.size) := by unfold msgB; simp [k1]
 rw [e, hb]
 clear e hb
 have l1 := numB_len m.kd
 have n1 := pnum_call [] false m.kd (by simp)
 rw [List.nil_append] at n1
 have hk : tokOk m.tok = true := by rw [msgOk_2 k1] at hok; simp only [Bool.and_eq_true] at hok; exact hok.1.1
 obtain ⟨hd, hhd⟩ : ∃ h, numB m.kd = h := ⟨_, rfl⟩
 rw [hhd] at n1 l1 ⊢
 clear hok
 have lp := (inferInstance : LB (tokB m.tok) 24).h
 have l3 := numB_len m.size
 have ha := ptokens_call
 have hp := pputtok_call hd (by omega) false m.tok hk
 have hn := pnum_call (hd ++ tokB m.tok) false m.size (by rw [List.length_append]; omega)
 rw [List.append_assoc] at hn
 obtain ⟨b1, hb1⟩ : ∃ b, hd ++ tokB m.tok = b := ⟨_, rfl⟩
 obtain ⟨b2, hb2⟩ : ∃ b, hd ++ (tokB m.tok ++ numB m.size) = b := ⟨_, rfl⟩
 have hbl : b2.length ≤ 20000 := by rw [← hb2]; simp only [List.length_append]; omega
 rw [hb1] at hn hp
 rw [hb2] at hn ⊢
 obtain ⟨C, hC1, hC2, hC3⟩ : ∃ C : Know, C 23 [] = some ⟨[], fun v => v = .agg [fnP 61, fnP 62, fnP 63], none⟩ ∧ C 62 [.lst 1 (hd.map bc) false, .agg m.tok.c] = some ⟨[], fun v => v = .lst 1 (b1.map bc) false, none⟩ ∧ C 21 [.lst 1 (b1.map bc) false, .int .i64 m.size] = some ⟨[], fun v => v = .lst 1 (b2.map bc) false, none⟩ :=
  ⟨kn [(23, [], ⟨[], fun v => v = .agg [fnP 61, fnP 62, fnP 63], none⟩), (62, [.lst 1 (hd.map bc) false, .agg m.tok.c], ⟨[], fun v => v = .lst 1 (b1.map bc) false, none⟩), (21, [.lst 1 (b1.map bc) false, .int .i64 m.size], ⟨[], fun v => v = .lst 1 (b2.map bc) false, none⟩)], kn_hit, kn_skip (fun h => absurd h.1 (by decide)) kn_hit, kn_skip (fun h => absurd h.1 (by decide)) (kn_skip (fun h => absurd h.1 (by decide)) kn_hit)⟩
 clear hb1 hb2 hhd
 by_cases hlen : 4096 < b2.length
 ·rw [if_pos hlen]
  repeat' (first | (with_reducible refine use_weak [.lst 1 (([] : BL).map bc) false, .int .i64 m.kd] n1 rfl (views_two (.nil _ _) (.same _)) ?_) | ((with_reducible refine mdraw_know mixed ?chk C ?_); (case chk => decide +kernel)) | (with_reducible refine know_pure hC1 ha ?_) | (with_reducible refine know_pure hC2 hp ?_) | (with_reducible refine know_pure hC3 hn ?_) | (with_reducible first | refine up hc ?_) | (with_reducible first | (refine wN fun _ hnl => ?_; revert hnl; (repeat refine wS fun _ _ => ?_); intro hnl) | refine wE ?_ | (refine wK ?_ ?_ <;> intro h) | (refine wB ?_ ?_ <;> intro h <;> simp only [h])) | simp (maxSteps := 4000000) (disch := first | decide | assumption | omega | (simp only [wL]; omega)) only [go_sem, simprocAttr, Tryz.f8, FYs, bytesOf_bc, isByte_bc])
  all_goals first | refine ⟨_, St.le_refl _, ?_⟩ | refine ⟨_, St.le_refl _⟩ | (exfalso; omega)
  all_goals rfl
 ·rw [if_neg hlen]
  repeat' (first | (with_reducible refine use_weak [.lst 1 (([] : BL).map bc) false, .int .i64 m.kd] n1 rfl (views_two (.nil _ _) (.same _)) ?_) | ((with_reducible refine mdraw_know mixed ?chk C ?_); (case chk => decide +kernel)) | (with_reducible refine know_pure hC1 ha ?_) | (with_reducible refine know_pure hC2 hp ?_) | (with_reducible refine know_pure hC3 hn ?_) | (with_reducible first | refine up hc ?_) | (with_reducible first | (refine wN fun _ hnl => ?_; revert hnl; (repeat refine wS fun _ _ => ?_); intro hnl) | refine wE ?_ | (refine wK ?_ ?_ <;> intro h) | (refine wB ?_ ?_ <;> intro h <;> simp only [h])) | simp (maxSteps := 4000000) (disch := first | decide | assumption | omega | (simp only [wL]; omega)) only [go_sem, simprocAttr, Tryz.f8, FYs, bytesOf_bc, isByte_bc])
  all_goals first | refine ⟨_, St.le_refl _, ?_⟩ | refine ⟨_, St.le_refl _⟩ | (exfalso; omega)
  all_goals rfl
theorem pxenc5 (m : MS) (hs : Sm m) (hg : Rg m.cmd) (k1 : m.kd = 5) (hok : msgOk m = true) : MCalls Tryz.prog 8 [.agg m.c] St.none (fun r _ => r = .tup [.str (bsS (msgE m).1), .int .i64 (msgE m).2]) := by
 refine MCalls.drops (MCalls.body 59 [.tmp 2, .tmp 3] Tryz.func8 rfl rfl rfl rfl ?_)
 have hc := pxcheck5 m hs hg k1
 rw [hok] at hc
 have e : msgE m = if 4096 < (msgB m).length then ([], 4) else (msgB m, 0) := by unfold msgE; rw [hok, if_pos rfl]
 have hb : msgB m = numB m.kd ++ numB m.code := by unfold msgB; simp [k1]
 rw [e, hb]
 clear e hb
 have l1 := numB_len m.kd
 have n1 := pnum_call [] false m.kd (by simp)
 rw [List.nil_append] at n1
 obtain ⟨hd, hhd⟩ : ∃ h, numB m.kd = h := ⟨_, rfl⟩
 rw [hhd] at n1 l1 ⊢
 clear hok
 have lp := numB_len m.code
 have hp := pnum_call hd false m.code (by omega)
 obtain ⟨b2, hb2⟩ : ∃ b, hd ++ numB m.code = b := ⟨_, rfl⟩
 have hbl : b2.length ≤ 4096 := by rw [← hb2, List.length_append]; omega
 rw [hb2] at hp ⊢
 rw [if_neg (by omega)]
 clear hb2 hhd
 repeat' (first | (with_reducible refine use_weak [.lst 1 (([] : BL).map bc) false, .int .i64 m.kd] n1 rfl (views_two (.nil _ _) (.same _)) ?_) | (with_reducible first | refine up hc ?_ | refine up hp ?_) | (with_reducible first | (refine wN fun _ hnl => ?_; revert hnl; (repeat refine wS fun _ _ => ?_); intro hnl) | refine wE ?_ | (refine wK ?_ ?_ <;> intro h) | (refine wB ?_ ?_ <;> intro h <;> simp only [h])) | simp (maxSteps := 4000000) (disch := first | decide | assumption | omega | (simp only [wL]; omega)) only [go_sem, simprocAttr, Tryz.f8, FYs, bytesOf_bc, isByte_bc])
 all_goals first | refine ⟨_, St.le_refl _, ?_⟩ | refine ⟨_, St.le_refl _⟩ | (exfalso; omega)
 all_goals rfl
theorem pxenc_call (m : MS) (hs : Sm m) (hg : Rg m.cmd) : MCalls Tryz.prog 8 [.agg m.c] St.none (fun r _ => r = .tup [.str (bsS (msgE m).1), .int .i64 (msgE m).2]) := by
 cases hok : msgOk m
 ·have e : msgE m = ([], 1) := by unfold msgE; rw [hok]; rfl
  rw [e]
  refine MCalls.drops (MCalls.body 59 [.tmp 2, .tmp 3] Tryz.func8 rfl rfl rfl rfl ?_)
  have hc := pxcheck_call m hs hg
  rw [hok] at hc
  repeat' (first | (with_reducible first | refine up hc ?_) | (with_reducible first | (refine wN fun _ hnl => ?_; revert hnl; (repeat refine wS fun _ _ => ?_); intro hnl) | refine wE ?_ | (refine wK ?_ ?_ <;> intro h) | (refine wB ?_ ?_ <;> intro h <;> simp only [h])) | simp (maxSteps := 4000000) (disch := first | decide | assumption | omega | (simp only [wL]; omega)) only [go_sem, simprocAttr, Tryz.f8, FYs])
  all_goals first | refine ⟨_, St.le_refl _, ?_⟩ | refine ⟨_, St.le_refl _⟩
  all_goals rfl
 ·by_cases k1 : m.kd = 1
  ·exact pxenc1 m hs hg k1 hok
  by_cases k2 : m.kd = 2
  ·exact pxenc2 m hs hg k2 hok
  by_cases k3 : m.kd = 3
  ·exact pxenc3 m hs hg k3 hok
  by_cases k4 : m.kd = 4
  ·exact pxenc4 m hs hg k4 hok
  by_cases k5 : m.kd = 5
  ·exact pxenc5 m hs hg k5 hok
  ·rw [msgOk_o k1 k2 k3 k4 k5] at hok
   cases hok
end Go.Proofs.YtfbodefnblpflaaGreatDoor
end
