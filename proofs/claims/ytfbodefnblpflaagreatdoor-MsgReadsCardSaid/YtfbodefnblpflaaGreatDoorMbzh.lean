/- Parts of the proof, joined. Each part says what it proves, and under which conditions it does: those that its theorems name. -/
import Derived.Test.YtfbodefnblpflaaGreatDoorMbzg
set_option linter.unusedVariables false
set_option linter.unusedSimpArgs false
set_option maxHeartbeats 4000000
section
namespace Go.Proofs.YtfbodefnblpflaaGreatDoor
set_option maxRecDepth 100000
set_option maxHeartbeats 4000000
theorem cmdR_0 {r : RD} {k : Int × RD} (hk : fromR 1 5 r = k) (h0 : k.1 = 0) (he : k.2.e ≠ 0) : cmdR r = (cm0, k.2) := by
 have e : cmdR r = okR cm0 ({ cm0 with kd := 0, dev := (numR 5 k.2).1, req := (fromR 1 big (numR 5 k.2).2).1 }, (fromR 1 big (numR 5 k.2).2).2) := by
  simp [cmdR, hk, h0]
 rw [e, numR_stk he]
 simp only [fromR_stk he]
 exact okR_n he
theorem use_lk {P : Program} {g : FuncId} {ms : List MV} {l k a b : Nat} {o o' oa ob ok ok' : MObj} {r : MV} {kk : MV → St → Prop} (ha : a ≠ l) (hb : b ≠ l) (hba : b ≠ a) (hk : k ≠ l) (hka : k ≠ a) (hkb : k ≠ b)
  (h : MCalls P g ms ((St.none.set l o).set k ok) fun v σ' => v = r ∧ σ' = (St.none.set l o').set k ok') (hk' : R (mlet r ((((St.none.set l o').set a oa).set b ob).set k ok') kk)) : R (mcallE P g ms ((((St.none.set l o).set a oa).set b ob).set k ok) kk) := by
 refine use_frame h (St.set_le (St.set_le (St.none_le _) ?_) ?_) ?_
 ·simp [St.set, Ne.symm ha, Ne.symm hb, Ne.symm hk]
 ·simp [St.set]
 ·rintro v σ' ⟨rfl, rfl⟩ -
  have e : ((St.none.set l o').set k ok').over (((((St.none.set l o).set a oa).set b ob).set k ok).minus ((St.none.set l o).set k ok)) = (((St.none.set l o').set a oa).set b ob).set k ok' := by
   funext j
   by_cases j1 : j = k
   ·subst j1; simp [St.over, St.set]
   ·by_cases j2 : j = l
    ·subst j2; simp [St.over, St.set, Ne.symm ha, Ne.symm hb, j1]
    ·simp [St.over, St.minus, St.set, St.none, j1, j2]
  rw [e]
  exact hk'
theorem pcmdR0 {bs : BL} [hb : Few bs] (r : RD) [hs : Sfx bs r] (l : Nat) (k2 : RD) (hk : fromR 1 5 r = (0, k2)) (he : k2.e ≠ 0) : MCalls Tryz.prog 60 [.ptr l 0 0] (St.none.set l (rP bs r)) (fun v σ' => v = .agg (cmdR r).1.c ∧ σ' = St.none.set l (rP bs (cmdR r).2)) := by
 refine MCalls.seenO (MCalls.body 25 [.cell 2 32] Tryz.func60 rfl rfl rfl rfl ?_)
 have h1 := pcabove_call 5 (bs := bs) r l
 haveI hs1 : Sfx bs (fromR 1 5 r).2 := inferInstance
 have e := cmdR_0 hk rfl he
 rw [hk] at h1 hs1
 have h2 := pRErr_call (bs := bs) k2 l
 rw [e]
 clear e hk
 repeat' (first | (with_reducible (refine wQ ?_; first | refine uR (h1 ..) ?_ | refine uR (h2 ..) ?_)) | (with_reducible first | (refine wN fun _ hnl => ?_; revert hnl; (repeat refine wS fun _ _ => ?_); intro hnl) | refine wE ?_ | (refine wK ?_ ?_ <;> intro h) | (refine wB ?_ ?_ <;> intro h <;> simp only [h])) | simp (maxSteps := 4000000) (disch := first | decide | assumption | omega | (simp only [wL]; omega)) only [go_sem, simprocAttr, Tryz.f60, FYs, Option.getD_none, Option.getD_some, List.headD_cons])
 exact vcm (c := cm0) (.nil _ _)
theorem pcmdR1 {bs : BL} [hb : Few bs] (r : RD) [hs : Sfx bs r] (l : Nat) (k2 : RD) (hk : fromR 1 5 r = (1, k2)) : MCalls Tryz.prog 60 [.ptr l 0 0] (St.none.set l (rP bs r)) (fun v σ' => v = .agg (cmdR r).1.c ∧ σ' = St.none.set l (rP bs (cmdR r).2)) := by
 refine MCalls.seenO (MCalls.body 25 [.cell 2 32] Tryz.func60 rfl rfl rfl rfl ?_)
 have h1 := pcabove_call 5 (bs := bs) r l
 haveI hs1 : Sfx bs (fromR 1 5 r).2 := inferInstance
 rw [hk] at h1 hs1
 have h3 := pedit1_call (bs := bs) k2 1 l
 haveI hs2 : Sfx bs (editR k2).2 := inferInstance
 obtain ⟨x, hx⟩ : ∃ x, editR k2 = x := ⟨_, rfl⟩
 rw [hx] at h3 hs2
 have e : cmdR r = okR cm0 ({ cm0 with kd := 1, e := x.1 }, x.2) := by simp [cmdR, big, idMax, hk, hx]
 rw [e]
 clear e hk hx
 have h2 := pRErr_call (bs := bs) x.2 l
 have hrec := fun (σ : St) => vcm (σ := σ) (c := { cm0 with kd := 1, e := x.1 }) (.nil _ _)
 simp only [CM.c, CM.k, cm0, ed0, pa0, u32z] at hrec
 by_cases he : x.2.e = 0
 ·rw [okR_y he]
  repeat' (first | (with_reducible refine use_lk (by assumption) (by assumption) (by assumption) (by assumption) (by assumption) (by assumption) (h3 _ (by assumption)) ?_) | (with_reducible (refine wQ ?_; first | refine uR (h1 ..) ?_ | refine uR (h2 ..) ?_)) | (with_reducible first | (refine wN fun _ hnl => ?_; revert hnl; (repeat refine wS fun _ _ => ?_); intro hnl) | refine wE ?_ | (refine wK ?_ ?_ <;> intro h) | (refine wB ?_ ?_ <;> intro h <;> simp only [h])) | simp (maxSteps := 4000000) (disch := first | decide | assumption | omega | (simp only [wL]; omega)) only [go_sem, simprocAttr, Tryz.f60, FYs, Option.getD_none, Option.getD_some, List.headD_cons])
  all_goals (try (exfalso; omega))
  all_goals exact hrec _
 ·rw [okR_n he]
  clear hrec
  repeat' (first | (with_reducible refine use_lk (by assumption) (by assumption) (by assumption) (by assumption) (by assumption) (by assumption) (h3 _ (by assumption)) ?_) | (with_reducible (refine wQ ?_; first | refine uR (h1 ..) ?_ | refine uR (h2 ..) ?_)) | (with_reducible first | (refine wN fun _ hnl => ?_; revert hnl; (repeat refine wS fun _ _ => ?_); intro hnl) | refine wE ?_ | (refine wK ?_ ?_ <;> intro h) | (refine wB ?_ ?_ <;> intro h <;> simp only [h])) | simp (maxSteps := 4000000) (disch := first | decide | assumption | omega | (simp only [wL]; omega)) only [go_sem, simprocAttr, Tryz.f60, FYs, Option.getD_none, Option.getD_some, List.headD_cons])
  all_goals (try (exfalso; omega))
  all_goals exact vcm (c := cm0) (.nil _ _)
theorem pcmdR5 {bs : BL} [hb : Few bs] (r : RD) [hs : Sfx bs r] (l : Nat) (k2 : RD) (hk : fromR 1 5 r = (5, k2)) : MCalls Tryz.prog 60 [.ptr l 0 0] (St.none.set l (rP bs r)) (fun v σ' => v = .agg (cmdR r).1.c ∧ σ' = St.none.set l (rP bs (cmdR r).2)) := by
 refine MCalls.seenO (MCalls.body 25 [.cell 2 32] Tryz.func60 rfl rfl rfl rfl ?_)
 have h1 := pcabove_call 5 (bs := bs) r l
 haveI hs1 : Sfx bs (fromR 1 5 r).2 := inferInstance
 rw [hk] at h1 hs1
 have h3 := ptrim_call (bs := bs) k2 5 l
 haveI hs2 : Sfx bs (numR 1099511627776 k2).2 := inferInstance
 obtain ⟨x, hx⟩ : ∃ x, numR 1099511627776 k2 = x := ⟨_, rfl⟩
 rw [hx] at h3 hs2
 have e : cmdR r = okR cm0 ({ cm0 with kd := 5, keep := x.1 }, x.2) := by simp [cmdR, big, idMax, hk, hx]
 rw [e]
 clear e hk hx
 have h2 := pRErr_call (bs := bs) x.2 l
 have hrec := fun (σ : St) => vcm (σ := σ) (c := { cm0 with kd := 5, keep := x.1 }) (.nil _ _)
 simp only [CM.c, CM.k, cm0, ed0, pa0, u32z] at hrec
 by_cases he : x.2.e = 0
 ·rw [okR_y he]
  repeat' (first | (with_reducible refine use_lk (by assumption) (by assumption) (by assumption) (by assumption) (by assumption) (by assumption) (h3 _ (by assumption)) ?_) | (with_reducible (refine wQ ?_; first | refine uR (h1 ..) ?_ | refine uR (h2 ..) ?_)) | (with_reducible first | (refine wN fun _ hnl => ?_; revert hnl; (repeat refine wS fun _ _ => ?_); intro hnl) | refine wE ?_ | (refine wK ?_ ?_ <;> intro h) | (refine wB ?_ ?_ <;> intro h <;> simp only [h])) | simp (maxSteps := 4000000) (disch := first | decide | assumption | omega | (simp only [wL]; omega)) only [go_sem, simprocAttr, Tryz.f60, FYs, Option.getD_none, Option.getD_some, List.headD_cons])
  all_goals (try (exfalso; omega))
  all_goals exact hrec _
 ·rw [okR_n he]
  clear hrec
  repeat' (first | (with_reducible refine use_lk (by assumption) (by assumption) (by assumption) (by assumption) (by assumption) (by assumption) (h3 _ (by assumption)) ?_) | (with_reducible (refine wQ ?_; first | refine uR (h1 ..) ?_ | refine uR (h2 ..) ?_)) | (with_reducible first | (refine wN fun _ hnl => ?_; revert hnl; (repeat refine wS fun _ _ => ?_); intro hnl) | refine wE ?_ | (refine wK ?_ ?_ <;> intro h) | (refine wB ?_ ?_ <;> intro h <;> simp only [h])) | simp (maxSteps := 4000000) (disch := first | decide | assumption | omega | (simp only [wL]; omega)) only [go_sem, simprocAttr, Tryz.f60, FYs, Option.getD_none, Option.getD_some, List.headD_cons])
  all_goals (try (exfalso; omega))
  all_goals exact vcm (c := cm0) (.nil _ _)
theorem pcmdR4 {bs : BL} [hb : Few bs] (r : RD) [hs : Sfx bs r] (l : Nat) (k2 : RD) (hk : fromR 1 5 r = (4, k2)) : MCalls Tryz.prog 60 [.ptr l 0 0] (St.none.set l (rP bs r)) (fun v σ' => v = .agg (cmdR r).1.c ∧ σ' = St.none.set l (rP bs (cmdR r).2)) := by
 refine MCalls.seenO (MCalls.body 25 [.cell 2 32] Tryz.func60 rfl rfl rfl rfl ?_)
 have h1 := pcabove_call 5 (bs := bs) r l
 haveI hs1 : Sfx bs (fromR 1 5 r).2 := inferInstance
 rw [hk] at h1 hs1
 have h3 := prequest_call (bs := bs) k2 4 l
 haveI hs2 : Sfx bs (numR 5 k2).2 := inferInstance
 obtain ⟨d, hd⟩ : ∃ d, numR 5 k2 = d := ⟨_, rfl⟩
 rw [hd] at hs2 h3
 haveI hs3 : Sfx bs (fromR 1 1099511627776 d.2).2 := inferInstance
 obtain ⟨q, hq⟩ : ∃ q, fromR 1 1099511627776 d.2 = q := ⟨_, rfl⟩
 rw [hq] at hs3 h3
 have e : cmdR r = okR cm0 ({ cm0 with kd := 4, dev := d.1, req := q.1 }, q.2) := by simp [cmdR, big, idMax, hk, hd, hq]
 rw [e]
 clear e hk hd hq
 have h2 := pRErr_call (bs := bs) q.2 l
 have hrec := fun (σ : St) => vcm (σ := σ) (c := { cm0 with kd := 4, dev := d.1, req := q.1 }) (.nil _ _)
 simp only [CM.c, CM.k, cm0, ed0, pa0, u32z] at hrec
 by_cases he : q.2.e = 0
 ·rw [okR_y he]
  repeat' (first | (with_reducible refine use_lk (by assumption) (by assumption) (by assumption) (by assumption) (by assumption) (by assumption) (h3 _ (by assumption)) ?_) | (with_reducible (refine wQ ?_; first | refine uR (h1 ..) ?_ | refine uR (h2 ..) ?_)) | (with_reducible first | (refine wN fun _ hnl => ?_; revert hnl; (repeat refine wS fun _ _ => ?_); intro hnl) | refine wE ?_ | (refine wK ?_ ?_ <;> intro h) | (refine wB ?_ ?_ <;> intro h <;> simp only [h])) | simp (maxSteps := 4000000) (disch := first | decide | assumption | omega | (simp only [wL]; omega)) only [go_sem, simprocAttr, Tryz.f60, FYs, Option.getD_none, Option.getD_some, List.headD_cons])
  all_goals (try (exfalso; omega))
  all_goals exact hrec _
 ·rw [okR_n he]
  clear hrec
  repeat' (first | (with_reducible refine use_lk (by assumption) (by assumption) (by assumption) (by assumption) (by assumption) (by assumption) (h3 _ (by assumption)) ?_) | (with_reducible (refine wQ ?_; first | refine uR (h1 ..) ?_ | refine uR (h2 ..) ?_)) | (with_reducible first | (refine wN fun _ hnl => ?_; revert hnl; (repeat refine wS fun _ _ => ?_); intro hnl) | refine wE ?_ | (refine wK ?_ ?_ <;> intro h) | (refine wB ?_ ?_ <;> intro h <;> simp only [h])) | simp (maxSteps := 4000000) (disch := first | decide | assumption | omega | (simp only [wL]; omega)) only [go_sem, simprocAttr, Tryz.f60, FYs, Option.getD_none, Option.getD_some, List.headD_cons])
  all_goals (try (exfalso; omega))
  all_goals exact vcm (c := cm0) (.nil _ _)
theorem pcmdR3 {bs : BL} [hb : Few bs] (r : RD) [hs : Sfx bs r] (l : Nat) (k2 : RD) (hk : fromR 1 5 r = (3, k2)) : MCalls Tryz.prog 60 [.ptr l 0 0] (St.none.set l (rP bs r)) (fun v σ' => v = .agg (cmdR r).1.c ∧ σ' = St.none.set l (rP bs (cmdR r).2)) := by
 refine MCalls.seenO (MCalls.body 25 [.cell 2 32] Tryz.func60 rfl rfl rfl rfl ?_)
 have h1 := pcabove_call 5 (bs := bs) r l
 haveI hs1 : Sfx bs (fromR 1 5 r).2 := inferInstance
 rw [hk] at h1 hs1
 haveI hs2 : Sfx bs (numR 5 k2).2 := inferInstance
 obtain ⟨d, hd⟩ : ∃ d, numR 5 k2 = d := ⟨_, rfl⟩
 rw [hd] at hs2
 haveI hs3 : Sfx bs (fromR 1 1099511627776 d.2).2 := inferInstance
 obtain ⟨q, hq⟩ : ∃ q, fromR 1 1099511627776 d.2 = q := ⟨_, rfl⟩
 rw [hq] at hs3
 haveI hs4 : Sfx bs (predR q.2).2 := inferInstance
 obtain ⟨f, hf⟩ : ∃ f, predR q.2 = f := ⟨_, rfl⟩
 rw [hf] at hs4
 haveI hs5 : Sfx bs (numR 511 f.2).2 := inferInstance
 obtain ⟨m, hm⟩ : ∃ m, numR 511 f.2 = m := ⟨_, rfl⟩
 rw [hm] at hs5
 have h3 := fun k hlk => psubs_call (bs := bs) k2 3 l k hlk d q m f hd hq hf hm
 have e : cmdR r = okR cm0 ({ cm0 with kd := 3, dev := d.1, req := q.1, fl := f.1, mask := UInt32.ofNat m.1.toNat }, m.2) := by simp [cmdR, big, idMax, hk, hd, hq, hf, hm]
 rw [e]
 clear e hk hd hq hf hm
 have h2 := pRErr_call (bs := bs) m.2 l
 have hrec := fun (σ : St) => vcm (σ := σ) (c := { cm0 with kd := 3, dev := d.1, req := q.1, fl := f.1, mask := UInt32.ofNat m.1.toNat }) (.same _)
 simp only [CM.c, CM.k, cm0, ed0, pa0, u32z] at hrec
 by_cases he : m.2.e = 0
 ·rw [okR_y he]
  repeat' (first | (with_reducible refine use_lk (by assumption) (by assumption) (by assumption) (by assumption) (by assumption) (by assumption) (h3 _ (by assumption)) ?_) | (with_reducible (refine wQ ?_; first | refine uR (h1 ..) ?_ | refine uR (h2 ..) ?_)) | (with_reducible first | (refine wN fun _ hnl => ?_; revert hnl; (repeat refine wS fun _ _ => ?_); intro hnl) | refine wE ?_ | (refine wK ?_ ?_ <;> intro h) | (refine wB ?_ ?_ <;> intro h <;> simp only [h])) | simp (maxSteps := 4000000) (disch := first | decide | assumption | omega | (simp only [wL]; omega)) only [go_sem, simprocAttr, Tryz.f60, FYs, Option.getD_none, Option.getD_some, List.headD_cons])
  all_goals (try (exfalso; omega))
  all_goals exact hrec _
 ·rw [okR_n he]
  clear hrec
  repeat' (first | (with_reducible refine use_lk (by assumption) (by assumption) (by assumption) (by assumption) (by assumption) (by assumption) (h3 _ (by assumption)) ?_) | (with_reducible (refine wQ ?_; first | refine uR (h1 ..) ?_ | refine uR (h2 ..) ?_)) | (with_reducible first | (refine wN fun _ hnl => ?_; revert hnl; (repeat refine wS fun _ _ => ?_); intro hnl) | refine wE ?_ | (refine wK ?_ ?_ <;> intro h) | (refine wB ?_ ?_ <;> intro h <;> simp only [h])) | simp (maxSteps := 4000000) (disch := first | decide | assumption | omega | (simp only [wL]; omega)) only [go_sem, simprocAttr, Tryz.f60, FYs, Option.getD_none, Option.getD_some, List.headD_cons])
  all_goals (try (exfalso; omega))
  all_goals exact vcm (c := cm0) (.nil _ _)
theorem pcmdR2 {bs : BL} [hb : Few bs] (r : RD) [hs : Sfx bs r] (l : Nat) (k2 : RD) (hk : fromR 1 5 r = (2, k2)) : MCalls Tryz.prog 60 [.ptr l 0 0] (St.none.set l (rP bs r)) (fun v σ' => v = .agg (cmdR r).1.c ∧ σ' = St.none.set l (rP bs (cmdR r).2)) := by
 refine MCalls.seenO (MCalls.body 25 [.cell 2 32] Tryz.func60 rfl rfl rfl rfl ?_)
 have h1 := pcabove_call 5 (bs := bs) r l
 haveI hs1 : Sfx bs (fromR 1 5 r).2 := inferInstance
 rw [hk] at h1 hs1
 haveI hs2 : Sfx bs (numR 5 k2).2 := inferInstance
 obtain ⟨d, hd⟩ : ∃ d, numR 5 k2 = d := ⟨_, rfl⟩
 rw [hd] at hs2
 haveI hs3 : Sfx bs (fromR 1 1099511627776 d.2).2 := inferInstance
 obtain ⟨q, hq⟩ : ∃ q, fromR 1 1099511627776 d.2 = q := ⟨_, rfl⟩
 rw [hq] at hs3
 haveI hs4 : Sfx bs (fromR 1 1073741823 q.2).2 := inferInstance
 obtain ⟨i, hi⟩ : ∃ i, fromR 1 1073741823 q.2 = i := ⟨_, rfl⟩
 rw [hi] at hs4
 haveI hs5 : Sfx bs (fromR 1 1099511627776 i.2).2 := inferInstance
 obtain ⟨b, hbb⟩ : ∃ b, fromR 1 1099511627776 i.2 = b := ⟨_, rfl⟩
 rw [hbb] at hs5
 haveI hs6 : Sfx bs (patchR b.2).2 := inferInstance
 obtain ⟨x, hx⟩ : ∃ x, patchR b.2 = x := ⟨_, rfl⟩
 rw [hx] at hs6
 have h3 := fun k hlk => pwrite_call (bs := bs) k2 2 l k hlk d q i b x hd hq hi hbb hx
 have ey : okR cm0 (({ cm0 with kd := 2, dev := d.1, req := q.1, id := i.1, base := b.1, p := (mayR b.2).1 } : CM), (mayR b.2).2) = okR cm0 ({ cm0 with kd := 2, dev := d.1, req := q.1, id := i.1, base := b.1, p := x.1 }, if patchErr x.1 = 0 then x.2 else failR 3 x.2) := by
  unfold mayR okR
  simp only [hx]
  by_cases h : (if patchErr x.1 = 0 then x.2 else failR 3 x.2).e = 0
  ·simp [h]
  ·simp [h]
 obtain ⟨y, hy⟩ : ∃ y, (if patchErr x.1 = 0 then x.2 else failR 3 x.2) = y := ⟨_, rfl⟩
 haveI hs7 : Sfx bs y := by rw [← hy]; split <;> infer_instance
 rw [hy] at h3 ey
 have e : cmdR r = okR cm0 ({ cm0 with kd := 2, dev := d.1, req := q.1, id := i.1, base := b.1, p := x.1 }, y) := by rw [← ey]; simp [cmdR, big, idMax, hk, hd, hq, hi, hbb]
 rw [e]
 clear e hk hd hq hi hbb ey hx hy
 have h2 := pRErr_call (bs := bs) y l
 have hrec := fun (σ : St) => vcm (σ := σ) (c := { cm0 with kd := 2, dev := d.1, req := q.1, id := i.1, base := b.1, p := x.1 }) (.nil _ _)
 simp only [CM.c, CM.k, cm0, ed0, pa0, u32z] at hrec
 by_cases he : y.e = 0
 ·rw [okR_y he]
  repeat' (first | (with_reducible refine use_lk (by assumption) (by assumption) (by assumption) (by assumption) (by assumption) (by assumption) (h3 _ (by assumption)) ?_) | (with_reducible (refine wQ ?_; first | refine uR (h1 ..) ?_ | refine uR (h2 ..) ?_)) | (with_reducible first | (refine wN fun _ hnl => ?_; revert hnl; (repeat refine wS fun _ _ => ?_); intro hnl) | refine wE ?_ | (refine wK ?_ ?_ <;> intro h) | (refine wB ?_ ?_ <;> intro h <;> simp only [h])) | simp (maxSteps := 4000000) (disch := first | decide | assumption | omega | (simp only [wL]; omega)) only [go_sem, simprocAttr, Tryz.f60, FYs, Option.getD_none, Option.getD_some, List.headD_cons])
  all_goals (try (exfalso; omega))
  all_goals exact hrec _
 ·rw [okR_n he]
  clear hrec
  repeat' (first | (with_reducible refine use_lk (by assumption) (by assumption) (by assumption) (by assumption) (by assumption) (by assumption) (h3 _ (by assumption)) ?_) | (with_reducible (refine wQ ?_; first | refine uR (h1 ..) ?_ | refine uR (h2 ..) ?_)) | (with_reducible first | (refine wN fun _ hnl => ?_; revert hnl; (repeat refine wS fun _ _ => ?_); intro hnl) | refine wE ?_ | (refine wK ?_ ?_ <;> intro h) | (refine wB ?_ ?_ <;> intro h <;> simp only [h])) | simp (maxSteps := 4000000) (disch := first | decide | assumption | omega | (simp only [wL]; omega)) only [go_sem, simprocAttr, Tryz.f60, FYs, Option.getD_none, Option.getD_some, List.headD_cons])
  all_goals (try (exfalso; omega))
  all_goals exact vcm (c := cm0) (.nil _ _)
theorem pcmdR_call {bs : BL} [hb : Few bs] (r : RD) [hs : Sfx bs r] (l : Nat) : MCalls Tryz.prog 60 [.ptr l 0 0] (St.none.set l (rP bs r)) (fun v σ' => v = .agg (cmdR r).1.c ∧ σ' = St.none.set l (rP bs (cmdR r).2)) := by
 have hr1 := (numR_rng 5 r).1
 have hr2 := numR_most (most := 5) (by decide) r
 obtain ⟨k, i, hk, hfi, his, hki, hk0, hk1⟩ := pfrom_two (bs := bs) 5 r l
 rw [hk] at hr1 hr2
 obtain ⟨i1, i2⟩ := i
 simp only at hki hk0 hk1 hfi
 have h6 : i1 = 0 ∨ i1 = 1 ∨ i1 = 2 ∨ i1 = 3 ∨ i1 = 4 ∨ i1 = 5 := by omega
 rcases h6 with rfl | rfl | rfl | rfl | rfl | rfl
 ·exact pcmdR0 r l i2 hfi (hk0 hki).2
 ·exact pcmdR1 r l i2 hfi
 ·exact pcmdR2 r l i2 hfi
 ·exact pcmdR3 r l i2 hfi
 ·exact pcmdR4 r l i2 hfi
 ·exact pcmdR5 r l i2 hfi
end Go.Proofs.YtfbodefnblpflaaGreatDoor
end

section
namespace Go.Proofs.YtfbodefnblpflaaGreatDoor
set_option maxRecDepth 100000
set_option maxHeartbeats 4000000
theorem cardR_err {r : RD} (h : r.e ≠ 0) : cardR r = (ca0, r) := by
 have h2 := cardR_sk.stk r h
 have h1 : (cardR r).1 = ca0 := by
  have h3 : (cardR r).2.e ≠ 0 := by rw [h2]; exact h
  unfold cardR at h3 ⊢
  unfold okR at h3 ⊢
  simp only at h3 ⊢
  split at h3
  ·contradiction
  ·rename_i hn
   rw [if_neg hn]
 exact Prod.ext h1 h2
theorem pitemR_call {bs : BL} [hb : Few bs] (r : RD) [hs : Sfx bs r] (l : Nat) : MCalls Tryz.prog 125 [.ptr l 0 0] (St.none.set l (rP bs r)) (fun v σ' => v = .agg (IT.k (itemR r).1) ∧ σ' = St.none.set l (rP bs (itemR r).2)) := by
 refine MCalls.obj (MCalls.body 23 [.cell 2 119] Tryz.func125 rfl rfl rfl rfl ?_)
 have h1 := pRNum_call 3 (bs := bs) r l
 have hr := (numR_rng 3 r).1
 obtain ⟨k, a, hk, hfa, has, hka, hk0, hk1⟩ := pfrom_two (bs := bs) 3 r l
 rw [hk] at h1 hr
 have h2 := pRFail_call 3 (bs := bs) k.2 l
 have h3 := pRNum_call 1073741823 (bs := bs) a.2 l
 have h4 := pcardR_call (bs := bs) a.2 l
 obtain ⟨k1, k2⟩ := k
 obtain ⟨a1, a2⟩ := a
 simp only at hr hka hk0 hk1 h1 h2 h3 h4
 subst hka
 by_cases h0 : k1 = 0
 ·obtain ⟨hf1, hf2⟩ := hk0 h0
  rw [hf1] at h2
  have e : itemR r = (⟨0, ca0⟩, a2) := by
   simp [itemR, hfa, h0, cardR_err hf2]
  rw [e]
  clear e hfa hk hk0 hk1 hf1 h3 h4
  repeat' (first | (with_reducible (refine wQ ?_; first | refine uR (h1 ..) ?_ | refine uR (h2 ..) ?_)) | (with_reducible first | (refine wN fun _ hnl => ?_; revert hnl; (repeat refine wS fun _ _ => ?_); intro hnl) | refine wE ?_ | (refine wK ?_ ?_ <;> intro h) | (refine wB ?_ ?_ <;> intro h <;> simp only [h])) | simp (maxSteps := 4000000) (disch := first | decide | assumption | omega | (simp only [wL]; omega)) only [go_sem, simprocAttr, Tryz.f125, FXs, h0])
  all_goals (try (exfalso; omega))
  all_goals simp [ca0, h0]
 ·have := (hk1 h0).symm
  subst this
  by_cases hk2 : k1 = 2
  ·have e : itemR r = (⟨2, { ca0 with id := (numR 1073741823 a2).1 }⟩, (numR 1073741823 a2).2) := by
    simp [itemR, hfa, hk2, idMax]
   rw [e]
   clear e hfa hk hk0 hk1 h2 h4
   repeat' (first | (with_reducible (refine wQ ?_; first | refine uR (h1 ..) ?_ | refine uR (h3 ..) ?_)) | (with_reducible first | (refine wN fun _ hnl => ?_; revert hnl; (repeat refine wS fun _ _ => ?_); intro hnl) | refine wE ?_ | (refine wK ?_ ?_ <;> intro h) | (refine wB ?_ ?_ <;> intro h <;> simp only [h])) | simp (maxSteps := 4000000) (disch := first | decide | assumption | omega | (simp only [wL]; omega)) only [go_sem, simprocAttr, Tryz.f125, FXs])
   all_goals (try (exfalso; omega))
   all_goals simp [ca0, hk2]
  ·have e : itemR r = (⟨k1, (cardR a2).1⟩, (cardR a2).2) := by
    simp [itemR, hfa, hk2]
   rw [e]
   clear e hfa hk hk0 hk1 h2 h3
   repeat' (first | (with_reducible (refine wQ ?_; first | refine uR (h1 ..) ?_ | refine uR (h4 ..) ?_)) | (with_reducible first | (refine wN fun _ hnl => ?_; revert hnl; (repeat refine wS fun _ _ => ?_); intro hnl) | refine wE ?_ | (refine wK ?_ ?_ <;> intro h) | (refine wB ?_ ?_ <;> intro h <;> simp only [h])) | simp (maxSteps := 4000000) (disch := first | decide | assumption | omega | (simp only [wL]; omega)) only [go_sem, simprocAttr, Tryz.f125, FXs])
   all_goals (try (exfalso; omega))
   all_goals simp
theorem flagR_err {r : RD} (h : r.e ≠ 0) : flagR r = (false, r) := by unfold flagR; rw [if_neg h]
theorem tokR_err {r : RD} (h : r.e ≠ 0) : tokR r = (tk0, r) := by
 have h2 := tokR_sk.stk r h
 have h1 : (tokR r).1 = tk0 := by
  have h3 : (tokR r).2.e ≠ 0 := by rw [h2]; exact h
  unfold tokR at h3 ⊢
  unfold okR at h3 ⊢
  simp only at h3 ⊢
  split at h3
  ·contradiction
  ·rename_i hn
   rw [if_neg hn]
 exact Prod.ext h1 h2
theorem pageR_f {r : RD} {c n : Int × RD} {f t : TO × RD} {ss : RD} {T : List IT × RD} (hc : numR 16 r = c) (hf : tokR c.2 = f) (hs : flagR f.2 = (false, ss)) (ht : tokR ss = t) (hn : numR 16 t.2 = n) (hT : listR itemR n.1.toNat ([], n.2) = T) (h0 : c.1 = 0) :
  pageR r = okR pg0 (⟨0, false, f.1, t.1, T.1⟩, if pageOk ⟨0, false, f.1, t.1, T.1⟩ = true then T.2 else failR 3 T.2) := by
 by_cases he : f.2.e = 0
 ·by_cases hz : t.2.e = 0
  ·simp [pageR, hc, hf, h0, he, hs, ht, hz, hn, hT]
  ·have h1 := numR_zero (most := 16) (r := t.2) (by rw [(numR_sk 16).stk _ hz]; exact hz)
   have h2 := (numR_sk 16).stk _ hz
   rw [hn] at h1 h2
   rw [h1, h2, show Int.toNat 0 = 0 from rfl] at hT
   simp [pageR, hc, hf, h0, he, hs, ht, hz, hT]
 ·rw [flagR_err he, Prod.mk.injEq] at hs
  obtain ⟨-, rfl⟩ := hs
  rw [tokR_err he] at ht
  subst ht
  have h1 := numR_zero (most := 16) (r := f.2) (by rw [(numR_sk 16).stk _ he]; exact he)
  have h2 := (numR_sk 16).stk _ he
  rw [hn] at h1 h2
  rw [h1, h2, show Int.toNat 0 = 0 from rfl] at hT
  simp [pageR, hc, hf, h0, he, hT]
theorem pageR_t {r : RD} {c : Int × RD} {f t : TO × RD} {ss : RD} (hc : numR 16 r = c) (hf : tokR c.2 = f) (hs : flagR f.2 = (true, ss)) (ht : tokR ss = t) (h0 : c.1 = 0) :
  pageR r = okR pg0 (⟨0, true, f.1, t.1, []⟩, if pageOk ⟨0, true, f.1, t.1, []⟩ = true then t.2 else failR 3 t.2) := by
 by_cases he : f.2.e = 0
 ·simp [pageR, hc, hf, h0, he, hs, ht, listR]
 ·rw [flagR_err he, Prod.mk.injEq] at hs
  exact absurd hs.1 (by decide)
theorem pageR_n {r : RD} {c : Int × RD} {f : TO × RD} (hc : numR 16 r = c) (hf : tokR c.2 = f) (h0 : c.1 ≠ 0) :
  pageR r = okR pg0 (⟨c.1, false, f.1, tk0, []⟩, if pageOk ⟨c.1, false, f.1, tk0, []⟩ = true then f.2 else failR 3 f.2) := by
 simp [pageR, hc, hf, h0, listR]
theorem ppageR_call {bs : BL} [hb : Few bs] (r : RD) [hs : Sfx bs r] (l : Nat) : MCalls Tryz.prog 69 [.ptr l 0 0] (St.none.set l (rP bs r)) (fun v σ' => v = .agg (pageR r).1.c ∧ σ' = St.none.set l (rP bs (pageR r).2)) := by
 refine MCalls.seenO (MCalls.body 44 [.cell 2 40] Tryz.func69 rfl rfl rfl rfl ?_)
 have h1 := pRNum_call 16 (bs := bs) r l
 haveI hcs : Sfx bs (numR 16 r).2 := inferInstance
 obtain ⟨c, hc⟩ : ∃ c, numR 16 r = c := ⟨_, rfl⟩
 rw [hc] at h1 hcs
 have h2 := ptokR_call (bs := bs) c.2 l
 haveI hfs : Sfx bs (tokR c.2).2 := inferInstance
 obtain ⟨f, hf⟩ : ∃ f, tokR c.2 = f := ⟨_, rfl⟩
 rw [hf] at h2 hfs
 by_cases h0 : c.1 = 0
 ·have h3 := pRFlag_call (bs := bs) f.2 l
  haveI hss : Sfx bs (flagR f.2).2 := inferInstance
  obtain ⟨⟨sb, ss⟩, hs'⟩ : ∃ s, flagR f.2 = s := ⟨_, rfl⟩
  rw [hs'] at h3 hss
  simp only at h3 hss
  have h4 := ptokR_call (bs := bs) ss l
  haveI hts : Sfx bs (tokR ss).2 := inferInstance
  obtain ⟨t, ht⟩ : ∃ t, tokR ss = t := ⟨_, rfl⟩
  rw [ht] at h4 hts
  cases sb
  ·have h5 := pRNum_call 16 (bs := bs) t.2 l
   haveI hns : Sfx bs (numR 16 t.2).2 := inferInstance
   have hr := (numR_rng 16 t.2).1
   have hm := numR_most (most := 16) (by decide) t.2
   obtain ⟨⟨k, y⟩, hn⟩ : ∃ n, numR 16 t.2 = n := ⟨_, rfl⟩
   rw [hn] at h5 hns hr hm
   simp only at h5 hns hr hm
   obtain ⟨K, rfl⟩ : ∃ K : Nat, k = K := ⟨k.toNat, by omega⟩
   have hK : K ≤ 16 := by omega
   obtain ⟨T, hT⟩ : ∃ T, listR itemR K ([], y) = T := ⟨_, rfl⟩
   have e := pageR_f hc hf hs' ht hn hT h0
   clear hc hf hs' ht hn hr hm
   repeat' (first | (with_reducible (refine wQ ?_; first | refine uR (h1 ..) ?_ | refine uR (h2 ..) ?_ | refine uR (h3 ..) ?_ | refine uR (h4 ..) ?_ | refine uR (h5 ..) ?_)) | (with_reducible first | (refine wT ?_; (first | ((fail_if_success (have := nl1)); refine wN fun nl1 hnl => ?_) | ((fail_if_success (have := nl2)); refine wN fun nl2 hnl => ?_) | ((fail_if_success (have := nl3)); refine wN fun nl3 hnl => ?_) | ((fail_if_success (have := nl4)); refine wN fun nl4 hnl => ?_) | refine wN fun _ hnl => ?_); revert hnl; (repeat refine wS fun _ _ => ?_); intro hnl) | refine wE ?_ | (refine wK ?_ ?_ <;> intro h) | (refine wB ?_ ?_ <;> intro h <;> simp only [h])) | simp (maxSteps := 4000000) (disch := first | decide | assumption | omega | (simp only [wL]; omega)) only [go_sem, simprocAttr, Tryz.f69, FXs, h0])
   all_goals (try (exfalso; omega))
   have d1 : nl1 ≠ l := by assumption
   have d2 : nl2 ≠ l := by assumption
   have d3 : nl2 ≠ nl1 := by assumption
   have d1' := Ne.symm d1
   have d2' := Ne.symm d2
   have d3' := Ne.symm d3
   clear h1 h2 h3 h4 h5
   refine mloop_intro (α := Nat × List IT × RD × Nat × List (List MV)) (fun a => ⟨44, [(24, .int .i64 (a.1 : Int)), (23, .int .i64 (K : Int)), (3, .ptr nl2 0 0), (2, .ptr nl1 0 0), (0, .ptr l 0 0)], []⟩)
    (fun a => (((St.none.set l (rP bs a.2.2.1)).set nl1 (.row 40 11 [pg0.k .nils])).set nl2 (.row 40 11 [(PG.mk 0 false f.1 t.1 []).k (.vec 28 a.2.2.2.1 0 a.2.1.length)])).set a.2.2.2.1 (.row 119 28 (IT.ks a.2.1 ++ a.2.2.2.2)))
    (fun a => a.1 ≤ K ∧ (a.2.2.2.1 ≠ l ∧ a.2.2.2.1 ≠ nl1 ∧ a.2.2.2.1 ≠ nl2) ∧ Sfx bs a.2.2.1 ∧ a.2.1.length ≤ a.1 ∧ (a.2.2.1.e = 0 → listR itemR (K - a.1) (a.2.1, a.2.2.1) = T) ∧ (a.2.2.1.e ≠ 0 → T.2 = a.2.2.1)) (fun a => K - a.1) ?_ ?_
   ·refine Gh.rowIn (b := nl2) (t := 40) (e := 11) (pre := [.int .i64 0, .bool false, .int .i64 f.1.dev, .int .i64 f.1.ep, .int .i64 f.1.sq, .int .i64 f.1.cu, .int .i64 t.1.dev, .int .i64 t.1.ep, .int .i64 t.1.sq, .int .i64 t.1.cu]) (post := []) 119 28 (by simp [St.set, *]) fun q hq => ?_
    have q1 : q ≠ l := fun e => by subst e; simp [St.set, *] at hq
    have q2 : q ≠ nl1 := fun e => by subst e; simp [St.set, *] at hq
    have q3 : q ≠ nl2 := fun e => by subst e; simp [St.set, *] at hq
    have q1' := Ne.symm q1
    have q2' := Ne.symm q2
    have q3' := Ne.symm q3
    refine .of (.less ?_ (σ1 := (((St.none.set l (rP bs y)).set nl1 (.row 40 11 [pg0.k .nils])).set nl2 (.row 40 11 [(PG.mk 0 false f.1 t.1 []).k (.vec 28 q 0 0)])).set q (.row 119 28 [])) (le4 (by simp [St.set, *]) (by simp [St.set, pg0, tk0, *]) (by simp [St.set, *]) (by simp [St.set, *]))) ⟨(0, [], y, q, []), rfl, rfl, Nat.zero_le _, ⟨q1, q2, q3⟩, hns, Nat.le_refl _, fun _ => hT, fun h => by rw [← hT, listR_stk _ _ h]⟩
    simp (maxSteps := 4000000) (disch := first | decide | assumption | omega | (simp only [wL]; omega)) only [go_sem, simprocAttr, weak_int, weak_same]
    all_goals rfl
   ·rintro ⟨i, acc, x, q, ex⟩ ⟨hi, ⟨q1, q2, q3⟩, hsx, hal, hq, hqe⟩
    simp only at hi q1 q2 q3 hq hqe hsx hal ⊢
    have q1' := Ne.symm q1
    have q2' := Ne.symm q2
    have q3' := Ne.symm q3
    by_cases hx : i < K
    ·have hcl := pitemR_call (bs := bs) x l
     have hn1 : (itemR x).2.e = 0 → listR itemR (K - (i + 1)) (acc ++ [(itemR x).1], (itemR x).2) = T := fun h => by
      have hx0 := itemR_sk.err h
      rw [← hq hx0, show K - i = (K - (i + 1)) + 1 by omega, listR, if_pos hx0]
     have hn2 : (itemR x).2.e ≠ 0 → T.2 = (itemR x).2 := fun h => by
      by_cases hx0 : x.e = 0
      ·rw [← hq hx0, show K - i = (K - (i + 1)) + 1 by omega, listR, if_pos hx0, listR_stk _ _ h]
      ·rw [hqe hx0, itemR_sk.stk _ hx0]
     obtain ⟨w, hw⟩ : ∃ w, itemR x = w := ⟨_, rfl⟩
     haveI hsw : Sfx bs w.2 := by rw [← hw]; infer_instance
     rw [hw] at hcl hn1 hn2
     clear hT hw e hq hqe
     repeat' (first | (with_reducible first | (refine wT ?_; (first | ((fail_if_success (have := nl1)); refine wN fun nl1 hnl => ?_) | ((fail_if_success (have := nl2)); refine wN fun nl2 hnl => ?_) | ((fail_if_success (have := nl3)); refine wN fun nl3 hnl => ?_) | ((fail_if_success (have := nl4)); refine wN fun nl4 hnl => ?_) | refine wN fun _ hnl => ?_); revert hnl; (repeat refine wS fun _ _ => ?_); intro hnl) | refine wE ?_ | (refine wK ?_ ?_ <;> intro h) | (refine wB ?_ ?_ <;> intro h <;> simp only [h])) | simp (maxSteps := 4000000) (disch := first | decide | assumption | omega | (simp only [wL]; omega)) only [go_sem, simprocAttr, FXs, tk_app, dr_app])
     refine mdraw_upd mixed [(0, l), (3, nl2)] [0, 3] rfl [(26, 3), (32, 3)] 0 (by decide) (by decide +kernel) (kn [(125, [.ptr l 0 0], ⟨[l], fun _ => True, some (rP bs w.2, fun _ => .agg (IT.k w.1))⟩)]) ?_ ?_ ?_ (by decide) ?_ ?_
     ·intro g ms F hF l' hl'
      rw [kn_one hF] at hl'
      exact List.mem_singleton.1 hl'
     ·intro p hp
      simp only [List.mem_cons, List.not_mem_nil, or_false] at hp
      rcases hp with rfl | rfl
      ·exact ⟨0, 0, rfl⟩
      ·exact ⟨0, 0, rfl⟩
     ·simp [Ne.symm d2]
     ·intro p hp
      simp only [List.mem_cons, List.not_mem_nil, or_false] at hp
      rcases hp with rfl | rfl
      ·exact ⟨by decide, fun l i o h => absurd h (by simp [FR.get, lget])⟩
      ·exact ⟨by decide, fun l i o h => absurd h (by simp [FR.get, lget])⟩
     ·repeat' (first | (((with_reducible refine knowU_upd kn_hit ?ho hcl ?_); (case ho => simp [St.set, *]))) | (with_reducible first | (refine wT ?_; (first | ((fail_if_success (have := nl1)); refine wN fun nl1 hnl => ?_) | ((fail_if_success (have := nl2)); refine wN fun nl2 hnl => ?_) | ((fail_if_success (have := nl3)); refine wN fun nl3 hnl => ?_) | ((fail_if_success (have := nl4)); refine wN fun nl4 hnl => ?_) | refine wN fun _ hnl => ?_); revert hnl; (repeat refine wS fun _ _ => ?_); intro hnl) | refine wE ?_ | (refine wK ?_ ?_ <;> intro h) | (refine wB ?_ ?_ <;> intro h <;> simp only [h])) | simp (maxSteps := 4000000) (disch := first | decide | assumption | omega | (simp only [wL]; omega)) only [go_sem, simprocAttr, FXs, tk_app, dr_app])
      ·have hex : ex = [] := List.eq_nil_of_length_eq_zero (by omega)
       subst hex
       clear h
       refine .of (.less ?_ (σ1 := (((St.none.set l (rP bs w.2)).set nl1 (.row 40 11 [pg0.k .nils])).set nl2 (.row 40 11 [(PG.mk 0 false f.1 t.1 []).k (.vec 28 nl4 0 (acc ++ [w.1]).length)])).set nl4 (.row 119 28 (IT.ks (acc ++ [w.1]) ++ []))) (le4 (by simp [St.set, *]) (by simp [St.set, pg0, tk0, *]) (by simp [St.set, *]) (by simp [St.set, *]))) ⟨(i + 1, acc ++ [w.1], w.2, nl4, []), rfl, rfl, ⟨by simp only; omega, ⟨by assumption, by assumption, by assumption⟩, hsw, by simp only [List.length_append, List.length_cons, List.length_nil]; omega, hn1, hn2⟩, by simp only; omega⟩
       simp (maxSteps := 4000000) (disch := first | decide | assumption | omega | (simp only [wL]; omega)) only [go_sem, simprocAttr, weak_int, weak_same]
       all_goals (simp; done)
      ·refine .of (.less ?_ (σ1 := (((St.none.set l (rP bs w.2)).set nl1 (.row 40 11 [pg0.k .nils])).set nl2 (.row 40 11 [(PG.mk 0 false f.1 t.1 []).k (.vec 28 nl4 0 (acc ++ [w.1]).length)])).set nl4 (.row 119 28 (IT.ks (acc ++ [w.1]) ++ ex.drop 1))) (le4 (by simp [St.set, *]) (by simp [St.set, pg0, tk0, *]) (by simp [St.set, *]) (by simp [St.set, *]))) ⟨(i + 1, acc ++ [w.1], w.2, nl4, ex.drop 1), rfl, rfl, ⟨by simp only; omega, ⟨by assumption, by assumption, by assumption⟩, hsw, by simp only [List.length_append, List.length_cons, List.length_nil]; omega, hn1, hn2⟩, by simp only; omega⟩
       simp (maxSteps := 4000000) (disch := first | decide | assumption | omega | (simp only [wL]; omega)) only [go_sem, simprocAttr, weak_int, weak_same]
       all_goals (simp; done)
    ·have hiK : i = K := by omega
     subst hiK
     have e : pageR r = okR pg0 (⟨0, false, f.1, t.1, acc⟩, if pageOk ⟨0, false, f.1, t.1, acc⟩ = true then x else failR 3 x) := by
      by_cases hx0 : x.e = 0
      ·have hTa : T = (acc, x) := by rw [← hq hx0, Nat.sub_self, listR]
       rw [e, hTa]
      ·have := hqe hx0
       rw [e, this, failR_stk hx0, ite_self, ite_self, okR_n hx0, okR_n hx0]
     clear hT hq hqe hx
     have hfail := pRFail_call 3 (bs := bs) x l
     have herr := pRErr_call (bs := bs) x l
     have herr2 := pRErr_call (bs := bs) (failR 3 x) l
     have hk := ppgcheck_call ⟨0, false, f.1, t.1, acc⟩ (by first | (simp; done) | (simp only; omega))
     by_cases he : x.e = 0
     ·cases hok : pageOk ⟨0, false, f.1, t.1, acc⟩ <;> rw [hok] at hk
      ·rw [hok, if_neg (by simp), okR_n (failR_ne (by decide) _)] at e
       rw [e]
       clear e
       have hne := failR_ne (e := 3) (by decide) x
       repeat' (first | (with_reducible refine use_lend [.agg (PG.c ⟨0, false, f.1, t.1, acc⟩)] hk (.bool _) rfl (views_one (vpg (p := ⟨0, false, f.1, t.1, acc⟩) (viewR (set_hit _ _ _)))) ?_) | (with_reducible (refine wQ ?_; first | refine uR (hfail ..) ?_ | refine uR (herr ..) ?_ | refine uR (herr2 ..) ?_)) | (with_reducible first | (refine wT ?_; (first | ((fail_if_success (have := nl1)); refine wN fun nl1 hnl => ?_) | ((fail_if_success (have := nl2)); refine wN fun nl2 hnl => ?_) | ((fail_if_success (have := nl3)); refine wN fun nl3 hnl => ?_) | ((fail_if_success (have := nl4)); refine wN fun nl4 hnl => ?_) | refine wN fun _ hnl => ?_); revert hnl; (repeat refine wS fun _ _ => ?_); intro hnl) | refine wE ?_ | (refine wK ?_ ?_ <;> intro h) | (refine wB ?_ ?_ <;> intro h <;> simp only [h])) | simp (maxSteps := 4000000) (disch := first | decide | assumption | omega | (simp only [wL]; omega)) only [go_sem, simprocAttr, FXs, tk_app, dr_app, pg0])
       all_goals (try (exfalso; omega))
       all_goals first | exact vpg (p := pg0) (.nil _ _) | exact ⟨vpg (p := pg0) (.nil _ _), rfl⟩
      ·rw [hok, if_pos rfl, okR_y he] at e
       rw [e]
       clear e
       repeat' (first | (with_reducible refine use_lend [.agg (PG.c ⟨0, false, f.1, t.1, acc⟩)] hk (.bool _) rfl (views_one (vpg (p := ⟨0, false, f.1, t.1, acc⟩) (viewR (set_hit _ _ _)))) ?_) | (with_reducible (refine wQ ?_; first | refine uR (hfail ..) ?_ | refine uR (herr ..) ?_ | refine uR (herr2 ..) ?_)) | (with_reducible first | (refine wT ?_; (first | ((fail_if_success (have := nl1)); refine wN fun nl1 hnl => ?_) | ((fail_if_success (have := nl2)); refine wN fun nl2 hnl => ?_) | ((fail_if_success (have := nl3)); refine wN fun nl3 hnl => ?_) | ((fail_if_success (have := nl4)); refine wN fun nl4 hnl => ?_) | refine wN fun _ hnl => ?_); revert hnl; (repeat refine wS fun _ _ => ?_); intro hnl) | refine wE ?_ | (refine wK ?_ ?_ <;> intro h) | (refine wB ?_ ?_ <;> intro h <;> simp only [h])) | simp (maxSteps := 4000000) (disch := first | decide | assumption | omega | (simp only [wL]; omega)) only [go_sem, simprocAttr, FXs, tk_app, dr_app, pg0])
       all_goals (try (exfalso; omega))
       all_goals first | exact vpg (p := ⟨0, false, f.1, t.1, acc⟩) (viewR (set_hit _ _ _)) | exact ⟨vpg (p := ⟨0, false, f.1, t.1, acc⟩) (viewR (set_hit _ _ _)), rfl⟩
     ·rw [failR_stk he] at herr2 hfail
      rw [failR_stk he, ite_self, okR_n he] at e
      rw [e]
      clear e
      cases hok : pageOk ⟨0, false, f.1, t.1, acc⟩ <;> rw [hok] at hk
      all_goals
       repeat' (first | (with_reducible refine use_lend [.agg (PG.c ⟨0, false, f.1, t.1, acc⟩)] hk (.bool _) rfl (views_one (vpg (p := ⟨0, false, f.1, t.1, acc⟩) (viewR (set_hit _ _ _)))) ?_) | (with_reducible (refine wQ ?_; first | refine uR (hfail ..) ?_ | refine uR (herr ..) ?_)) | (with_reducible first | (refine wT ?_; (first | ((fail_if_success (have := nl1)); refine wN fun nl1 hnl => ?_) | ((fail_if_success (have := nl2)); refine wN fun nl2 hnl => ?_) | ((fail_if_success (have := nl3)); refine wN fun nl3 hnl => ?_) | ((fail_if_success (have := nl4)); refine wN fun nl4 hnl => ?_) | refine wN fun _ hnl => ?_); revert hnl; (repeat refine wS fun _ _ => ?_); intro hnl) | refine wE ?_ | (refine wK ?_ ?_ <;> intro h) | (refine wB ?_ ?_ <;> intro h <;> simp only [h])) | simp (maxSteps := 4000000) (disch := first | decide | assumption | omega | (simp only [wL]; omega)) only [go_sem, simprocAttr, FXs, tk_app, dr_app, pg0])
       all_goals (try (exfalso; omega))
       all_goals first | exact vpg (p := pg0) (.nil _ _) | exact ⟨vpg (p := pg0) (.nil _ _), rfl⟩
  ·have e := pageR_t hc hf hs' ht h0
   clear hc hf hs' ht
   have hfail := pRFail_call 3 (bs := bs) t.2 l
   have herr := pRErr_call (bs := bs) t.2 l
   have herr2 := pRErr_call (bs := bs) (failR 3 t.2) l
   have hk := ppgcheck_call ⟨0, true, f.1, t.1, []⟩ (by first | (simp; done) | (simp only; omega))
   by_cases he : t.2.e = 0
   ·cases hok : pageOk ⟨0, true, f.1, t.1, []⟩ <;> rw [hok] at hk
    ·rw [hok, if_neg (by simp), okR_n (failR_ne (by decide) _)] at e
     rw [e]
     clear e
     have hne := failR_ne (e := 3) (by decide) t.2
     repeat' (first | (with_reducible refine use_lend [.agg (PG.c ⟨0, true, f.1, t.1, []⟩)] hk (.bool _) rfl (views_one (vpg (p := ⟨0, true, f.1, t.1, []⟩) (.nil _ _))) ?_) | (with_reducible (refine wQ ?_; first | refine uR (hfail ..) ?_ | refine uR (herr ..) ?_ | refine uR (herr2 ..) ?_ | refine uR (h1 ..) ?_ | refine uR (h2 ..) ?_ | refine uR (h3 ..) ?_ | refine uR (h4 ..) ?_)) | (with_reducible first | (refine wT ?_; (first | ((fail_if_success (have := nl1)); refine wN fun nl1 hnl => ?_) | ((fail_if_success (have := nl2)); refine wN fun nl2 hnl => ?_) | ((fail_if_success (have := nl3)); refine wN fun nl3 hnl => ?_) | ((fail_if_success (have := nl4)); refine wN fun nl4 hnl => ?_) | refine wN fun _ hnl => ?_); revert hnl; (repeat refine wS fun _ _ => ?_); intro hnl) | refine wE ?_ | (refine wK ?_ ?_ <;> intro h) | (refine wB ?_ ?_ <;> intro h <;> simp only [h])) | simp (maxSteps := 4000000) (disch := first | decide | assumption | omega | (simp only [wL]; omega)) only [go_sem, simprocAttr, Tryz.f69, h0, FXs, pg0])
     all_goals (try (exfalso; omega))
     all_goals first | exact vpg (p := pg0) (.nil _ _) | exact ⟨vpg (p := pg0) (.nil _ _), rfl⟩
    ·rw [hok, if_pos rfl, okR_y he] at e
     rw [e]
     clear e
     repeat' (first | (with_reducible refine use_lend [.agg (PG.c ⟨0, true, f.1, t.1, []⟩)] hk (.bool _) rfl (views_one (vpg (p := ⟨0, true, f.1, t.1, []⟩) (.nil _ _))) ?_) | (with_reducible (refine wQ ?_; first | refine uR (hfail ..) ?_ | refine uR (herr ..) ?_ | refine uR (herr2 ..) ?_ | refine uR (h1 ..) ?_ | refine uR (h2 ..) ?_ | refine uR (h3 ..) ?_ | refine uR (h4 ..) ?_)) | (with_reducible first | (refine wT ?_; (first | ((fail_if_success (have := nl1)); refine wN fun nl1 hnl => ?_) | ((fail_if_success (have := nl2)); refine wN fun nl2 hnl => ?_) | ((fail_if_success (have := nl3)); refine wN fun nl3 hnl => ?_) | ((fail_if_success (have := nl4)); refine wN fun nl4 hnl => ?_) | refine wN fun _ hnl => ?_); revert hnl; (repeat refine wS fun _ _ => ?_); intro hnl) | refine wE ?_ | (refine wK ?_ ?_ <;> intro h) | (refine wB ?_ ?_ <;> intro h <;> simp only [h])) | simp (maxSteps := 4000000) (disch := first | decide | assumption | omega | (simp only [wL]; omega)) only [go_sem, simprocAttr, Tryz.f69, h0, FXs, pg0])
     all_goals (try (exfalso; omega))
     all_goals first | exact vpg (p := ⟨0, true, f.1, t.1, []⟩) (.nil _ _) | exact ⟨vpg (p := ⟨0, true, f.1, t.1, []⟩) (.nil _ _), rfl⟩
   ·rw [failR_stk he] at herr2 hfail
    rw [failR_stk he, ite_self, okR_n he] at e
    rw [e]
    clear e
    cases hok : pageOk ⟨0, true, f.1, t.1, []⟩ <;> rw [hok] at hk
    all_goals
     repeat' (first | (with_reducible refine use_lend [.agg (PG.c ⟨0, true, f.1, t.1, []⟩)] hk (.bool _) rfl (views_one (vpg (p := ⟨0, true, f.1, t.1, []⟩) (.nil _ _))) ?_) | (with_reducible (refine wQ ?_; first | refine uR (hfail ..) ?_ | refine uR (herr ..) ?_ | refine uR (h1 ..) ?_ | refine uR (h2 ..) ?_ | refine uR (h3 ..) ?_ | refine uR (h4 ..) ?_)) | (with_reducible first | (refine wT ?_; (first | ((fail_if_success (have := nl1)); refine wN fun nl1 hnl => ?_) | ((fail_if_success (have := nl2)); refine wN fun nl2 hnl => ?_) | ((fail_if_success (have := nl3)); refine wN fun nl3 hnl => ?_) | ((fail_if_success (have := nl4)); refine wN fun nl4 hnl => ?_) | refine wN fun _ hnl => ?_); revert hnl; (repeat refine wS fun _ _ => ?_); intro hnl) | refine wE ?_ | (refine wK ?_ ?_ <;> intro h) | (refine wB ?_ ?_ <;> intro h <;> simp only [h])) | simp (maxSteps := 4000000) (disch := first | decide | assumption | omega | (simp only [wL]; omega)) only [go_sem, simprocAttr, Tryz.f69, h0, FXs, pg0])
     all_goals (try (exfalso; omega))
     all_goals first | exact vpg (p := pg0) (.nil _ _) | exact ⟨vpg (p := pg0) (.nil _ _), rfl⟩
 ·have e := pageR_n hc hf h0
  clear hc hf
  have hfail := pRFail_call 3 (bs := bs) f.2 l
  have herr := pRErr_call (bs := bs) f.2 l
  have herr2 := pRErr_call (bs := bs) (failR 3 f.2) l
  have hk := ppgcheck_call ⟨c.1, false, f.1, tk0, []⟩ (by first | (simp; done) | (simp only; omega))
  by_cases he : f.2.e = 0
  ·cases hok : pageOk ⟨c.1, false, f.1, tk0, []⟩ <;> rw [hok] at hk
   ·rw [hok, if_neg (by simp), okR_n (failR_ne (by decide) _)] at e
    rw [e]
    clear e
    have hne := failR_ne (e := 3) (by decide) f.2
    repeat' (first | (with_reducible refine use_lend [.agg (PG.c ⟨c.1, false, f.1, tk0, []⟩)] hk (.bool _) rfl (views_one (vpg (p := ⟨c.1, false, f.1, tk0, []⟩) (.nil _ _))) ?_) | (with_reducible (refine wQ ?_; first | refine uR (hfail ..) ?_ | refine uR (herr ..) ?_ | refine uR (herr2 ..) ?_ | refine uR (h1 ..) ?_ | refine uR (h2 ..) ?_)) | (with_reducible first | (refine wT ?_; (first | ((fail_if_success (have := nl1)); refine wN fun nl1 hnl => ?_) | ((fail_if_success (have := nl2)); refine wN fun nl2 hnl => ?_) | ((fail_if_success (have := nl3)); refine wN fun nl3 hnl => ?_) | ((fail_if_success (have := nl4)); refine wN fun nl4 hnl => ?_) | refine wN fun _ hnl => ?_); revert hnl; (repeat refine wS fun _ _ => ?_); intro hnl) | refine wE ?_ | (refine wK ?_ ?_ <;> intro h) | (refine wB ?_ ?_ <;> intro h <;> simp only [h])) | simp (maxSteps := 4000000) (disch := first | decide | assumption | omega | (simp only [wL]; omega)) only [go_sem, simprocAttr, Tryz.f69, FXs, pg0])
    all_goals (try (exfalso; omega))
    all_goals first | exact vpg (p := pg0) (.nil _ _) | exact ⟨vpg (p := pg0) (.nil _ _), rfl⟩
   ·rw [hok, if_pos rfl, okR_y he] at e
    rw [e]
    clear e
    repeat' (first | (with_reducible refine use_lend [.agg (PG.c ⟨c.1, false, f.1, tk0, []⟩)] hk (.bool _) rfl (views_one (vpg (p := ⟨c.1, false, f.1, tk0, []⟩) (.nil _ _))) ?_) | (with_reducible (refine wQ ?_; first | refine uR (hfail ..) ?_ | refine uR (herr ..) ?_ | refine uR (herr2 ..) ?_ | refine uR (h1 ..) ?_ | refine uR (h2 ..) ?_)) | (with_reducible first | (refine wT ?_; (first | ((fail_if_success (have := nl1)); refine wN fun nl1 hnl => ?_) | ((fail_if_success (have := nl2)); refine wN fun nl2 hnl => ?_) | ((fail_if_success (have := nl3)); refine wN fun nl3 hnl => ?_) | ((fail_if_success (have := nl4)); refine wN fun nl4 hnl => ?_) | refine wN fun _ hnl => ?_); revert hnl; (repeat refine wS fun _ _ => ?_); intro hnl) | refine wE ?_ | (refine wK ?_ ?_ <;> intro h) | (refine wB ?_ ?_ <;> intro h <;> simp only [h])) | simp (maxSteps := 4000000) (disch := first | decide | assumption | omega | (simp only [wL]; omega)) only [go_sem, simprocAttr, Tryz.f69, FXs, pg0])
    all_goals (try (exfalso; omega))
    all_goals first | exact vpg (p := ⟨c.1, false, f.1, tk0, []⟩) (.nil _ _) | exact ⟨vpg (p := ⟨c.1, false, f.1, tk0, []⟩) (.nil _ _), rfl⟩
  ·rw [failR_stk he] at herr2 hfail
   rw [failR_stk he, ite_self, okR_n he] at e
   rw [e]
   clear e
   cases hok : pageOk ⟨c.1, false, f.1, tk0, []⟩ <;> rw [hok] at hk
   all_goals
    repeat' (first | (with_reducible refine use_lend [.agg (PG.c ⟨c.1, false, f.1, tk0, []⟩)] hk (.bool _) rfl (views_one (vpg (p := ⟨c.1, false, f.1, tk0, []⟩) (.nil _ _))) ?_) | (with_reducible (refine wQ ?_; first | refine uR (hfail ..) ?_ | refine uR (herr ..) ?_ | refine uR (h1 ..) ?_ | refine uR (h2 ..) ?_)) | (with_reducible first | (refine wT ?_; (first | ((fail_if_success (have := nl1)); refine wN fun nl1 hnl => ?_) | ((fail_if_success (have := nl2)); refine wN fun nl2 hnl => ?_) | ((fail_if_success (have := nl3)); refine wN fun nl3 hnl => ?_) | ((fail_if_success (have := nl4)); refine wN fun nl4 hnl => ?_) | refine wN fun _ hnl => ?_); revert hnl; (repeat refine wS fun _ _ => ?_); intro hnl) | refine wE ?_ | (refine wK ?_ ?_ <;> intro h) | (refine wB ?_ ?_ <;> intro h <;> simp only [h])) | simp (maxSteps := 4000000) (disch := first | decide | assumption | omega | (simp only [wL]; omega)) only [go_sem, simprocAttr, Tryz.f69, FXs, pg0])
    all_goals (try (exfalso; omega))
    all_goals first | exact vpg (p := pg0) (.nil _ _) | exact ⟨vpg (p := pg0) (.nil _ _), rfl⟩
end Go.Proofs.YtfbodefnblpflaaGreatDoor
end

section
namespace Go.Proofs.YtfbodefnblpflaaGreatDoor
set_option maxRecDepth 100000
set_option maxHeartbeats 4000000
theorem new_ghost2 {p q l : Nat} (bs : BL) (hne : l ≠ q) (hp : p ≠ q) (hlp : l ≠ p) : Ghost ⟨1, [(0, .ptr l 0 0)], []⟩ (((St.none.set p (.row 5 1 (bs.map bc))).set q (.row 5 1 (bs.map bc))).set l (.row 136 3 [[.vec 1 q 0 bs.length, .int .i64 0, .int .i64 0]])) ⟨1, [(0, .ptr l 0 0)], []⟩ ((St.none.set p (.row 5 1 (bs.map bc))).set l (rP bs ⟨bs, 0⟩)) := by
 have hql := Ne.symm hne
 have hqp := Ne.symm hp
 have hpl := Ne.symm hlp
 have e : (St.none.set p (.row 5 1 (bs.map bc))).set l (rP bs ⟨bs, 0⟩) = (St.none.set p (.row 5 1 (bs.map bc))).set l (.row 136 3 [[.lst 1 (bs.map bc) false, .int .i64 0, .int .i64 0]]) := by
  simp only [rP, Int.sub_self]
 rw [e]
 refine Ghost.freezeIn (St.none.set q (.row 5 1 (bs.map bc))) (St.set_le (St.none_le _) (by simp [St.set, *])) (fun k o1 h => ?_) (fun k o h => ?_) (fun p hp => ?_)
 ·simp only [St.set] at h
  split at h
  ·rename_i hk
   subst hk
   cases h
   refine ⟨.row 136 3 [[.vec 1 q 0 bs.length, .int .i64 0, .int .i64 0]], by simp [St.set], .inr ⟨_, _, _, _, rfl, rfl, rfl, fun i x x1 hx hx1 => ?_⟩⟩
   have hi : i = 0 := by
    have := (List.getElem?_eq_some_iff.1 hx).1
    simpa using this
   subst hi
   simp only [List.getElem?_cons_zero, Option.some.injEq] at hx hx1
   subst hx hx1
   refine ⟨rfl, fun j m m1 hm hm1 => ?_⟩
   match j with
   | 0 =>
    simp only [List.getElem?_cons_zero, Option.some.injEq] at hm hm1
    subst hm hm1
    exact .inr ⟨rfl, view_row (xs := bs.map bc) (ex := []) (by rw [List.append_nil]; exact set_hit _ _ _) (by simp)⟩
   | 1 => simp at hm hm1; subst hm hm1; exact .inl rfl
   | 2 => simp at hm hm1; subst hm hm1; exact .inl rfl
   | j + 3 => simp at hm
  ·rename_i hk
   split at h
   ·rename_i hk2
    subst hk2
    cases h
    exact ⟨_, by simp [St.set, *], .inl rfl⟩
   ·cases h
 ·simp only [St.set] at h
  split at h
  ·rename_i hk
   subst hk
   simp [St.set, St.none, hne]
  ·split at h
   ·rename_i hk2
    subst hk2
    simp [St.set, St.none, hp]
   ·cases h
 ·simp only [List.mem_singleton] at hp
  subst hp
  exact .same _
theorem pnew_call (s : BL) (hl : s.length ≤ 1000000) (p : Nat) : MCalls Tryz.prog 42 [.vec 1 p 0 s.length] (St.none.set p (.row 5 1 (s.map bc))) (fun v σ' => ∃ l, l ≠ p ∧ v = .ptr l 0 0 ∧ σ' = (St.none.set p (.row 5 1 (s.map bc))).set l (rP s ⟨s, 0⟩)) := by
 refine MCalls.ghost ?_
 refine (MCalls.of_body 13 [.tmp 2] Tryz.func42 rfl rfl rfl rfl ?_)
 refine mwp_seq (mwalk ?_)
 repeat' (first | (with_reducible first | (refine wT ?_; (first | ((fail_if_success (have := nl1)); refine wN fun nl1 hnl => ?_) | ((fail_if_success (have := nl2)); refine wN fun nl2 hnl => ?_) | refine wN fun _ hnl => ?_); revert hnl; (repeat refine wS fun _ _ => ?_); intro hnl) | refine wE ?_ | (refine wK ?_ ?_ <;> intro h) | (refine wB ?_ ?_ <;> intro h <;> simp only [h])) | simp (maxSteps := 4000000) (disch := first | decide | assumption | omega | (simp only [wL]; omega)) only [go_sem, simprocAttr])
 refine R_of (mwp_seq (mwalk ?_))
 repeat' (first | (with_reducible first | (refine wT ?_; (first | ((fail_if_success (have := nl1)); refine wN fun nl1 hnl => ?_) | ((fail_if_success (have := nl2)); refine wN fun nl2 hnl => ?_) | refine wN fun _ hnl => ?_); revert hnl; (repeat refine wS fun _ _ => ?_); intro hnl) | refine wE ?_ | (refine wK ?_ ?_ <;> intro h) | (refine wB ?_ ?_ <;> intro h <;> simp only [h])) | simp (maxSteps := 4000000) (disch := first | decide | assumption | omega | (simp only [wL]; omega)) only [go_sem, simprocAttr])
 rw [mmakeSlice_go (el := 5) (by rw [td63])]
 repeat' (first | (with_reducible first | (refine wT ?_; (first | ((fail_if_success (have := nl1)); refine wN fun nl1 hnl => ?_) | ((fail_if_success (have := nl2)); refine wN fun nl2 hnl => ?_) | refine wN fun _ hnl => ?_); revert hnl; (repeat refine wS fun _ _ => ?_); intro hnl) | refine wE ?_ | (refine wK ?_ ?_ <;> intro h) | (refine wB ?_ ?_ <;> intro h <;> simp only [h])) | simp (maxSteps := 4000000) (disch := first | decide | assumption | omega | (simp only [wL]; omega)) only [go_sem, simprocAttr])
 have d0 : nl1 ≠ p := by assumption
 have d0' := Ne.symm d0
 refine R_of (mwp_seq (mwp_region_last [_, _] _ rfl rfl ?_))
 simp only [mops, mguard, mstep, mop, mput, mval, qop, mpure]
 refine ⟨trivial, trivial, ?_⟩
 have hlen : (s.map bc).length = s.length := List.length_map _
 cases s with
 | nil =>
  refine sop_copy0 (el := 5) (l := nl1) (l0 := 0) (n := 0) rfl (by rw [td63]) (by rw [td5]) (by rw [td5]; rfl) (by rw [td5]; simp [msrc, St.set, FR.get, lget, mval, d0, d0']) ?_
  show R _
  repeat' (first | (with_reducible first | (refine wT ?_; (first | ((fail_if_success (have := nl1)); refine wN fun nl1 hnl => ?_) | ((fail_if_success (have := nl2)); refine wN fun nl2 hnl => ?_) | refine wN fun _ hnl => ?_); revert hnl; (repeat refine wS fun _ _ => ?_); intro hnl) | refine wE ?_ | (refine wK ?_ ?_ <;> intro h) | (refine wB ?_ ?_ <;> intro h <;> simp only [h])) | simp (maxSteps := 4000000) (disch := first | decide | assumption | omega | (simp only [wL]; omega)) only [go_sem, simprocAttr])
  refine R_of (mwalk ?_)
  repeat' (first | (with_reducible first | (refine wT ?_; (first | ((fail_if_success (have := nl1)); refine wN fun nl1 hnl => ?_) | ((fail_if_success (have := nl2)); refine wN fun nl2 hnl => ?_) | refine wN fun _ hnl => ?_); revert hnl; (repeat refine wS fun _ _ => ?_); intro hnl) | refine wE ?_ | (refine wK ?_ ?_ <;> intro h) | (refine wB ?_ ?_ <;> intro h <;> simp only [h])) | simp (maxSteps := 4000000) (disch := first | decide | assumption | omega | (simp only [wL]; omega)) only [go_sem, simprocAttr])
  have d1 : nl2 ≠ nl1 := by assumption
  have d2 : nl2 ≠ p := by assumption
  exact ⟨_, _, new_ghost2 [] d1 d0' d2, nl2, d2, rfl, rfl⟩
 | cons c s =>
  refine sop_copy (el := 5) (l := nl1) (l0 := 0) (n := (c :: s).length) (ys := (c :: s).map bc) rfl (by rw [td63]) (by rw [td5]) (by rw [td5]; rfl) (by rw [td5]; exact set_hit _ _ _) (by simp) (by rw [td5]; simp [msrc, St.set, FR.get, lget, mval, d0, d0', List.take_of_length_le]) (by simp) (by simp) ?_
  have hrl : rowLaid (List.replicate (s.length + 1) [MV.int .u8 0]) 0 (bc c :: s.map bc) = bc c :: s.map bc := by simp [rowLaid]
  show R _
  repeat' (first | (with_reducible first | (refine wT ?_; (first | ((fail_if_success (have := nl1)); refine wN fun nl1 hnl => ?_) | ((fail_if_success (have := nl2)); refine wN fun nl2 hnl => ?_) | refine wN fun _ hnl => ?_); revert hnl; (repeat refine wS fun _ _ => ?_); intro hnl) | refine wE ?_ | (refine wK ?_ ?_ <;> intro h) | (refine wB ?_ ?_ <;> intro h <;> simp only [h])) | simp (maxSteps := 4000000) (disch := first | decide | assumption | omega | (simp only [wL]; omega)) only [go_sem, simprocAttr, hrl])
  refine R_of (mwalk ?_)
  repeat' (first | (with_reducible first | (refine wT ?_; (first | ((fail_if_success (have := nl1)); refine wN fun nl1 hnl => ?_) | ((fail_if_success (have := nl2)); refine wN fun nl2 hnl => ?_) | refine wN fun _ hnl => ?_); revert hnl; (repeat refine wS fun _ _ => ?_); intro hnl) | refine wE ?_ | (refine wK ?_ ?_ <;> intro h) | (refine wB ?_ ?_ <;> intro h <;> simp only [h])) | simp (maxSteps := 4000000) (disch := first | decide | assumption | omega | (simp only [wL]; omega)) only [go_sem, simprocAttr])
  have d1 : nl2 ≠ nl1 := by assumption
  have d2 : nl2 ≠ p := by assumption
  exact ⟨_, _, new_ghost2 (c :: s) d1 d0' d2, nl2, d2, rfl, rfl⟩
end Go.Proofs.YtfbodefnblpflaaGreatDoor
end

section
namespace Go.Proofs.YtfbodefnblpflaaGreatDoor
set_option maxRecDepth 100000
set_option maxHeartbeats 4000000
theorem cmdOk_rg {c : CM} (hok : cmdOk c = true) : Rg c ∧ c.fl.length ≤ 1000000 := by
 by_cases k1 : c.kd = 1
 ·rw [cmdOk_1 k1] at hok
  simp only [Bool.and_eq_true, decide_eq_true_eq, cm_iff, cm0] at hok
  obtain ⟨⟨_, _, h1, h2, h3, h4, h5, _, h6, _⟩, _⟩ := hok
  simp only [Rg, In64]
  rw [h6]
  simp only [List.length_nil]
  omega
 by_cases k5 : c.kd = 5
 ·rw [cmdOk_5 k5] at hok
  simp only [Bool.and_eq_true, decide_eq_true_eq, cm_iff, cm0] at hok
  obtain ⟨⟨_, _, h1, h2, h3, h4, h5, _, h6, _⟩, h7⟩ := hok
  simp only [Rg, In64]
  rw [h6]
  simp only [List.length_nil]
  omega
 have hr := cmdOk_rng hok k1 k5
 by_cases k2 : c.kd = 2
 ·rw [cmdOk_2 k2 hr] at hok
  simp only [Bool.and_eq_true, decide_eq_true_eq, cm_iff, cm0] at hok
  obtain ⟨⟨_, _, h1, h2, h3, h4, h5, _, h6, _⟩, h7⟩ := hok
  simp only [Rg, In64]
  rw [h6]
  simp only [List.length_nil]
  omega
 by_cases k3 : c.kd = 3
 ·rw [cmdOk_3 k3 hr] at hok
  simp only [Bool.and_eq_true, decide_eq_true_eq, cm_iff, cm0] at hok
  obtain ⟨⟨_, _, h1, h2, h3, h4, h5, _, h6, _⟩, h7⟩ := hok
  have := (predErr_31 h7.1).1
  simp only [Rg, In64]
  omega
 by_cases k4 : c.kd = 4
 ·rw [cmdOk_4 k4 hr] at hok
  simp only [decide_eq_true_eq, cm_iff, cm0] at hok
  obtain ⟨_, _, h1, h2, h3, h4, h5, _, h6, _⟩ := hok
  simp only [Rg, In64]
  rw [h6]
  simp only [List.length_nil]
  omega
 ·rw [cmdOk_o k1 k5 k2 k3 k4] at hok
  cases hok
instance {bs : BL} {r : RD} [h : Sfx bs r] : Sfx bs (cmdR r).2 := ⟨(cmdR_sk.sfx r).trans h.h⟩
abbrev akP3 : List MV := [fnP 57, fnP 59, fnP 60]
theorem preadC_call {bs : BL} [hb : Few bs] (r : RD) [hs : Sfx bs r] (l : Nat) (c : CM × RD) (hc : cmdR r = c) : MCalls Tryz.prog 44 [.agg akP3, .ptr l 0 0] (St.none.set l (rP bs r)) (fun v σ' => v = .agg c.1.c ∧ σ' = St.none.set l (rP bs (if c.2.e = 0 ∧ (c.1.kd = 1 ∨ c.1.kd = 5) then failR 3 c.2 else c.2))) := by
 refine MCalls.obj (MCalls.body 23 [.cell 4 32] Tryz.func44 rfl rfl rfl rfl ?_)
 have h1 := pcmdR_call (bs := bs) r l
 rw [hc] at h1
 haveI hs1 : Sfx bs c.2 := by rw [← hc]; infer_instance
 have h2 := pRErr_call (bs := bs) c.2 l
 by_cases he : c.2.e = 0
 ·have hok : cmdOk c.1 = true := by
   have := (cmdR_rt.bck r (by rw [hc]; exact he)).2.1
   rwa [hc] at this
  obtain ⟨hg, hl⟩ := cmdOk_rg hok
  have h3 := pask1_call c.1 hg hl
  rw [hok, Bool.true_and] at h3
  have h4 := pRFail_call 3 (bs := bs) c.2 l
  by_cases hk : c.1.kd = 1 ∨ c.1.kd = 5
  ·rw [decide_eq_false (by omega)] at h3
   rw [if_pos ⟨he, hk⟩]
   clear hc hok hg
   repeat' (first | (with_reducible (refine wQ ?_; first | refine uR (h1 ..) ?_ | refine uR (h2 ..) ?_ | refine uR (h4 ..) ?_)) | (with_reducible first | refine up h3 ?_) | (with_reducible first | (refine wN fun _ hnl => ?_; revert hnl; (repeat refine wS fun _ _ => ?_); intro hnl) | refine wE ?_ | (refine wK ?_ ?_ <;> intro h) | (refine wB ?_ ?_ <;> intro h <;> simp only [h])) | simp (maxSteps := 4000000) (disch := first | decide | assumption | omega | (simp only [wL]; omega)) only [go_sem, simprocAttr, Tryz.f44, FYs, he])
  ·rw [decide_eq_true (by omega)] at h3
   rw [if_neg (fun h => hk h.2)]
   clear hc hok hg
   repeat' (first | (with_reducible (refine wQ ?_; first | refine uR (h1 ..) ?_ | refine uR (h2 ..) ?_)) | (with_reducible first | refine up h3 ?_) | (with_reducible first | (refine wN fun _ hnl => ?_; revert hnl; (repeat refine wS fun _ _ => ?_); intro hnl) | refine wE ?_ | (refine wK ?_ ?_ <;> intro h) | (refine wB ?_ ?_ <;> intro h <;> simp only [h])) | simp (maxSteps := 4000000) (disch := first | decide | assumption | omega | (simp only [wL]; omega)) only [go_sem, simprocAttr, Tryz.f44, FYs, he])
 ·rw [if_neg (fun h => he h.1)]
  clear hc
  repeat' (first | (with_reducible (refine wQ ?_; first | refine uR (h1 ..) ?_ | refine uR (h2 ..) ?_)) | (with_reducible first | (refine wN fun _ hnl => ?_; revert hnl; (repeat refine wS fun _ _ => ?_); intro hnl) | refine wE ?_ | (refine wK ?_ ?_ <;> intro h) | (refine wB ?_ ?_ <;> intro h <;> simp only [h])) | simp (maxSteps := 4000000) (disch := first | decide | assumption | omega | (simp only [wL]; omega)) only [go_sem, simprocAttr, Tryz.f44, FYs])
abbrev tkP3 : List MV := [fnP 61, fnP 62, fnP 63]
theorem preadT_call {bs : BL} [hb : Few bs] (r : RD) [hs : Sfx bs r] (l : Nat) : MCalls Tryz.prog 45 [.agg tkP3, .ptr l 0 0] (St.none.set l (rP bs r)) (fun v σ' => v = .agg (tokR r).1.c ∧ σ' = St.none.set l (rP bs (tokR r).2)) := by
 refine MCalls.obj (MCalls.body 23 [.cell 4 34] Tryz.func45 rfl rfl rfl rfl ?_)
 have h1 := ptokR_call (bs := bs) r l
 haveI hs1 : Sfx bs (tokR r).2 := inferInstance
 obtain ⟨c, hc⟩ : ∃ c, tokR r = c := ⟨_, rfl⟩
 rw [hc] at h1 hs1 ⊢
 have h2 := pRErr_call (bs := bs) c.2 l
 by_cases he : c.2.e = 0
 ·have hok : tokOk c.1 = true := by
   have := (tokR_rt.bck r (by rw [hc]; exact he)).2.1
   rwa [hc] at this
  have h3 := ptcheck_call c.1
  rw [hok] at h3
  clear hc hok
  repeat' (first | (with_reducible (refine wQ ?_; first | refine uR (h1 ..) ?_ | refine uR (h2 ..) ?_)) | (with_reducible first | refine up h3 ?_) | (with_reducible first | (refine wN fun _ hnl => ?_; revert hnl; (repeat refine wS fun _ _ => ?_); intro hnl) | refine wE ?_ | (refine wK ?_ ?_ <;> intro h) | (refine wB ?_ ?_ <;> intro h <;> simp only [h])) | simp (maxSteps := 4000000) (disch := first | decide | assumption | omega | (simp only [wL]; omega)) only [go_sem, simprocAttr, Tryz.f45, he])
 ·clear hc
  repeat' (first | (with_reducible (refine wQ ?_; first | refine uR (h1 ..) ?_ | refine uR (h2 ..) ?_)) | (with_reducible first | (refine wN fun _ hnl => ?_; revert hnl; (repeat refine wS fun _ _ => ?_); intro hnl) | refine wE ?_ | (refine wK ?_ ?_ <;> intro h) | (refine wB ?_ ?_ <;> intro h <;> simp only [h])) | simp (maxSteps := 4000000) (disch := first | decide | assumption | omega | (simp only [wL]; omega)) only [go_sem, simprocAttr, Tryz.f45])
abbrev rpP3 : List MV := [fnP 64, fnP 65, fnP 66]
theorem repOk_len {a : RE} (h : repOk a = true) : a.fl.length ≤ 1000000 := by
 have h := (decide_eq_true_iff (p := _)).1 h
 have h := h.2.2.2.2.2.2.2.2.2.2.2.2
 split at h
 ·have := (predErr_31 h.2.2.1).1
  omega
 ·rw [h.2.1]
  simp
theorem preadR_call {bs : BL} [hb : Few bs] (r : RD) [hs : Sfx bs r] (l : Nat) : MCalls Tryz.prog 46 [.agg rpP3, .ptr l 0 0] (St.none.set l (rP bs r)) (fun v σ' => v = .agg (repR r).1.c ∧ σ' = St.none.set l (rP bs (repR r).2)) := by
 refine MCalls.obj (MCalls.body 23 [.cell 4 37] Tryz.func46 rfl rfl rfl rfl ?_)
 have h1 := prepR_call (bs := bs) r l
 haveI hs1 : Sfx bs (repR r).2 := inferInstance
 obtain ⟨c, hc⟩ : ∃ c, repR r = c := ⟨_, rfl⟩
 rw [hc] at h1 hs1 ⊢
 have h2 := pRErr_call (bs := bs) c.2 l
 by_cases he : c.2.e = 0
 ·have hok : repOk c.1 = true := by
   have := (repR_rt.bck r (by rw [hc]; exact he)).2.1
   rwa [hc] at this
  have h3 := prcheck_call c.1 (repOk_len hok)
  rw [hok] at h3
  clear hc hok
  repeat' (first | (with_reducible (refine wQ ?_; first | refine uR (h1 ..) ?_ | refine uR (h2 ..) ?_)) | (with_reducible first | refine up h3 ?_) | (with_reducible first | (refine wN fun _ hnl => ?_; revert hnl; (repeat refine wS fun _ _ => ?_); intro hnl) | refine wE ?_ | (refine wK ?_ ?_ <;> intro h) | (refine wB ?_ ?_ <;> intro h <;> simp only [h])) | simp (maxSteps := 4000000) (disch := first | decide | assumption | omega | (simp only [wL]; omega)) only [go_sem, simprocAttr, Tryz.f46, he])
 ·clear hc
  repeat' (first | (with_reducible (refine wQ ?_; first | refine uR (h1 ..) ?_ | refine uR (h2 ..) ?_)) | (with_reducible first | (refine wN fun _ hnl => ?_; revert hnl; (repeat refine wS fun _ _ => ?_); intro hnl) | refine wE ?_ | (refine wK ?_ ?_ <;> intro h) | (refine wB ?_ ?_ <;> intro h <;> simp only [h])) | simp (maxSteps := 4000000) (disch := first | decide | assumption | omega | (simp only [wL]; omega)) only [go_sem, simprocAttr, Tryz.f46])
abbrev pgP3 : List MV := [fnP 67, fnP 68, fnP 69]
theorem pageOk_len {p : PG} (h : pageOk p = true) : p.items.length ≤ 1000000 := by
 by_cases hc : p.code = 0
 ·cases hr : p.reset
  ·have := (pageOk_items h hc hr).2.2
   omega
  ·unfold pageOk at h
   rw [if_neg (by omega), if_pos hr] at h
   simp only [Bool.and_eq_true, decide_eq_true_eq] at h
   rw [h.2.1.1]
   simp
 ·unfold pageOk at h
  rw [if_pos hc] at h
  simp only [Bool.and_eq_true, decide_eq_true_eq] at h
  rw [h.2.2.2.2.2]
  simp
theorem preadP_call {bs : BL} [hb : Few bs] (r : RD) [hs : Sfx bs r] (l : Nat) : MCalls Tryz.prog 47 [.agg pgP3, .ptr l 0 0] (St.none.set l (rP bs r)) (fun v σ' => v = .agg (pageR r).1.c ∧ σ' = St.none.set l (rP bs (pageR r).2)) := by
 refine MCalls.obj (MCalls.body 23 [.cell 4 40] Tryz.func47 rfl rfl rfl rfl ?_)
 have h1 := ppageR_call (bs := bs) r l
 haveI hs1 : Sfx bs (pageR r).2 := inferInstance
 obtain ⟨c, hc⟩ : ∃ c, pageR r = c := ⟨_, rfl⟩
 rw [hc] at h1 hs1 ⊢
 have h2 := pRErr_call (bs := bs) c.2 l
 by_cases he : c.2.e = 0
 ·have hok : pageOk c.1 = true := by
   have := (pageR_rt.bck r (by rw [hc]; exact he)).2.1
   rwa [hc] at this
  have h3 := ppgcheck_call c.1 (pageOk_len hok)
  rw [hok] at h3
  clear hc hok
  repeat' (first | (with_reducible (refine wQ ?_; first | refine uR (h1 ..) ?_ | refine uR (h2 ..) ?_)) | (with_reducible first | refine up h3 ?_) | (with_reducible first | (refine wN fun _ hnl => ?_; revert hnl; (repeat refine wS fun _ _ => ?_); intro hnl) | refine wE ?_ | (refine wK ?_ ?_ <;> intro h) | (refine wB ?_ ?_ <;> intro h <;> simp only [h])) | simp (maxSteps := 4000000) (disch := first | decide | assumption | omega | (simp only [wL]; omega)) only [go_sem, simprocAttr, Tryz.f47, he])
 ·clear hc
  repeat' (first | (with_reducible (refine wQ ?_; first | refine uR (h1 ..) ?_ | refine uR (h2 ..) ?_)) | (with_reducible first | (refine wN fun _ hnl => ?_; revert hnl; (repeat refine wS fun _ _ => ?_); intro hnl) | refine wE ?_ | (refine wK ?_ ?_ <;> intro h) | (refine wB ?_ ?_ <;> intro h <;> simp only [h])) | simp (maxSteps := 4000000) (disch := first | decide | assumption | omega | (simp only [wL]; omega)) only [go_sem, simprocAttr, Tryz.f47])
theorem pnumber2_call (most : Int) {bs : BL} [hb : Few bs] (r : RD) [hs : Sfx bs r] (l b : Nat) (hne : b ≠ l) : MCalls Tryz.prog 76 [.ptr l 0 0, .ptr b 0 0] ((St.none.set b (nbO most)).set l (rP bs r)) (fun v σ' => v = .int .i64 (numR most r).1 ∧ σ' = (St.none.set b (nbO most)).set l (rP bs (numR most r).2)) := by
 refine (MCalls.body 7 [.tmp 3] Tryz.func76 rfl rfl rfl rfl ?_)
 have hn := Ne.symm hne
 have h1 := pRNum_call most (bs := bs) r l
 repeat' (first | (with_reducible (refine wQ ?_; first | refine uR (h1 ..) ?_)) | (with_reducible first | (refine wN fun _ hnl => ?_; revert hnl; (repeat refine wS fun _ _ => ?_); intro hnl) | refine wE ?_ | (refine wK ?_ ?_ <;> intro h) | (refine wB ?_ ?_ <;> intro h <;> simp only [h])) | simp (maxSteps := 4000000) (disch := first | decide | assumption | omega | (simp only [wL]; omega)) only [go_sem, simprocAttr, Tryz.f76])
theorem preadN_call (most : Int) (h0 : 0 ≤ most) {bs : BL} [hb : Few bs] (r : RD) [hs : Sfx bs r] (l b : Nat) (hne : b ≠ l) : MCalls Tryz.prog 43 [.agg (nbP b), .ptr l 0 0] ((St.none.set b (nbO most)).set l (rP bs r)) (fun v σ' => v = .int .i64 (fromR 1 most r).1 ∧ σ' = St.none.set l (rP bs (fromR 1 most r).2)) := by
 refine MCalls.obj (MCalls.body 23 [.tmp 4] Tryz.func43 rfl rfl rfl rfl ?_)
 have hn := Ne.symm hne
 have h1 := pnumber2_call most (bs := bs) r l b hne
 have hm := numR_most h0 r
 have hz := numR_zero (most := most) (r := r)
 haveI hs1 : Sfx bs (numR most r).2 := inferInstance
 obtain ⟨n, hnn⟩ : ∃ n, numR most r = n := ⟨_, rfl⟩
 rw [hnn] at h1 hs1 hm hz
 have e : fromR 1 most r = (n.1, if n.1 < 1 then failR 3 n.2 else n.2) := by unfold fromR; rw [hnn]
 rw [e]
 have h2 := pRErr_call (bs := bs) n.2 l
 have h3 := pnumber1_call most n.1 b
 have h4 := pRFail_call 3 (bs := bs) n.2 l
 clear e hnn
 by_cases he : n.2.e = 0
 ·by_cases h1n : n.1 < 1
  ·rw [decide_eq_false (by omega)] at h3
   rw [if_pos h1n]
   repeat' (first | (((with_reducible refine use_set ?hn ?hd h1 ?_); (case hn => simp [St.set, St.none, *]); (case hd => intro j; simp only [St.set, St.none]; (repeat' split) <;> simp))) | (((with_reducible refine use_obj ?ho h3 ?_); (case ho => simp [St.set, *]))) | (with_reducible (refine wQ ?_; first | refine uR (h2 ..) ?_ | refine uR (h4 ..) ?_)) | (with_reducible first | (refine wN fun _ hnl => ?_; revert hnl; (repeat refine wS fun _ _ => ?_); intro hnl) | refine wE ?_ | (refine wK ?_ ?_ <;> intro h) | (refine wB ?_ ?_ <;> intro h <;> simp only [h])) | simp (maxSteps := 4000000) (disch := first | decide | assumption | omega | (simp only [wL]; omega)) only [go_sem, simprocAttr, Tryz.f43, he])
  ·rw [decide_eq_true (by omega)] at h3
   rw [if_neg h1n]
   repeat' (first | (((with_reducible refine use_set ?hn ?hd h1 ?_); (case hn => simp [St.set, St.none, *]); (case hd => intro j; simp only [St.set, St.none]; (repeat' split) <;> simp))) | (((with_reducible refine use_obj ?ho h3 ?_); (case ho => simp [St.set, *]))) | (with_reducible (refine wQ ?_; first | refine uR (h2 ..) ?_ | refine uR (h4 ..) ?_)) | (with_reducible first | (refine wN fun _ hnl => ?_; revert hnl; (repeat refine wS fun _ _ => ?_); intro hnl) | refine wE ?_ | (refine wK ?_ ?_ <;> intro h) | (refine wB ?_ ?_ <;> intro h <;> simp only [h])) | simp (maxSteps := 4000000) (disch := first | decide | assumption | omega | (simp only [wL]; omega)) only [go_sem, simprocAttr, Tryz.f43, he])
 ·have : n.1 = 0 := hz he
  rw [if_pos (by omega), failR_stk he]
  repeat' (first | (((with_reducible refine use_set ?hn ?hd h1 ?_); (case hn => simp [St.set, St.none, *]); (case hd => intro j; simp only [St.set, St.none]; (repeat' split) <;> simp))) | (with_reducible (refine wQ ?_; first | refine uR (h2 ..) ?_ | refine uR (h4 ..) ?_)) | (with_reducible first | (refine wN fun _ hnl => ?_; revert hnl; (repeat refine wS fun _ _ => ?_); intro hnl) | refine wE ?_ | (refine wK ?_ ?_ <;> intro h) | (refine wB ?_ ?_ <;> intro h <;> simp only [h])) | simp (maxSteps := 4000000) (disch := first | decide | assumption | omega | (simp only [wL]; omega)) only [go_sem, simprocAttr, Tryz.f43])
end Go.Proofs.YtfbodefnblpflaaGreatDoor
end

section
namespace Go.Proofs.YtfbodefnblpflaaGreatDoor
set_option maxRecDepth 100000
set_option maxHeartbeats 4000000
theorem use_lb {P : Program} {g : FuncId} {ms : List MV} {τ : St} {l b : Nat} {o o' ob : MObj} {r : MV} {k : MV → St → Prop} (hbl : b ≠ l) (hb : τ b = none) (h : MCalls P g ms ((St.none.set b ob).set l o) fun v σ' => v = r ∧ σ' = St.none.set l o')
  (hk : R (mlet r (τ.set l o') k)) : R (mcallE P g ms ((τ.set l o).set b ob) k) := by
 refine use_frame h (St.set_le (St.set_le (St.none_le _) (set_hit _ _ _)) ?_) ?_
 ·simp [St.set, Ne.symm hbl]
 ·rintro v σ' ⟨rfl, rfl⟩ -
  have e : (St.none.set l o').over (((τ.set l o).set b ob).minus ((St.none.set b ob).set l o)) = τ.set l o' := by
   funext j
   by_cases j1 : j = l
   ·subst j1; simp [St.over, St.set]
   ·by_cases j2 : j = b
    ·subst j2; simp [St.over, St.minus, St.set, St.none, j1, hb]
    ·simp [St.over, St.minus, St.set, St.none, j1, j2]
  rw [e]
  exact hk
theorem use_lmb {P : Program} {g : FuncId} {ms : List MV} {τ : St} {l b m : Nat} {o o' ob om : MObj} {r : MV} {k : MV → St → Prop} (hbl : b ≠ l) (hbm : b ≠ m) (hml : m ≠ l) (hb : τ b = none) (h : MCalls P g ms ((St.none.set b ob).set l o) fun v σ' => v = r ∧ σ' = St.none.set l o')
  (hk : R (mlet r ((τ.set l o').set m om) k)) : R (mcallE P g ms (((τ.set l o).set m om).set b ob) k) := by
 refine use_frame h (St.set_le (St.set_le (St.none_le _) (set_hit _ _ _)) ?_) ?_
 ·simp [St.set, Ne.symm hbl, Ne.symm hml]
 ·rintro v σ' ⟨rfl, rfl⟩ -
  have e : (St.none.set l o').over ((((τ.set l o).set m om).set b ob).minus ((St.none.set b ob).set l o)) = (τ.set l o').set m om := by
   funext j
   by_cases j1 : j = l
   ·subst j1; simp [St.over, St.set, Ne.symm hml]
   ·by_cases j2 : j = b
    ·subst j2; simp [St.over, St.minus, St.set, St.none, j1, hb, hbm]
    ·simp [St.over, St.minus, St.set, St.none, j1, j2]
  rw [e]
  exact hk
theorem use_newR {τ : St} {p : Nat} {s : BL} {k : MV → St → Prop} (hl : s.length ≤ 1000000) (hp : τ p = none) (hk : ∀ l, l ≠ p → τ l = none → R (mlet (.ptr l 0 0) ((τ.set p (.row 5 1 (s.map bc))).set l (rP s ⟨s, 0⟩)) k)) : R (mcallE Tryz.prog 42 [.vec 1 p 0 s.length] (τ.set p (.row 5 1 (s.map bc))) k) := by
 refine use_frame (pnew_call s hl p) (St.set_le (St.none_le _) (set_hit _ _ _)) ?_
 rintro v σ' ⟨l, hlp, rfl, rfl⟩ hd
 have h1 : τ l = none := by
  rcases hd l _ (set_hit _ _ _) with h | ⟨o', h⟩
  ·simpa [St.set, hlp] using h
  ·simp [St.set, St.none, hlp] at h
 have e : ((St.none.set p (.row 5 1 (s.map bc))).set l (rP s ⟨s, 0⟩)).over ((τ.set p (.row 5 1 (s.map bc))).minus (St.none.set p (.row 5 1 (s.map bc)))) = (τ.set p (.row 5 1 (s.map bc))).set l (rP s ⟨s, 0⟩) := by
  funext j
  by_cases j1 : j = l
  ·subst j1; simp [St.over, St.set]
  ·by_cases j2 : j = p
   ·subst j2; simp [St.over, St.set, j1]
   ·simp [St.over, St.minus, St.set, St.none, j1, j2]
 rw [e]
 exact hk l hlp h1
theorem pxdec_0 (s : BL) (hl : s.length ≤ 100000) (hlen : 4096 < s.length) : MCalls Tryz.prog 15 [.str (bsS s)] St.none (fun r _ => r = .tup [.agg (msgD s).1.c, .int .i64 (msgD s).2]) := by
 refine MCalls.seen (MCalls.body 61 [.cell 2 47, .tmp 3] Tryz.func15 rfl rfl rfl rfl ?_)
 have e : msgD s = (ms0, 4) := by unfold msgD; rw [if_pos hlen]
 rw [e]
 repeat' (first | (with_reducible first | (refine wN fun _ hnl => ?_; revert hnl; (repeat refine wS fun _ _ => ?_); intro hnl) | refine wE ?_ | (refine wK ?_ ?_ <;> intro h) | (refine wB ?_ ?_ <;> intro h <;> simp only [h])) | simp (maxSteps := 4000000) (disch := first | decide | assumption | omega | (simp only [wL]; omega)) only [go_sem, simprocAttr, Tryz.f15, FYs, bsS_size])
 all_goals exact View.two (vms (m := ms0) (.nil _ _) (.nil _ _) (.nil _ _)) (.same _)
theorem pxdec_5 (s : BL) (hl : s.length ≤ 100000) (hlen : ¬ 4096 < s.length) (k : Int × RD) (hk : fromR 1 5 (⟨s, 0⟩ : RD) = k) (k1 : k.1 = 5) : MCalls Tryz.prog 15 [.str (bsS s)] St.none (fun r _ => r = .tup [.agg (msgD s).1.c, .int .i64 (msgD s).2]) := by
 refine MCalls.seen (MCalls.body 61 [.cell 2 47, .tmp 3] Tryz.func15 rfl rfl rfl rfl ?_)
 haveI hfew : Few s := ⟨by omega⟩
 haveI hsf : Sfx s (⟨s, 0⟩ : RD) := ⟨List.suffix_refl _⟩
 have hn5 := pnumber_call 5
 have h1 := fun l b hne => preadN_call 5 (by decide) (bs := s) (⟨s, 0⟩ : RD) l b hne
 haveI hs1 : Sfx s (fromR 1 5 (⟨s, 0⟩ : RD)).2 := inferInstance
 rw [hk] at hs1
 simp only [hk] at h1
 have hn16 := pnumber_call 16
 have h2 := fun l b hne => preadN_call 16 (by decide) (bs := s) k.2 l b hne
 haveI hs2 : Sfx s (fromR 1 16 k.2).2 := inferInstance
 obtain ⟨c, hc⟩ : ∃ c, fromR 1 16 k.2 = c := ⟨_, rfl⟩
 rw [hc] at hs2
 simp only [hc] at h2
 have e0 : msgR ⟨s, 0⟩ = ({ ms0 with kd := 5, code := c.1 }, c.2) := by simp [msgR, hk, k1, hc]
 have e : msgD s = if endR (c.2) = 0 then ({ ms0 with kd := 5, code := c.1 }, 0) else (ms0, endR (c.2)) := by unfold msgD; rw [if_neg hlen, e0]
 have hend := fun l => pREnd_call (bs := s) (c.2) l
 obtain ⟨ev, hev⟩ : ∃ x, endR (c.2) = x := ⟨_, rfl⟩
 rw [hev] at e
 simp only [hev] at hend
 have hrec := fun (σ : St) (f g i : MV) => vms (σ := σ) (m := { ms0 with kd := 5, code := c.1 }) (f := f) (g := g) (i := i)
 simp only [MS.c, MS.k, ms0, cm0, ed0, pa0, tk0, re0, pg0, u32z] at hrec
 have hbt : (bsS s).toList.map (fun b => [MV.int .u8 (b.toNat : Int)]) = s.map bc := bs_toList _
 clear hev e0 hk
 by_cases hz : ev = 0
 ·rw [if_pos hz] at e
  rw [e]
  clear e
  repeat' (first | (((with_reducible refine use_newR (by omega) ?hp fun l hlp hl0 => ?_); (case hp => simp [St.set, St.none, *]); have hpl := Ne.symm hlp; revert hl0; (repeat refine wS fun _ _ => ?_); intro hl0)) | (((with_reducible refine use_new hn5 fun b hb => ?_); revert hb; (repeat refine wS fun _ _ => ?_); intro hb)) | (((with_reducible refine use_lb (by assumption) ?hq (h1 _ _ (by assumption)) ?_); (case hq => simp [St.set, St.none, *]))) | (((with_reducible refine use_new hn16 fun b hb => ?_); revert hb; (repeat refine wS fun _ _ => ?_); intro hb)) | (((with_reducible refine use_lmb (by assumption) (by assumption) (by assumption) ?hq (h2 _ _ (by assumption)) ?_); (case hq => simp [St.set, St.none, *]))) | (with_reducible (refine wQ ?_; first | refine uR (hend ..) ?_)) | (with_reducible first | (refine wN fun _ hnl => ?_; revert hnl; (repeat refine wS fun _ _ => ?_); intro hnl) | refine wE ?_ | (refine wK ?_ ?_ <;> intro h) | (refine wB ?_ ?_ <;> intro h <;> simp only [h])) | simp (maxSteps := 4000000) (disch := first | decide | assumption | omega | (simp only [wL]; omega)) only [go_sem, simprocAttr, Tryz.f15, FYs, bsS_size, k1, hbt])
  all_goals (try (exfalso; omega))
  all_goals exact View.two (hrec _ _ _ _ (.nil _ _) (.nil _ _) (.nil _ _)) (.same _)
 ·rw [if_neg hz] at e
  rw [e]
  clear e
  repeat' (first | (((with_reducible refine use_newR (by omega) ?hp fun l hlp hl0 => ?_); (case hp => simp [St.set, St.none, *]); have hpl := Ne.symm hlp; revert hl0; (repeat refine wS fun _ _ => ?_); intro hl0)) | (((with_reducible refine use_new hn5 fun b hb => ?_); revert hb; (repeat refine wS fun _ _ => ?_); intro hb)) | (((with_reducible refine use_lb (by assumption) ?hq (h1 _ _ (by assumption)) ?_); (case hq => simp [St.set, St.none, *]))) | (((with_reducible refine use_new hn16 fun b hb => ?_); revert hb; (repeat refine wS fun _ _ => ?_); intro hb)) | (((with_reducible refine use_lmb (by assumption) (by assumption) (by assumption) ?hq (h2 _ _ (by assumption)) ?_); (case hq => simp [St.set, St.none, *]))) | (with_reducible (refine wQ ?_; first | refine uR (hend ..) ?_)) | (with_reducible first | (refine wN fun _ hnl => ?_; revert hnl; (repeat refine wS fun _ _ => ?_); intro hnl) | refine wE ?_ | (refine wK ?_ ?_ <;> intro h) | (refine wB ?_ ?_ <;> intro h <;> simp only [h])) | simp (maxSteps := 4000000) (disch := first | decide | assumption | omega | (simp only [wL]; omega)) only [go_sem, simprocAttr, Tryz.f15, FYs, bsS_size, k1, hbt])
  all_goals (try (exfalso; omega))
  all_goals exact View.two (vms (m := ms0) (.nil _ _) (.nil _ _) (.nil _ _)) (.same _)
theorem pxdec_4 (s : BL) (hl : s.length ≤ 100000) (hlen : ¬ 4096 < s.length) (k : Int × RD) (hk : fromR 1 5 (⟨s, 0⟩ : RD) = k) (k1 : k.1 = 4) : MCalls Tryz.prog 15 [.str (bsS s)] St.none (fun r _ => r = .tup [.agg (msgD s).1.c, .int .i64 (msgD s).2]) := by
 refine MCalls.seen (MCalls.body 61 [.cell 2 47, .tmp 3] Tryz.func15 rfl rfl rfl rfl ?_)
 haveI hfew : Few s := ⟨by omega⟩
 haveI hsf : Sfx s (⟨s, 0⟩ : RD) := ⟨List.suffix_refl _⟩
 have hn5 := pnumber_call 5
 have h1 := fun l b hne => preadN_call 5 (by decide) (bs := s) (⟨s, 0⟩ : RD) l b hne
 haveI hs1 : Sfx s (fromR 1 5 (⟨s, 0⟩ : RD)).2 := inferInstance
 rw [hk] at hs1
 simp only [hk] at h1
 have hp := ppages_call
 have h2 := fun l => preadP_call (bs := s) k.2 l
 haveI hs2 : Sfx s (pageR k.2).2 := inferInstance
 obtain ⟨c, hc⟩ : ∃ c, pageR k.2 = c := ⟨_, rfl⟩
 rw [hc] at hs2
 simp only [hc] at h2
 have e0 : msgR ⟨s, 0⟩ = ({ ms0 with kd := 4, page := c.1 }, c.2) := by simp [msgR, hk, k1, hc]
 have e : msgD s = if endR (c.2) = 0 then ({ ms0 with kd := 4, page := c.1 }, 0) else (ms0, endR (c.2)) := by unfold msgD; rw [if_neg hlen, e0]
 have hend := fun l => pREnd_call (bs := s) (c.2) l
 obtain ⟨ev, hev⟩ : ∃ x, endR (c.2) = x := ⟨_, rfl⟩
 rw [hev] at e
 simp only [hev] at hend
 have hrec := fun (σ : St) (f g i : MV) => vms (σ := σ) (m := { ms0 with kd := 4, page := c.1 }) (f := f) (g := g) (i := i)
 simp only [MS.c, MS.k, ms0, cm0, ed0, pa0, tk0, re0, pg0, u32z] at hrec
 have hbt : (bsS s).toList.map (fun b => [MV.int .u8 (b.toNat : Int)]) = s.map bc := bs_toList _
 clear hev e0 hk
 by_cases hz : ev = 0
 ·rw [if_pos hz] at e
  rw [e]
  clear e
  repeat' (first | (((with_reducible refine use_newR (by omega) ?hp fun l hlp hl0 => ?_); (case hp => simp [St.set, St.none, *]); have hpl := Ne.symm hlp; revert hl0; (repeat refine wS fun _ _ => ?_); intro hl0)) | (((with_reducible refine use_new hn5 fun b hb => ?_); revert hb; (repeat refine wS fun _ _ => ?_); intro hb)) | (((with_reducible refine use_lb (by assumption) ?hq (h1 _ _ (by assumption)) ?_); (case hq => simp [St.set, St.none, *]))) | (with_reducible refine up hp ?_) | (with_reducible (refine wQ ?_; first | refine uR (h2 ..) ?_ | refine uR (hend ..) ?_)) | (with_reducible first | (refine wN fun _ hnl => ?_; revert hnl; (repeat refine wS fun _ _ => ?_); intro hnl) | refine wE ?_ | (refine wK ?_ ?_ <;> intro h) | (refine wB ?_ ?_ <;> intro h <;> simp only [h])) | simp (maxSteps := 4000000) (disch := first | decide | assumption | omega | (simp only [wL]; omega)) only [go_sem, simprocAttr, Tryz.f15, FYs, bsS_size, k1, hbt])
  all_goals (try (exfalso; omega))
  all_goals exact View.two (hrec _ _ _ _ (.nil _ _) (.nil _ _) (.same _)) (.same _)
 ·rw [if_neg hz] at e
  rw [e]
  clear e
  repeat' (first | (((with_reducible refine use_newR (by omega) ?hp fun l hlp hl0 => ?_); (case hp => simp [St.set, St.none, *]); have hpl := Ne.symm hlp; revert hl0; (repeat refine wS fun _ _ => ?_); intro hl0)) | (((with_reducible refine use_new hn5 fun b hb => ?_); revert hb; (repeat refine wS fun _ _ => ?_); intro hb)) | (((with_reducible refine use_lb (by assumption) ?hq (h1 _ _ (by assumption)) ?_); (case hq => simp [St.set, St.none, *]))) | (with_reducible refine up hp ?_) | (with_reducible (refine wQ ?_; first | refine uR (h2 ..) ?_ | refine uR (hend ..) ?_)) | (with_reducible first | (refine wN fun _ hnl => ?_; revert hnl; (repeat refine wS fun _ _ => ?_); intro hnl) | refine wE ?_ | (refine wK ?_ ?_ <;> intro h) | (refine wB ?_ ?_ <;> intro h <;> simp only [h])) | simp (maxSteps := 4000000) (disch := first | decide | assumption | omega | (simp only [wL]; omega)) only [go_sem, simprocAttr, Tryz.f15, FYs, bsS_size, k1, hbt])
  all_goals (try (exfalso; omega))
  all_goals exact View.two (vms (m := ms0) (.nil _ _) (.nil _ _) (.nil _ _)) (.same _)
theorem pxdec_3 (s : BL) (hl : s.length ≤ 100000) (hlen : ¬ 4096 < s.length) (k : Int × RD) (hk : fromR 1 5 (⟨s, 0⟩ : RD) = k) (k1 : k.1 = 3) : MCalls Tryz.prog 15 [.str (bsS s)] St.none (fun r _ => r = .tup [.agg (msgD s).1.c, .int .i64 (msgD s).2]) := by
 refine MCalls.seen (MCalls.body 61 [.cell 2 47, .tmp 3] Tryz.func15 rfl rfl rfl rfl ?_)
 haveI hfew : Few s := ⟨by omega⟩
 haveI hsf : Sfx s (⟨s, 0⟩ : RD) := ⟨List.suffix_refl _⟩
 have hn5 := pnumber_call 5
 have h1 := fun l b hne => preadN_call 5 (by decide) (bs := s) (⟨s, 0⟩ : RD) l b hne
 haveI hs1 : Sfx s (fromR 1 5 (⟨s, 0⟩ : RD)).2 := inferInstance
 rw [hk] at hs1
 simp only [hk] at h1
 have hp := preplies_call
 have h2 := fun l => preadR_call (bs := s) k.2 l
 haveI hs2 : Sfx s (repR k.2).2 := inferInstance
 obtain ⟨c, hc⟩ : ∃ c, repR k.2 = c := ⟨_, rfl⟩
 rw [hc] at hs2
 simp only [hc] at h2
 have e0 : msgR ⟨s, 0⟩ = ({ ms0 with kd := 3, rep := c.1 }, c.2) := by simp [msgR, hk, k1, hc]
 have e : msgD s = if endR (c.2) = 0 then ({ ms0 with kd := 3, rep := c.1 }, 0) else (ms0, endR (c.2)) := by unfold msgD; rw [if_neg hlen, e0]
 have hend := fun l => pREnd_call (bs := s) (c.2) l
 obtain ⟨ev, hev⟩ : ∃ x, endR (c.2) = x := ⟨_, rfl⟩
 rw [hev] at e
 simp only [hev] at hend
 have hrec := fun (σ : St) (f g i : MV) => vms (σ := σ) (m := { ms0 with kd := 3, rep := c.1 }) (f := f) (g := g) (i := i)
 simp only [MS.c, MS.k, ms0, cm0, ed0, pa0, tk0, re0, pg0, u32z] at hrec
 have hbt : (bsS s).toList.map (fun b => [MV.int .u8 (b.toNat : Int)]) = s.map bc := bs_toList _
 clear hev e0 hk
 by_cases hz : ev = 0
 ·rw [if_pos hz] at e
  rw [e]
  clear e
  repeat' (first | (((with_reducible refine use_newR (by omega) ?hp fun l hlp hl0 => ?_); (case hp => simp [St.set, St.none, *]); have hpl := Ne.symm hlp; revert hl0; (repeat refine wS fun _ _ => ?_); intro hl0)) | (((with_reducible refine use_new hn5 fun b hb => ?_); revert hb; (repeat refine wS fun _ _ => ?_); intro hb)) | (((with_reducible refine use_lb (by assumption) ?hq (h1 _ _ (by assumption)) ?_); (case hq => simp [St.set, St.none, *]))) | (with_reducible refine up hp ?_) | (with_reducible (refine wQ ?_; first | refine uR (h2 ..) ?_ | refine uR (hend ..) ?_)) | (with_reducible first | (refine wN fun _ hnl => ?_; revert hnl; (repeat refine wS fun _ _ => ?_); intro hnl) | refine wE ?_ | (refine wK ?_ ?_ <;> intro h) | (refine wB ?_ ?_ <;> intro h <;> simp only [h])) | simp (maxSteps := 4000000) (disch := first | decide | assumption | omega | (simp only [wL]; omega)) only [go_sem, simprocAttr, Tryz.f15, FYs, bsS_size, k1, hbt])
  all_goals (try (exfalso; omega))
  all_goals exact View.two (hrec _ _ _ _ (.nil _ _) (.same _) (.nil _ _)) (.same _)
 ·rw [if_neg hz] at e
  rw [e]
  clear e
  repeat' (first | (((with_reducible refine use_newR (by omega) ?hp fun l hlp hl0 => ?_); (case hp => simp [St.set, St.none, *]); have hpl := Ne.symm hlp; revert hl0; (repeat refine wS fun _ _ => ?_); intro hl0)) | (((with_reducible refine use_new hn5 fun b hb => ?_); revert hb; (repeat refine wS fun _ _ => ?_); intro hb)) | (((with_reducible refine use_lb (by assumption) ?hq (h1 _ _ (by assumption)) ?_); (case hq => simp [St.set, St.none, *]))) | (with_reducible refine up hp ?_) | (with_reducible (refine wQ ?_; first | refine uR (h2 ..) ?_ | refine uR (hend ..) ?_)) | (with_reducible first | (refine wN fun _ hnl => ?_; revert hnl; (repeat refine wS fun _ _ => ?_); intro hnl) | refine wE ?_ | (refine wK ?_ ?_ <;> intro h) | (refine wB ?_ ?_ <;> intro h <;> simp only [h])) | simp (maxSteps := 4000000) (disch := first | decide | assumption | omega | (simp only [wL]; omega)) only [go_sem, simprocAttr, Tryz.f15, FYs, bsS_size, k1, hbt])
  all_goals (try (exfalso; omega))
  all_goals exact View.two (vms (m := ms0) (.nil _ _) (.nil _ _) (.nil _ _)) (.same _)
theorem pxdec_2 (s : BL) (hl : s.length ≤ 100000) (hlen : ¬ 4096 < s.length) (k : Int × RD) (hk : fromR 1 5 (⟨s, 0⟩ : RD) = k) (k1 : k.1 = 2) : MCalls Tryz.prog 15 [.str (bsS s)] St.none (fun r _ => r = .tup [.agg (msgD s).1.c, .int .i64 (msgD s).2]) := by
 refine MCalls.seen (MCalls.body 61 [.cell 2 47, .tmp 3] Tryz.func15 rfl rfl rfl rfl ?_)
 haveI hfew : Few s := ⟨by omega⟩
 haveI hsf : Sfx s (⟨s, 0⟩ : RD) := ⟨List.suffix_refl _⟩
 have hn5 := pnumber_call 5
 have h1 := fun l b hne => preadN_call 5 (by decide) (bs := s) (⟨s, 0⟩ : RD) l b hne
 haveI hs1 : Sfx s (fromR 1 5 (⟨s, 0⟩ : RD)).2 := inferInstance
 rw [hk] at hs1
 simp only [hk] at h1
 have hp := ptokens_call
 have hn16 := pnumber_call 16
 have h2 := fun l => preadT_call (bs := s) k.2 l
 haveI hs2 : Sfx s (tokR k.2).2 := inferInstance
 obtain ⟨t, ht⟩ : ∃ c, tokR k.2 = c := ⟨_, rfl⟩
 rw [ht] at hs2
 simp only [ht] at h2
 have h3 := fun l b hne => preadN_call 16 (by decide) (bs := s) t.2 l b hne
 haveI hs3 : Sfx s (fromR 1 16 t.2).2 := inferInstance
 obtain ⟨c, hc⟩ : ∃ c, fromR 1 16 t.2 = c := ⟨_, rfl⟩
 rw [hc] at hs3
 simp only [hc] at h3
 have e0 : msgR ⟨s, 0⟩ = ({ ms0 with kd := 2, tok := t.1, size := c.1 }, c.2) := by simp [msgR, hk, k1, ht, hc]
 have e : msgD s = if endR (c.2) = 0 then ({ ms0 with kd := 2, tok := t.1, size := c.1 }, 0) else (ms0, endR (c.2)) := by unfold msgD; rw [if_neg hlen, e0]
 have hend := fun l => pREnd_call (bs := s) (c.2) l
 obtain ⟨ev, hev⟩ : ∃ x, endR (c.2) = x := ⟨_, rfl⟩
 rw [hev] at e
 simp only [hev] at hend
 have hrec := fun (σ : St) (f g i : MV) => vms (σ := σ) (m := { ms0 with kd := 2, tok := t.1, size := c.1 }) (f := f) (g := g) (i := i)
 simp only [MS.c, MS.k, ms0, cm0, ed0, pa0, tk0, re0, pg0, u32z] at hrec
 have hbt : (bsS s).toList.map (fun b => [MV.int .u8 (b.toNat : Int)]) = s.map bc := bs_toList _
 clear hev e0 hk
 by_cases hz : ev = 0
 ·rw [if_pos hz] at e
  rw [e]
  clear e
  repeat' (first | (((with_reducible refine use_newR (by omega) ?hp fun l hlp hl0 => ?_); (case hp => simp [St.set, St.none, *]); have hpl := Ne.symm hlp; revert hl0; (repeat refine wS fun _ _ => ?_); intro hl0)) | (((with_reducible refine use_new hn5 fun b hb => ?_); revert hb; (repeat refine wS fun _ _ => ?_); intro hb)) | (((with_reducible refine use_lb (by assumption) ?hq (h1 _ _ (by assumption)) ?_); (case hq => simp [St.set, St.none, *]))) | (with_reducible refine up hp ?_) | (((with_reducible refine use_new hn16 fun b hb => ?_); revert hb; (repeat refine wS fun _ _ => ?_); intro hb)) | (((with_reducible refine use_lmb (by assumption) (by assumption) (by assumption) ?hq (h3 _ _ (by assumption)) ?_); (case hq => simp [St.set, St.none, *]))) | (with_reducible (refine wQ ?_; first | refine uR (h2 ..) ?_ | refine uR (hend ..) ?_)) | (with_reducible first | (refine wN fun _ hnl => ?_; revert hnl; (repeat refine wS fun _ _ => ?_); intro hnl) | refine wE ?_ | (refine wK ?_ ?_ <;> intro h) | (refine wB ?_ ?_ <;> intro h <;> simp only [h])) | simp (maxSteps := 4000000) (disch := first | decide | assumption | omega | (simp only [wL]; omega)) only [go_sem, simprocAttr, Tryz.f15, FYs, bsS_size, k1, hbt])
  all_goals (try (exfalso; omega))
  all_goals exact View.two (hrec _ _ _ _ (.nil _ _) (.nil _ _) (.nil _ _)) (.same _)
 ·rw [if_neg hz] at e
  rw [e]
  clear e
  repeat' (first | (((with_reducible refine use_newR (by omega) ?hp fun l hlp hl0 => ?_); (case hp => simp [St.set, St.none, *]); have hpl := Ne.symm hlp; revert hl0; (repeat refine wS fun _ _ => ?_); intro hl0)) | (((with_reducible refine use_new hn5 fun b hb => ?_); revert hb; (repeat refine wS fun _ _ => ?_); intro hb)) | (((with_reducible refine use_lb (by assumption) ?hq (h1 _ _ (by assumption)) ?_); (case hq => simp [St.set, St.none, *]))) | (with_reducible refine up hp ?_) | (((with_reducible refine use_new hn16 fun b hb => ?_); revert hb; (repeat refine wS fun _ _ => ?_); intro hb)) | (((with_reducible refine use_lmb (by assumption) (by assumption) (by assumption) ?hq (h3 _ _ (by assumption)) ?_); (case hq => simp [St.set, St.none, *]))) | (with_reducible (refine wQ ?_; first | refine uR (h2 ..) ?_ | refine uR (hend ..) ?_)) | (with_reducible first | (refine wN fun _ hnl => ?_; revert hnl; (repeat refine wS fun _ _ => ?_); intro hnl) | refine wE ?_ | (refine wK ?_ ?_ <;> intro h) | (refine wB ?_ ?_ <;> intro h <;> simp only [h])) | simp (maxSteps := 4000000) (disch := first | decide | assumption | omega | (simp only [wL]; omega)) only [go_sem, simprocAttr, Tryz.f15, FYs, bsS_size, k1, hbt])
  all_goals (try (exfalso; omega))
  all_goals exact View.two (vms (m := ms0) (.nil _ _) (.nil _ _) (.nil _ _)) (.same _)
theorem pxdec_1 (s : BL) (hl : s.length ≤ 100000) (hlen : ¬ 4096 < s.length) (k : Int × RD) (hk : fromR 1 5 (⟨s, 0⟩ : RD) = k) (k1 : k.1 = 1) : MCalls Tryz.prog 15 [.str (bsS s)] St.none (fun r _ => r = .tup [.agg (msgD s).1.c, .int .i64 (msgD s).2]) := by
 refine MCalls.seen (MCalls.body 61 [.cell 2 47, .tmp 3] Tryz.func15 rfl rfl rfl rfl ?_)
 haveI hfew : Few s := ⟨by omega⟩
 haveI hsf : Sfx s (⟨s, 0⟩ : RD) := ⟨List.suffix_refl _⟩
 have hn5 := pnumber_call 5
 have h1 := fun l b hne => preadN_call 5 (by decide) (bs := s) (⟨s, 0⟩ : RD) l b hne
 haveI hs1 : Sfx s (fromR 1 5 (⟨s, 0⟩ : RD)).2 := inferInstance
 rw [hk] at hs1
 simp only [hk] at h1
 have hp := pasks_call
 obtain ⟨c, hc⟩ : ∃ c, cmdR k.2 = c := ⟨_, rfl⟩
 have h2 := fun l => preadC_call (bs := s) k.2 l c hc
 haveI hs2 : Sfx s c.2 := by rw [← hc]; infer_instance
 have e0' : msgR ⟨s, 0⟩ = ({ ms0 with kd := 1, cmd := c.1 }, if c.2.e = 0 ∧ (c.1.kd = 1 ∨ c.1.kd = 5) then failR 3 c.2 else c.2) := by simp [msgR, hk, k1, hc]
 obtain ⟨y, hy⟩ : ∃ y, (if c.2.e = 0 ∧ (c.1.kd = 1 ∨ c.1.kd = 5) then failR 3 c.2 else c.2) = y := ⟨_, rfl⟩
 haveI hs3 : Sfx s y := by rw [← hy]; split <;> infer_instance
 have e0 : msgR ⟨s, 0⟩ = ({ ms0 with kd := 1, cmd := c.1 }, y) := by rw [e0', hy]
 simp only [hy] at h2
 clear hy e0' hc
 have e : msgD s = if endR (y) = 0 then ({ ms0 with kd := 1, cmd := c.1 }, 0) else (ms0, endR (y)) := by unfold msgD; rw [if_neg hlen, e0]
 have hend := fun l => pREnd_call (bs := s) (y) l
 obtain ⟨ev, hev⟩ : ∃ x, endR (y) = x := ⟨_, rfl⟩
 rw [hev] at e
 simp only [hev] at hend
 have hrec := fun (σ : St) (f g i : MV) => vms (σ := σ) (m := { ms0 with kd := 1, cmd := c.1 }) (f := f) (g := g) (i := i)
 simp only [MS.c, MS.k, ms0, cm0, ed0, pa0, tk0, re0, pg0, u32z] at hrec
 have hbt : (bsS s).toList.map (fun b => [MV.int .u8 (b.toNat : Int)]) = s.map bc := bs_toList _
 clear hev e0 hk
 by_cases hz : ev = 0
 ·rw [if_pos hz] at e
  rw [e]
  clear e
  repeat' (first | (((with_reducible refine use_newR (by omega) ?hp fun l hlp hl0 => ?_); (case hp => simp [St.set, St.none, *]); have hpl := Ne.symm hlp; revert hl0; (repeat refine wS fun _ _ => ?_); intro hl0)) | (((with_reducible refine use_new hn5 fun b hb => ?_); revert hb; (repeat refine wS fun _ _ => ?_); intro hb)) | (((with_reducible refine use_lb (by assumption) ?hq (h1 _ _ (by assumption)) ?_); (case hq => simp [St.set, St.none, *]))) | (with_reducible refine up hp ?_) | (with_reducible (refine wQ ?_; first | refine uR (h2 ..) ?_ | refine uR (hend ..) ?_)) | (with_reducible first | (refine wN fun _ hnl => ?_; revert hnl; (repeat refine wS fun _ _ => ?_); intro hnl) | refine wE ?_ | (refine wK ?_ ?_ <;> intro h) | (refine wB ?_ ?_ <;> intro h <;> simp only [h])) | simp (maxSteps := 4000000) (disch := first | decide | assumption | omega | (simp only [wL]; omega)) only [go_sem, simprocAttr, Tryz.f15, FYs, bsS_size, k1, hbt])
  all_goals (try (exfalso; omega))
  all_goals exact View.two (hrec _ _ _ _ (.same _) (.nil _ _) (.nil _ _)) (.same _)
 ·rw [if_neg hz] at e
  rw [e]
  clear e
  repeat' (first | (((with_reducible refine use_newR (by omega) ?hp fun l hlp hl0 => ?_); (case hp => simp [St.set, St.none, *]); have hpl := Ne.symm hlp; revert hl0; (repeat refine wS fun _ _ => ?_); intro hl0)) | (((with_reducible refine use_new hn5 fun b hb => ?_); revert hb; (repeat refine wS fun _ _ => ?_); intro hb)) | (((with_reducible refine use_lb (by assumption) ?hq (h1 _ _ (by assumption)) ?_); (case hq => simp [St.set, St.none, *]))) | (with_reducible refine up hp ?_) | (with_reducible (refine wQ ?_; first | refine uR (h2 ..) ?_ | refine uR (hend ..) ?_)) | (with_reducible first | (refine wN fun _ hnl => ?_; revert hnl; (repeat refine wS fun _ _ => ?_); intro hnl) | refine wE ?_ | (refine wK ?_ ?_ <;> intro h) | (refine wB ?_ ?_ <;> intro h <;> simp only [h])) | simp (maxSteps := 4000000) (disch := first | decide | assumption | omega | (simp only [wL]; omega)) only [go_sem, simprocAttr, Tryz.f15, FYs, bsS_size, k1, hbt])
  all_goals (try (exfalso; omega))
  all_goals exact View.two (vms (m := ms0) (.nil _ _) (.nil _ _) (.nil _ _)) (.same _)
theorem pxdec_e (s : BL) (hl : s.length ≤ 100000) (hlen : ¬ 4096 < s.length) (k : Int × RD) (hk : fromR 1 5 (⟨s, 0⟩ : RD) = k) (k1 : k.1 ≠ 1) (k2 : k.1 ≠ 2) (k3 : k.1 ≠ 3) (k4 : k.1 ≠ 4) (k5 : k.1 ≠ 5) : MCalls Tryz.prog 15 [.str (bsS s)] St.none (fun r _ => r = .tup [.agg (msgD s).1.c, .int .i64 (msgD s).2]) := by
 refine MCalls.seen (MCalls.body 61 [.cell 2 47, .tmp 3] Tryz.func15 rfl rfl rfl rfl ?_)
 haveI hfew : Few s := ⟨by omega⟩
 haveI hsf : Sfx s (⟨s, 0⟩ : RD) := ⟨List.suffix_refl _⟩
 have hn5 := pnumber_call 5
 have h1 := fun l b hne => preadN_call 5 (by decide) (bs := s) (⟨s, 0⟩ : RD) l b hne
 haveI hs1 : Sfx s (fromR 1 5 (⟨s, 0⟩ : RD)).2 := inferInstance
 rw [hk] at hs1
 simp only [hk] at h1
 have e0 : msgR ⟨s, 0⟩ = ({ ms0 with kd := k.1 }, k.2) := by simp [msgR, hk, k1, k2, k3, k4, k5]
 have e : msgD s = if endR (k.2) = 0 then ({ ms0 with kd := k.1 }, 0) else (ms0, endR (k.2)) := by unfold msgD; rw [if_neg hlen, e0]
 have hend := fun l => pREnd_call (bs := s) (k.2) l
 obtain ⟨ev, hev⟩ : ∃ x, endR (k.2) = x := ⟨_, rfl⟩
 rw [hev] at e
 simp only [hev] at hend
 have hrec := fun (σ : St) (f g i : MV) => vms (σ := σ) (m := { ms0 with kd := k.1 }) (f := f) (g := g) (i := i)
 simp only [MS.c, MS.k, ms0, cm0, ed0, pa0, tk0, re0, pg0, u32z] at hrec
 have hbt : (bsS s).toList.map (fun b => [MV.int .u8 (b.toNat : Int)]) = s.map bc := bs_toList _
 clear hev e0 hk
 by_cases hz : ev = 0
 ·rw [if_pos hz] at e
  rw [e]
  clear e
  repeat' (first | (((with_reducible refine use_newR (by omega) ?hp fun l hlp hl0 => ?_); (case hp => simp [St.set, St.none, *]); have hpl := Ne.symm hlp; revert hl0; (repeat refine wS fun _ _ => ?_); intro hl0)) | (((with_reducible refine use_new hn5 fun b hb => ?_); revert hb; (repeat refine wS fun _ _ => ?_); intro hb)) | (((with_reducible refine use_lb (by assumption) ?hq (h1 _ _ (by assumption)) ?_); (case hq => simp [St.set, St.none, *]))) | (with_reducible (refine wQ ?_; first | refine uR (hend ..) ?_)) | (with_reducible first | (refine wN fun _ hnl => ?_; revert hnl; (repeat refine wS fun _ _ => ?_); intro hnl) | refine wE ?_ | (refine wK ?_ ?_ <;> intro h) | (refine wB ?_ ?_ <;> intro h <;> simp only [h])) | simp (maxSteps := 4000000) (disch := first | decide | assumption | omega | (simp only [wL]; omega)) only [go_sem, simprocAttr, Tryz.f15, FYs, bsS_size, hbt])
  all_goals (try (exfalso; omega))
  all_goals exact View.two (hrec _ _ _ _ (.nil _ _) (.nil _ _) (.nil _ _)) (.same _)
 ·rw [if_neg hz] at e
  rw [e]
  clear e
  repeat' (first | (((with_reducible refine use_newR (by omega) ?hp fun l hlp hl0 => ?_); (case hp => simp [St.set, St.none, *]); have hpl := Ne.symm hlp; revert hl0; (repeat refine wS fun _ _ => ?_); intro hl0)) | (((with_reducible refine use_new hn5 fun b hb => ?_); revert hb; (repeat refine wS fun _ _ => ?_); intro hb)) | (((with_reducible refine use_lb (by assumption) ?hq (h1 _ _ (by assumption)) ?_); (case hq => simp [St.set, St.none, *]))) | (with_reducible (refine wQ ?_; first | refine uR (hend ..) ?_)) | (with_reducible first | (refine wN fun _ hnl => ?_; revert hnl; (repeat refine wS fun _ _ => ?_); intro hnl) | refine wE ?_ | (refine wK ?_ ?_ <;> intro h) | (refine wB ?_ ?_ <;> intro h <;> simp only [h])) | simp (maxSteps := 4000000) (disch := first | decide | assumption | omega | (simp only [wL]; omega)) only [go_sem, simprocAttr, Tryz.f15, FYs, bsS_size, hbt])
  all_goals (try (exfalso; omega))
  all_goals exact View.two (vms (m := ms0) (.nil _ _) (.nil _ _) (.nil _ _)) (.same _)
theorem pxdec_call (s : BL) (hl : s.length ≤ 100000) : MCalls Tryz.prog 15 [.str (bsS s)] St.none (fun r _ => r = .tup [.agg (msgD s).1.c, .int .i64 (msgD s).2]) := by
 by_cases hlen : 4096 < s.length
 ·exact pxdec_0 s hl hlen
 obtain ⟨k, hk⟩ : ∃ k, fromR 1 5 (⟨s, 0⟩ : RD) = k := ⟨_, rfl⟩
 by_cases k1 : k.1 = 1
 ·exact pxdec_1 s hl hlen k hk k1
 by_cases k2 : k.1 = 2
 ·exact pxdec_2 s hl hlen k hk k2
 by_cases k3 : k.1 = 3
 ·exact pxdec_3 s hl hlen k hk k3
 by_cases k4 : k.1 = 4
 ·exact pxdec_4 s hl hlen k hk k4
 by_cases k5 : k.1 = 5
 ·exact pxdec_5 s hl hlen k hk k5
 ·exact pxdec_e s hl hlen k hk k1 k2 k3 k4 k5
end Go.Proofs.YtfbodefnblpflaaGreatDoor
end
