/- Parts of the proof, joined. Each part says what it proves, and under which conditions it does: those that its theorems name. -/
import Derived.Test.YtfbodefnblpflaaGreatDoorMbv
import Derived.Test.YtfbodefnblpflaaGreatDoorMby
set_option linter.unusedVariables false
set_option linter.unusedSimpArgs false
set_option maxHeartbeats 4000000
section
namespace Go.Proofs.YtfbodefnblpflaaGreatDoor
set_option maxRecDepth 100000
set_option maxHeartbeats 4000000
theorem ppcheck1_call (x : ND) : MCalls Tryz.prog 154 [.agg x.c] St.none (fun r _ => r = .bool (!ndOk x)) := by
 refine MCalls.drops (MCalls.body 6 [.tmp 2] Tryz.func154 rfl rfl rfl rfl ?_)
 have h := pnode_call x
 repeat' (first | (with_reducible first | refine up h ?_) | (with_reducible first | (refine wN fun _ hnl => ?_; revert hnl; (repeat refine wS fun _ _ => ?_); intro hnl) | refine wE ?_ | (refine wK ?_ ?_ <;> intro h) | (refine wB ?_ ?_ <;> intro h <;> simp only [h])) | simp (maxSteps := 4000000) (disch := first | decide | assumption | omega | (simp only [wL]; omega)) only [go_sem, simprocAttr, Tryz.f154])
 all_goals first | exact ⟨_, St.le_refl _, rfl⟩ | exact ⟨_, St.le_refl _⟩
theorem ppcheck_call (l : List ND) (hl : l.length ≤ 1000000) (t : Bool) : MCalls Tryz.prog 101 [.lst 5 (l.map ND.c) t] St.none (fun r _ => r = .int .i64 (predErr l)) := by
 refine (MCalls.body 25 [.tmp 2] Tryz.func101 rfl rfl rfl rfl ?_)
 have hc := contains_call (fun x => !ndOk x) 154 l hl t (fun x _ => ppcheck1_call x)
 have hd := pdepth_call l hl t
 have he := pend_call l hl t 0
 have hall : (l.any fun x => !ndOk x) = !l.all ndOk := by
  rw [Bool.eq_iff_iff]
  simp
 rw [hall] at hc
 have hlen : l.length = 0 ↔ l = [] := List.length_eq_zero_iff
 obtain ⟨al, hal⟩ : ∃ b, l.all ndOk = b := ⟨_, rfl⟩
 obtain ⟨dd, hdd⟩ : ∃ d, depthS l = d := ⟨_, rfl⟩
 obtain ⟨ee, hee⟩ : ∃ d, endS l 0 = d := ⟨_, rfl⟩
 have e : predErr l = if 31 < l.length then 4 else if l.length = 0 ∨ ee ≠ l.length ∨ al = false then 1 else if 8 < dd then 5 else 0 := by
  unfold predErr; rw [hal, hdd, hee]; simp only [hlen]
 rw [e]
 rw [hal] at hc
 rw [hdd] at hd
 rw [hee] at he
 clear e hlen hall hal hdd hee
 by_cases h31 : 31 < l.length
 ·rw [if_pos h31]
  repeat' (first | (with_reducible first | (refine wN fun _ hnl => ?_; revert hnl; (repeat refine wS fun _ _ => ?_); intro hnl) | refine wE ?_ | (refine wK ?_ ?_ <;> intro h) | (refine wB ?_ ?_ <;> intro h <;> simp only [h])) | simp (maxSteps := 4000000) (disch := first | decide | assumption | omega | (simp only [wL]; omega)) only [go_sem, simprocAttr, Tryz.f101])
 ·rw [if_neg h31]
  by_cases h0 : l.length = 0
  ·rw [if_pos (.inl h0)]
   repeat' (first | (with_reducible first | refine up he ?_) | (with_reducible first | (refine wN fun _ hnl => ?_; revert hnl; (repeat refine wS fun _ _ => ?_); intro hnl) | refine wE ?_ | (refine wK ?_ ?_ <;> intro h) | (refine wB ?_ ?_ <;> intro h <;> simp only [h])) | simp (maxSteps := 4000000) (disch := first | decide | assumption | omega | (simp only [wL]; omega)) only [go_sem, simprocAttr, Tryz.f101])
  ·by_cases h1 : ee = l.length
   ·subst h1
    cases al
    ·rw [if_pos (.inr (.inr rfl))]
     repeat' (first | (with_reducible first | refine up he ?_ | refine up hc ?_) | (with_reducible first | (refine wN fun _ hnl => ?_; revert hnl; (repeat refine wS fun _ _ => ?_); intro hnl) | refine wE ?_ | (refine wK ?_ ?_ <;> intro h) | (refine wB ?_ ?_ <;> intro h <;> simp only [h])) | simp (maxSteps := 4000000) (disch := first | decide | assumption | omega | (simp only [wL]; omega)) only [go_sem, simprocAttr, Tryz.f101])
    ·rw [if_neg (by simp [h0])]
     by_cases h8 : 8 < dd
     ·rw [if_pos h8]
      repeat' (first | (with_reducible first | refine up he ?_ | refine up hc ?_ | refine up hd ?_) | (with_reducible first | (refine wN fun _ hnl => ?_; revert hnl; (repeat refine wS fun _ _ => ?_); intro hnl) | refine wE ?_ | (refine wK ?_ ?_ <;> intro h) | (refine wB ?_ ?_ <;> intro h <;> simp only [h])) | simp (maxSteps := 4000000) (disch := first | decide | assumption | omega | (simp only [wL]; omega)) only [go_sem, simprocAttr, Tryz.f101])
     ·rw [if_neg h8]
      repeat' (first | (with_reducible first | refine up he ?_ | refine up hc ?_ | refine up hd ?_) | (with_reducible first | (refine wN fun _ hnl => ?_; revert hnl; (repeat refine wS fun _ _ => ?_); intro hnl) | refine wE ?_ | (refine wK ?_ ?_ <;> intro h) | (refine wB ?_ ?_ <;> intro h <;> simp only [h])) | simp (maxSteps := 4000000) (disch := first | decide | assumption | omega | (simp only [wL]; omega)) only [go_sem, simprocAttr, Tryz.f101])
   ·rw [if_pos (.inr (.inl h1))]
    repeat' (first | (with_reducible first | refine up he ?_) | (with_reducible first | (refine wN fun _ hnl => ?_; revert hnl; (repeat refine wS fun _ _ => ?_); intro hnl) | refine wE ?_ | (refine wK ?_ ?_ <;> intro h) | (refine wB ?_ ?_ <;> intro h <;> simp only [h])) | simp (maxSteps := 4000000) (disch := first | decide | assumption | omega | (simp only [wL]; omega)) only [go_sem, simprocAttr, Tryz.f101])
theorem pnamed_call (op : Int) : MCalls Tryz.prog 160 [.int .i64 op] St.none (fun r _ => r = .bool (opN op)) := by
 refine (MCalls.body 9 [.tmp 2] Tryz.func160 rfl rfl rfl rfl ?_)
 unfold opN
 repeat' (first | (with_reducible first | (refine wN fun _ hnl => ?_; revert hnl; (repeat refine wS fun _ _ => ?_); intro hnl) | refine wE ?_ | (refine wK ?_ ?_ <;> intro h) | (refine wB ?_ ?_ <;> intro h <;> simp only [h])) | simp (maxSteps := 4000000) (disch := first | decide | assumption | omega | (simp only [wL]; omega)) only [go_sem, simprocAttr, Tryz.f160])
 all_goals first | exact decide_eq_false (by omega) | exact (decide_eq_false (by omega)).symm | (rw [eq_comm, decide_eq_decide]; omega) | (rw [decide_eq_decide]; omega)
theorem pvalued_call (op : Int) : MCalls Tryz.prog 161 [.int .i64 op] St.none (fun r _ => r = .bool (opV op)) := by
 refine (MCalls.body 9 [.tmp 2] Tryz.func161 rfl rfl rfl rfl ?_)
 unfold opV
 repeat' (first | (with_reducible first | (refine wN fun _ hnl => ?_; revert hnl; (repeat refine wS fun _ _ => ?_); intro hnl) | refine wE ?_ | (refine wK ?_ ?_ <;> intro h) | (refine wB ?_ ?_ <;> intro h <;> simp only [h])) | simp (maxSteps := 4000000) (disch := first | decide | assumption | omega | (simp only [wL]; omega)) only [go_sem, simprocAttr, Tryz.f161])
 all_goals first | exact decide_eq_false (by omega) | exact (decide_eq_false (by omega)).symm | (rw [eq_comm, decide_eq_decide]; omega) | (rw [decide_eq_decide]; omega)
theorem pbelow_call (op : Int) : MCalls Tryz.prog 163 [.int .i64 op] St.none (fun r _ => r = .int .i64 (mostN op + 1)) := by
 refine (MCalls.body 8 [.tmp 2] Tryz.func163 rfl rfl rfl rfl ?_)
 unfold mostN
 repeat' (first | (with_reducible first | (refine wN fun _ hnl => ?_; revert hnl; (repeat refine wS fun _ _ => ?_); intro hnl) | refine wE ?_ | (refine wK ?_ ?_ <;> intro h) | (refine wB ?_ ?_ <;> intro h <;> simp only [h])) | simp (maxSteps := 4000000) (disch := first | decide | assumption | omega | (simp only [wL]; omega)) only [go_sem, simprocAttr, Tryz.f163])
 all_goals (first | rfl | (simp [*]; done))
theorem predErr_31 {l : List ND} (h : predErr l = 0) : l.length ≤ 31 ∧ l.all ndOk = true := by
 unfold predErr at h
 by_cases h31 : 31 < l.length
 ·rw [if_pos h31] at h; cases h
 ·rw [if_neg h31] at h
  by_cases h1 : l = [] ∨ endS l 0 ≠ l.length ∨ l.all ndOk = false
  ·rw [if_pos h1] at h; cases h
  ·refine ⟨by omega, ?_⟩
   cases ha : l.all ndOk
   ·exact absurd (.inr (.inr ha)) h1
   ·rfl
end Go.Proofs.YtfbodefnblpflaaGreatDoor
end

section
namespace Go.Proofs.YtfbodefnblpflaaGreatDoor
set_option maxRecDepth 100000
set_option maxHeartbeats 4000000
theorem nodeR_eq (r : RD) (n : Int × RD) (hn : numR 12 r = n) : nodeR r =
  if n.2.e = 0 ∧ n.1 = 0 then (nd0, failR 3 n.2)
  else if 6 ≤ n.1 ∧ n.1 ≤ 9 then (⟨n.1, (numR (mostN n.1) n.2).1, (valR (numR (mostN n.1) n.2).2).1⟩, if ndOk ⟨n.1, (numR (mostN n.1) n.2).1, (valR (numR (mostN n.1) n.2).2).1⟩ = false then failR 3 (valR (numR (mostN n.1) n.2).2).2 else (valR (numR (mostN n.1) n.2).2).2)
  else if 3 ≤ n.1 ∧ n.1 ≤ 5 then (⟨n.1, (numR (mostN n.1) n.2).1, va0⟩, (numR (mostN n.1) n.2).2)
  else (⟨n.1, 0, va0⟩, n.2) := by
 have hr := (numR_rng 12 r).1
 unfold nodeR fromR
 rw [hn] at hr ⊢
 simp only [opN, opV, decide_eq_true_eq]
 by_cases h0 : n.2.e = 0 ∧ n.1 = 0
 ·rw [if_pos h0]
  obtain ⟨h0e, h0n⟩ := h0
  simp [h0n, nd0, va0]
 ·rw [if_neg h0]
  have h1 : (if n.1 < 1 then failR 3 n.2 else n.2) = n.2 := by
   split
   ·exact failR_stk (by omega)
   ·rfl
  rw [h1]
  by_cases hV : 6 ≤ n.1 ∧ n.1 ≤ 9
  ·rw [if_pos hV, if_pos (by omega), if_pos hV]
   simp only [hV, and_self, true_and]
  ·rw [if_neg hV]
   by_cases hN : 3 ≤ n.1 ∧ n.1 ≤ 5
   ·rw [if_pos hN, if_pos (by omega), if_neg hV, if_neg (by omega)]
   ·rw [if_neg hN, if_neg (by omega), if_neg hV, if_neg (by omega)]
theorem rnodeR_call (r : RD) [hs : Sh r] (l : Nat) : MCalls Tryz.prog 147 [.ptr l 0 0] (St.none.set l (rR r)) (fun v σ' => v = .agg (nodeR r).1.c ∧ σ' = St.none.set l (rR (nodeR r).2)) := by
 refine MCalls.obj (MCalls.body 57 [.cell 2 115] Tryz.func147 rfl rfl rfl rfl ?_)
 obtain ⟨n, hn⟩ : ∃ n, numR 12 r = n := ⟨_, rfl⟩
 have hr := numR_rng 12 r
 have h1 := rRNum_call 12 r l
 rw [nodeR_eq r n hn]
 haveI hns : Sh n.2 := by rw [← hn]; infer_instance
 rw [hn] at h1 hr
 by_cases h0 : n.2.e = 0 ∧ n.1 = 0
 ·rw [if_pos h0]
  repeat' (first | (with_reducible (refine wQ ?_; first | refine uR (h1 ..) ?_ | refine uR (rRFail_call ..) ?_)) | (with_reducible first | (refine wN fun _ hnl => ?_; revert hnl; (repeat refine wS fun _ _ => ?_); intro hnl) | refine wE ?_ | (refine wK ?_ ?_ <;> intro h) | (refine wB ?_ ?_ <;> intro h <;> simp only [h])) | simp (maxSteps := 4000000) (disch := first | decide | assumption | omega | (simp only [wL]; omega)) only [go_sem, simprocAttr, Tryz.f147])
  all_goals simp [nd0, va0, h0.2]
 ·rw [if_neg h0]
  have hm := rmost_call n.1
  have h2 := rRNum_call (mostN n.1) n.2 l
  obtain ⟨m, hme⟩ : ∃ m, numR (mostN n.1) n.2 = m := ⟨_, rfl⟩
  haveI hms : Sh m.2 := by rw [← hme]; infer_instance
  have h3 := rvalR_call m.2 l
  obtain ⟨v, hve⟩ : ∃ v, valR m.2 = v := ⟨_, rfl⟩
  have hc := rnode_call ⟨n.1, m.1, v.1⟩
  rw [hme] at h2 ⊢
  rw [hve] at h3 ⊢
  clear hme hve hn hns hms hs
  by_cases hV : 6 ≤ n.1 ∧ n.1 ≤ 9
  ·rw [if_pos hV]
   cases hok : ndOk ⟨n.1, m.1, v.1⟩ <;> rw [hok] at hc
   all_goals
    repeat' (first | (with_reducible (refine wQ ?_; first | refine uR (h1 ..) ?_ | refine uR (h2 ..) ?_ | refine uR (h3 ..) ?_ | refine uR (rRFail_call ..) ?_)) | (with_reducible first | refine up hm ?_ | refine up hc ?_) | (with_reducible first | (refine wN fun _ hnl => ?_; revert hnl; (repeat refine wS fun _ _ => ?_); intro hnl) | refine wE ?_ | (refine wK ?_ ?_ <;> intro h) | (refine wB ?_ ?_ <;> intro h <;> simp only [h])) | simp (maxSteps := 4000000) (disch := first | decide | assumption | omega | (simp only [wL]; omega)) only [go_sem, simprocAttr, Tryz.f147])
   all_goals (try simp only [Classical.not_not] at *)
   all_goals (first | (simp [failR, *]; done) | (exfalso; omega) | skip)
  ·rw [if_neg hV]
   by_cases hN : 3 ≤ n.1 ∧ n.1 ≤ 5
   ·rw [if_pos hN]
    repeat' (first | (with_reducible (refine wQ ?_; first | refine uR (h1 ..) ?_ | refine uR (h2 ..) ?_ | refine uR (h3 ..) ?_ | refine uR (rRFail_call ..) ?_)) | (with_reducible first | refine up hm ?_ | refine up hc ?_) | (with_reducible first | (refine wN fun _ hnl => ?_; revert hnl; (repeat refine wS fun _ _ => ?_); intro hnl) | refine wE ?_ | (refine wK ?_ ?_ <;> intro h) | (refine wB ?_ ?_ <;> intro h <;> simp only [h])) | simp (maxSteps := 4000000) (disch := first | decide | assumption | omega | (simp only [wL]; omega)) only [go_sem, simprocAttr, Tryz.f147])
    all_goals (first | (simp [va0]; done) | (exfalso; omega) | skip)
   ·rw [if_neg hN]
    repeat' (first | (with_reducible (refine wQ ?_; first | refine uR (h1 ..) ?_ | refine uR (h2 ..) ?_ | refine uR (h3 ..) ?_ | refine uR (rRFail_call ..) ?_)) | (with_reducible first | refine up hm ?_ | refine up hc ?_) | (with_reducible first | (refine wN fun _ hnl => ?_; revert hnl; (repeat refine wS fun _ _ => ?_); intro hnl) | refine wE ?_ | (refine wK ?_ ?_ <;> intro h) | (refine wB ?_ ?_ <;> intro h <;> simp only [h])) | simp (maxSteps := 4000000) (disch := first | decide | assumption | omega | (simp only [wL]; omega)) only [go_sem, simprocAttr, Tryz.f147])
    all_goals (first | (simp [va0]; done) | (exfalso; omega) | skip)
end Go.Proofs.YtfbodefnblpflaaGreatDoor
end

section
namespace Go.Proofs.YtfbodefnblpflaaGreatDoor
set_option maxRecDepth 100000
set_option maxHeartbeats 4000000
theorem predR_eq (r : RD) (k : Int) (s0 s : RD) (hn : numR 31 r = (k, s0)) (hs : (if s0.e = 0 ∧ k = 0 then failR 3 s0 else s0) = s) : fromR 1 31 r = (k, s) := by
 have hr := (numR_rng 31 r).1
 unfold fromR
 rw [hn] at hr ⊢
 simp only at hr ⊢
 rw [← hs]
 by_cases h0 : s0.e = 0 ∧ k = 0
 ·rw [if_pos h0, if_pos (by omega)]
 ·rw [if_neg h0]
  split
  ·rw [failR_stk (by omega)]
  ·rfl
theorem rpredR_call (r : RD) [hs : Sh r] (l : Nat) : MCalls Tryz.prog 95 [.ptr l 0 0] (St.none.set l (rR r)) (fun v σ' => v = .lst 5 ((predR r).1.map ND.c) false ∧ σ' = St.none.set l (rR (predR r).2)) := by
 refine MCalls.seenO (MCalls.body 53 [.tmp 2] Tryz.func95 rfl rfl rfl rfl ?_)
 have hr := numR_rng 31 r
 have hm := numR_most (most := 31) (by decide) r
 have h1 := rRNum_call 31 r l
 haveI hns : Sh (numR 31 r).2 := inferInstance
 obtain ⟨⟨k, s0⟩, hn⟩ : ∃ n, numR 31 r = n := ⟨_, rfl⟩
 have hpe := predR_eq r k s0 _ hn rfl
 rw [hn] at h1 hr hm hns
 simp only at h1 hr hm hns
 obtain ⟨K, rfl⟩ : ∃ K : Nat, k = K := ⟨k.toNat, by omega⟩
 have hK : K ≤ 31 := by omega
 obtain ⟨s, hse⟩ : ∃ s, (if s0.e = 0 ∧ (K : Int) = 0 then failR 3 s0 else s0) = s := ⟨_, rfl⟩
 rw [hse] at hpe
 haveI hss : Sh s := by rw [← hse]; infer_instance
 obtain ⟨T, hT⟩ : ∃ T, listR nodeR K ([], s) = T := ⟨_, rfl⟩
 have e : predR r = if T.2.e = 0 then (if predErr T.1 = 0 then T else ([], failR (if predErr T.1 = 5 then 5 else if predErr T.1 = 1 then 3 else predErr T.1) T.2)) else ([], T.2) := by
  unfold predR; simp only [hpe, Int.toNat_natCast, hT]
 obtain ⟨res, hres⟩ : ∃ p, predR r = p := ⟨_, rfl⟩
 rw [hres] at e ⊢
 clear hpe hn hres hr hm
 by_cases h0 : s0.e = 0 ∧ (K : Int) = 0
 case' pos =>
  have h2 := rRFail_call 3 s0 l
  rw [if_pos h0] at hse
  rw [hse] at h2
  repeat' (first | (with_reducible (refine wQ ?_; first | refine uR (h1 ..) ?_ | refine uR (h2 ..) ?_)) | (with_reducible first | (refine wT ?_; (first | ((fail_if_success (have := nl1)); refine wN fun nl1 hnl => ?_) | ((fail_if_success (have := nl2)); refine wN fun nl2 hnl => ?_) | ((fail_if_success (have := nl3)); refine wN fun nl3 hnl => ?_) | refine wN fun _ hnl => ?_); revert hnl; (repeat refine wS fun _ _ => ?_); intro hnl) | refine wE ?_ | (refine wK ?_ ?_ <;> intro h) | (refine wB ?_ ?_ <;> intro h <;> simp only [h])) | simp (maxSteps := 4000000) (disch := first | decide | assumption | omega | (simp only [wL]; omega)) only [go_sem, simprocAttr, Tryz.f95])
 case' neg =>
  rw [if_neg h0] at hse
  rw [hse] at h1 h0
  repeat' (first | (with_reducible (refine wQ ?_; first | refine uR (h1 ..) ?_)) | (with_reducible first | (refine wT ?_; (first | ((fail_if_success (have := nl1)); refine wN fun nl1 hnl => ?_) | ((fail_if_success (have := nl2)); refine wN fun nl2 hnl => ?_) | ((fail_if_success (have := nl3)); refine wN fun nl3 hnl => ?_) | refine wN fun _ hnl => ?_); revert hnl; (repeat refine wS fun _ _ => ?_); intro hnl) | refine wE ?_ | (refine wK ?_ ?_ <;> intro h) | (refine wB ?_ ?_ <;> intro h <;> simp only [h])) | simp (maxSteps := 4000000) (disch := first | decide | assumption | omega | (simp only [wL]; omega)) only [go_sem, simprocAttr, Tryz.f95])
  all_goals try (exfalso; omega)
 all_goals
  have hne : nl1 ≠ l := by assumption
  clear h1
  revert hT hK
  generalize K = K
  intro hK hT
  refine mloop_intro (α := Nat × List ND × RD × Nat × List (List MV)) (fun a => ⟨53, [(5, .int .i64 (a.1 : Int)), (4, .vec 5 a.2.2.2.1 0 a.2.1.length), (3, .int .i64 (K : Int)), (0, .ptr l 0 0)], []⟩)
   (fun a => (St.none.set l (rR a.2.2.1)).set a.2.2.2.1 (.row 115 5 (a.2.1.map ND.c ++ a.2.2.2.2)))
   (fun a => a.1 ≤ K ∧ a.2.2.2.1 ≠ l ∧ listR nodeR (K - a.1) (a.2.1, a.2.2.1) = T ∧ Sh a.2.2.1 ∧ a.2.1.length ≤ a.1) (fun a => K - a.1) ?_ ?_
  ·refine .of (.less ?_ (σ1 := (St.none.set l (rR s)).set nl1 (.row 115 5 [])) (St.le_refl _)) ⟨(0, [], s, nl1, []), rfl, rfl, Nat.zero_le _, by assumption, hT, hss, Nat.le_refl _⟩
   simp (maxSteps := 4000000) (disch := first | decide | assumption | omega | (simp only [wL]; omega)) only [go_sem, simprocAttr, weak_int, weak_same]
   all_goals rfl
  ·rintro ⟨i, acc, x, q, ex⟩ ⟨hi, hql, hq, hsx, hal⟩
   simp only at hi hql hq hsx hal ⊢
   by_cases hx : i < K ∧ x.e = 0
   ·have hstep : listR nodeR (K - i) (acc, x) = listR nodeR (K - (i + 1)) (acc ++ [(nodeR x).1], (nodeR x).2) := by
     rw [show K - i = (K - (i + 1)) + 1 by omega, listR, if_pos hx.2]
    rw [hstep] at hq
    have hc := rnodeR_call x l
    obtain ⟨y, hy⟩ : ∃ y, nodeR x = y := ⟨_, rfl⟩
    haveI hsy : Sh y.2 := by rw [← hy]; infer_instance
    rw [hy] at hc hq
    obtain ⟨hx1, hx2⟩ := hx
    clear hT hstep hy e
    repeat' (first | (with_reducible (refine wQ ?_; first | refine uR (hc ..) ?_)) | (with_reducible first | (refine wT ?_; (first | ((fail_if_success (have := nl1)); refine wN fun nl1 hnl => ?_) | ((fail_if_success (have := nl2)); refine wN fun nl2 hnl => ?_) | ((fail_if_success (have := nl3)); refine wN fun nl3 hnl => ?_) | refine wN fun _ hnl => ?_); revert hnl; (repeat refine wS fun _ _ => ?_); intro hnl) | refine wE ?_ | (refine wK ?_ ?_ <;> intro h) | (refine wB ?_ ?_ <;> intro h <;> simp only [h])) | simp (maxSteps := 4000000) (disch := first | decide | assumption | omega | (simp only [wL]; omega)) only [go_sem, simprocAttr, tk_app, dr_app])
    ·have hex : ex = [] := List.eq_nil_of_length_eq_zero (by omega)
     subst hex
     refine .of (.less ?_ (σ1 := (St.none.set l (rR y.2)).set nl3 (.row 115 5 ((acc ++ [y.1]).map ND.c ++ []))) (le2 (by simp [St.set, *]) (by simp [St.set, *]))) ⟨(i + 1, acc ++ [y.1], y.2, nl3, []), rfl, rfl, ⟨by simp only; omega, by assumption, hq, hsy, by simp only [List.length_append, List.length_cons, List.length_nil]; omega⟩, by simp only; omega⟩
     simp (maxSteps := 4000000) (disch := first | decide | assumption | omega | (simp only [wL]; omega)) only [go_sem, simprocAttr, weak_int, weak_same]
     all_goals (simp; done)
    ·refine .of (.less ?_ (σ1 := (St.none.set l (rR y.2)).set nl3 (.row 115 5 ((acc ++ [y.1]).map ND.c ++ ex.drop 1))) (le2 (by simp [St.set, *]) (by simp [St.set, *]))) ⟨(i + 1, acc ++ [y.1], y.2, nl3, ex.drop 1), rfl, rfl, ⟨by simp only; omega, by assumption, hq, hsy, by simp only [List.length_append, List.length_cons, List.length_nil]; omega⟩, by simp only; omega⟩
     simp (maxSteps := 4000000) (disch := first | decide | assumption | omega | (simp only [wL]; omega)) only [go_sem, simprocAttr, weak_int, weak_same]
     all_goals (simp; done)
   ·have hend : listR nodeR (K - i) (acc, x) = (acc, x) := by
     by_cases hiK : i < K
     ·exact listR_stk _ _ (fun h => hx ⟨hiK, h⟩)
     ·rw [show K - i = 0 by omega, listR]
    rw [hend] at hq
    subst hq
    simp only at e
    have hp := rpcheck_call acc false
    by_cases he : x.e = 0
    ·rw [if_pos he] at e
     have hiK : i = K := Classical.byContradiction fun h => hx ⟨by omega, he⟩
     subst hiK
     by_cases hok : predErr acc = 0
     ·rw [if_pos hok] at e
      rw [hok] at hp
      subst e
      repeat' (first | (with_reducible refine use_lend [.lst 5 (acc.map ND.c) false] hp (.int _ _) rfl (views_one (viewR (set_hit _ _ _))) ?_) | (with_reducible first | (refine wT ?_; (first | ((fail_if_success (have := nl1)); refine wN fun nl1 hnl => ?_) | ((fail_if_success (have := nl2)); refine wN fun nl2 hnl => ?_) | ((fail_if_success (have := nl3)); refine wN fun nl3 hnl => ?_) | refine wN fun _ hnl => ?_); revert hnl; (repeat refine wS fun _ _ => ?_); intro hnl) | refine wE ?_ | (refine wK ?_ ?_ <;> intro h) | (refine wB ?_ ?_ <;> intro h <;> simp only [h])) | simp (maxSteps := 4000000) (disch := first | decide | assumption | omega | (simp only [wL]; omega)) only [go_sem, simprocAttr, tk_app, dr_app])
      all_goals exact viewR (set_hit _ _ _)
     ·rw [if_neg hok] at e
      have hcases := predErr_cases acc
      have hf := fun k => rRFail_call k x l
      subst e
      by_cases h1 : predErr acc = 1
      ·rw [h1] at hp
       rw [if_neg (by omega), if_pos h1]
       repeat' (first | (with_reducible refine use_lend [.lst 5 (acc.map ND.c) false] hp (.int _ _) rfl (views_one (viewR (set_hit _ _ _))) ?_) | (with_reducible (refine wQ ?_; first | refine uR (hf ..) ?_)) | (with_reducible first | (refine wT ?_; (first | ((fail_if_success (have := nl1)); refine wN fun nl1 hnl => ?_) | ((fail_if_success (have := nl2)); refine wN fun nl2 hnl => ?_) | ((fail_if_success (have := nl3)); refine wN fun nl3 hnl => ?_) | refine wN fun _ hnl => ?_); revert hnl; (repeat refine wS fun _ _ => ?_); intro hnl) | refine wE ?_ | (refine wK ?_ ?_ <;> intro h) | (refine wB ?_ ?_ <;> intro h <;> simp only [h])) | simp (maxSteps := 4000000) (disch := first | decide | assumption | omega | (simp only [wL]; omega)) only [go_sem, simprocAttr, tk_app, dr_app])
       all_goals exact .nil _ _
      ·by_cases h5 : predErr acc = 5
       ·rw [h5] at hp
        rw [if_pos h5]
        repeat' (first | (with_reducible refine use_lend [.lst 5 (acc.map ND.c) false] hp (.int _ _) rfl (views_one (viewR (set_hit _ _ _))) ?_) | (with_reducible (refine wQ ?_; first | refine uR (hf ..) ?_)) | (with_reducible first | (refine wT ?_; (first | ((fail_if_success (have := nl1)); refine wN fun nl1 hnl => ?_) | ((fail_if_success (have := nl2)); refine wN fun nl2 hnl => ?_) | ((fail_if_success (have := nl3)); refine wN fun nl3 hnl => ?_) | refine wN fun _ hnl => ?_); revert hnl; (repeat refine wS fun _ _ => ?_); intro hnl) | refine wE ?_ | (refine wK ?_ ?_ <;> intro h) | (refine wB ?_ ?_ <;> intro h <;> simp only [h])) | simp (maxSteps := 4000000) (disch := first | decide | assumption | omega | (simp only [wL]; omega)) only [go_sem, simprocAttr, tk_app, dr_app])
        all_goals exact .nil _ _
       ·have h4 : predErr acc = 4 := by omega
        rw [h4] at hp ⊢
        repeat' (first | (with_reducible refine use_lend [.lst 5 (acc.map ND.c) false] hp (.int _ _) rfl (views_one (viewR (set_hit _ _ _))) ?_) | (with_reducible (refine wQ ?_; first | refine uR (hf ..) ?_)) | (with_reducible first | (refine wT ?_; (first | ((fail_if_success (have := nl1)); refine wN fun nl1 hnl => ?_) | ((fail_if_success (have := nl2)); refine wN fun nl2 hnl => ?_) | ((fail_if_success (have := nl3)); refine wN fun nl3 hnl => ?_) | refine wN fun _ hnl => ?_); revert hnl; (repeat refine wS fun _ _ => ?_); intro hnl) | refine wE ?_ | (refine wK ?_ ?_ <;> intro h) | (refine wB ?_ ?_ <;> intro h <;> simp only [h])) | simp (maxSteps := 4000000) (disch := first | decide | assumption | omega | (simp only [wL]; omega)) only [go_sem, simprocAttr, tk_app, dr_app])
        all_goals exact .nil _ _
    ·rw [if_neg he] at e
     subst e
     repeat' (first | (with_reducible first | (refine wT ?_; (first | ((fail_if_success (have := nl1)); refine wN fun nl1 hnl => ?_) | ((fail_if_success (have := nl2)); refine wN fun nl2 hnl => ?_) | ((fail_if_success (have := nl3)); refine wN fun nl3 hnl => ?_) | refine wN fun _ hnl => ?_); revert hnl; (repeat refine wS fun _ _ => ?_); intro hnl) | refine wE ?_ | (refine wK ?_ ?_ <;> intro h) | (refine wB ?_ ?_ <;> intro h <;> simp only [h])) | simp (maxSteps := 4000000) (disch := first | decide | assumption | omega | (simp only [wL]; omega)) only [go_sem, simprocAttr, tk_app, dr_app])
     all_goals exact .nil _ _
end Go.Proofs.YtfbodefnblpflaaGreatDoor
end
