/- Parts of the proof, joined: each part says what it proves, and under which conditions. -/
import Derived.Test.YtielcgplbnlgbaaNod
import Derived.OpenShut
import Derived.ChangeSame
import Derived.Carry
import Derived.RowKit
import Derived.JoinedOf
import Derived.JoinedAt
import Derived.Test.YtielcgplbnlgbaaRows
section
/- Contract of the program's form, of joined's: the conditions that the theorem names. -/
set_option linter.unusedVariables false
set_option linter.unusedSimpArgs false
namespace Go.Proofs.Ytielcgplbnlgbaa

/-- What joined answers. -/
def JoinedSays : Prop := ∀ (op : Int), op = 11 ∨ op = 12 → ∀ a b : T, Good a → Good b → NF a → NF b → a.fl.length ≤ 200 → b.fl.length ≤ 200 →
  MCalls Try.prog 67 [.int .i64 op, .lst 5 (a.fl.map ND.c) false, .lst 5 (b.fl.map ND.c) false] St.none (fun r _ => r = .lst 5 ((joinT op a b).fl.map ND.c) false)
theorem nx1 : xorK .i64 3 1 = 2 := by decide
theorem nx2 : xorK .i64 3 2 = 1 := by decide
theorem nx3 : xorK .i64 11 7 = 12 := by decide
theorem nx4 : xorK .i64 12 7 = 11 := by decide

noncomputable def gmC (op : Int) (a b : T) (tn : Bool) : Know :=
  kn [(48, [.lst 5 (a.fl.map ND.c) false, .bool tn], ⟨[], fun v => v = .lst 5 ((formT a tn).fl.map ND.c) false, none⟩), (48, [.lst 5 (b.fl.map ND.c) false, .bool tn], ⟨[], fun v => v = .lst 5 ((formT b tn).fl.map ND.c) false, none⟩),
    (67, [.int .i64 op, .lst 5 ((formT a tn).fl.map ND.c) false, .lst 5 ((formT b tn).fl.map ND.c) false], ⟨[], fun v => v = .lst 5 ((joinT op (formT a tn) (formT b tn)).fl.map ND.c) false, none⟩)]
theorem gmC_a {op : Int} {a b : T} {tn : Bool} : gmC op a b tn 48 [.lst 5 (a.fl.map ND.c) false, .bool tn] = some ⟨[], fun v => v = .lst 5 ((formT a tn).fl.map ND.c) false, none⟩ := kn_hit
theorem gmC_b {op : Int} {a b : T} {tn : Bool} (ha : a.ok) (hb : b.ok) : gmC op a b tn 48 [.lst 5 (b.fl.map ND.c) false, .bool tn] = some ⟨[], fun v => v = .lst 5 ((formT b tn).fl.map ND.c) false, none⟩ :=
  kn_skip (fun h => by
    have h := h.2
    simp only [List.cons.injEq, MV.lst.injEq, true_and, and_true] at h
    rw [fl_eq ha hb (nds_cinj h)]) kn_hit
theorem gmC_j {op : Int} {a b : T} {tn : Bool} : gmC op a b tn 67 [.int .i64 op, .lst 5 ((formT a tn).fl.map ND.c) false, .lst 5 ((formT b tn).fl.map ND.c) false] = some ⟨[], fun v => v = .lst 5 ((joinT op (formT a tn) (formT b tn)).fl.map ND.c) false, none⟩ :=
  kn_skip (fun h => absurd h.1 (by decide)) (kn_skip (fun h => absurd h.1 (by decide)) kn_hit)

set_option maxHeartbeats 4000000 in
theorem nform_call (J : JoinedSays) : ∀ (t : T) (tn : Bool), Good t → t.fl.length ≤ 100 → MCalls Try.prog 48 [.lst 5 (t.fl.map ND.c) false, .bool tn] St.none (fun r _ => r = .lst 5 ((formT t tn).fl.map ND.c) false)
  | .leaf x, tn, g, hl => by
    refine MCalls.seen (MCalls.body 54 [.tmp 4] Try.func48 rfl rfl rfl rfl ?_)
    have hp : x.op ≠ 10 ∧ x.op ≠ 11 ∧ x.op ≠ 12 := by
      refine ⟨fun e => ?_, fun e => ?_, fun e => ?_⟩ <;> (have h := g.1; simp only [T.ok, e] at h; revert h; decide)
    obtain ⟨p1, p2, p3⟩ := hp
    simp only [T.fl, List.map_cons, List.map_nil] at *
    by_cases h12 : x.op = 1 ∨ x.op = 2
    · have hf : formT (.leaf x) tn = .leaf (nd (if tn = true then 3 - x.op else x.op)) := by rw [formT, if_pos h12]
      rw [hf]
      have hn1 := only_call 1
      have hn2 := only_call 2
      rcases h12 with h1 | h1 <;> cases tn
      all_goals
        repeat' (first | (with_reducible first | refine up hn1 ?_ | refine up hn2 ?_) | (with_reducible first | (refine wT ?_; (first | ((fail_if_success (have := nl1)); refine wN fun nl1 hnl => ?_) | refine wN fun _ hnl => ?_); revert hnl; (repeat refine wS fun _ _ => ?_); intro hnl) | refine wD (by decide +kernel) ?_ | refine wI (fun h => ?_) fun h => ?_ | refine wF (fun h => ?_) fun h => ?_ | refine wG (fun h => ?_) fun h => ?_ | refine wH (fun h => ?_) fun h => ?_ | ((first | refine mfork_bool (fun h => ?_) fun h => ?_ | refine mgfork_bool (fun h => ?_) fun h => ?_) <;> simp only [h])) | simp (maxSteps := 4000000) (disch := first | decide | assumption | omega | (simp only [wL]; omega)) only [go_sem, simprocAttr, Try.f48, h1 , nx1, nx2, nx3, nx4])
        try exact .same _
    · have h1 : ¬ x.op = 1 := fun e => h12 (.inl e)
      have h2 : ¬ x.op = 2 := fun e => h12 (.inr e)
      have hf : formT (.leaf x) tn = if tn = true then .one (nd 10) (.leaf x) else .leaf x := by rw [formT, if_neg h12]
      rw [hf]
      cases tn
      · have hc := clone_call [x] (by simp) (by simp) false
        simp only [List.map_cons, List.map_nil] at hc
        repeat' (first | (with_reducible first | refine up hc ?_) | (with_reducible first | (refine wT ?_; (first | ((fail_if_success (have := nl1)); refine wN fun nl1 hnl => ?_) | refine wN fun _ hnl => ?_); revert hnl; (repeat refine wS fun _ _ => ?_); intro hnl) | refine wD (by decide +kernel) ?_ | refine wI (fun h => ?_) fun h => ?_ | refine wF (fun h => ?_) fun h => ?_ | refine wG (fun h => ?_) fun h => ?_ | refine wH (fun h => ?_) fun h => ?_ | ((first | refine mfork_bool (fun h => ?_) fun h => ?_ | refine mgfork_bool (fun h => ?_) fun h => ?_) <;> simp only [h])) | simp (maxSteps := 4000000) (disch := first | decide | assumption | omega | (simp only [wL]; omega)) only [go_sem, simprocAttr, Try.f48])
        exact .same _
      · have hj := pjoin_call 10 [[x]] false (by simp) (fun l hl => by rw [List.mem_singleton.1 hl]; simp)
        simp only [List.map_cons, List.map_nil, lcell] at hj
        repeat' (first | (with_reducible first | (refine wT ?_; (first | ((fail_if_success (have := nl1)); refine wN fun nl1 hnl => ?_) | refine wN fun _ hnl => ?_); revert hnl; (repeat refine wS fun _ _ => ?_); intro hnl) | refine wD (by decide +kernel) ?_ | refine wI (fun h => ?_) fun h => ?_ | refine wF (fun h => ?_) fun h => ?_ | refine wG (fun h => ?_) fun h => ?_ | refine wH (fun h => ?_) fun h => ?_ | ((first | refine mfork_bool (fun h => ?_) fun h => ?_ | refine mgfork_bool (fun h => ?_) fun h => ?_) <;> simp only [h])) | simp (maxSteps := 4000000) (disch := first | decide | assumption | omega | (simp only [wL]; omega)) only [go_sem, simprocAttr, Try.f48])
        refine use_give1 _ nl1 hj (set_hit _ _ _) rfl (views_two (.same _) (.vecAll (set_hit _ _ _) rfl)) ?_
        repeat' (first | (with_reducible first | (refine wT ?_; (first | ((fail_if_success (have := nl1)); refine wN fun nl1 hnl => ?_) | refine wN fun _ hnl => ?_); revert hnl; (repeat refine wS fun _ _ => ?_); intro hnl) | refine wD (by decide +kernel) ?_ | refine wI (fun h => ?_) fun h => ?_ | refine wF (fun h => ?_) fun h => ?_ | refine wG (fun h => ?_) fun h => ?_ | refine wH (fun h => ?_) fun h => ?_ | ((first | refine mfork_bool (fun h => ?_) fun h => ?_ | refine mgfork_bool (fun h => ?_) fun h => ?_) <;> simp only [h])) | simp (maxSteps := 4000000) (disch := first | decide | assumption | omega | (simp only [wL]; omega)) only [go_sem, simprocAttr])
        exact .same _
  | .one x a, tn, g, hl => by
    refine (MCalls.body 54 [.tmp 4] Try.func48 rfl rfl rfl rfl ?_)
    have h1 := parts_one g.1.1
    have hla : a.fl.length ≤ 100 := by simp only [T.fl, List.length_cons] at hl; omega
    have ih := nform_call J a (!tn) (good_one.1 g).2.2 hla
    simp only [T.fl, List.map_cons, List.map_nil] at *
    rw [formT]
    repeat' (first | (with_reducible first | refine up ih ?_) | (with_reducible first | (refine wT ?_; (first | ((fail_if_success (have := nl1)); refine wN fun nl1 hnl => ?_) | refine wN fun _ hnl => ?_); revert hnl; (repeat refine wS fun _ _ => ?_); intro hnl) | refine wD (by decide +kernel) ?_ | refine wI (fun h => ?_) fun h => ?_ | refine wF (fun h => ?_) fun h => ?_ | refine wG (fun h => ?_) fun h => ?_ | refine wH (fun h => ?_) fun h => ?_ | ((first | refine mfork_bool (fun h => ?_) fun h => ?_ | refine mgfork_bool (fun h => ?_) fun h => ?_) <;> simp only [h])) | simp (maxSteps := 4000000) (disch := first | decide | assumption | omega | (simp only [wL]; omega)) only [go_sem, simprocAttr, Try.f48, h1])
  | .two x a b, tn, g, hl => by
    refine (MCalls.body 54 [.tmp 4] Try.func48 rfl rfl rfl rfl ?_)
    have hk := pkids_call x a b (good_two.1 g).1 (good_two.1 g).2.2.1.1 (good_two.1 g).2.2.2.1 (by omega) false
    obtain ⟨q1, _, ga, gb⟩ := good_two.1 g
    have hla : a.fl.length ≤ 100 ∧ b.fl.length ≤ 100 := by simp only [T.fl, List.length_cons, List.length_append] at hl; omega
    have iha := nform_call J a tn ga hla.1
    have ihb := nform_call J b tn gb hla.2
    have hj := fun op hop => J op hop (formT a tn) (formT b tn) (good_form tn ga) (good_form tn gb) (NF_form tn ga.1 ga) (NF_form tn gb.1 gb) (by have := formT_len a tn; omega) (by have := formT_len b tn; omega)
    simp only [T.fl, List.map_cons, List.map_nil] at *
    rw [formT]
    have hop := op_turn (parts_two q1) tn
    obtain ⟨o, ho⟩ : ∃ o, (if tn = true then 23 - x.op else x.op) = o := ⟨_, rfl⟩
    rw [ho] at hop ⊢
    have hj' := hj o hop
    clear hop hj
    have fa := gmC_a (op := o) (a := a) (b := b) (tn := tn)
    have fb := gmC_b (op := o) (a := a) (b := b) (tn := tn) ga.1 gb.1
    have fj := gmC_j (op := o) (a := a) (b := b) (tn := tn)
    generalize gmC o a b tn = C at fa fb fj
    rcases parts_two q1 with h1 | h1 <;> cases tn
    all_goals
      rw [h1] at ho
      simp (config := { decide := true }) only [if_true, if_false, Bool.false_eq_true, Int.reduceSub] at ho
      subst ho
      repeat' (first | (with_reducible first | refine up hk ?_) | (with_reducible first | (refine wT ?_; (first | ((fail_if_success (have := nl1)); refine wN fun nl1 hnl => ?_) | refine wN fun _ hnl => ?_); revert hnl; (repeat refine wS fun _ _ => ?_); intro hnl) | refine wD (by decide +kernel) ?_ | refine wI (fun h => ?_) fun h => ?_ | refine wF (fun h => ?_) fun h => ?_ | refine wG (fun h => ?_) fun h => ?_ | refine wH (fun h => ?_) fun h => ?_ | ((first | refine mfork_bool (fun h => ?_) fun h => ?_ | refine mgfork_bool (fun h => ?_) fun h => ?_) <;> simp only [h])) | simp (maxSteps := 4000000) (disch := first | decide | assumption | omega | (simp only [wL]; omega)) only [go_sem, simprocAttr, Try.f48, h1, nx3, nx4])
      refine mdraw_know mixed (by decide +kernel) C ?_
      repeat' (first | (with_reducible refine know_pure fa iha ?_) | (with_reducible refine know_pure fb ihb ?_) | (with_reducible refine know_pure fj hj' ?_) | (with_reducible first | (refine wT ?_; (first | ((fail_if_success (have := nl1)); refine wN fun nl1 hnl => ?_) | refine wN fun _ hnl => ?_); revert hnl; (repeat refine wS fun _ _ => ?_); intro hnl) | refine wD (by decide +kernel) ?_ | refine wI (fun h => ?_) fun h => ?_ | refine wF (fun h => ?_) fun h => ?_ | refine wG (fun h => ?_) fun h => ?_ | refine wH (fun h => ?_) fun h => ?_ | ((first | refine mfork_bool (fun h => ?_) fun h => ?_ | refine mgfork_bool (fun h => ?_) fun h => ?_) <;> simp only [h])) | simp (maxSteps := 4000000) (disch := first | decide | assumption | omega | (simp only [wL]; omega)) only [go_sem, simprocAttr])

end Go.Proofs.Ytielcgplbnlgbaa
end

section
/- Contracts of the document's form and Of: the conditions that the theorems name. -/
set_option linter.unusedVariables false
set_option linter.unusedSimpArgs false
namespace Go.Proofs.Ytielcgplbnlgbaa

noncomputable def fmC (op : Int) (a b : T) (tn : Bool) : Know :=
  kn [(40, [.lst 5 (a.fl.map ND.c) false, .bool tn], ⟨[], fun v => v = .lst 5 ((formT a tn).fl.map ND.c) false, none⟩), (40, [.lst 5 (b.fl.map ND.c) false, .bool tn], ⟨[], fun v => v = .lst 5 ((formT b tn).fl.map ND.c) false, none⟩),
    (60, [.int .i64 op, .lst 5 ((formT a tn).fl.map ND.c) false, .lst 5 ((formT b tn).fl.map ND.c) false], ⟨[], fun v => v = .lst 5 ((joinT op (formT a tn) (formT b tn)).fl.map ND.c) false, none⟩)]
theorem fmC_a {op : Int} {a b : T} {tn : Bool} : fmC op a b tn 40 [.lst 5 (a.fl.map ND.c) false, .bool tn] = some ⟨[], fun v => v = .lst 5 ((formT a tn).fl.map ND.c) false, none⟩ := kn_hit
theorem fmC_b {op : Int} {a b : T} {tn : Bool} (ha : a.ok) (hb : b.ok) : fmC op a b tn 40 [.lst 5 (b.fl.map ND.c) false, .bool tn] = some ⟨[], fun v => v = .lst 5 ((formT b tn).fl.map ND.c) false, none⟩ :=
  kn_skip (fun h => by
    have h := h.2
    simp only [List.cons.injEq, MV.lst.injEq, true_and, and_true] at h
    rw [fl_eq ha hb (nds_cinj h)]) kn_hit
theorem fmC_j {op : Int} {a b : T} {tn : Bool} : fmC op a b tn 60 [.int .i64 op, .lst 5 ((formT a tn).fl.map ND.c) false, .lst 5 ((formT b tn).fl.map ND.c) false] = some ⟨[], fun v => v = .lst 5 ((joinT op (formT a tn) (formT b tn)).fl.map ND.c) false, none⟩ :=
  kn_skip (fun h => absurd h.1 (by decide)) (kn_skip (fun h => absurd h.1 (by decide)) kn_hit)

set_option maxHeartbeats 4000000 in
theorem rform_call : ∀ (t : T) (tn : Bool), Good t → t.fl.length ≤ 100 → MCalls Try.prog 40 [.lst 5 (t.fl.map ND.c) false, .bool tn] St.none (fun r _ => r = .lst 5 ((formT t tn).fl.map ND.c) false)
  | .leaf x, tn, g, hl => by
    refine MCalls.seen (MCalls.body 54 [.tmp 4] Try.func40 rfl rfl rfl rfl ?_)
    have hk := rkids_call (.leaf x) g.1 (by omega) false
    have hp : x.op ≠ 10 ∧ x.op ≠ 11 ∧ x.op ≠ 12 := by
      refine ⟨fun e => ?_, fun e => ?_, fun e => ?_⟩ <;> (have h := g.1; simp only [T.ok, e] at h; revert h; decide)
    obtain ⟨p1, p2, p3⟩ := hp
    simp only [T.fl, T.kl, T.kids, List.map_cons, List.map_nil] at hk ⊢
    by_cases h12 : x.op = 1 ∨ x.op = 2
    · have hf : formT (.leaf x) tn = .leaf (nd (if tn = true then 3 - x.op else x.op)) := by rw [formT, if_pos h12]
      rw [hf]
      rcases h12 with h1 | h1 <;> cases tn
      all_goals
        repeat' (first | (with_reducible refine use_pure hk ?_) | (with_reducible first | (refine wT ?_; (first | ((fail_if_success (have := nl1)); refine wN fun nl1 hnl => ?_) | refine wN fun _ hnl => ?_); revert hnl; (repeat refine wS fun _ _ => ?_); intro hnl) | refine wD (by decide +kernel) ?_ | refine wI (fun h => ?_) fun h => ?_ | refine wF (fun h => ?_) fun h => ?_ | refine wG (fun h => ?_) fun h => ?_ | refine wH (fun h => ?_) fun h => ?_ | ((first | refine mfork_bool (fun h => ?_) fun h => ?_ | refine mgfork_bool (fun h => ?_) fun h => ?_) <;> simp only [h])) | simp (maxSteps := 4000000) (disch := first | decide | assumption | omega | (simp only [wL]; omega)) only [go_sem, simprocAttr, Try.f40, h1])
        exact .vecAll (set_hit _ _ _) rfl
    · have h1 : ¬ x.op = 1 := fun e => h12 (.inl e)
      have h2 : ¬ x.op = 2 := fun e => h12 (.inr e)
      have hf : formT (.leaf x) tn = if tn = true then .one (nd 10) (.leaf x) else .leaf x := by rw [formT, if_neg h12]
      rw [hf]
      cases tn
      · repeat' (first | (with_reducible refine use_pure hk ?_) | (with_reducible first | (refine wT ?_; (first | ((fail_if_success (have := nl1)); refine wN fun nl1 hnl => ?_) | refine wN fun _ hnl => ?_); revert hnl; (repeat refine wS fun _ _ => ?_); intro hnl) | refine wD (by decide +kernel) ?_ | refine wI (fun h => ?_) fun h => ?_ | refine wF (fun h => ?_) fun h => ?_ | refine wG (fun h => ?_) fun h => ?_ | refine wH (fun h => ?_) fun h => ?_ | ((first | refine mfork_bool (fun h => ?_) fun h => ?_ | refine mgfork_bool (fun h => ?_) fun h => ?_) <;> simp only [h])) | simp (maxSteps := 4000000) (disch := first | decide | assumption | omega | (simp only [wL]; omega)) only [go_sem, simprocAttr, Try.f40])
        exact .same _
      · have hj := rjoin_call 10 [[x]] false (by simp) (fun l hl => by rw [List.mem_singleton.1 hl]; simp)
        simp only [List.map_cons, List.map_nil, lcell] at hj
        repeat' (first | (with_reducible refine use_pure hk ?_) | (with_reducible first | (refine wT ?_; (first | ((fail_if_success (have := nl1)); refine wN fun nl1 hnl => ?_) | refine wN fun _ hnl => ?_); revert hnl; (repeat refine wS fun _ _ => ?_); intro hnl) | refine wD (by decide +kernel) ?_ | refine wI (fun h => ?_) fun h => ?_ | refine wF (fun h => ?_) fun h => ?_ | refine wG (fun h => ?_) fun h => ?_ | refine wH (fun h => ?_) fun h => ?_ | ((first | refine mfork_bool (fun h => ?_) fun h => ?_ | refine mgfork_bool (fun h => ?_) fun h => ?_) <;> simp only [h])) | simp (maxSteps := 4000000) (disch := first | decide | assumption | omega | (simp only [wL]; omega)) only [go_sem, simprocAttr, Try.f40])
        refine use_give1 _ nl1 hj (set_hit _ _ _) rfl (views_two (.same _) (.vecAll (set_hit _ _ _) rfl)) ?_
        repeat' (first | (with_reducible first | (refine wT ?_; (first | ((fail_if_success (have := nl1)); refine wN fun nl1 hnl => ?_) | refine wN fun _ hnl => ?_); revert hnl; (repeat refine wS fun _ _ => ?_); intro hnl) | refine wD (by decide +kernel) ?_ | refine wI (fun h => ?_) fun h => ?_ | refine wF (fun h => ?_) fun h => ?_ | refine wG (fun h => ?_) fun h => ?_ | refine wH (fun h => ?_) fun h => ?_ | ((first | refine mfork_bool (fun h => ?_) fun h => ?_ | refine mgfork_bool (fun h => ?_) fun h => ?_) <;> simp only [h])) | simp (maxSteps := 4000000) (disch := first | decide | assumption | omega | (simp only [wL]; omega)) only [go_sem, simprocAttr])
        exact .same _
  | .one x a, tn, g, hl => by
    refine (MCalls.body 54 [.tmp 4] Try.func40 rfl rfl rfl rfl ?_)
    have hk := rkids_call (.one x a) g.1 (by omega) false
    have h1 := parts_one g.1.1
    have hla : a.fl.length ≤ 100 := by simp only [T.fl, List.length_cons] at hl; omega
    have ih := rform_call a (!tn) (good_one.1 g).2.2 hla
    simp only [T.fl, T.kl, T.kids, List.map_cons, List.map_nil] at hk ⊢
    rw [formT]
    repeat' (first | (with_reducible refine use_pure hk ?_) | (with_reducible refine use_pure ih ?_) | (with_reducible first | (refine wT ?_; (first | ((fail_if_success (have := nl1)); refine wN fun nl1 hnl => ?_) | refine wN fun _ hnl => ?_); revert hnl; (repeat refine wS fun _ _ => ?_); intro hnl) | refine wD (by decide +kernel) ?_ | refine wI (fun h => ?_) fun h => ?_ | refine wF (fun h => ?_) fun h => ?_ | refine wG (fun h => ?_) fun h => ?_ | refine wH (fun h => ?_) fun h => ?_ | ((first | refine mfork_bool (fun h => ?_) fun h => ?_ | refine mgfork_bool (fun h => ?_) fun h => ?_) <;> simp only [h])) | simp (maxSteps := 4000000) (disch := first | decide | assumption | omega | (simp only [wL]; omega)) only [go_sem, simprocAttr, Try.f40, h1])
  | .two x a b, tn, g, hl => by
    refine (MCalls.body 54 [.tmp 4] Try.func40 rfl rfl rfl rfl ?_)
    have hk := rkids_call (.two x a b) g.1 (by omega) false
    obtain ⟨q1, _, ga, gb⟩ := good_two.1 g
    have hla : a.fl.length ≤ 100 ∧ b.fl.length ≤ 100 := by simp only [T.fl, List.length_cons, List.length_append] at hl; omega
    have iha := rform_call a tn ga hla.1
    have ihb := rform_call b tn gb hla.2
    have hj := fun op hop => rjoined_call op hop (formT a tn) (formT b tn) (good_form tn ga) (good_form tn gb) (by have := formT_len a tn; omega) (by have := formT_len b tn; omega)
    simp only [T.fl, T.kl, T.kids, List.map_cons, List.map_nil] at hk ⊢
    rw [formT]
    have hop := op_turn (parts_two q1) tn
    obtain ⟨o, ho⟩ : ∃ o, (if tn = true then 23 - x.op else x.op) = o := ⟨_, rfl⟩
    rw [ho] at hop ⊢
    have hj' := hj o hop
    clear hop hj
    have fa := fmC_a (op := o) (a := a) (b := b) (tn := tn)
    have fb := fmC_b (op := o) (a := a) (b := b) (tn := tn) ga.1 gb.1
    have fj := fmC_j (op := o) (a := a) (b := b) (tn := tn)
    generalize fmC o a b tn = C at fa fb fj
    rcases parts_two q1 with h1 | h1 <;> cases tn
    all_goals
      rw [h1] at ho
      simp (config := { decide := true }) only [if_true, if_false, Bool.false_eq_true, Int.reduceSub] at ho
      subst ho
      repeat' (first | (with_reducible refine use_pure hk ?_) | (with_reducible first | (refine wT ?_; (first | ((fail_if_success (have := nl1)); refine wN fun nl1 hnl => ?_) | refine wN fun _ hnl => ?_); revert hnl; (repeat refine wS fun _ _ => ?_); intro hnl) | refine wD (by decide +kernel) ?_ | refine wI (fun h => ?_) fun h => ?_ | refine wF (fun h => ?_) fun h => ?_ | refine wG (fun h => ?_) fun h => ?_ | refine wH (fun h => ?_) fun h => ?_ | ((first | refine mfork_bool (fun h => ?_) fun h => ?_ | refine mgfork_bool (fun h => ?_) fun h => ?_) <;> simp only [h])) | simp (maxSteps := 4000000) (disch := first | decide | assumption | omega | (simp only [wL]; omega)) only [go_sem, simprocAttr, Try.f40, h1])
      refine mdraw_know mixed (by decide +kernel) C ?_
      repeat' (first | (with_reducible refine know_pure fa iha ?_) | (with_reducible refine know_pure fb ihb ?_) | (with_reducible refine know_pure fj hj' ?_) | (with_reducible first | (refine wT ?_; (first | ((fail_if_success (have := nl1)); refine wN fun nl1 hnl => ?_) | refine wN fun _ hnl => ?_); revert hnl; (repeat refine wS fun _ _ => ?_); intro hnl) | refine wD (by decide +kernel) ?_ | refine wI (fun h => ?_) fun h => ?_ | refine wF (fun h => ?_) fun h => ?_ | refine wG (fun h => ?_) fun h => ?_ | refine wH (fun h => ?_) fun h => ?_ | ((first | refine mfork_bool (fun h => ?_) fun h => ?_ | refine mgfork_bool (fun h => ?_) fun h => ?_) <;> simp only [h])) | simp (maxSteps := 4000000) (disch := first | decide | assumption | omega | (simp only [wL]; omega)) only [go_sem, simprocAttr])

theorem rof_not (l : List ND) (h : fitS l = false) : MCalls Try.prog 21 [.lst 5 (l.map ND.c) false] St.none (fun r _ => r = .nils) := by
  refine (MCalls.body 8 [.tmp 2] Try.func21 rfl rfl rfl rfl ?_)
  have h1 := rfit_call l false
  rw [h] at h1
  repeat' (first | (with_reducible refine use_pure h1 ?_) | (with_reducible first | (refine wT ?_; refine wN fun _ hnl => ?_; revert hnl; (repeat refine wS fun _ _ => ?_); intro hnl) | refine wD (by decide +kernel) ?_ | refine wI (fun h => ?_) fun h => ?_ | refine wF (fun h => ?_) fun h => ?_ | refine wG (fun h => ?_) fun h => ?_ | refine wH (fun h => ?_) fun h => ?_ | ((first | refine mfork_bool (fun h => ?_) fun h => ?_ | refine mgfork_bool (fun h => ?_) fun h => ?_) <;> simp only [h])) | simp (maxSteps := 4000000) (disch := first | decide | assumption | omega | (simp only [wL]; omega)) only [go_sem, simprocAttr, Try.f21])
theorem rof_fit (t : T) (ht : FT t) : MCalls Try.prog 21 [.lst 5 (t.fl.map ND.c) false] St.none (fun r _ => r = .lst 5 ((formT t false).fl.map ND.c) false) := by
  refine (MCalls.body 8 [.tmp 2] Try.func21 rfl rfl rfl rfl ?_)
  have h1 := rfit_call t.fl false
  rw [ht.fit] at h1
  have h2 := rform_call t false ht.good (by have := ht.len; omega)
  repeat' (first | (with_reducible refine use_pure h1 ?_) | (with_reducible refine use_pure h2 ?_) | (with_reducible first | (refine wT ?_; refine wN fun _ hnl => ?_; revert hnl; (repeat refine wS fun _ _ => ?_); intro hnl) | refine wD (by decide +kernel) ?_ | refine wI (fun h => ?_) fun h => ?_ | refine wF (fun h => ?_) fun h => ?_ | refine wG (fun h => ?_) fun h => ?_ | refine wH (fun h => ?_) fun h => ?_ | ((first | refine mfork_bool (fun h => ?_) fun h => ?_ | refine mgfork_bool (fun h => ?_) fun h => ?_) <;> simp only [h])) | simp (maxSteps := 4000000) (disch := first | decide | assumption | omega | (simp only [wL]; omega)) only [go_sem, simprocAttr, Try.f21])
end Go.Proofs.Ytielcgplbnlgbaa
end

section
/- Contracts of the program's Of, Turned and Same (of joined's), and of the document's Turned: the conditions that the theorems name. -/
set_option linter.unusedVariables false
set_option linter.unusedSimpArgs false
namespace Go.Proofs.Ytielcgplbnlgbaa

theorem rtu_not (l : List ND) (h : fitS l = false) : MCalls Try.prog 34 [.lst 5 (l.map ND.c) false] St.none (fun r _ => r = .nils) := by
  refine (MCalls.body 8 [.tmp 2] Try.func34 rfl rfl rfl rfl ?_)
  have h1 := rfit_call l false
  rw [h] at h1
  repeat' (first | (with_reducible first | refine up h1 ?_) | (with_reducible first | (refine wT ?_; refine wN fun _ hnl => ?_; revert hnl; (repeat refine wS fun _ _ => ?_); intro hnl) | refine wD (by decide +kernel) ?_ | refine wI (fun h => ?_) fun h => ?_ | refine wF (fun h => ?_) fun h => ?_ | refine wG (fun h => ?_) fun h => ?_ | refine wH (fun h => ?_) fun h => ?_ | ((first | refine mfork_bool (fun h => ?_) fun h => ?_ | refine mgfork_bool (fun h => ?_) fun h => ?_) <;> simp only [h])) | simp (maxSteps := 4000000) (disch := first | decide | assumption | omega | (simp only [wL]; omega)) only [go_sem, simprocAttr, Try.f34])
theorem rtu_fit (t : T) (ht : FT t) : MCalls Try.prog 34 [.lst 5 (t.fl.map ND.c) false] St.none (fun r _ => r = .lst 5 ((formT t true).fl.map ND.c) false) := by
  refine (MCalls.body 8 [.tmp 2] Try.func34 rfl rfl rfl rfl ?_)
  have h1 := rfit_call t.fl false
  rw [ht.fit] at h1
  have h2 := rform_call t true ht.good (by have := ht.len; omega)
  repeat' (first | (with_reducible first | refine up h1 ?_ | refine up h2 ?_) | (with_reducible first | (refine wT ?_; refine wN fun _ hnl => ?_; revert hnl; (repeat refine wS fun _ _ => ?_); intro hnl) | refine wD (by decide +kernel) ?_ | refine wI (fun h => ?_) fun h => ?_ | refine wF (fun h => ?_) fun h => ?_ | refine wG (fun h => ?_) fun h => ?_ | refine wH (fun h => ?_) fun h => ?_ | ((first | refine mfork_bool (fun h => ?_) fun h => ?_ | refine mgfork_bool (fun h => ?_) fun h => ?_) <;> simp only [h])) | simp (maxSteps := 4000000) (disch := first | decide | assumption | omega | (simp only [wL]; omega)) only [go_sem, simprocAttr, Try.f34])

theorem nof_not (l : List ND) (h : fitS l = false) : MCalls Try.prog 27 [.lst 5 (l.map ND.c) false] St.none (fun r _ => r = .nils) := by
  refine (MCalls.body 8 [.tmp 2] Try.func27 rfl rfl rfl rfl ?_)
  have h1 := nfit_call l false
  rw [h] at h1
  repeat' (first | (with_reducible first | refine up h1 ?_) | (with_reducible first | (refine wT ?_; refine wN fun _ hnl => ?_; revert hnl; (repeat refine wS fun _ _ => ?_); intro hnl) | refine wD (by decide +kernel) ?_ | refine wI (fun h => ?_) fun h => ?_ | refine wF (fun h => ?_) fun h => ?_ | refine wG (fun h => ?_) fun h => ?_ | refine wH (fun h => ?_) fun h => ?_ | ((first | refine mfork_bool (fun h => ?_) fun h => ?_ | refine mgfork_bool (fun h => ?_) fun h => ?_) <;> simp only [h])) | simp (maxSteps := 4000000) (disch := first | decide | assumption | omega | (simp only [wL]; omega)) only [go_sem, simprocAttr, Try.f27])
theorem nof_fit (J : JoinedSays) (t : T) (ht : FT t) : MCalls Try.prog 27 [.lst 5 (t.fl.map ND.c) false] St.none (fun r _ => r = .lst 5 ((formT t false).fl.map ND.c) false) := by
  refine (MCalls.body 8 [.tmp 2] Try.func27 rfl rfl rfl rfl ?_)
  have h1 := nfit_call t.fl false
  rw [ht.fit] at h1
  have h2 := nform_call J t false ht.good (by have := ht.len; omega)
  repeat' (first | (with_reducible first | refine up h1 ?_ | refine up h2 ?_) | (with_reducible first | (refine wT ?_; refine wN fun _ hnl => ?_; revert hnl; (repeat refine wS fun _ _ => ?_); intro hnl) | refine wD (by decide +kernel) ?_ | refine wI (fun h => ?_) fun h => ?_ | refine wF (fun h => ?_) fun h => ?_ | refine wG (fun h => ?_) fun h => ?_ | refine wH (fun h => ?_) fun h => ?_ | ((first | refine mfork_bool (fun h => ?_) fun h => ?_ | refine mgfork_bool (fun h => ?_) fun h => ?_) <;> simp only [h])) | simp (maxSteps := 4000000) (disch := first | decide | assumption | omega | (simp only [wL]; omega)) only [go_sem, simprocAttr, Try.f27])
theorem ntu_not (l : List ND) (h : fitS l = false) : MCalls Try.prog 30 [.lst 5 (l.map ND.c) false] St.none (fun r _ => r = .nils) := by
  refine (MCalls.body 8 [.tmp 2] Try.func30 rfl rfl rfl rfl ?_)
  have h1 := nfit_call l false
  rw [h] at h1
  repeat' (first | (with_reducible first | refine up h1 ?_) | (with_reducible first | (refine wT ?_; refine wN fun _ hnl => ?_; revert hnl; (repeat refine wS fun _ _ => ?_); intro hnl) | refine wD (by decide +kernel) ?_ | refine wI (fun h => ?_) fun h => ?_ | refine wF (fun h => ?_) fun h => ?_ | refine wG (fun h => ?_) fun h => ?_ | refine wH (fun h => ?_) fun h => ?_ | ((first | refine mfork_bool (fun h => ?_) fun h => ?_ | refine mgfork_bool (fun h => ?_) fun h => ?_) <;> simp only [h])) | simp (maxSteps := 4000000) (disch := first | decide | assumption | omega | (simp only [wL]; omega)) only [go_sem, simprocAttr, Try.f30])
theorem ntu_fit (J : JoinedSays) (t : T) (ht : FT t) : MCalls Try.prog 30 [.lst 5 (t.fl.map ND.c) false] St.none (fun r _ => r = .lst 5 ((formT t true).fl.map ND.c) false) := by
  refine (MCalls.body 8 [.tmp 2] Try.func30 rfl rfl rfl rfl ?_)
  have h1 := nfit_call t.fl false
  rw [ht.fit] at h1
  have h2 := nform_call J t true ht.good (by have := ht.len; omega)
  repeat' (first | (with_reducible first | refine up h1 ?_ | refine up h2 ?_) | (with_reducible first | (refine wT ?_; refine wN fun _ hnl => ?_; revert hnl; (repeat refine wS fun _ _ => ?_); intro hnl) | refine wD (by decide +kernel) ?_ | refine wI (fun h => ?_) fun h => ?_ | refine wF (fun h => ?_) fun h => ?_ | refine wG (fun h => ?_) fun h => ?_ | refine wH (fun h => ?_) fun h => ?_ | ((first | refine mfork_bool (fun h => ?_) fun h => ?_ | refine mgfork_bool (fun h => ?_) fun h => ?_) <;> simp only [h])) | simp (maxSteps := 4000000) (disch := first | decide | assumption | omega | (simp only [wL]; omega)) only [go_sem, simprocAttr, Try.f30])
end Go.Proofs.Ytielcgplbnlgbaa
end

section
/- Contracts of the program's Same (of joined's): the conditions that the theorems name. -/
set_option linter.unusedVariables false
set_option linter.unusedSimpArgs false
namespace Go.Proofs.Ytielcgplbnlgbaa

theorem nsame_not1 (a b : List ND) (h : fitS a = false) : MCalls Try.prog 29 [.lst 5 (a.map ND.c) false, .lst 5 (b.map ND.c) false] St.none (fun r _ => r = .bool false) := by
  refine (MCalls.body 19 [.tmp 4] Try.func29 rfl rfl rfl rfl ?_)
  have h1 := nfit_call a false
  rw [h] at h1
  repeat' (first | (with_reducible first | refine up h1 ?_) | (with_reducible first | (refine wT ?_; refine wN fun _ hnl => ?_; revert hnl; (repeat refine wS fun _ _ => ?_); intro hnl) | refine wD (by decide +kernel) ?_ | refine wI (fun h => ?_) fun h => ?_ | refine wF (fun h => ?_) fun h => ?_ | refine wG (fun h => ?_) fun h => ?_ | refine wH (fun h => ?_) fun h => ?_ | ((first | refine mfork_bool (fun h => ?_) fun h => ?_ | refine mgfork_bool (fun h => ?_) fun h => ?_) <;> simp only [h])) | simp (maxSteps := 4000000) (disch := first | decide | assumption | omega | (simp only [wL]; omega)) only [go_sem, simprocAttr, Try.f29])
theorem nsame_not2 (a b : List ND) (ha : fitS a = true) (h : fitS b = false) : MCalls Try.prog 29 [.lst 5 (a.map ND.c) false, .lst 5 (b.map ND.c) false] St.none (fun r _ => r = .bool false) := by
  refine (MCalls.body 19 [.tmp 4] Try.func29 rfl rfl rfl rfl ?_)
  have h1 := nfit_call a false
  rw [ha] at h1
  have h2 := nfit_call b false
  rw [h] at h2
  repeat' (first | (with_reducible first | refine up h1 ?_ | refine up h2 ?_) | (with_reducible first | (refine wT ?_; refine wN fun _ hnl => ?_; revert hnl; (repeat refine wS fun _ _ => ?_); intro hnl) | refine wD (by decide +kernel) ?_ | refine wI (fun h => ?_) fun h => ?_ | refine wF (fun h => ?_) fun h => ?_ | refine wG (fun h => ?_) fun h => ?_ | refine wH (fun h => ?_) fun h => ?_ | ((first | refine mfork_bool (fun h => ?_) fun h => ?_ | refine mgfork_bool (fun h => ?_) fun h => ?_) <;> simp only [h])) | simp (maxSteps := 4000000) (disch := first | decide | assumption | omega | (simp only [wL]; omega)) only [go_sem, simprocAttr, Try.f29])
theorem nsame_fit (J : JoinedSays) (s t : T) (hs : FT s) (ht : FT t) : MCalls Try.prog 29 [.lst 5 (s.fl.map ND.c) false, .lst 5 (t.fl.map ND.c) false] St.none (fun r _ => r = .bool (decide ((formT s false).fl = (formT t false).fl))) := by
  refine (MCalls.body 19 [.tmp 4] Try.func29 rfl rfl rfl rfl ?_)
  have h1 := nfit_call s.fl false
  rw [hs.fit] at h1
  have h2 := nfit_call t.fl false
  rw [ht.fit] at h2
  have h3 := nof_fit J s hs
  have h4 := nof_fit J t ht
  have h5 := pcompare_call (formT s false).fl (formT t false).fl (by have := formT_len s false; have := hs.len; omega) (by have := formT_len t false; have := ht.len; omega) false false
  have e : (ordI (cmpF (formT s false).fl (formT t false).fl) = 0) ↔ (formT s false).fl = (formT t false).fl := by rw [ordI_zero, cmpF_eq]
  repeat' (first | (with_reducible first | refine up h1 ?_ | refine up h2 ?_ | refine up h3 ?_ | refine up h4 ?_ | refine up h5 ?_) | (with_reducible first | (refine wT ?_; refine wN fun _ hnl => ?_; revert hnl; (repeat refine wS fun _ _ => ?_); intro hnl) | refine wD (by decide +kernel) ?_ | refine wI (fun h => ?_) fun h => ?_ | refine wF (fun h => ?_) fun h => ?_ | refine wG (fun h => ?_) fun h => ?_ | refine wH (fun h => ?_) fun h => ?_ | ((first | refine mfork_bool (fun h => ?_) fun h => ?_ | refine mgfork_bool (fun h => ?_) fun h => ?_) <;> simp only [h])) | simp (maxSteps := 4000000) (disch := first | decide | assumption | omega | (simp only [wL]; omega)) only [go_sem, simprocAttr, Try.f29])
  simp only [e]
end Go.Proofs.Ytielcgplbnlgbaa
end

section
/- Contract of slices.Backward at filters, and what it hands on: the conditions that the theorems name. -/
set_option linter.unusedVariables false
set_option linter.unusedSimpArgs false
namespace Go.Proofs.Ytielcgplbnlgbaa

abbrev bkO (ts : List T) (tt : Bool) : MObj := .row 45 1 [[.lst 1 (ts.map tcell) tt]]
abbrev bkX (ts : List T) : List (List MV) := (List.range ts.length).map fun j => [.int .i64 ((ts.length - 1 - j : Nat) : Int), .lst 5 ((ts.getD (ts.length - 1 - j) (.leaf nd0)).fl.map ND.c) false]

theorem back_call (ts : List T) (tt : Bool) : MCalls Try.prog 98 [.lst 1 (ts.map tcell) tt] St.none (fun v σ' => ∃ l, v = .fn (.func 110) [] [.ptr l 0 0] ∧ σ' = St.none.set l (bkO ts tt)) := by
  refine (MCalls.body 4 [.tmp 2] Try.func98 rfl rfl rfl rfl ?_)
  repeat' (first | (with_reducible first | (refine wT ?_; refine wN fun _ hnl => ?_; revert hnl; (repeat refine wS fun _ _ => ?_); intro hnl) | refine wD (by decide +kernel) ?_ | refine wI (fun h => ?_) fun h => ?_ | refine wF (fun h => ?_) fun h => ?_ | refine wG (fun h => ?_) fun h => ?_ | refine wH (fun h => ?_) fun h => ?_ | ((first | refine mfork_bool (fun h => ?_) fun h => ?_ | refine mgfork_bool (fun h => ?_) fun h => ?_) <;> simp only [h])) | simp (maxSteps := 4000000) (disch := first | decide | assumption | omega | (simp only [wL]; omega)) only [go_sem, simprocAttr, Try.f98])
  exact ⟨_, rfl, rfl⟩

theorem bk_get {ts : List T} {j k : Nat} (h : ts.length = k + 1 + j) : (bkX ts)[j]? = some [.int .i64 (k : Nat), .lst 5 ((ts.getD k (.leaf nd0)).fl.map ND.c) false] := by
  have e : ts.length - 1 - j = k := by omega
  rw [bkX, List.getElem?_map, List.getElem?_range (by omega), Option.map_some, e]
theorem noObj_pair (k : Int) (l : List ND) : ∀ m, m ∈ [MV.int .i64 k, MV.lst 5 (l.map ND.c) false] → NoObj m := fun m hm => by
  rcases List.mem_cons.1 hm with rfl | hm
  · exact .flat (.int _ _)
  · exact noObj_cell l m hm

set_option maxHeartbeats 4000000 in
theorem back_seq (ts : List T) (tt : Bool) (hn : ts.length ≤ 1000) (l : Nat) : MSeq Try.prog 110 [.ptr l 0 0] (St.none.set l (bkO ts tt)) (bkX ts) := by
  refine MSeq.of_body 19 Try.func110 rfl rfl rfl rfl fun C hC hspec => ?_
  have hxl : (bkX ts).length = ts.length := by simp [bkX]
  rw [hxl]
  refine ywp_seq (ywalk ?_)
  repeat' (first | (with_reducible first | (refine wT ?_; refine wN fun _ hnl => ?_; revert hnl; (repeat refine wS fun _ _ => ?_); intro hnl) | refine wD (by decide +kernel) ?_ | refine wI (fun h => ?_) fun h => ?_ | refine wF (fun h => ?_) fun h => ?_ | refine wG (fun h => ?_) fun h => ?_ | refine wH (fun h => ?_) fun h => ?_ | ((first | refine mfork_bool (fun h => ?_) fun h => ?_ | refine mgfork_bool (fun h => ?_) fun h => ?_) <;> simp only [h])) | simp (maxSteps := 4000000) (disch := first | decide | assumption | omega | (simp only [wL]; omega)) only [go_sem, simprocAttr, Try.f110])
  refine R_of (ywp_block (ywp_loop (α := Nat) (fun j => ⟨19, [(3, .int .i64 ((ts.length : Int) - 1 - j)), (0, .fn (.yield C.l) [] []), (1, .ptr l 0 0)], []⟩) (fun _ => St.none.set l (bkO ts tt)) (fun j => some j)
      (fun j => j ≤ ts.length) (fun j => ts.length - j) ?_ ?_))
  · refine .of (.less ?_ (St.le_refl _)) ⟨0, rfl, rfl, rfl, Nat.zero_le _⟩
    simp (maxSteps := 4000000) (disch := first | decide | assumption | omega | (simp only [wL]; omega)) only [go_sem, simprocAttr, weak_int, weak_same]
    all_goals simp
  · rintro j hj
    refine ywp_seq (ywalk ?_)
    repeat' (first | (with_reducible first | (refine wT ?_; refine wN fun _ hnl => ?_; revert hnl; (repeat refine wS fun _ _ => ?_); intro hnl) | refine wD (by decide +kernel) ?_ | refine wI (fun h => ?_) fun h => ?_ | refine wF (fun h => ?_) fun h => ?_ | refine wG (fun h => ?_) fun h => ?_ | refine wH (fun h => ?_) fun h => ?_ | ((first | refine mfork_bool (fun h => ?_) fun h => ?_ | refine mgfork_bool (fun h => ?_) fun h => ?_) <;> simp only [h])) | simp (maxSteps := 4000000) (disch := first | decide | assumption | omega | (simp only [wL]; omega)) only [go_sem, simprocAttr])
    · obtain ⟨k, hk⟩ : ∃ k, ts.length = k + 1 + j := ⟨ts.length - 1 - j, by omega⟩
      have e : (ts.length : Int) - 1 - j = (k : Nat) := by omega
      have hk2 : k < (ts.map tcell).length := by rw [List.length_map]; omega
      rw [e]
      refine R_of (ywp_seq (ywp_block (ywp_seq (ywp_yield (ops := #[_, _, _, _, _, _, _, _]) [_, _, _, _, _, _] _ [_] rfl rfl rfl rfl rfl (x := [.int .i64 (k : Nat), .lst 5 ((ts.getD k (.leaf nd0)).fl.map ND.c) false]) (by
        rw [hC]
        refine bk_get ?_
        omega) (noObj_pair _ _) hspec ?_))))
      repeat' (first | (with_reducible first | (refine wT ?_; refine wN fun _ hnl => ?_; revert hnl; (repeat refine wS fun _ _ => ?_); intro hnl) | refine wD (by decide +kernel) ?_ | refine wI (fun h => ?_) fun h => ?_ | refine wF (fun h => ?_) fun h => ?_ | refine wG (fun h => ?_) fun h => ?_ | refine wH (fun h => ?_) fun h => ?_ | ((first | refine mfork_bool (fun h => ?_) fun h => ?_ | refine mgfork_bool (fun h => ?_) fun h => ?_) <;> simp only [h])) | simp (maxSteps := 4000000) (disch := first | decide | assumption | omega | (simp only [wL]; omega)) only [go_sem, simprocAttr, getD_mapd (T.leaf nd0)])
      refine ⟨R_of (ywalk ?_), R_of (ywalk ?_)⟩
      · repeat' (first | (with_reducible first | (refine wT ?_; refine wN fun _ hnl => ?_; revert hnl; (repeat refine wS fun _ _ => ?_); intro hnl) | refine wD (by decide +kernel) ?_ | refine wI (fun h => ?_) fun h => ?_ | refine wF (fun h => ?_) fun h => ?_ | refine wG (fun h => ?_) fun h => ?_ | refine wH (fun h => ?_) fun h => ?_ | ((first | refine mfork_bool (fun h => ?_) fun h => ?_ | refine mgfork_bool (fun h => ?_) fun h => ?_) <;> simp only [h])) | simp (maxSteps := 4000000) (disch := first | decide | assumption | omega | (simp only [wL]; omega)) only [go_sem, simprocAttr])
        refine R_of (ywalk ?_)
        repeat' (first | (with_reducible first | (refine wT ?_; refine wN fun _ hnl => ?_; revert hnl; (repeat refine wS fun _ _ => ?_); intro hnl) | refine wD (by decide +kernel) ?_ | refine wI (fun h => ?_) fun h => ?_ | refine wF (fun h => ?_) fun h => ?_ | refine wG (fun h => ?_) fun h => ?_ | refine wH (fun h => ?_) fun h => ?_ | ((first | refine mfork_bool (fun h => ?_) fun h => ?_ | refine mgfork_bool (fun h => ?_) fun h => ?_) <;> simp only [h])) | simp (maxSteps := 4000000) (disch := first | decide | assumption | omega | (simp only [wL]; omega)) only [go_sem, simprocAttr])
        refine .of (.less ?_ (St.le_refl _)) ⟨j + 1, rfl, rfl, rfl, by omega, by omega⟩
        simp (maxSteps := 4000000) (disch := first | decide | assumption | omega | (simp only [wL]; omega)) only [go_sem, simprocAttr, weak_int, weak_same]
        all_goals omega
      · repeat' (first | (with_reducible first | (refine wT ?_; refine wN fun _ hnl => ?_; revert hnl; (repeat refine wS fun _ _ => ?_); intro hnl) | refine wD (by decide +kernel) ?_ | refine wI (fun h => ?_) fun h => ?_ | refine wF (fun h => ?_) fun h => ?_ | refine wG (fun h => ?_) fun h => ?_ | refine wH (fun h => ?_) fun h => ?_ | ((first | refine mfork_bool (fun h => ?_) fun h => ?_ | refine mgfork_bool (fun h => ?_) fun h => ?_) <;> simp only [h])) | simp (maxSteps := 4000000) (disch := first | decide | assumption | omega | (simp only [wL]; omega)) only [go_sem, simprocAttr])
        exact .inr trivial
    · refine .inl ?_
      congr 1
      omega
end Go.Proofs.Ytielcgplbnlgbaa
end

section
/- Contract of slices.BinarySearchFunc at filters: the conditions that the theorem names. -/
set_option linter.unusedVariables false
set_option linter.unusedSimpArgs false
namespace Go.Proofs.Ytielcgplbnlgbaa

theorem risF_lt {l : List T} (h : RisF l) {a b : Nat} (hab : a < b) (hb : b < l.length) : cmpF (l.getD a (T.leaf nd0)).fl (l.getD b (T.leaf nd0)).fl = .lt := by
  have := (List.pairwise_iff_getElem.1 h) a b (by omega) (by omega) hab
  rw [getD_of_lt (T.leaf nd0) (by omega), getD_of_lt (T.leaf nd0) hb]
  exact this

theorem found_at {l : List T} {x : List ND} {i : Nat} (h : RisF l) (h1 : ∀ q, q < i → cmpF (l.getD q (T.leaf nd0)).fl x = .lt) (h2 : ∀ q, i ≤ q → q < l.length → ¬ cmpF (l.getD q (T.leaf nd0)).fl x = .lt) :
    (l.any fun y => decide (y.fl = x)) = true ↔ i < l.length ∧ (l.getD i (T.leaf nd0)).fl = x := by
  rw [List.any_eq_true]
  constructor
  · rintro ⟨y, hy, hx⟩
    simp only [decide_eq_true_eq] at hx
    obtain ⟨q, hq, rfl⟩ := List.mem_iff_getElem.1 hy
    have e := getD_of_lt (T.leaf nd0) hq
    rw [← e] at hx
    subst hx
    have hiq : i ≤ q := Nat.le_of_not_lt fun hlt => by
      have := h1 q hlt
      rw [cmpF_eq.2 rfl] at this; cases this
    rcases Nat.lt_or_ge i q with hlt | hge
    · exact absurd (risF_lt h hlt hq) (h2 i (Nat.le_refl _) (by omega))
    · have : i = q := by omega
      subst this
      exact ⟨hq, rfl⟩
  · rintro ⟨hi, e⟩
    exact ⟨_, getD_mem (T.leaf nd0) hi, by simpa using e⟩

set_option maxHeartbeats 2000000 in
theorem bsNN_call (l : List T) (hl : l.length ≤ 1000000) (hb : ∀ t, t ∈ l → t.fl.length ≤ 1000000) (t : Bool) (x : List ND) (hx : x.length ≤ 1000000) (tx : Bool) (h : RisF l) :
    MCalls Try.prog 97 [.lst 1 (l.map tcell) t, .lst 5 (x.map ND.c) tx, .fn (.func 49) [] []] St.none (fun r _ => ∃ p : Nat, r = .tup [.int .i64 p, .bool (l.any fun y => decide (y.fl = x))]) := by
  refine (MCalls.body 49 [.tmp 6, .tmp 7] Try.func97 rfl rfl rfl rfl ?_)
  repeat' (first | (with_reducible first | (refine wT ?_; refine wN fun _ hnl => ?_; revert hnl; (repeat refine wS fun _ _ => ?_); intro hnl) | refine wD (by decide +kernel) ?_ | refine wI (fun h => ?_) fun h => ?_ | refine wF (fun h => ?_) fun h => ?_ | refine wG (fun h => ?_) fun h => ?_ | refine wH (fun h => ?_) fun h => ?_ | ((first | refine mfork_bool (fun h => ?_) fun h => ?_ | refine mgfork_bool (fun h => ?_) fun h => ?_) <;> simp only [h])) | simp (maxSteps := 4000000) (disch := first | decide | assumption | omega | (simp only [wL]; omega)) only [go_sem, simprocAttr, Try.f97])
  refine mloop_intro (α := Nat × Nat) (fun a => ⟨49, [(9, .int .i64 (a.1 : Int)), (10, .int .i64 (a.2 : Int)), (8, .int .i64 (l.length : Int)), (1, .lst 5 (x.map ND.c) tx), (0, .lst 1 (l.map tcell) t), (2, .fn (.func 49) [] [])], []⟩)
    (fun _ => St.none) (fun a => a.1 ≤ a.2 ∧ a.2 ≤ l.length ∧ (∀ q, q < a.1 → cmpF (l.getD q (T.leaf nd0)).fl x = .lt) ∧ (∀ q, a.2 ≤ q → q < l.length → ¬ cmpF (l.getD q (T.leaf nd0)).fl x = .lt)) (fun a => a.2 - a.1) (.of (.less ?_ (St.le_refl _)) ⟨(0, l.length), rfl, rfl, by simp; omega⟩) ?_
  · simp (maxSteps := 4000000) (disch := first | decide | assumption | omega | (simp only [wL]; omega)) only [go_sem, simprocAttr, weak_int, weak_same]
    all_goals first | rfl | omega | simp
  · rintro ⟨i, j⟩ ⟨h1, h2, h3, h4⟩
    simp only at h1 h2 h3 h4 ⊢
    by_cases hij : i < j
    · have hh := half i j
      have hm1 : i ≤ (i + j) / 2 := by omega
      have hm2 : (i + j) / 2 < j := by omega
      obtain ⟨m, hm⟩ : ∃ m, (i + j) / 2 = m := ⟨_, rfl⟩
      rw [hm] at hh hm1 hm2
      have hml : m < l.length := by omega
      have hord := pcompare_call (l.getD m (T.leaf nd0)).fl x (hb _ (getD_mem _ hml)) hx false tx
      by_cases hless : cmpF (l.getD m (T.leaf nd0)).fl x = .lt
      · have ho : ordI (cmpF (l.getD m (T.leaf nd0)).fl x) = -1 := by rw [hless]; rfl
        rw [ho] at hord
        repeat' (first | (with_reducible first | refine up hord ?_) | (with_reducible first | (refine wT ?_; refine wN fun _ hnl => ?_; revert hnl; (repeat refine wS fun _ _ => ?_); intro hnl) | refine wD (by decide +kernel) ?_ | refine wI (fun h => ?_) fun h => ?_ | refine wF (fun h => ?_) fun h => ?_ | refine wG (fun h => ?_) fun h => ?_ | refine wH (fun h => ?_) fun h => ?_ | ((first | refine mfork_bool (fun h => ?_) fun h => ?_ | refine mgfork_bool (fun h => ?_) fun h => ?_) <;> simp only [h])) | simp (maxSteps := 4000000) (disch := first | decide | assumption | omega | (simp only [wL]; omega)) only [go_sem, simprocAttr, getD_mapd (T.leaf nd0), hh])
        refine .of (.less (l1 := [(9, .int .i64 ((m + 1 : Nat) : Int)), (10, .int .i64 (j : Int)), (8, .int .i64 (l.length : Int)), (1, .lst 5 (x.map ND.c) tx), (0, .lst 1 (l.map tcell) t), (2, .fn (.func 49) [] [])]) ?_ (St.le_refl _)) ⟨(m + 1, j), rfl, rfl, ⟨by simp only; omega, h2, fun q hq => ?_, h4⟩, by simp only; omega⟩
        · simp (maxSteps := 4000000) (disch := first | decide | assumption | omega | (simp only [wL]; omega)) only [go_sem, simprocAttr, weak_int, weak_same]
          all_goals omega
        · simp only at hq
          rcases Nat.lt_or_ge q m with hlt | hge
          · exact cmpF_trans (risF_lt h hlt hml) hless
          · have : q = m := by omega
            rw [this]; exact hless
      · have ho : ¬ ordI (cmpF (l.getD m (T.leaf nd0)).fl x) < 0 := fun hh => hless (ordI_neg.1 hh)
        repeat' (first | (with_reducible first | refine up hord ?_) | (with_reducible first | (refine wT ?_; refine wN fun _ hnl => ?_; revert hnl; (repeat refine wS fun _ _ => ?_); intro hnl) | refine wD (by decide +kernel) ?_ | refine wI (fun h => ?_) fun h => ?_ | refine wF (fun h => ?_) fun h => ?_ | refine wG (fun h => ?_) fun h => ?_ | refine wH (fun h => ?_) fun h => ?_ | ((first | refine mfork_bool (fun h => ?_) fun h => ?_ | refine mgfork_bool (fun h => ?_) fun h => ?_) <;> simp only [h])) | simp (maxSteps := 4000000) (disch := first | decide | assumption | omega | (simp only [wL]; omega)) only [go_sem, simprocAttr, getD_mapd (T.leaf nd0), hh])
        refine .of (.less (l1 := [(9, .int .i64 (i : Int)), (10, .int .i64 (m : Int)), (8, .int .i64 (l.length : Int)), (1, .lst 5 (x.map ND.c) tx), (0, .lst 1 (l.map tcell) t), (2, .fn (.func 49) [] [])]) ?_ (St.le_refl _)) ⟨(i, m), rfl, rfl, ⟨hm1, by simp only; omega, h3, fun q hq hql => ?_⟩, by simp only; omega⟩
        · simp (maxSteps := 4000000) (disch := first | decide | assumption | omega | (simp only [wL]; omega)) only [go_sem, simprocAttr, weak_int, weak_same]
        · simp only at hq
          rcases Nat.lt_or_ge m q with hlt | hge
          · exact fun hl2 => hless (cmpF_trans (risF_lt h hlt hql) hl2)
          · have : q = m := by omega
            rw [this]; exact hless
    · have : i = j := by omega
      subst this
      have hp := found_at h h3 h4
      by_cases hil : i < l.length
      · have hord := pcompare_call (l.getD i (T.leaf nd0)).fl x (hb _ (getD_mem _ hil)) hx false tx
        have he : (ordI (cmpF (l.getD i (T.leaf nd0)).fl x) = 0) ↔ (l.any fun y => decide (y.fl = x)) = true := by
          rw [ordI_zero, cmpF_eq, hp]
          exact ⟨fun he => ⟨hil, he⟩, fun h => h.2⟩
        repeat' (first | (with_reducible first | refine up hord ?_) | (with_reducible first | (refine wT ?_; refine wN fun _ hnl => ?_; revert hnl; (repeat refine wS fun _ _ => ?_); intro hnl) | refine wD (by decide +kernel) ?_ | refine wI (fun h => ?_) fun h => ?_ | refine wF (fun h => ?_) fun h => ?_ | refine wG (fun h => ?_) fun h => ?_ | refine wH (fun h => ?_) fun h => ?_ | ((first | refine mfork_bool (fun h => ?_) fun h => ?_ | refine mgfork_bool (fun h => ?_) fun h => ?_) <;> simp only [h])) | simp (maxSteps := 4000000) (disch := first | decide | assumption | omega | (simp only [wL]; omega)) only [go_sem, simprocAttr, getD_mapd (T.leaf nd0)])
        refine ⟨i, ?_⟩
        have e : decide (ordI (cmpF (l.getD i (T.leaf nd0)).fl x) = 0) = (l.any fun y => decide (y.fl = x)) := by
          rw [Bool.eq_iff_iff, decide_eq_true_eq]; exact he
        rw [e]
      · have hf : (l.any fun y => decide (y.fl = x)) = false := by
          rw [← Bool.not_eq_true, hp]
          exact fun h => hil h.1
        repeat' (first | (with_reducible first | (refine wT ?_; refine wN fun _ hnl => ?_; revert hnl; (repeat refine wS fun _ _ => ?_); intro hnl) | refine wD (by decide +kernel) ?_ | refine wI (fun h => ?_) fun h => ?_ | refine wF (fun h => ?_) fun h => ?_ | refine wG (fun h => ?_) fun h => ?_ | refine wH (fun h => ?_) fun h => ?_ | ((first | refine mfork_bool (fun h => ?_) fun h => ?_ | refine mgfork_bool (fun h => ?_) fun h => ?_) <;> simp only [h])) | simp (maxSteps := 4000000) (disch := first | decide | assumption | omega | (simp only [wL]; omega)) only [go_sem, simprocAttr, getD_mapd (T.leaf nd0)])
        exact ⟨i, by rw [hf]⟩
end Go.Proofs.Ytielcgplbnlgbaa
end

section
/- Contract of the program's joined: the conditions that the theorems name. -/
set_option linter.unusedVariables false
set_option linter.unusedSimpArgs false
namespace Go.Proofs.Ytielcgplbnlgbaa

/-- A part of code, and what follows of what is known behind it. -/
theorem mcut {P : Program} {x y : Code} {f : FR} {σ : St} {Q : MQ} {good : FR → St → Prop} (h1 : mwp P x f σ (thenQ (fun f' σ' => Gh f' σ' good) fun _ _ _ => False)) (h2 : ∀ f' σ', good f' σ' → mwp P y f' σ' Q) : mwp P (.seq x y) f σ Q := by
  refine mwp_seq (mwp_mono h1 fun e f' σ' h => ?_)
  cases e with
  | normal => exact mwp_gh (fun Φ w vs hi hr => by
      obtain ⟨f1, σ1, Φ1, x1, x2, x3⟩ := h Φ w vs hi hr
      exact ⟨f1, σ1, Φ1, x1, h2 f1 σ1 x2, x3⟩)
  | _ => exact h.elim

theorem Ghost.freezeBut {n : Nat} {l l1 : List (Nat × MV)} {d : List (FuncId × List MV)} {σ : St} (q : Nat) {o : MObj} (h : σ q = some o) (hv : ∀ p, p ∈ l1 → View (σ.del q) (lget l p.1) p.2) : Ghost ⟨n, l, d⟩ σ ⟨n, l1, d⟩ (St.none.set q o) :=
  Ghost.freeze (σ.del q) (fun k o' hk => by
    unfold St.del at hk
    split at hk
    · cases hk
    · exact hk) (St.set_le (St.none_le _) h) (fun k o' hk => by
    by_cases e : k = q
    · subst e; simp [St.del]
    · rw [set_miss _ _ _ _ e] at hk; cases hk) hv

/-- A row becomes fixed, and a cell that holds it. -/
theorem Ghost.freezeCell {n : Nat} {l l1 : List (Nat × MV)} {d : List (FuncId × List MV)} {σ : St} (q b : Nat) {oq : MObj} {t : TypeId} {m m1 : MV} (σ0 : St) (hq : σ q = some oq) (hb : σ b = some (.row t 1 [[m]])) (hne : b ≠ q) (hv : View (St.none.set q oq) m m1) (hc : m1.isCell = true)
    (h0 : ∀ k o, σ0 k = some o → k ≠ q ∧ σ k = some o) (hl : ∀ p, p ∈ l1 → View (St.none.set q oq) (lget l p.1) p.2) : Ghost ⟨n, l, d⟩ σ ⟨n, l1, d⟩ (σ0.set b (.row t 1 [[m1]])) := by
  refine Ghost.freezeIn (St.none.set q oq) (St.set_le (St.none_le _) hq) (fun k o1 hk => ?_) (fun k o hk => ?_) hl
  · by_cases e : k = b
    · subst e
      rw [set_hit] at hk
      cases hk
      refine ⟨_, hb, .inr ⟨t, 1, _, _, rfl, rfl, rfl, fun i x x1 hx hx1 => ?_⟩⟩
      match i with
      | 0 =>
        simp only [List.getElem?_cons_zero, Option.some.injEq] at hx hx1
        subst hx hx1
        refine ⟨rfl, fun j a b ha hb => ?_⟩
        match j with
        | 0 =>
          simp only [List.getElem?_cons_zero, Option.some.injEq] at ha hb
          subst ha hb
          exact .inr ⟨hc, hv⟩
        | j + 1 => simp at ha
      | i + 1 => simp at hx
    · rw [set_miss _ _ _ _ e] at hk
      exact ⟨_, (h0 k _ hk).2, .inl rfl⟩
  · by_cases e : k = b
    · subst e; exact set_miss _ _ _ _ hne
    · rw [set_miss _ _ _ _ e] at hk
      exact set_miss _ _ _ _ (h0 k _ hk).1

theorem bk_mem {ts : List T} {j : Nat} {x : List MV} (h : (bkX ts)[j]? = some x) : j < ts.length ∧ x = [.int .i64 ((ts.length - 1 - j : Nat) : Int), .lst 5 ((ts.getD (ts.length - 1 - j) (.leaf nd0)).fl.map ND.c) false] := by
  rw [bkX, List.getElem?_map, Option.map_eq_some_iff] at h
  obtain ⟨a, h1, rfl⟩ := h
  obtain ⟨h2, h3⟩ := List.getElem?_eq_some_iff.1 h1
  rw [List.length_range] at h2
  rw [List.getElem_range] at h3
  subst h3
  exact ⟨h2, rfl⟩

theorem compNN_nil : MCalls Try.prog 95 [.nils, .fn (.func 96) [] []] St.none (fun r σ' => r = .nils ∧ σ' = St.none) := by
  refine (MCalls.body 66 [.tmp 4] Try.func95 rfl rfl rfl rfl ?_)
  repeat' (first | (with_reducible first | (refine wT ?_; refine wN fun _ hnl => ?_; revert hnl; (repeat refine wS fun _ _ => ?_); intro hnl) | refine wD (by decide +kernel) ?_ | refine wI (fun h => ?_) fun h => ?_ | refine wF (fun h => ?_) fun h => ?_ | refine wG (fun h => ?_) fun h => ?_ | refine wH (fun h => ?_) fun h => ?_ | ((first | refine mfork_bool (fun h => ?_) fun h => ?_ | refine mgfork_bool (fun h => ?_) fun h => ?_) <;> simp only [h])) | simp (maxSteps := 4000000) (disch := first | decide | assumption | omega | (simp only [wL]; omega)) only [go_sem, simprocAttr, Try.f95])

/-- What joined keeps, behind so many pieces. -/
def JI (op : Int) (P : List T) (k : Nat) (kept : List T) : Prop := kept = (P.take k).filter (fun t => decide (t.root.op ≠ unitOf op)) ∧ (P.take k).any (fun t => decide (t.root.op = zeroOf op)) = false
theorem JI.unit {op : Int} {P : List T} {k : Nat} {kept : List T} (h : JI op P k kept) {y : T} (hy : P[k]? = some y) (hz : ¬ y.root.op = zeroOf op) (hu : y.root.op = unitOf op) : JI op P (k + 1) kept := by
  obtain ⟨hk, e⟩ := List.getElem?_eq_some_iff.1 hy
  refine ⟨?_, ?_⟩
  · rw [filter_take_succ hk, e, if_neg (by simp [hu]), List.append_nil]; exact h.1
  · rw [any_take_succ' hk, h.2, e]; simp [hz]
theorem JI.more {op : Int} {P : List T} {k : Nat} {kept : List T} (h : JI op P k kept) {y : T} (hy : P[k]? = some y) (hz : ¬ y.root.op = zeroOf op) (hu : ¬ y.root.op = unitOf op) : JI op P (k + 1) (kept ++ [y]) := by
  obtain ⟨hk, e⟩ := List.getElem?_eq_some_iff.1 hy
  refine ⟨?_, ?_⟩
  · rw [filter_take_succ hk, e, if_pos (by simp [hu]), ← h.1]
  · rw [any_take_succ' hk, h.2, e]; simp [hz]
theorem JI.zero {op : Int} {P : List T} {k : Nat} {y : T} (hy : P[k]? = some y) (hz : y.root.op = zeroOf op) : normL op P = .leaf (nd (zeroOf op)) := by
  obtain ⟨hk, e⟩ := List.getElem?_eq_some_iff.1 hy
  unfold normL
  rw [if_pos (List.any_eq_true.2 ⟨y, e ▸ List.getElem_mem hk, by simp [hz]⟩)]
theorem JI.fin {op : Int} {P kept : List T} (h : JI op P P.length kept) : normL op P = (if agst (sortT kept) = true then .leaf (nd (zeroOf op)) else foldO op (sortT kept)) := by
  obtain ⟨h1, h2⟩ := h
  rw [List.take_length] at h1 h2
  unfold normL
  rw [← h1, h2]; simp

/-- Which part. -/
def jab (a b : T) (i : Nat) : T := if i = 0 then a else b
/-- Where its pieces begin. -/
def jK (op : Int) (a b : T) (i : Nat) : Nat := if i = 0 then 0 else if i = 1 then (pcs op a).length else (pcs op a).length + (pcs op b).length
theorem jK_succ (op : Int) (a b : T) {i : Nat} (hi : i < 2) : jK op a b (i + 1) = jK op a b i + (pcs op (jab a b i)).length := by
  match i, hi with
  | 0, _ => simp [jK, jab]
  | 1, _ => simp [jK, jab]
theorem jK_get {op : Int} {a b : T} {i j : Nat} (hi : i < 2) {y : T} (h : (pcs op (jab a b i))[j]? = some y) : (pcs op a ++ pcs op b)[jK op a b i + j]? = some y := by
  match i, hi with
  | 0, _ =>
    simp only [jK, jab, if_true, Nat.zero_add] at h ⊢
    rw [List.getElem?_append_left (List.getElem?_eq_some_iff.1 h).1, h]
  | 1, _ =>
    simp only [jK, jab, if_true, Nat.one_ne_zero, if_false] at h ⊢
    rw [List.getElem?_append_right (Nat.le_add_right _ _), Nat.add_sub_cancel_left, h]

/-- The row that joined collects. -/
def jS (n2 n5 : Nat) : List T → Nat → List (List MV) → St
  | [], _, _ => (St.none.set n2 (.row 22 1 [[.nils]])).set n5 (.row 45 1 [[.nils]])
  | k :: ks, q, ex => ((St.none.set n2 (.row 22 1 [[.nils]])).set n5 (.row 45 1 [[.vec 1 q 0 (k :: ks).length]])).set q (.row 22 1 ((k :: ks).map tcell ++ ex))

set_option maxHeartbeats 8000000 in
theorem njoined_call : JoinedSays := by
  intro op hop a b ga gb na nb la lb
  refine MCalls.seen (MCalls.of_body 103 [.cell 6 22] Try.func67 rfl rfl rfl rfl (mwp_seq (mwalk ?_)))
  have hwa := pcs_wgt (op := op) a
  have hwb := pcs_wgt (op := op) b
  have hw : wgt (pcs op a ++ pcs op b) ≤ 402 := by rw [wgt_append]; omega
  have gp : ∀ y, y ∈ pcs op a ++ pcs op b → Good y := fun y hy => (List.mem_append.1 hy).elim (good_pcs ga y) (good_pcs gb y)
  have np : ∀ y, y ∈ pcs op a ++ pcs op b → NF y := fun y hy => (List.mem_append.1 hy).elim (na.pcs hop y) (nb.pcs hop y)
  have hj : joinT op a b = normL op (pcs op a ++ pcs op b) := rfl
  rw [hj]
  have hg1 : ∀ i j y, i < 2 → (pcs op (jab a b i))[j]? = some y → (pcs op a ++ pcs op b)[jK op a b i + j]? = some y := fun i j y hi h => jK_get hi h
  have hPl : jK op a b 2 = (pcs op a ++ pcs op b).length := List.length_append.symm
  obtain ⟨P, hP⟩ : ∃ P, pcs op a ++ pcs op b = P := ⟨_, rfl⟩
  rw [hP] at hw gp np hPl ⊢
  have hg : ∀ i j y, i < 2 → (pcs op (jab a b i))[j]? = some y → P[jK op a b i + j]? = some y := fun i j y hi h => by rw [← hP]; exact hg1 i j y hi h
  clear hg1
  have hgood : ∀ i, (jab a b i).ok ∧ (jab a b i).fl.length ≤ 200 := fun i => by
    unfold jab
    split
    · exact ⟨ga.1, la⟩
    · exact ⟨gb.1, lb⟩
  obtain ⟨cs, hcs⟩ : ∃ cs, cs = [MV.lst 5 (a.fl.map ND.c) false, .lst 5 (b.fl.map ND.c) false] := ⟨_, rfl⟩
  have hcl : cs.length = 2 := by rw [hcs]; rfl
  have hcg : ∀ i, i < 2 → cs.getD i .junk = .lst 5 ((jab a b i).fl.map ND.c) false := fun i hi => by
    rw [hcs]
    match i, hi with
    | 0, _ => rfl
    | 1, _ => rfl
  have keep : ∀ k kept, JI op P k kept → (∀ y, y ∈ kept → y ∈ P) ∧ wgt kept ≤ 402 := fun k kept h => by
    rw [h.1]
    exact ⟨fun y hy => List.mem_of_mem_take (List.mem_filter.1 hy).1, Nat.le_trans (filter_wgt _ _) (Nat.le_trans (take_wgt _ _) hw)⟩
  repeat' (first | (with_reducible first | (refine wT ?_; (first | ((fail_if_success (have := nl1)); refine wN fun nl1 hnl => ?_) | ((fail_if_success (have := nl2)); refine wN fun nl2 hnl => ?_) | ((fail_if_success (have := nl3)); refine wN fun nl3 hnl => ?_) | ((fail_if_success (have := nl4)); refine wN fun nl4 hnl => ?_) | ((fail_if_success (have := nl5)); refine wN fun nl5 hnl => ?_) | ((fail_if_success (have := nl6)); refine wN fun nl6 hnl => ?_) | ((fail_if_success (have := nl7)); refine wN fun nl7 hnl => ?_) | refine wN fun _ hnl => ?_); revert hnl; (repeat refine wS fun _ _ => ?_); intro hnl) | refine wD (by decide +kernel) ?_ | refine wI (fun h => ?_) fun h => ?_ | refine wF (fun h => ?_) fun h => ?_ | refine wG (fun h => ?_) fun h => ?_ | refine wH (fun h => ?_) fun h => ?_ | ((first | refine mfork_bool (fun h => ?_) fun h => ?_ | refine mgfork_bool (fun h => ?_) fun h => ?_) <;> simp only [h])) | simp (maxSteps := 4000000) (disch := first | decide | assumption | omega | (simp only [wL]; omega)) only [go_sem, simprocAttr, Try.f67])
  refine R_of (mwp_seq (mwalk ?_))
  repeat' (first | (with_reducible first | (refine wT ?_; (first | ((fail_if_success (have := nl1)); refine wN fun nl1 hnl => ?_) | ((fail_if_success (have := nl2)); refine wN fun nl2 hnl => ?_) | ((fail_if_success (have := nl3)); refine wN fun nl3 hnl => ?_) | ((fail_if_success (have := nl4)); refine wN fun nl4 hnl => ?_) | ((fail_if_success (have := nl5)); refine wN fun nl5 hnl => ?_) | ((fail_if_success (have := nl6)); refine wN fun nl6 hnl => ?_) | ((fail_if_success (have := nl7)); refine wN fun nl7 hnl => ?_) | refine wN fun _ hnl => ?_); revert hnl; (repeat refine wS fun _ _ => ?_); intro hnl) | refine wD (by decide +kernel) ?_ | refine wI (fun h => ?_) fun h => ?_ | refine wF (fun h => ?_) fun h => ?_ | refine wG (fun h => ?_) fun h => ?_ | refine wH (fun h => ?_) fun h => ?_ | ((first | refine mfork_bool (fun h => ?_) fun h => ?_ | refine mgfork_bool (fun h => ?_) fun h => ?_) <;> simp only [h])) | simp (maxSteps := 4000000) (disch := first | decide | assumption | omega | (simp only [wL]; omega)) only [go_sem, simprocAttr])
  refine R_of (mcut (good := fun f' σ' => f' = ⟨103, [(8, .cptr [.int .i64 (zeroOf op)]), (7, .cptr [.int .i64 (unitOf op)]), (6, .ptr nl2 0 0), (3, .cptr [.int .i64 op]), (1, .lst 5 (a.fl.map ND.c) false), (2, .lst 5 (b.fl.map ND.c) false)], []⟩ ∧ σ' = St.none.set nl2 (.row 22 1 [[.nils]])) (mwalk ?_) ?_)
  · repeat' (first | (with_reducible first | (refine wT ?_; (first | ((fail_if_success (have := nl1)); refine wN fun nl1 hnl => ?_) | ((fail_if_success (have := nl2)); refine wN fun nl2 hnl => ?_) | ((fail_if_success (have := nl3)); refine wN fun nl3 hnl => ?_) | ((fail_if_success (have := nl4)); refine wN fun nl4 hnl => ?_) | ((fail_if_success (have := nl5)); refine wN fun nl5 hnl => ?_) | ((fail_if_success (have := nl6)); refine wN fun nl6 hnl => ?_) | ((fail_if_success (have := nl7)); refine wN fun nl7 hnl => ?_) | refine wN fun _ hnl => ?_); revert hnl; (repeat refine wS fun _ _ => ?_); intro hnl) | refine wD (by decide +kernel) ?_ | refine wI (fun h => ?_) fun h => ?_ | refine wF (fun h => ?_) fun h => ?_ | refine wG (fun h => ?_) fun h => ?_ | refine wH (fun h => ?_) fun h => ?_ | ((first | refine mfork_bool (fun h => ?_) fun h => ?_ | refine mgfork_bool (fun h => ?_) fun h => ?_) <;> simp only [h])) | simp (maxSteps := 4000000) (disch := first | decide | assumption | omega | (simp only [wL]; omega)) only [go_sem, simprocAttr])
    · have hu : unitOf op = 2 := if_pos h
      have hz : zeroOf op = 1 := if_pos h
      rw [hu, hz]
      refine .of (Ghost.freezeBut nl2 (o := .row 22 1 [[.nils]]) (by first | (simp (maxSteps := 4000000) (disch := first | decide | assumption | omega | (simp only [wL]; omega)) only [go_sem, simprocAttr]; done) | (simp (maxSteps := 4000000) (disch := first | decide | assumption | omega | (simp only [wL]; omega)) only [go_sem, simprocAttr]; rfl)) ?_) ⟨rfl, rfl⟩
      intro p hp
      simp only [List.mem_cons, List.not_mem_nil, or_false] at hp
      rcases hp with rfl | rfl | rfl | rfl | rfl | rfl
      · exact .ptr (l := nl4) (t := 3) (e := 1) (xs := [[.int .i64 1]]) (by first | (simp (maxSteps := 4000000) (disch := first | decide | assumption | omega | (simp only [wL]; omega)) only [go_sem, simprocAttr]; done) | (simp (maxSteps := 4000000) (disch := first | decide | assumption | omega | (simp only [wL]; omega)) only [go_sem, simprocAttr]; rfl)) (Nat.lt_succ_self 0)
      · exact .ptr (l := nl3) (t := 3) (e := 1) (xs := [[.int .i64 2]]) (by first | (simp (maxSteps := 4000000) (disch := first | decide | assumption | omega | (simp only [wL]; omega)) only [go_sem, simprocAttr]; done) | (simp (maxSteps := 4000000) (disch := first | decide | assumption | omega | (simp only [wL]; omega)) only [go_sem, simprocAttr]; rfl)) (Nat.lt_succ_self 0)
      · exact .same _
      · exact .ptr (l := nl1) (t := 3) (e := 1) (xs := [[.int .i64 op]]) (by first | (simp (maxSteps := 4000000) (disch := first | decide | assumption | omega | (simp only [wL]; omega)) only [go_sem, simprocAttr]; done) | (simp (maxSteps := 4000000) (disch := first | decide | assumption | omega | (simp only [wL]; omega)) only [go_sem, simprocAttr]; rfl)) (Nat.lt_succ_self 0)
      · exact .same _
      · exact .same _
    · have hu : unitOf op = 1 := if_neg h
      have hz : zeroOf op = 2 := if_neg h
      rw [hu, hz]
      refine .of (Ghost.freezeBut nl2 (o := .row 22 1 [[.nils]]) (by first | (simp (maxSteps := 4000000) (disch := first | decide | assumption | omega | (simp only [wL]; omega)) only [go_sem, simprocAttr]; done) | (simp (maxSteps := 4000000) (disch := first | decide | assumption | omega | (simp only [wL]; omega)) only [go_sem, simprocAttr]; rfl)) ?_) ⟨rfl, rfl⟩
      intro p hp
      simp only [List.mem_cons, List.not_mem_nil, or_false] at hp
      rcases hp with rfl | rfl | rfl | rfl | rfl | rfl
      · exact .ptr (l := nl4) (t := 3) (e := 1) (xs := [[.int .i64 2]]) (by first | (simp (maxSteps := 4000000) (disch := first | decide | assumption | omega | (simp only [wL]; omega)) only [go_sem, simprocAttr]; done) | (simp (maxSteps := 4000000) (disch := first | decide | assumption | omega | (simp only [wL]; omega)) only [go_sem, simprocAttr]; rfl)) (Nat.lt_succ_self 0)
      · exact .ptr (l := nl3) (t := 3) (e := 1) (xs := [[.int .i64 1]]) (by first | (simp (maxSteps := 4000000) (disch := first | decide | assumption | omega | (simp only [wL]; omega)) only [go_sem, simprocAttr]; done) | (simp (maxSteps := 4000000) (disch := first | decide | assumption | omega | (simp only [wL]; omega)) only [go_sem, simprocAttr]; rfl)) (Nat.lt_succ_self 0)
      · exact .same _
      · exact .ptr (l := nl1) (t := 3) (e := 1) (xs := [[.int .i64 op]]) (by first | (simp (maxSteps := 4000000) (disch := first | decide | assumption | omega | (simp only [wL]; omega)) only [go_sem, simprocAttr]; done) | (simp (maxSteps := 4000000) (disch := first | decide | assumption | omega | (simp only [wL]; omega)) only [go_sem, simprocAttr]; rfl)) (Nat.lt_succ_self 0)
      · exact .same _
      · exact .same _
  · rintro _ _ ⟨rfl, rfl⟩
    obtain ⟨u, hu⟩ : ∃ u, unitOf op = u := ⟨_, rfl⟩
    obtain ⟨z, hz⟩ : ∃ z, zeroOf op = z := ⟨_, rfl⟩
    rw [hu, hz]
    refine mwalk ?_
    repeat' (first | (with_reducible first | (refine wT ?_; (first | ((fail_if_success (have := nl1)); refine wN fun nl1 hnl => ?_) | ((fail_if_success (have := nl2)); refine wN fun nl2 hnl => ?_) | ((fail_if_success (have := nl3)); refine wN fun nl3 hnl => ?_) | ((fail_if_success (have := nl4)); refine wN fun nl4 hnl => ?_) | ((fail_if_success (have := nl5)); refine wN fun nl5 hnl => ?_) | ((fail_if_success (have := nl6)); refine wN fun nl6 hnl => ?_) | ((fail_if_success (have := nl7)); refine wN fun nl7 hnl => ?_) | refine wN fun _ hnl => ?_); revert hnl; (repeat refine wS fun _ _ => ?_); intro hnl) | refine wD (by decide +kernel) ?_ | refine wI (fun h => ?_) fun h => ?_ | refine wF (fun h => ?_) fun h => ?_ | refine wG (fun h => ?_) fun h => ?_ | refine wH (fun h => ?_) fun h => ?_ | ((first | refine mfork_bool (fun h => ?_) fun h => ?_ | refine mgfork_bool (fun h => ?_) fun h => ?_) <;> simp only [h])) | simp (maxSteps := 4000000) (disch := first | decide | assumption | omega | (simp only [wL]; omega)) only [go_sem, simprocAttr])
    refine mloop_intro (α := Nat × List T × Nat × List (List MV)) (fun s => ⟨103, [(27, .int .i64 (s.1 : Int)), (26, .agg cs), (9, .ptr nl5 0 0), (8, .cptr [.int .i64 z]), (7, .cptr [.int .i64 u]), (6, .ptr nl2 0 0), (3, .cptr [.int .i64 op])], []⟩)
      (fun s => jS nl2 nl5 s.2.1 s.2.2.1 s.2.2.2) (fun s => s.1 ≤ 2 ∧ JI op P (jK op a b s.1) s.2.1 ∧ s.2.2.1 ≠ nl2 ∧ s.2.2.1 ≠ nl5) (fun s => 2 - s.1) ?_ ?_
    · refine .of (.less ?_ (St.le_refl _)) ⟨(0, [], nl2 + nl5 + 1, []), rfl, rfl, Nat.zero_le _, ⟨rfl, rfl⟩, by simp only; omega, by simp only; omega⟩
      rw [hcs]
      simp (maxSteps := 4000000) (disch := first | decide | assumption | omega | (simp only [wL]; omega)) only [go_sem, simprocAttr, weak_int, weak_same]
      all_goals rfl
    · rintro ⟨i, kept, q, ex⟩ ⟨hi, hji, hq2, hq5⟩
      simp only at hi hji hq2 hq5 ⊢
      by_cases hlt : i < 2
      · have hcgi := hcg i hlt
        have hKs := jK_succ op a b hlt
        have hgi := hg i
        have ht := hgood i
        obtain ⟨t, hjt⟩ : ∃ t, jab a b i = t := ⟨_, rfl⟩
        rw [hjt] at hcgi hKs hgi ht
        have hnp := npieces_call op t false
        repeat' (first | (with_reducible first | (refine wT ?_; (first | ((fail_if_success (have := nl1)); refine wN fun nl1 hnl => ?_) | ((fail_if_success (have := nl2)); refine wN fun nl2 hnl => ?_) | ((fail_if_success (have := nl3)); refine wN fun nl3 hnl => ?_) | ((fail_if_success (have := nl4)); refine wN fun nl4 hnl => ?_) | ((fail_if_success (have := nl5)); refine wN fun nl5 hnl => ?_) | ((fail_if_success (have := nl6)); refine wN fun nl6 hnl => ?_) | ((fail_if_success (have := nl7)); refine wN fun nl7 hnl => ?_) | refine wN fun _ hnl => ?_); revert hnl; (repeat refine wS fun _ _ => ?_); intro hnl) | refine wD (by decide +kernel) ?_ | refine wI (fun h => ?_) fun h => ?_ | refine wF (fun h => ?_) fun h => ?_ | refine wG (fun h => ?_) fun h => ?_ | refine wH (fun h => ?_) fun h => ?_ | ((first | refine mfork_bool (fun h => ?_) fun h => ?_ | refine mgfork_bool (fun h => ?_) fun h => ?_) <;> simp only [h])) | simp (maxSteps := 4000000) (disch := first | decide | assumption | omega | (simp only [wL]; omega)) only [go_sem, simprocAttr, hcgi, hcl, Nat.mul_one])
        refine use_new hnp fun q1 hq1 => ?_
        repeat' (first | (with_reducible first | (refine wT ?_; (first | ((fail_if_success (have := nl1)); refine wN fun nl1 hnl => ?_) | ((fail_if_success (have := nl2)); refine wN fun nl2 hnl => ?_) | ((fail_if_success (have := nl3)); refine wN fun nl3 hnl => ?_) | ((fail_if_success (have := nl4)); refine wN fun nl4 hnl => ?_) | ((fail_if_success (have := nl5)); refine wN fun nl5 hnl => ?_) | ((fail_if_success (have := nl6)); refine wN fun nl6 hnl => ?_) | ((fail_if_success (have := nl7)); refine wN fun nl7 hnl => ?_) | refine wN fun _ hnl => ?_); revert hnl; (repeat refine wS fun _ _ => ?_); intro hnl) | refine wD (by decide +kernel) ?_ | refine wI (fun h => ?_) fun h => ?_ | refine wF (fun h => ?_) fun h => ?_ | refine wG (fun h => ?_) fun h => ?_ | refine wH (fun h => ?_) fun h => ?_ | ((first | refine mfork_bool (fun h => ?_) fun h => ?_ | refine mgfork_bool (fun h => ?_) fun h => ?_) <;> simp only [h])) | simp (maxSteps := 4000000) (disch := first | decide | assumption | omega | (simp only [wL]; omega)) only [go_sem, simprocAttr])
        refine R_of (mwp_rangeFunc (gf := 108) (xs := pnX op t) rfl (σi := St.none.set q1 (pnO t false)) (St.set_le (St.none_le _) (set_hit _ _ _)) (pieces_seq op hop 200 t ht.1 ht.2 (by omega) q1) ?_ rfl rfl
          (fc := ⟨103, [(27, .int .i64 (i : Int)), (26, .agg cs), (9, .ptr nl5 0 0), (8, .cptr [.int .i64 z]), (7, .cptr [.int .i64 u]), (6, .ptr nl2 0 0), (3, .cptr [.int .i64 op])], []⟩) rfl (α := List T × Nat × List (List MV))
          (fun _ s => jS nl2 nl5 s.1 s.2.1 s.2.2) (fun j s => JI op P (jK op a b i + j) s.1 ∧ s.2.1 ≠ nl2 ∧ s.2.1 ≠ nl5) ?_ ?_ ?_)
        · intro x hx
          obtain ⟨y, _, rfl⟩ := List.mem_map.1 hx
          rfl
        · refine .of (.less ?_ (le_minus (St.le_set (St.le_refl _) hq1) fun k o hk => ?_)) ⟨rfl, (kept, q, ex), rfl, hji, hq2, hq5⟩
          · simp (maxSteps := 4000000) (disch := first | decide | assumption | omega | (simp only [wL]; omega)) only [go_sem, simprocAttr, weak_int, weak_same]
          · refine set_miss _ _ _ _ fun e => ?_
            subst e
            rw [hq1] at hk; cases hk
        · clear hji hq2 hq5 hq1 q1 q ex kept
          rintro j x ⟨kept, q, ex⟩ hx ⟨hji, hq2, hq5⟩
          obtain ⟨y, hy, rfl⟩ : ∃ y, (pcs op t)[j]? = some y ∧ x = tcell y := by
            rw [pnX, List.getElem?_map, Option.map_eq_some_iff] at hx
            obtain ⟨y, h1, h2⟩ := hx
            exact ⟨y, h1, h2.symm⟩
          have hPy := hgi j y hlt hy
          simp only at hji hq2 hq5 ⊢
          change mwp _ _ (FR.mk 103 [(33, .lst 5 (y.fl.map ND.c) false), (27, .int .i64 (i : Int)), (26, .agg cs), (9, .ptr nl5 0 0), (8, .cptr [.int .i64 z]), (7, .cptr [.int .i64 u]), (6, .ptr nl2 0 0), (3, .cptr [.int .i64 op])] []) _ _
          have hroot := root_getD y
          have hpos := y.fl_pos
          refine mwalk ?_
          repeat' (first | (with_reducible first | (refine wT ?_; (first | ((fail_if_success (have := nl1)); refine wN fun nl1 hnl => ?_) | ((fail_if_success (have := nl2)); refine wN fun nl2 hnl => ?_) | ((fail_if_success (have := nl3)); refine wN fun nl3 hnl => ?_) | ((fail_if_success (have := nl4)); refine wN fun nl4 hnl => ?_) | ((fail_if_success (have := nl5)); refine wN fun nl5 hnl => ?_) | ((fail_if_success (have := nl6)); refine wN fun nl6 hnl => ?_) | ((fail_if_success (have := nl7)); refine wN fun nl7 hnl => ?_) | refine wN fun _ hnl => ?_); revert hnl; (repeat refine wS fun _ _ => ?_); intro hnl) | refine wD (by decide +kernel) ?_ | refine wI (fun h => ?_) fun h => ?_ | refine wF (fun h => ?_) fun h => ?_ | refine wG (fun h => ?_) fun h => ?_ | refine wH (fun h => ?_) fun h => ?_ | ((first | refine mfork_bool (fun h => ?_) fun h => ?_ | refine mgfork_bool (fun h => ?_) fun h => ?_) <;> simp only [h])) | simp (maxSteps := 4000000) (disch := first | decide | assumption | omega | (simp only [wL]; omega)) only [go_sem, simprocAttr])
          refine R_of (mwalk ?_)
          have hj2 : (jS nl2 nl5 kept q ex) nl2 = some (.row 22 1 [[.nils]]) := by
            cases kept <;> simp (maxSteps := 4000000) (disch := first | decide | assumption | omega | (simp only [wL]; omega)) only [go_sem, simprocAttr, jS]
          have hoz := only_call z
          have hzz := fun hh : y.root.op = z => JI.zero hPy (hh.trans hz.symm)
          rw [hz] at hzz
          repeat' (first | (with_reducible first | refine up hoz ?_) | (with_reducible first | (refine wT ?_; (first | ((fail_if_success (have := nl1)); refine wN fun nl1 hnl => ?_) | ((fail_if_success (have := nl2)); refine wN fun nl2 hnl => ?_) | ((fail_if_success (have := nl3)); refine wN fun nl3 hnl => ?_) | ((fail_if_success (have := nl4)); refine wN fun nl4 hnl => ?_) | ((fail_if_success (have := nl5)); refine wN fun nl5 hnl => ?_) | ((fail_if_success (have := nl6)); refine wN fun nl6 hnl => ?_) | ((fail_if_success (have := nl7)); refine wN fun nl7 hnl => ?_) | refine wN fun _ hnl => ?_); revert hnl; (repeat refine wS fun _ _ => ?_); intro hnl) | refine wD (by decide +kernel) ?_ | refine wI (fun h => ?_) fun h => ?_ | refine wF (fun h => ?_) fun h => ?_ | refine wG (fun h => ?_) fun h => ?_ | refine wH (fun h => ?_) fun h => ?_ | ((first | refine mfork_bool (fun h => ?_) fun h => ?_ | refine mgfork_bool (fun h => ?_) fun h => ?_) <;> simp only [h])) | simp (maxSteps := 4000000) (disch := first | decide | assumption | omega | (simp only [wL]; omega)) only [go_sem, simprocAttr, hroot, hj2])
          · rw [hzz h]
            refine .of (.refl _ _) ?_
            show R _
            repeat' (first | (with_reducible first | (refine wT ?_; (first | ((fail_if_success (have := nl1)); refine wN fun nl1 hnl => ?_) | ((fail_if_success (have := nl2)); refine wN fun nl2 hnl => ?_) | ((fail_if_success (have := nl3)); refine wN fun nl3 hnl => ?_) | ((fail_if_success (have := nl4)); refine wN fun nl4 hnl => ?_) | ((fail_if_success (have := nl5)); refine wN fun nl5 hnl => ?_) | ((fail_if_success (have := nl6)); refine wN fun nl6 hnl => ?_) | ((fail_if_success (have := nl7)); refine wN fun nl7 hnl => ?_) | refine wN fun _ hnl => ?_); revert hnl; (repeat refine wS fun _ _ => ?_); intro hnl) | refine wD (by decide +kernel) ?_ | refine wI (fun h => ?_) fun h => ?_ | refine wF (fun h => ?_) fun h => ?_ | refine wG (fun h => ?_) fun h => ?_ | refine wH (fun h => ?_) fun h => ?_ | ((first | refine mfork_bool (fun h => ?_) fun h => ?_ | refine mgfork_bool (fun h => ?_) fun h => ?_) <;> simp only [h])) | simp (maxSteps := 4000000) (disch := first | decide | assumption | omega | (simp only [wL]; omega)) only [go_sem, simprocAttr, hroot, hj2])
            exact .same _
          · exact .done ⟨(kept, q, ex), rfl, hji.unit hPy (by rw [hz]; assumption) (by rw [hu]; assumption), hq2, hq5⟩
          · have hji' := hji.more hPy (by rw [hz]; assumption) (by rw [hu]; assumption)
            have hkl := Nat.le_trans (wgt_len _) (keep _ _ hji).2
            cases kept with
            | nil =>
              rw [show jS nl2 nl5 [] q ex = (St.none.set nl2 (.row 22 1 [[.nils]])).set nl5 (.row 45 1 [[.nils]]) from rfl]
              repeat' (first | (with_reducible first | (refine wT ?_; (first | ((fail_if_success (have := nl1)); refine wN fun nl1 hnl => ?_) | ((fail_if_success (have := nl2)); refine wN fun nl2 hnl => ?_) | ((fail_if_success (have := nl3)); refine wN fun nl3 hnl => ?_) | ((fail_if_success (have := nl4)); refine wN fun nl4 hnl => ?_) | ((fail_if_success (have := nl5)); refine wN fun nl5 hnl => ?_) | ((fail_if_success (have := nl6)); refine wN fun nl6 hnl => ?_) | ((fail_if_success (have := nl7)); refine wN fun nl7 hnl => ?_) | refine wN fun _ hnl => ?_); revert hnl; (repeat refine wS fun _ _ => ?_); intro hnl) | refine wD (by decide +kernel) ?_ | refine wI (fun h => ?_) fun h => ?_ | refine wF (fun h => ?_) fun h => ?_ | refine wG (fun h => ?_) fun h => ?_ | refine wH (fun h => ?_) fun h => ?_ | ((first | refine mfork_bool (fun h => ?_) fun h => ?_ | refine mgfork_bool (fun h => ?_) fun h => ?_) <;> simp only [h])) | simp (maxSteps := 4000000) (disch := first | decide | assumption | omega | (simp only [wL]; omega)) only [go_sem, simprocAttr])
              refine .of (.less (l1 := []) (fun p hp => by cases hp) (σ1 := jS nl2 nl5 [y] nl7 []) (St.set_le (St.set_le (St.set_le (St.none_le _) (by first | (simp (maxSteps := 4000000) (disch := first | decide | assumption | omega | (simp only [wL]; omega)) only [go_sem, simprocAttr]; done) | (simp (maxSteps := 4000000) (disch := first | decide | assumption | omega | (simp only [wL]; omega)) only [go_sem, simprocAttr]; rfl))) (by first | (simp (maxSteps := 4000000) (disch := first | decide | assumption | omega | (simp only [wL]; omega)) only [go_sem, simprocAttr]; done) | (simp (maxSteps := 4000000) (disch := first | decide | assumption | omega | (simp only [wL]; omega)) only [go_sem, simprocAttr]; rfl))) (by first | (simp (maxSteps := 4000000) (disch := first | decide | assumption | omega | (simp only [wL]; omega)) only [go_sem, simprocAttr]; done) | (simp (maxSteps := 4000000) (disch := first | decide | assumption | omega | (simp only [wL]; omega)) only [go_sem, simprocAttr]; rfl)))) ⟨([y], nl7, []), rfl, hji', by assumption, by assumption⟩
            | cons k ks =>
              rw [show jS nl2 nl5 (k :: ks) q ex = ((St.none.set nl2 (.row 22 1 [[.nils]])).set nl5 (.row 45 1 [[.vec 1 q 0 (k :: ks).length]])).set q (.row 22 1 ((k :: ks).map tcell ++ ex)) from rfl]
              simp only [List.length_cons] at hkl
              repeat' (first | (with_reducible first | (refine wT ?_; (first | ((fail_if_success (have := nl1)); refine wN fun nl1 hnl => ?_) | ((fail_if_success (have := nl2)); refine wN fun nl2 hnl => ?_) | ((fail_if_success (have := nl3)); refine wN fun nl3 hnl => ?_) | ((fail_if_success (have := nl4)); refine wN fun nl4 hnl => ?_) | ((fail_if_success (have := nl5)); refine wN fun nl5 hnl => ?_) | ((fail_if_success (have := nl6)); refine wN fun nl6 hnl => ?_) | ((fail_if_success (have := nl7)); refine wN fun nl7 hnl => ?_) | refine wN fun _ hnl => ?_); revert hnl; (repeat refine wS fun _ _ => ?_); intro hnl) | refine wD (by decide +kernel) ?_ | refine wI (fun h => ?_) fun h => ?_ | refine wF (fun h => ?_) fun h => ?_ | refine wG (fun h => ?_) fun h => ?_ | refine wH (fun h => ?_) fun h => ?_ | ((first | refine mfork_bool (fun h => ?_) fun h => ?_ | refine mgfork_bool (fun h => ?_) fun h => ?_) <;> simp only [h])) | simp (maxSteps := 4000000) (disch := first | decide | assumption | omega | (simp only [wL]; omega)) only [go_sem, simprocAttr])
              · have hex : ex = [] := List.eq_nil_of_length_eq_zero (by omega)
                subst hex
                refine .of (.less (l1 := []) (fun p hp => by cases hp) (σ1 := jS nl2 nl5 (k :: ks ++ [y]) nl7 []) (St.set_le (St.set_le (St.set_le (St.none_le _) (by first | (simp (maxSteps := 4000000) (disch := first | decide | assumption | omega | (simp only [wL]; omega)) only [go_sem, simprocAttr]; done) | (simp (maxSteps := 4000000) (disch := first | decide | assumption | omega | (simp only [wL]; omega)) only [go_sem, simprocAttr]; rfl))) ((show _ = some (MObj.row 45 1 [[.vec 1 nl7 0 (ks.length + 1 + 1)]]) from (by first | (simp (maxSteps := 4000000) (disch := first | decide | assumption | omega | (simp only [wL]; omega)) only [go_sem, simprocAttr]; done) | (simp (maxSteps := 4000000) (disch := first | decide | assumption | omega | (simp only [wL]; omega)) only [go_sem, simprocAttr]; rfl))).trans (by simp))) ((set_hit _ _ _).trans (by simp [tcell])))) ⟨(k :: ks ++ [y], nl7, []), rfl, hji', by assumption, by assumption⟩
              · refine .of (.less (l1 := []) (fun p hp => by cases hp) (σ1 := jS nl2 nl5 (k :: ks ++ [y]) nl7 (ex.drop 1)) (St.set_le (St.set_le (St.set_le (St.none_le _) (by first | (simp (maxSteps := 4000000) (disch := first | decide | assumption | omega | (simp only [wL]; omega)) only [go_sem, simprocAttr]; done) | (simp (maxSteps := 4000000) (disch := first | decide | assumption | omega | (simp only [wL]; omega)) only [go_sem, simprocAttr]; rfl))) ((show _ = some (MObj.row 45 1 [[.vec 1 nl7 0 (ks.length + 1 + 1)]]) from (by first | (simp (maxSteps := 4000000) (disch := first | decide | assumption | omega | (simp only [wL]; omega)) only [go_sem, simprocAttr]; done) | (simp (maxSteps := 4000000) (disch := first | decide | assumption | omega | (simp only [wL]; omega)) only [go_sem, simprocAttr]; rfl))).trans (by simp))) ((set_hit _ _ _).trans (by simp [tcell, List.drop_append])))) ⟨(k :: ks ++ [y], nl7, ex.drop 1), rfl, hji', by assumption, by assumption⟩
        · rintro ⟨kept, q, ex⟩ ⟨hji, hq2, hq5⟩
          rw [List.length_map, ← hKs] at hji
          show R _
          repeat' (first | (with_reducible first | (refine wT ?_; (first | ((fail_if_success (have := nl1)); refine wN fun nl1 hnl => ?_) | ((fail_if_success (have := nl2)); refine wN fun nl2 hnl => ?_) | ((fail_if_success (have := nl3)); refine wN fun nl3 hnl => ?_) | ((fail_if_success (have := nl4)); refine wN fun nl4 hnl => ?_) | ((fail_if_success (have := nl5)); refine wN fun nl5 hnl => ?_) | ((fail_if_success (have := nl6)); refine wN fun nl6 hnl => ?_) | ((fail_if_success (have := nl7)); refine wN fun nl7 hnl => ?_) | refine wN fun _ hnl => ?_); revert hnl; (repeat refine wS fun _ _ => ?_); intro hnl) | refine wD (by decide +kernel) ?_ | refine wI (fun h => ?_) fun h => ?_ | refine wF (fun h => ?_) fun h => ?_ | refine wG (fun h => ?_) fun h => ?_ | refine wH (fun h => ?_) fun h => ?_ | ((first | refine mfork_bool (fun h => ?_) fun h => ?_ | refine mgfork_bool (fun h => ?_) fun h => ?_) <;> simp only [h])) | simp (maxSteps := 4000000) (disch := first | decide | assumption | omega | (simp only [wL]; omega)) only [go_sem, simprocAttr])
          refine .of (.less ?_ (St.le_refl _)) ⟨(i + 1, kept, q, ex), rfl, rfl, ⟨hlt, hji, hq2, hq5⟩, by simp only; omega⟩
          simp (maxSteps := 4000000) (disch := first | decide | assumption | omega | (simp only [wL]; omega)) only [go_sem, simprocAttr, weak_int, weak_same]
          all_goals omega
      · have hie : i = 2 := by omega
        subst hie
        rw [hPl] at hji
        have hfin := hji.fin
        obtain ⟨hmem, hwk⟩ := keep _ _ hji
        have hkl := Nat.le_trans (wgt_len _) hwk
        have hou := only_call u
        have hoz := only_call z
        cases kept with
        | nil =>
          rw [show jS nl2 nl5 [] q ex = (St.none.set nl2 (.row 22 1 [[.nils]])).set nl5 (.row 45 1 [[.nils]]) from rfl]
          repeat' (first | (with_reducible refine use_same sortNN_nil (St.none_le _) ?_) | (with_reducible refine use_same compNN_nil (St.none_le _) ?_) | (with_reducible first | refine up hou ?_) | (with_reducible first | (refine wT ?_; (first | ((fail_if_success (have := nl1)); refine wN fun nl1 hnl => ?_) | ((fail_if_success (have := nl2)); refine wN fun nl2 hnl => ?_) | ((fail_if_success (have := nl3)); refine wN fun nl3 hnl => ?_) | ((fail_if_success (have := nl4)); refine wN fun nl4 hnl => ?_) | ((fail_if_success (have := nl5)); refine wN fun nl5 hnl => ?_) | ((fail_if_success (have := nl6)); refine wN fun nl6 hnl => ?_) | ((fail_if_success (have := nl7)); refine wN fun nl7 hnl => ?_) | refine wN fun _ hnl => ?_); revert hnl; (repeat refine wS fun _ _ => ?_); intro hnl) | refine wD (by decide +kernel) ?_ | refine wI (fun h => ?_) fun h => ?_ | refine wF (fun h => ?_) fun h => ?_ | refine wG (fun h => ?_) fun h => ?_ | refine wH (fun h => ?_) fun h => ?_ | ((first | refine mfork_bool (fun h => ?_) fun h => ?_ | refine mgfork_bool (fun h => ?_) fun h => ?_) <;> simp only [h])) | simp (maxSteps := 4000000) (disch := first | decide | assumption | omega | (simp only [wL]; omega)) only [go_sem, simprocAttr])
          have e : (if agst (sortT ([] : List T)) = true then T.leaf (nd (zeroOf op)) else foldO op (sortT [])) = .leaf (nd u) := by rw [← hu]; rfl
          refine mloop_intro (α := Unit) (fun _ => ⟨103, [(57, .int .i64 0), (56, .int .i64 0), (9, .ptr nl5 0 0), (8, .cptr [.int .i64 z]), (7, .cptr [.int .i64 u]), (6, .ptr nl2 0 0), (3, .cptr [.int .i64 op])], []⟩)
            (fun _ => (St.none.set nl2 (.row 22 1 [[.nils]])).set nl5 (.row 45 1 [[.nils]])) (fun _ => True) (fun _ => 0) (.of (.less ?_ (St.le_refl _)) ⟨(), rfl, rfl, trivial⟩) fun _ _ => ?_
          · simp (maxSteps := 4000000) (disch := first | decide | assumption | omega | (simp only [wL]; omega)) only [go_sem, simprocAttr, weak_int, weak_same]
          · repeat' (first | (with_reducible first | refine up hou ?_) | (with_reducible first | (refine wT ?_; (first | ((fail_if_success (have := nl1)); refine wN fun nl1 hnl => ?_) | ((fail_if_success (have := nl2)); refine wN fun nl2 hnl => ?_) | ((fail_if_success (have := nl3)); refine wN fun nl3 hnl => ?_) | ((fail_if_success (have := nl4)); refine wN fun nl4 hnl => ?_) | ((fail_if_success (have := nl5)); refine wN fun nl5 hnl => ?_) | ((fail_if_success (have := nl6)); refine wN fun nl6 hnl => ?_) | ((fail_if_success (have := nl7)); refine wN fun nl7 hnl => ?_) | refine wN fun _ hnl => ?_); revert hnl; (repeat refine wS fun _ _ => ?_); intro hnl) | refine wD (by decide +kernel) ?_ | refine wI (fun h => ?_) fun h => ?_ | refine wF (fun h => ?_) fun h => ?_ | refine wG (fun h => ?_) fun h => ?_ | refine wH (fun h => ?_) fun h => ?_ | ((first | refine mfork_bool (fun h => ?_) fun h => ?_ | refine mgfork_bool (fun h => ?_) fun h => ?_) <;> simp only [h])) | simp (maxSteps := 4000000) (disch := first | decide | assumption | omega | (simp only [wL]; omega)) only [go_sem, simprocAttr])
            rw [hfin, e]
            exact .same _
        | cons k ks =>
          rw [show jS nl2 nl5 (k :: ks) q ex = ((St.none.set nl2 (.row 22 1 [[.nils]])).set nl5 (.row 45 1 [[.vec 1 q 0 (k :: ks).length]])).set q (.row 22 1 ((k :: ks).map tcell ++ ex)) from rfl]
          obtain ⟨kept, hkept⟩ : ∃ kept, k :: ks = kept := ⟨_, rfl⟩
          have hk0 : 0 < kept.length := by rw [← hkept]; simp
          rw [hkept] at hkl hmem hwk hfin hji ⊢
          clear hkept k ks
          have hkb : ∀ t, t ∈ kept → t.fl.length ≤ 402 := fun t ht => by have := wgt_mem ht; omega
          repeat' (first | (with_reducible first | (refine wT ?_; (first | ((fail_if_success (have := nl1)); refine wN fun nl1 hnl => ?_) | ((fail_if_success (have := nl2)); refine wN fun nl2 hnl => ?_) | ((fail_if_success (have := nl3)); refine wN fun nl3 hnl => ?_) | ((fail_if_success (have := nl4)); refine wN fun nl4 hnl => ?_) | ((fail_if_success (have := nl5)); refine wN fun nl5 hnl => ?_) | ((fail_if_success (have := nl6)); refine wN fun nl6 hnl => ?_) | ((fail_if_success (have := nl7)); refine wN fun nl7 hnl => ?_) | refine wN fun _ hnl => ?_); revert hnl; (repeat refine wS fun _ _ => ?_); intro hnl) | refine wD (by decide +kernel) ?_ | refine wI (fun h => ?_) fun h => ?_ | refine wF (fun h => ?_) fun h => ?_ | refine wG (fun h => ?_) fun h => ?_ | refine wH (fun h => ?_) fun h => ?_ | ((first | refine mfork_bool (fun h => ?_) fun h => ?_ | refine mgfork_bool (fun h => ?_) fun h => ?_) <;> simp only [h])) | simp (maxSteps := 4000000) (disch := first | decide | assumption | omega | (simp only [wL]; omega)) only [go_sem, simprocAttr])
          refine use_frame (sortNN_pos q kept (fun t ht => by have := hkb t ht; omega) (by omega) hk0 ex) (St.set_le (St.none_le _) (set_hit _ _ _)) ?_
          rintro v σ' ⟨rfl, ys, hperm, hsort, rfl⟩ -
          have hyl := hperm.length_eq
          have hcs := comp_sortT (fun y hy => (gp y (hmem y hy)).1) hperm hsort
          repeat' (first | (with_reducible first | (refine wT ?_; (first | ((fail_if_success (have := nl1)); refine wN fun nl1 hnl => ?_) | ((fail_if_success (have := nl2)); refine wN fun nl2 hnl => ?_) | ((fail_if_success (have := nl3)); refine wN fun nl3 hnl => ?_) | ((fail_if_success (have := nl4)); refine wN fun nl4 hnl => ?_) | ((fail_if_success (have := nl5)); refine wN fun nl5 hnl => ?_) | ((fail_if_success (have := nl6)); refine wN fun nl6 hnl => ?_) | ((fail_if_success (have := nl7)); refine wN fun nl7 hnl => ?_) | refine wN fun _ hnl => ?_); revert hnl; (repeat refine wS fun _ _ => ?_); intro hnl) | refine wD (by decide +kernel) ?_ | refine wI (fun h => ?_) fun h => ?_ | refine wF (fun h => ?_) fun h => ?_ | refine wG (fun h => ?_) fun h => ?_ | refine wH (fun h => ?_) fun h => ?_ | ((first | refine mfork_bool (fun h => ?_) fun h => ?_ | refine mgfork_bool (fun h => ?_) fun h => ?_) <;> simp only [h])) | simp (maxSteps := 4000000) (disch := first | decide | assumption | omega | (simp only [wL]; omega)) only [go_sem, simprocAttr, over_set, over_none, minus_set, minus_none, hyl.symm])
          have hcomp := compNN_call q (ys.map T.fl) (fun x hx => by
            obtain ⟨t, ht, rfl⟩ := List.mem_map.1 hx
            have := hkb t (hperm.mem_iff.1 ht)
            omega) (by rw [List.length_map]; omega) ex
          rw [hcs, List.length_map, List.length_map, List.map_map, List.map_map] at hcomp
          refine use_frame hcomp (St.set_le (St.none_le _) (by first | (simp (maxSteps := 4000000) (disch := first | decide | assumption | omega | (simp only [wL]; omega)) only [go_sem, simprocAttr]; done) | (simp (maxSteps := 4000000) (disch := first | decide | assumption | omega | (simp only [wL]; omega)) only [go_sem, simprocAttr]; rfl))) ?_
          rintro v σ' ⟨ex', rfl, rfl⟩ -
          repeat' (first | (with_reducible first | (refine wT ?_; (first | ((fail_if_success (have := nl1)); refine wN fun nl1 hnl => ?_) | ((fail_if_success (have := nl2)); refine wN fun nl2 hnl => ?_) | ((fail_if_success (have := nl3)); refine wN fun nl3 hnl => ?_) | ((fail_if_success (have := nl4)); refine wN fun nl4 hnl => ?_) | ((fail_if_success (have := nl5)); refine wN fun nl5 hnl => ?_) | ((fail_if_success (have := nl6)); refine wN fun nl6 hnl => ?_) | ((fail_if_success (have := nl7)); refine wN fun nl7 hnl => ?_) | refine wN fun _ hnl => ?_); revert hnl; (repeat refine wS fun _ _ => ?_); intro hnl) | refine wD (by decide +kernel) ?_ | refine wI (fun h => ?_) fun h => ?_ | refine wF (fun h => ?_) fun h => ?_ | refine wG (fun h => ?_) fun h => ?_ | refine wH (fun h => ?_) fun h => ?_ | ((first | refine mfork_bool (fun h => ?_) fun h => ?_ | refine mgfork_bool (fun h => ?_) fun h => ?_) <;> simp only [h])) | simp (maxSteps := 4000000) (disch := first | decide | assumption | omega | (simp only [wL]; omega)) only [go_sem, simprocAttr, over_set, over_none, minus_set, minus_none])
          have hzo : ∀ y, y ∈ kept → y.ok := fun y hy => (gp y (hmem y hy)).1
          have hzm : ∀ y, y ∈ sortT kept → y ∈ kept := fun y hy => (mem_sortT hzo).1 hy
          have hzr := sortT_rising hzo
          have hzl := Nat.le_trans (wgt_len _) (Nat.le_trans (sortT_wgt kept) hwk)
          have hzw := Nat.le_trans (sortT_wgt kept) hwk
          have hz0 : sortT kept ≠ [] := fun e => by
            obtain ⟨y, hy⟩ := List.exists_mem_of_length_pos hk0
            have := (mem_sortT hzo).2 hy
            rw [e] at this; cases this
          obtain ⟨zs, hzs⟩ : ∃ zs, sortT kept = zs := ⟨_, rfl⟩
          rw [hzs] at hzm hzr hzl hzw hz0 hfin ⊢
          have hag := agst_search (l := zs) fun y hy => np y (hmem y (hzm y hy))
          have hzb : ∀ t, t ∈ zs → t.fl.length ≤ 402 := fun t ht => by have := wgt_mem ht; omega
          clear hji hmem hcs hsort hperm hcomp hkl hwk hkb hk0 hzo hyl hzm hzs
          have hsS : ∀ k o, (St.none.set nl2 (.row 22 1 [[.nils]])) k = some o → k ≠ q ∧ ((((St.none.set nl2 (.row 22 1 [[.nils]])).set nl5 (.row 45 1 [[.vec 1 q 0 zs.length]])).set q (.row 22 1 (List.map (lcell ∘ T.fl) zs ++ ex')))) k = some o := fun k o hk => by
            by_cases e : k = nl2
            · subst e
              rw [set_hit] at hk
              exact ⟨Ne.symm hq2, by rw [set_miss _ _ _ _ (Ne.symm hq2), set_miss _ _ _ _ (by assumption), set_hit, hk]⟩
            · rw [set_miss _ _ _ _ e] at hk; cases hk
          have hvw : View (St.none.set q (.row 22 1 (List.map (lcell ∘ T.fl) zs ++ ex'))) (.vec 1 q 0 zs.length) (.lst 1 (zs.map tcell) false) := by
            have := View.vec (σ := St.none.set q (.row 22 1 (List.map (lcell ∘ T.fl) zs ++ ex'))) (lo := 0) (n := zs.length) (set_hit _ _ _) (by simp)
            rwa [List.drop_zero, List.take_append_of_le_length (by simp), List.take_of_length_le (by simp)] at this
          refine mloop_intro (α := Nat) (fun i => ⟨103, [(57, .int .i64 (i : Int)), (56, .int .i64 (zs.length : Int)), (55, .lst 1 (zs.map tcell) false), (9, .ptr nl5 0 0), (8, .cptr [.int .i64 z]), (7, .cptr [.int .i64 u]), (6, .ptr nl2 0 0), (3, .cptr [.int .i64 op])], []⟩)
            (fun _ => (St.none.set nl2 (.row 22 1 [[.nils]])).set nl5 (.row 45 1 [[.lst 1 (zs.map tcell) false]])) (fun i => i ≤ zs.length ∧ (zs.take i).any (fun x => decide (x.root.op = 10) && zs.any fun y => decide (y.fl = List.drop 1 x.fl)) = false) (fun i => zs.length - i) ?_ ?_
          · refine .of (Ghost.freezeCell q nl5 (St.none.set nl2 (.row 22 1 [[.nils]])) (set_hit _ _ _) ((set_miss _ _ _ _ (Ne.symm hq5)).trans (set_hit _ _ _)) (Ne.symm hq5) hvw rfl hsS ?_) ⟨0, rfl, rfl, Nat.zero_le _, rfl⟩
            intro p hp
            simp only [List.mem_cons, List.not_mem_nil, or_false] at hp
            rcases hp with rfl | rfl | rfl | rfl | rfl | rfl | rfl | rfl
            · exact .same _
            · exact .same _
            · exact hvw
            · exact .same _
            · exact .same _
            · exact .same _
            · exact .same _
            · exact .same _
          · rintro i ⟨hi, hno⟩
            by_cases hlt : i < zs.length
            · obtain ⟨x, hx⟩ : ∃ x, zs.getD i (.leaf nd0) = x := ⟨_, rfl⟩
              have hxm : x ∈ zs := hx ▸ getD_mem _ hlt
              have hxi : zs[i] = x := by rw [← getD_of_lt (.leaf nd0) hlt, hx]
              have hxb := hzb x hxm
              have hroot := root_getD x
              have hpos := x.fl_pos
              have hbs := bsNN_call zs (by omega) (fun t ht => by have := hzb t ht; omega) false (x.fl.drop 1) (by rw [List.length_drop]; omega) false hzr
              have hsucc := any_take_succ' (f := fun x : T => decide (x.root.op = 10) && zs.any fun y => decide (y.fl = List.drop 1 x.fl)) hlt
              rw [hno, hxi, Bool.false_or] at hsucc
              obtain ⟨fb, hfb⟩ : ∃ fb, (zs.any fun y => decide (y.fl = x.fl.drop 1)) = fb := ⟨_, rfl⟩
              rw [hfb] at hbs hsucc
              have hnext : x.root.op ≠ 10 ∨ fb = false → (zs.take (i + 1)).any (fun x => decide (x.root.op = 10) && zs.any fun y => decide (y.fl = List.drop 1 x.fl)) = false := fun h => by
                rw [hsucc]
                rcases h with h | h <;> simp [h]
              have hyes : x.root.op = 10 → fb = true → normL op P = .leaf (nd z) := fun h1 h2 => by
                rw [hfin, hag, if_pos, hz]
                exact List.any_eq_true.2 ⟨x, hxm, by rw [hfb]; simp [h1, h2]⟩
              clear hfb hsucc hno
              obtain ⟨Cq, hCq⟩ : ∃ Cq : MV → Prop, Cq = fun v => ∃ p : Nat, v = .tup [.int .i64 p, .bool fb] := ⟨_, rfl⟩
              have hbs2 : MCalls Try.prog 97 [.lst 1 (zs.map tcell) false, .lst 5 ((x.fl.drop 1).map ND.c) false, .fn (.func 49) [] []] St.none (fun r _ => Cq r) := by rw [hCq]; exact hbs
              have hCi : ∃ v, Cq v := ⟨_, by rw [hCq]; exact ⟨0, rfl⟩⟩
              cases fb
              all_goals
                repeat' (first | (with_reducible first | (refine wT ?_; (first | ((fail_if_success (have := nl1)); refine wN fun nl1 hnl => ?_) | ((fail_if_success (have := nl2)); refine wN fun nl2 hnl => ?_) | ((fail_if_success (have := nl3)); refine wN fun nl3 hnl => ?_) | ((fail_if_success (have := nl4)); refine wN fun nl4 hnl => ?_) | ((fail_if_success (have := nl5)); refine wN fun nl5 hnl => ?_) | ((fail_if_success (have := nl6)); refine wN fun nl6 hnl => ?_) | ((fail_if_success (have := nl7)); refine wN fun nl7 hnl => ?_) | refine wN fun _ hnl => ?_); revert hnl; (repeat refine wS fun _ _ => ?_); intro hnl) | refine wD (by decide +kernel) ?_ | refine wI (fun h => ?_) fun h => ?_ | refine wF (fun h => ?_) fun h => ?_ | refine wG (fun h => ?_) fun h => ?_ | refine wH (fun h => ?_) fun h => ?_ | ((first | refine mfork_bool (fun h => ?_) fun h => ?_ | refine mgfork_bool (fun h => ?_) fun h => ?_) <;> simp only [h])) | simp (maxSteps := 4000000) (disch := first | decide | assumption | omega | (simp only [wL]; omega)) only [go_sem, simprocAttr, getD_mapd (T.leaf nd0), hx, hroot])
                · refine .of (.less (l1 := [(57, .int .i64 ((i + 1 : Nat) : Int)), (56, .int .i64 (zs.length : Int)), (55, .lst 1 (zs.map tcell) false), (9, .ptr nl5 0 0), (8, .cptr [.int .i64 z]), (7, .cptr [.int .i64 u]), (6, .ptr nl2 0 0), (3, .cptr [.int .i64 op])]) ?_ (St.le_refl _)) ⟨i + 1, rfl, rfl, ⟨hlt, hnext (.inl (by assumption))⟩, by omega⟩
                  simp (maxSteps := 4000000) (disch := first | decide | assumption | omega | (simp only [wL]; omega)) only [go_sem, simprocAttr, weak_int, weak_same]
                  all_goals first | rfl | omega
                have h10 : x.root.op = 10 := Classical.not_not.1 h
                refine mdraw_know mixed (by decide +kernel) (fun _ _ => some ⟨[], Cq, none⟩) ?_
                repeat' (first | (with_reducible first | (refine wT ?_; (first | ((fail_if_success (have := nl1)); refine wN fun nl1 hnl => ?_) | ((fail_if_success (have := nl2)); refine wN fun nl2 hnl => ?_) | ((fail_if_success (have := nl3)); refine wN fun nl3 hnl => ?_) | ((fail_if_success (have := nl4)); refine wN fun nl4 hnl => ?_) | ((fail_if_success (have := nl5)); refine wN fun nl5 hnl => ?_) | ((fail_if_success (have := nl6)); refine wN fun nl6 hnl => ?_) | ((fail_if_success (have := nl7)); refine wN fun nl7 hnl => ?_) | refine wN fun _ hnl => ?_); revert hnl; (repeat refine wS fun _ _ => ?_); intro hnl) | refine wD (by decide +kernel) ?_ | refine wI (fun h => ?_) fun h => ?_ | refine wF (fun h => ?_) fun h => ?_ | refine wG (fun h => ?_) fun h => ?_ | refine wH (fun h => ?_) fun h => ?_ | ((first | refine mfork_bool (fun h => ?_) fun h => ?_ | refine mgfork_bool (fun h => ?_) fun h => ?_) <;> simp only [h])) | simp (maxSteps := 4000000) (disch := first | decide | assumption | omega | (simp only [wL]; omega)) only [go_sem, simprocAttr])
                refine know_at [] [] rfl rfl hbs2.mono_pure hCi fun v hv => ?_
                rw [hCq] at hv
                obtain ⟨p, rfl⟩ := hv
                repeat' (first | (with_reducible first | refine up hoz ?_) | (with_reducible first | (refine wT ?_; (first | ((fail_if_success (have := nl1)); refine wN fun nl1 hnl => ?_) | ((fail_if_success (have := nl2)); refine wN fun nl2 hnl => ?_) | ((fail_if_success (have := nl3)); refine wN fun nl3 hnl => ?_) | ((fail_if_success (have := nl4)); refine wN fun nl4 hnl => ?_) | ((fail_if_success (have := nl5)); refine wN fun nl5 hnl => ?_) | ((fail_if_success (have := nl6)); refine wN fun nl6 hnl => ?_) | ((fail_if_success (have := nl7)); refine wN fun nl7 hnl => ?_) | refine wN fun _ hnl => ?_); revert hnl; (repeat refine wS fun _ _ => ?_); intro hnl) | refine wD (by decide +kernel) ?_ | refine wI (fun h => ?_) fun h => ?_ | refine wF (fun h => ?_) fun h => ?_ | refine wG (fun h => ?_) fun h => ?_ | refine wH (fun h => ?_) fun h => ?_ | ((first | refine mfork_bool (fun h => ?_) fun h => ?_ | refine mgfork_bool (fun h => ?_) fun h => ?_) <;> simp only [h])) | simp (maxSteps := 4000000) (disch := first | decide | assumption | omega | (simp only [wL]; omega)) only [go_sem, simprocAttr])
              · refine .of (.less (l1 := [(57, .int .i64 ((i + 1 : Nat) : Int)), (56, .int .i64 (zs.length : Int)), (55, .lst 1 (zs.map tcell) false), (9, .ptr nl5 0 0), (8, .cptr [.int .i64 z]), (7, .cptr [.int .i64 u]), (6, .ptr nl2 0 0), (3, .cptr [.int .i64 op])]) ?_ (St.le_refl _)) ⟨i + 1, rfl, rfl, ⟨hlt, hnext (.inr rfl)⟩, by omega⟩
                simp (maxSteps := 4000000) (disch := first | decide | assumption | omega | (simp only [wL]; omega)) only [go_sem, simprocAttr, weak_int, weak_same]
                all_goals first | rfl | omega
              · rw [hyes h10 rfl]
                exact .same _
            · have hie : i = zs.length := by omega
              subst hie
              rw [List.take_length] at hno
              rw [hag, hno, if_neg (by simp)] at hfin
              clear hno hag hvw hsS hi hlt
              obtain ⟨m, hm⟩ : ∃ m, zs.length = m + 1 := ⟨zs.length - 1, by have := List.length_pos_iff.2 hz0; omega⟩
              have em : (((m + 1 : Nat) : Int) - 1) = (m : Int) := by omega
              have hmm : m < zs.length := by omega
              have hlast : zs.getD m (.leaf nd0) = foldO op (zs.drop m) := by
                rw [List.drop_eq_getElem_cons (by omega), List.drop_eq_nil_of_le (by omega), getD_of_lt _ (by omega)]; rfl
              have hcl2 := clone_call (zs.getD m (.leaf nd0)).fl (by have := hzb _ (getD_mem (.leaf nd0) hmm); omega) (T.fl_pos _) false
              have hbk := back_call (zs.take m)
              have hs1 : List.take m (List.map tcell zs) = List.map tcell (zs.take m) := (List.map_take ..).symm
              repeat' (first | (with_reducible first | refine up hcl2 ?_) | (with_reducible first | (refine wT ?_; (first | ((fail_if_success (have := nl1)); refine wN fun nl1 hnl => ?_) | ((fail_if_success (have := nl2)); refine wN fun nl2 hnl => ?_) | ((fail_if_success (have := nl3)); refine wN fun nl3 hnl => ?_) | ((fail_if_success (have := nl4)); refine wN fun nl4 hnl => ?_) | ((fail_if_success (have := nl5)); refine wN fun nl5 hnl => ?_) | ((fail_if_success (have := nl6)); refine wN fun nl6 hnl => ?_) | ((fail_if_success (have := nl7)); refine wN fun nl7 hnl => ?_) | refine wN fun _ hnl => ?_); revert hnl; (repeat refine wS fun _ _ => ?_); intro hnl) | refine wD (by decide +kernel) ?_ | refine wI (fun h => ?_) fun h => ?_ | refine wF (fun h => ?_) fun h => ?_ | refine wG (fun h => ?_) fun h => ?_ | refine wH (fun h => ?_) fun h => ?_ | ((first | refine mfork_bool (fun h => ?_) fun h => ?_ | refine mgfork_bool (fun h => ?_) fun h => ?_) <;> simp only [h])) | simp (maxSteps := 4000000) (disch := first | decide | assumption | omega | (simp only [wL]; omega)) only [go_sem, simprocAttr, getD_mapd (T.leaf nd0), hm, em, hs1, Bool.false_and])
              have hts : (zs.take m).length = m := by rw [List.length_take]; omega
              refine use_new (hbk false) fun qb hqb => ?_
              revert hqb; (repeat (with_reducible refine set_none_intro fun _ _ => ?_)); intro hqb
              repeat' (first | (with_reducible first | (refine wT ?_; (first | ((fail_if_success (have := nl1)); refine wN fun nl1 hnl => ?_) | ((fail_if_success (have := nl2)); refine wN fun nl2 hnl => ?_) | ((fail_if_success (have := nl3)); refine wN fun nl3 hnl => ?_) | ((fail_if_success (have := nl4)); refine wN fun nl4 hnl => ?_) | ((fail_if_success (have := nl5)); refine wN fun nl5 hnl => ?_) | ((fail_if_success (have := nl6)); refine wN fun nl6 hnl => ?_) | ((fail_if_success (have := nl7)); refine wN fun nl7 hnl => ?_) | refine wN fun _ hnl => ?_); revert hnl; (repeat refine wS fun _ _ => ?_); intro hnl) | refine wD (by decide +kernel) ?_ | refine wI (fun h => ?_) fun h => ?_ | refine wF (fun h => ?_) fun h => ?_ | refine wG (fun h => ?_) fun h => ?_ | refine wH (fun h => ?_) fun h => ?_ | ((first | refine mfork_bool (fun h => ?_) fun h => ?_ | refine mgfork_bool (fun h => ?_) fun h => ?_) <;> simp only [h])) | simp (maxSteps := 4000000) (disch := first | decide | assumption | omega | (simp only [wL]; omega)) only [go_sem, simprocAttr])
              refine R_of (mwp_rangeFunc (gf := 110) (xs := bkX (zs.take m)) rfl (σi := St.none.set qb (bkO (zs.take m) false)) (St.set_le (St.none_le _) (set_hit _ _ _)) (back_seq (zs.take m) false (by omega) qb) ?_ rfl rfl
                (fc := ⟨103, [(17, .ptr nl6 0 0), (6, .ptr nl2 0 0), (3, .cptr [.int .i64 op])], []⟩) rfl (α := Unit)
                (fun j _ => (St.none.set nl2 (.row 22 1 [[.nils]])).set nl6 (.row 22 1 [[.lst 5 ((foldO op (zs.drop (m - j))).fl.map ND.c) false]])) (fun j _ => True) ?_ ?_ ?_)
              · intro x hx
                obtain ⟨j, _, rfl⟩ := List.mem_map.1 hx
                rfl
              · refine .of (.less ?_ (le_minus (St.set_le (St.set_le (St.none_le _) (by first | (simp (maxSteps := 4000000) (disch := first | decide | assumption | omega | (simp only [wL]; omega)) only [go_sem, simprocAttr]; done) | (simp (maxSteps := 4000000) (disch := first | decide | assumption | omega | (simp only [wL]; omega)) only [go_sem, simprocAttr]; rfl))) ((show _ = some (MObj.row 22 1 [[.lst 5 ((zs.getD m (.leaf nd0)).fl.map ND.c) false]]) from (by first | (simp (maxSteps := 4000000) (disch := first | decide | assumption | omega | (simp only [wL]; omega)) only [go_sem, simprocAttr]; done) | (simp (maxSteps := 4000000) (disch := first | decide | assumption | omega | (simp only [wL]; omega)) only [go_sem, simprocAttr]; rfl))).trans (by rw [hlast]; rfl))) fun k o hk => ?_)) ⟨rfl, (), rfl, trivial⟩
                · simp (maxSteps := 4000000) (disch := first | decide | assumption | omega | (simp only [wL]; omega)) only [go_sem, simprocAttr, weak_int, weak_same]
                · refine set_miss _ _ _ _ fun e => ?_
                  subst e
                  rw [set_miss _ _ _ _ (by assumption), set_miss _ _ _ _ (by assumption)] at hk; cases hk
              · rintro j x _ hx -
                obtain ⟨hjl, rfl⟩ := bk_mem hx
                rw [hts] at hjl ⊢
                obtain ⟨k, hk⟩ : ∃ k, m - 1 - j = k := ⟨_, rfl⟩
                have hkl : k < zs.length := by omega
                have hgk : (zs.take m).getD k (.leaf nd0) = zs.getD k (.leaf nd0) := by
                  rw [List.getD_eq_getElem?_getD, List.getD_eq_getElem?_getD, List.getElem?_take_of_lt (by omega)]
                rw [hk, hgk, show m - j = k + 1 by omega, show m - (j + 1) = k by omega]
                obtain ⟨y, hyE⟩ : ∃ y, zs.getD k (.leaf nd0) = y := ⟨_, rfl⟩
                rw [hyE]
                have hym : y ∈ zs := hyE ▸ getD_mem _ hkl
                have hyw := hzb y hym
                have hf1 : (foldO op (zs.drop (k + 1))).fl.length ≤ 402 := by
                  have h1 := foldO_len op (zs.drop (k + 1))
                  have h2 := drop_wgt zs (k + 1)
                  omega
                have hj := pjoin_call op [y.fl, (foldO op (zs.drop (k + 1))).fl] false (by simp) (fun l hl => by
                  simp only [List.mem_cons, List.not_mem_nil, or_false] at hl
                  rcases hl with rfl | rfl <;> omega)
                have hres : (foldO op (zs.drop k)).fl = nd op :: [y.fl, (foldO op (zs.drop (k + 1))).fl].flatten := by
                  rw [List.drop_eq_getElem_cons hkl, foldO_cons op _ (by rw [Ne, List.drop_eq_nil_iff]; omega), ← getD_of_lt (.leaf nd0) hkl, hyE]
                  simp [T.fl]
                rw [← hres] at hj
                simp only [List.map_cons, List.map_nil] at hj
                change mwp _ _ (FR.mk 103 [(96, .lst 5 (y.fl.map ND.c) false), (95, .int .i64 (k : Nat)), (17, .ptr nl6 0 0), (6, .ptr nl2 0 0), (3, .cptr [.int .i64 op])] []) _ _
                refine mwalk ?_
                repeat' (first | (with_reducible first | (refine wT ?_; (first | ((fail_if_success (have := nl1)); refine wN fun nl1 hnl => ?_) | ((fail_if_success (have := nl2)); refine wN fun nl2 hnl => ?_) | ((fail_if_success (have := nl3)); refine wN fun nl3 hnl => ?_) | ((fail_if_success (have := nl4)); refine wN fun nl4 hnl => ?_) | ((fail_if_success (have := nl5)); refine wN fun nl5 hnl => ?_) | ((fail_if_success (have := nl6)); refine wN fun nl6 hnl => ?_) | ((fail_if_success (have := nl7)); refine wN fun nl7 hnl => ?_) | refine wN fun _ hnl => ?_); revert hnl; (repeat refine wS fun _ _ => ?_); intro hnl) | refine wD (by decide +kernel) ?_ | refine wI (fun h => ?_) fun h => ?_ | refine wF (fun h => ?_) fun h => ?_ | refine wG (fun h => ?_) fun h => ?_ | refine wH (fun h => ?_) fun h => ?_ | ((first | refine mfork_bool (fun h => ?_) fun h => ?_ | refine mgfork_bool (fun h => ?_) fun h => ?_) <;> simp only [h])) | simp (maxSteps := 4000000) (disch := first | decide | assumption | omega | (simp only [wL]; omega)) only [go_sem, simprocAttr])
                refine R_of (mwalk ?_)
                repeat' (first | (with_reducible first | (refine wT ?_; (first | ((fail_if_success (have := nl1)); refine wN fun nl1 hnl => ?_) | ((fail_if_success (have := nl2)); refine wN fun nl2 hnl => ?_) | ((fail_if_success (have := nl3)); refine wN fun nl3 hnl => ?_) | ((fail_if_success (have := nl4)); refine wN fun nl4 hnl => ?_) | ((fail_if_success (have := nl5)); refine wN fun nl5 hnl => ?_) | ((fail_if_success (have := nl6)); refine wN fun nl6 hnl => ?_) | ((fail_if_success (have := nl7)); refine wN fun nl7 hnl => ?_) | refine wN fun _ hnl => ?_); revert hnl; (repeat refine wS fun _ _ => ?_); intro hnl) | refine wD (by decide +kernel) ?_ | refine wI (fun h => ?_) fun h => ?_ | refine wF (fun h => ?_) fun h => ?_ | refine wG (fun h => ?_) fun h => ?_ | refine wH (fun h => ?_) fun h => ?_ | ((first | refine mfork_bool (fun h => ?_) fun h => ?_ | refine mgfork_bool (fun h => ?_) fun h => ?_) <;> simp only [h])) | simp (maxSteps := 4000000) (disch := first | decide | assumption | omega | (simp only [wL]; omega)) only [go_sem, simprocAttr])
                refine use_give1 _ nl7 hj (set_hit _ _ _) rfl (views_two (.same _) (.vecAll (set_hit _ _ _) rfl)) ?_
                repeat' (first | (with_reducible first | (refine wT ?_; (first | ((fail_if_success (have := nl1)); refine wN fun nl1 hnl => ?_) | ((fail_if_success (have := nl2)); refine wN fun nl2 hnl => ?_) | ((fail_if_success (have := nl3)); refine wN fun nl3 hnl => ?_) | ((fail_if_success (have := nl4)); refine wN fun nl4 hnl => ?_) | ((fail_if_success (have := nl5)); refine wN fun nl5 hnl => ?_) | ((fail_if_success (have := nl6)); refine wN fun nl6 hnl => ?_) | ((fail_if_success (have := nl7)); refine wN fun nl7 hnl => ?_) | refine wN fun _ hnl => ?_); revert hnl; (repeat refine wS fun _ _ => ?_); intro hnl) | refine wD (by decide +kernel) ?_ | refine wI (fun h => ?_) fun h => ?_ | refine wF (fun h => ?_) fun h => ?_ | refine wG (fun h => ?_) fun h => ?_ | refine wH (fun h => ?_) fun h => ?_ | ((first | refine mfork_bool (fun h => ?_) fun h => ?_ | refine mgfork_bool (fun h => ?_) fun h => ?_) <;> simp only [h])) | simp (maxSteps := 4000000) (disch := first | decide | assumption | omega | (simp only [wL]; omega)) only [go_sem, simprocAttr])
                exact .done ⟨(), rfl⟩
              · intro _ _
                rw [show (bkX (zs.take m)).length = m by simp [bkX]; omega, Nat.sub_self, List.drop_zero]
                show R _
                repeat' (first | (with_reducible first | (refine wT ?_; (first | ((fail_if_success (have := nl1)); refine wN fun nl1 hnl => ?_) | ((fail_if_success (have := nl2)); refine wN fun nl2 hnl => ?_) | ((fail_if_success (have := nl3)); refine wN fun nl3 hnl => ?_) | ((fail_if_success (have := nl4)); refine wN fun nl4 hnl => ?_) | ((fail_if_success (have := nl5)); refine wN fun nl5 hnl => ?_) | ((fail_if_success (have := nl6)); refine wN fun nl6 hnl => ?_) | ((fail_if_success (have := nl7)); refine wN fun nl7 hnl => ?_) | refine wN fun _ hnl => ?_); revert hnl; (repeat refine wS fun _ _ => ?_); intro hnl) | refine wD (by decide +kernel) ?_ | refine wI (fun h => ?_) fun h => ?_ | refine wF (fun h => ?_) fun h => ?_ | refine wG (fun h => ?_) fun h => ?_ | refine wH (fun h => ?_) fun h => ?_ | ((first | refine mfork_bool (fun h => ?_) fun h => ?_ | refine mgfork_bool (fun h => ?_) fun h => ?_) <;> simp only [h])) | simp (maxSteps := 4000000) (disch := first | decide | assumption | omega | (simp only [wL]; omega)) only [go_sem, simprocAttr])
                rw [hfin]
                exact .same _
end Go.Proofs.Ytielcgplbnlgbaa
end

section
/- Contract of logic.column: the conditions that the theorem names. -/
set_option linter.unusedVariables false
set_option linter.unusedSimpArgs false
namespace Go.Proofs.Ytielcgplbnlgbaa

/-- A table's cells. -/
def tabM (h : Nat → Nat) : List MV := (List.range 16).map fun i => .int .u64 (h i : Int)
abbrev tabV (f : Nat → Bool) : MV := .agg (tabM (tw f))

theorem tabM_len (h : Nat → Nat) : (tabM h).length = 16 := by simp [tabM]
theorem tabM_get {h : Nat → Nat} {i : Nat} (hi : i < 16) {d : MV} : (tabM h).getD i d = .int .u64 (h i : Int) := by
  simp [tabM, List.getD, hi]
theorem tabM_get1 {h : Nat → Nat} {i : Nat} (hi : i < 16) {d : MV} : (tabM h).getD (i * 1) d = .int .u64 (h i : Int) := by
  rw [Nat.mul_one]; exact tabM_get hi
theorem tabM_ext {h g : Nat → Nat} (e : ∀ i, i < 16 → h i = g i) : tabM h = tabM g := by
  unfold tabM
  exact List.map_congr_left fun i hi => by rw [e i (List.mem_range.1 hi)]
theorem tabM_all (h : Nat → Nat) : (tabM h).all MV.isCell = true := by simp [tabM, MV.isCell]
theorem tabM_take (h : Nat → Nat) : (tabM h).take 16 = tabM h := List.take_of_length_le (by rw [tabM_len]; omega)
theorem tabM_drop (h : Nat → Nat) : (tabM h).drop 16 = [] := List.drop_of_length_le (by rw [tabM_len]; omega)
theorem tabM_laid {h : Nat → Nat} {i v : Nat} (hi : i < 16) : (tabM h).take i ++ (MV.int .u64 (v : Int) :: (tabM h).drop (i + 1)) = tabM (fun k => if k = i then v else h k) := by
  apply List.ext_getElem?
  intro k
  have h1 : ((tabM h).take i).length = i := by rw [List.length_take, tabM_len]; omega
  rcases Nat.lt_trichotomy k i with hk | hk | hk
  · rw [List.getElem?_append_left (by omega), List.getElem?_take, if_pos hk]
    simp [tabM, show k < 16 by omega, Nat.ne_of_lt hk]
  · subst hk
    rw [List.getElem?_append_right (by omega), h1, Nat.sub_self]
    simp [tabM, hi]
  · rw [List.getElem?_append_right (by omega), h1]
    obtain ⟨j, rfl⟩ : ∃ j, k = i + 1 + j := ⟨k - (i + 1), by omega⟩
    rw [show i + 1 + j - i = j + 1 by omega, List.getElem?_cons_succ, List.getElem?_drop]
    by_cases hk16 : i + 1 + j < 16
    · simp [tabM, hk16, show i + 1 + j ≠ i by omega]
    · simp [tabM, hk16]

theorem fdiv_nat (i k : Nat) : ((i : Int)).fdiv (2 ^ k) = ((i / 2 ^ k : Nat) : Int) := by
  rw [Int.fdiv_eq_ediv_of_nonneg _ (Int.pow_nonneg (by omega))]
  exact_mod_cast rfl

theorem bit_of (i k b : Nat) (hi : i < 2 ^ b) : i / 2 ^ (min k b) % 2 = if i.testBit k = true then 1 else 0 := by
  have e : i / 2 ^ (min k b) % 2 = i / 2 ^ k % 2 := by
    rcases Nat.le_total k b with h | h
    · rw [Nat.min_eq_left h]
    · rw [Nat.min_eq_right h, Nat.div_eq_of_lt hi, Nat.div_eq_of_lt (Nat.lt_of_lt_of_le hi (Nat.pow_le_pow_right (by omega) h))]
  rw [e]
  by_cases h : i.testBit k = true
  · rw [if_pos h]
    simpa [Nat.testBit_eq_decide_div_mod_eq] using h
  · rw [if_neg h]
    rw [Nat.testBit_eq_decide_div_mod_eq, decide_eq_true_eq] at h
    omega

theorem bit_i64 (i k : Nat) (hi : i < 9223372036854775808) : andK .i64 (((i : Int)).fdiv (2 ^ min k 64)) 1 = if i.testBit k = true then 1 else 0 := by
  show IntKind.i64.wrap (((BitVec.ofInt 64 (((i : Int)).fdiv (2 ^ min k 64)) &&& BitVec.ofInt 64 1).toNat : Nat) : Int) = _
  rw [fdiv_nat, BitVec.ofInt_natCast, BitVec.toNat_and, BitVec.toNat_ofNat, show (BitVec.ofInt 64 1).toNat = 2 ^ 1 - 1 by decide, Nat.and_two_pow_sub_one_eq_mod, Nat.mod_eq_of_lt (Nat.lt_of_le_of_lt (Nat.div_le_self ..) (by omega)), show 2 ^ 1 = 2 by decide, bit_of i k 64 (by omega)]
  split <;> rfl

theorem bit_u32 (i k : Nat) (hi : i < 4294967296) : andK .u32 (((i : Int)).fdiv (2 ^ min k 32)) 1 = if i.testBit k = true then 1 else 0 := by
  show IntKind.u32.wrap (((BitVec.ofInt 32 (((i : Int)).fdiv (2 ^ min k 32)) &&& BitVec.ofInt 32 1).toNat : Nat) : Int) = _
  rw [fdiv_nat, BitVec.ofInt_natCast, BitVec.toNat_and, BitVec.toNat_ofNat, show (BitVec.ofInt 32 1).toNat = 2 ^ 1 - 1 by decide, Nat.and_two_pow_sub_one_eq_mod, Nat.mod_eq_of_lt (Nat.lt_of_le_of_lt (Nat.div_le_self ..) (by omega)), show 2 ^ 1 = 2 by decide, bit_of i k 32 (by omega)]
  split <;> rfl

def row6 : List MV := [.int .u64 12297829382473034410, .int .u64 14757395258967641292, .int .u64 17361641481138401520, .int .u64 18374966859414961920, .int .u64 18446462603027742720, .int .u64 18446744069414584320]
theorem row6_get {p : Nat} (hp : p < 6) {d : MV} : row6.getD p d = .int .u64 ((wd (fun j => j.testBit p) 64 : Nat) : Int) := by
  have h : p = 0 ∨ p = 1 ∨ p = 2 ∨ p = 3 ∨ p = 4 ∨ p = 5 := by omega
  rcases h with rfl | rfl | rfl | rfl | rfl | rfl
  · rw [show wd (fun j => j.testBit 0) 64 = 12297829382473034410 by decide +kernel]; rfl
  · rw [show wd (fun j => j.testBit 1) 64 = 14757395258967641292 by decide +kernel]; rfl
  · rw [show wd (fun j => j.testBit 2) 64 = 17361641481138401520 by decide +kernel]; rfl
  · rw [show wd (fun j => j.testBit 3) 64 = 18374966859414961920 by decide +kernel]; rfl
  · rw [show wd (fun j => j.testBit 4) 64 = 18446462603027742720 by decide +kernel]; rfl
  · rw [show wd (fun j => j.testBit 5) 64 = 18446744069414584320 by decide +kernel]; rfl

theorem tw_col (p i : Nat) : tw (fun on => on.testBit p) i = if p < 6 then wd (fun j => j.testBit p) 64 else if i.testBit (p - 6) = true then 18446744073709551615 else 0 := by
  unfold tw
  split
  · rename_i h
    exact wd_ext fun j hj => by show (64 * i + j).testBit p = _; rw [add_bit hj, if_pos h]
  · rename_i h
    split
    · rename_i h2
      rw [show (18446744073709551615 : Nat) = 2 ^ 64 - 1 by decide, ← wd_ones]
      exact wd_ext fun j hj => by show (64 * i + j).testBit p = _; rw [add_bit hj, if_neg h, h2]
    · rename_i h2
      rw [← wd_zero 64]
      exact wd_ext fun j hj => by show (64 * i + j).testBit p = _; rw [add_bit hj, if_neg h]; simpa using h2

theorem ofNat_lt {w : Nat} (h : w < 18446744073709551616) : (BitVec.ofInt 64 (w : Int)).toNat = w := by
  rw [BitVec.ofInt_natCast, BitVec.toNat_ofNat, Nat.mod_eq_of_lt (by omega)]
theorem wrap_u64 {w : Nat} (h : w < 18446744073709551616) : IntKind.u64.wrap (w : Int) = w := by
  simp only [IntKind.wrap, IntKind.signed, IntKind.bits]
  simp
  omega
theorem and_u64 {a b : Nat} (ha : a < 18446744073709551616) (hb : b < 18446744073709551616) : andK .u64 (a : Int) (b : Int) = ((a &&& b : Nat) : Int) := by
  show IntKind.u64.wrap (((BitVec.ofInt 64 (a : Int) &&& BitVec.ofInt 64 (b : Int)).toNat : Nat) : Int) = _
  rw [BitVec.toNat_and, ofNat_lt ha, ofNat_lt hb]
  exact wrap_u64 (Nat.and_lt_two_pow _ (n := 64) (by omega))
theorem or_u64 {a b : Nat} (ha : a < 18446744073709551616) (hb : b < 18446744073709551616) : orK .u64 (a : Int) (b : Int) = ((a ||| b : Nat) : Int) := by
  show IntKind.u64.wrap (((BitVec.ofInt 64 (a : Int) ||| BitVec.ofInt 64 (b : Int)).toNat : Nat) : Int) = _
  rw [BitVec.toNat_or, ofNat_lt ha, ofNat_lt hb]
  exact wrap_u64 (Nat.or_lt_two_pow (n := 64) (by omega) (by omega))
theorem not_u64 {a : Nat} (ha : a < 18446744073709551616) : notK .u64 (a : Int) = (((2 ^ 64 - 1) ^^^ a : Nat) : Int) := by
  show IntKind.u64.wrap (((BitVec.ofInt 64 18446744073709551615 ^^^ BitVec.ofInt 64 (a : Int)).toNat : Nat) : Int) = _
  rw [BitVec.toNat_xor, ofNat_lt ha, show (BitVec.ofInt 64 18446744073709551615).toNat = 2 ^ 64 - 1 by decide]
  exact wrap_u64 (Nat.xor_lt_two_pow (n := 64) (by omega) (by omega))
theorem andNot_u64 {a b : Nat} (ha : a < 18446744073709551616) (hb : b < 18446744073709551616) : andNotK .u64 (a : Int) (b : Int) = ((a &&& ((2 ^ 64 - 1) ^^^ b) : Nat) : Int) := by
  show IntKind.u64.wrap (((BitVec.ofInt 64 (a : Int) &&& ~~~BitVec.ofInt 64 (b : Int)).toNat : Nat) : Int) = _
  have e : (~~~BitVec.ofInt 64 (b : Int)) = BitVec.allOnes 64 ^^^ BitVec.ofInt 64 (b : Int) := by rw [BitVec.allOnes_xor]
  rw [e, BitVec.toNat_and, BitVec.toNat_xor, ofNat_lt ha, ofNat_lt hb, BitVec.toNat_allOnes]
  exact wrap_u64 (Nat.and_lt_two_pow _ (n := 64) (Nat.xor_lt_two_pow (by omega) (by omega)))
theorem tw_not (f : Nat → Bool) (i : Nat) : notK .u64 (tw f i : Int) = (tw (fun on => !f on) i : Int) := by
  rw [not_u64 (tw_lt f i)]
  exact congrArg _ (wd_not _ 64)
theorem tw_and (f g : Nat → Bool) (i : Nat) : andK .u64 (tw f i : Int) (tw g i : Int) = (tw (fun on => f on && g on) i : Int) := by
  rw [and_u64 (tw_lt f i) (tw_lt g i)]
  exact congrArg _ (wd_and _ _ 64)
theorem tw_or (f g : Nat → Bool) (i : Nat) : orK .u64 (tw f i : Int) (tw g i : Int) = (tw (fun on => f on || g on) i : Int) := by
  rw [or_u64 (tw_lt f i) (tw_lt g i)]
  exact congrArg _ (wd_or _ _ 64)
theorem tw_andNot (f g : Nat → Bool) (i : Nat) : andNotK .u64 (tw f i : Int) (tw g i : Int) = (tw (fun on => f on && !g on) i : Int) := by
  rw [andNot_u64 (tw_lt f i) (tw_lt g i)]
  exact congrArg _ ((congrArg (tw f i &&& ·) (wd_not _ 64)).trans (wd_and _ _ 64))
theorem tw_false (i : Nat) : tw (fun _ => false) i = 0 := wd_zero 64
theorem tw_zero {f : Nat → Bool} {i : Nat} : tw f i = 0 ↔ ∀ j, j < 64 → f (64 * i + j) = false := wd_iff0

set_option maxHeartbeats 2000000 in
theorem column_call (p : Nat) (hp : p ≤ 1000000) : MCalls Try.prog 78 [.int .i64 (p : Int)] St.none (fun r _ => r = tabV fun on => on.testBit p) := by
  refine (MCalls.body 30 [.cell 2 54] Try.func78 rfl rfl rfl rfl ?_)
  repeat' (first | (with_reducible first | (refine wN fun nl hnl => ?_; revert hnl; (repeat refine wS fun _ _ => ?_); intro hnl) | refine wD (by decide +kernel) ?_ | refine wI (fun h => ?_) fun h => ?_ | refine wF (fun h => ?_) fun h => ?_ | refine wG (fun h => ?_) fun h => ?_ | refine wH (fun h => ?_) fun h => ?_ | ((first | refine mfork_bool (fun h => ?_) fun h => ?_ | refine mgfork_bool (fun h => ?_) fun h => ?_) <;> simp only [h])) | simp (maxSteps := 4000000) (disch := first | decide | assumption | omega | (simp only [wL]; omega)) only [go_sem, simprocAttr, Try.f78])
  rename_i n1 _ n2 _ _ _ _ _ _ _
  refine mloop_intro (α := Nat) (fun i => ⟨30, [(7, .int .i64 (i : Int)), (4, .ptr nl 0 0), (3, .ptr n2 0 0), (2, .ptr n1 0 0), (0, .int .i64 (p : Int))], []⟩)
    (fun i => ((St.none.set n1 (.row 54 16 [tabM fun _ => 0])).set n2 (.row 54 16 [tabM fun k => if k < i then tw (fun on => on.testBit p) k else 0])).set nl (.row 111 6 [row6]))
    (fun i => i ≤ 16) (fun i => 16 - i) (.of (.less ?_ (St.le_refl _)) ⟨0, rfl, rfl, by omega⟩) ?_
  · simp (maxSteps := 4000000) (disch := first | decide | assumption | omega | (simp only [wL]; omega)) only [go_sem, simprocAttr, weak_int, weak_same]
    all_goals rfl
  · intro i hi
    have hl6 : row6.length = 6 := rfl
    have step : ∀ v : Nat, i < 16 → v = tw (fun on => on.testBit p) i → (tabM fun k => if k = i then v else if k < i then tw (fun on => on.testBit p) k else 0) = tabM fun k => if k < i + 1 then tw (fun on => on.testBit p) k else 0 := by
      intro v hlt hv
      refine tabM_ext fun k hk => ?_
      by_cases h1 : k = i
      · subst h1; rw [if_pos rfl, if_pos (by omega), hv]
      · rw [if_neg h1]
        by_cases h2 : k < i
        · rw [if_pos h2, if_pos (by omega)]
        · rw [if_neg h2, if_neg (by omega)]
    by_cases hlt : i < 16
    · by_cases h6 : p < 6
      · have hg := row6_get h6 (d := MV.junk)
        repeat' (first | (with_reducible first | (refine wN fun nl hnl => ?_; revert hnl; (repeat refine wS fun _ _ => ?_); intro hnl) | refine wD (by decide +kernel) ?_ | refine wI (fun h => ?_) fun h => ?_ | refine wF (fun h => ?_) fun h => ?_ | refine wG (fun h => ?_) fun h => ?_ | refine wH (fun h => ?_) fun h => ?_ | ((first | refine mfork_bool (fun h => ?_) fun h => ?_ | refine mgfork_bool (fun h => ?_) fun h => ?_) <;> simp only [h])) | simp (maxSteps := 4000000) (disch := first | decide | assumption | omega | (simp only [wL]; omega)) only [go_sem, simprocAttr, Nat.mul_one, hg, hl6, tabM_len, List.append_assoc, tabM_laid hlt])
        refine .of (.less ?_ ?_) ⟨i + 1, rfl, rfl, by omega, by omega⟩
        · simp (maxSteps := 4000000) (disch := first | decide | assumption | omega | (simp only [wL]; omega)) only [go_sem, simprocAttr, weak_int, weak_same]
          all_goals rfl
        · rw [← step _ hlt (by rw [tw_col, if_pos h6])]
          exact St.le_refl _
      · have hb := bit_i64 i (p - 6) (by omega)
        have e6 : ((p : Int) - 6).toNat = p - 6 := by omega
        cases hbt : i.testBit (p - 6)
        · rw [hbt, if_neg (by simp)] at hb
          repeat' (first | (with_reducible first | (refine wN fun nl hnl => ?_; revert hnl; (repeat refine wS fun _ _ => ?_); intro hnl) | refine wD (by decide +kernel) ?_ | refine wI (fun h => ?_) fun h => ?_ | refine wF (fun h => ?_) fun h => ?_ | refine wG (fun h => ?_) fun h => ?_ | refine wH (fun h => ?_) fun h => ?_ | ((first | refine mfork_bool (fun h => ?_) fun h => ?_ | refine mgfork_bool (fun h => ?_) fun h => ?_) <;> simp only [h])) | simp (maxSteps := 4000000) (disch := first | decide | assumption | omega | (simp only [wL]; omega)) only [go_sem, simprocAttr, Nat.mul_one, hl6, tabM_len, List.append_assoc, tabM_laid hlt, e6])
          · refine .of (.less ?_ ?_) ⟨i + 1, rfl, rfl, by omega, by omega⟩
            · simp (maxSteps := 4000000) (disch := first | decide | assumption | omega | (simp only [wL]; omega)) only [go_sem, simprocAttr, weak_int, weak_same]
              all_goals rfl
            · rw [← step 0 hlt (by rw [tw_col, if_neg h6, hbt, if_neg (by simp)])]
              rw [show (tabM fun k => if k = i then 0 else if k < i then tw (fun on => on.testBit p) k else 0) = tabM fun k => if k < i then tw (fun on => on.testBit p) k else 0 from tabM_ext fun k hk => by
                by_cases h1 : k = i
                · subst h1; rw [if_pos rfl, if_neg (by omega)]
                · rw [if_neg h1]]
              exact St.le_refl _
        · rw [hbt, if_pos rfl] at hb
          repeat' (first | (with_reducible first | (refine wN fun nl hnl => ?_; revert hnl; (repeat refine wS fun _ _ => ?_); intro hnl) | refine wD (by decide +kernel) ?_ | refine wI (fun h => ?_) fun h => ?_ | refine wF (fun h => ?_) fun h => ?_ | refine wG (fun h => ?_) fun h => ?_ | refine wH (fun h => ?_) fun h => ?_ | ((first | refine mfork_bool (fun h => ?_) fun h => ?_ | refine mgfork_bool (fun h => ?_) fun h => ?_) <;> simp only [h])) | simp (maxSteps := 4000000) (disch := first | decide | assumption | omega | (simp only [wL]; omega)) only [go_sem, simprocAttr, Nat.mul_one, hl6, tabM_len, List.append_assoc, tabM_laid hlt, e6])
          · refine .of (.less ?_ ?_) ⟨i + 1, rfl, rfl, by omega, by omega⟩
            · simp (maxSteps := 4000000) (disch := first | decide | assumption | omega | (simp only [wL]; omega)) only [go_sem, simprocAttr, weak_int, weak_same]
              all_goals rfl
            · rw [← step _ hlt (by rw [tw_col, if_neg h6, hbt, if_pos rfl])]
              rw [← tabM_laid hlt]
              exact St.le_refl _
    · have : i = 16 := by omega
      subst this
      repeat' (first | (with_reducible first | (refine wN fun nl hnl => ?_; revert hnl; (repeat refine wS fun _ _ => ?_); intro hnl) | refine wD (by decide +kernel) ?_ | refine wI (fun h => ?_) fun h => ?_ | refine wF (fun h => ?_) fun h => ?_ | refine wG (fun h => ?_) fun h => ?_ | refine wH (fun h => ?_) fun h => ?_ | ((first | refine mfork_bool (fun h => ?_) fun h => ?_ | refine mgfork_bool (fun h => ?_) fun h => ?_) <;> simp only [h])) | simp (maxSteps := 4000000) (disch := first | decide | assumption | omega | (simp only [wL]; omega)) only [go_sem, simprocAttr, tabM_len, tabM_all, tabM_take, tabM_drop, Nat.min_self])
      exact congrArg MV.agg (tabM_ext fun k hk => if_pos hk)
end Go.Proofs.Ytielcgplbnlgbaa
end

section
/- Contract of logic.filled: the conditions that the theorem names. -/
set_option linter.unusedVariables false
set_option linter.unusedSimpArgs false
namespace Go.Proofs.Ytielcgplbnlgbaa

theorem tabM_step {h g : Nat → Nat} {i : Nat} (hi : i < 16) : (tabM fun k => if k < i then h k else g k).take i ++ (MV.int .u64 (h i : Int) :: (tabM fun k => if k < i then h k else g k).drop (i + 1)) = tabM fun k => if k < i + 1 then h k else g k := by
  rw [tabM_laid hi]
  refine tabM_ext fun k hk => ?_
  by_cases h1 : k = i
  · subst h1; rw [if_pos rfl, if_pos (by omega)]
  · rw [if_neg h1]
    by_cases h2 : k < i
    · rw [if_pos h2, if_pos (by omega)]
    · rw [if_neg h2, if_neg (by omega)]
theorem tabM_done {h g : Nat → Nat} : (tabM fun k => if k < 16 then h k else g k) = tabM h := tabM_ext fun k hk => if_pos hk
theorem tabM_at {h g : Nat → Nat} {i : Nat} (hi : i < 16) {d : MV} : (tabM fun k => if k < i then h k else g k).getD i d = .int .u64 (g i : Int) := by
  rw [tabM_get hi, if_neg (by omega)]

theorem tabM_upd {h g : Nat → Nat} {i : Nat} (hi : i < 16) : (tabM fun k => if k = i then h i else if k < i then h k else g k) = tabM fun k => if k < i + 1 then h k else g k := by
  refine tabM_ext fun k hk => ?_
  by_cases h1 : k = i
  · subst h1; rw [if_pos rfl, if_pos (by omega)]
  · rw [if_neg h1]
    by_cases h2 : k < i
    · rw [if_pos h2, if_pos (by omega)]
    · rw [if_neg h2, if_neg (by omega)]
theorem tabM_upd2 {h g : Nat → Nat} {i v : Nat} (hi : i < 16) : (tabM fun k => if k = i then h i else if k = i then v else if k < i then h k else g k) = tabM fun k => if k < i + 1 then h k else g k := by
  rw [← tabM_upd hi]
  refine tabM_ext fun k hk => ?_
  by_cases h1 : k = i
  · rw [if_pos h1, if_pos h1]
  · rw [if_neg h1, if_neg h1, if_neg h1]
abbrev tz : List MV := tabM (tw fun _ => false)
theorem zero16 : [MV.int IntKind.u64 0, MV.int IntKind.u64 0, MV.int IntKind.u64 0, MV.int IntKind.u64 0, MV.int IntKind.u64 0, MV.int IntKind.u64 0, MV.int IntKind.u64 0, MV.int IntKind.u64 0, MV.int IntKind.u64 0, MV.int IntKind.u64 0, MV.int IntKind.u64 0, MV.int IntKind.u64 0, MV.int IntKind.u64 0, MV.int IntKind.u64 0, MV.int IntKind.u64 0, MV.int IntKind.u64 0] = tz := by
  rw [tz, show (tw fun _ => false) = fun _ => 0 from funext fun i => tw_false i]; rfl
theorem tz_start {h : Nat → Nat} : tz = tabM fun k => if k < 0 then h k else tw (fun _ => false) k := tabM_ext fun k hk => by rw [if_neg (by omega)]

def asP (l : List ND) (on : Nat) (x : ND) : Bool := on.testBit (posK l x)

set_option maxHeartbeats 8000000 in
theorem filled_call (al : List ND) (la : al.length ≤ 100000) (hr : Rising (al.map ND.key)) (ta : Bool) : ∀ (t : T), t.ok → ∀ (r : List ND) (tt : Bool), (t.fl ++ r).length ≤ 100000 →
    MCalls Try.prog 57 [.lst 5 ((t.fl ++ r).map ND.c) tt, .lst 5 (al.map ND.c) ta] St.none (fun v _ => v = .tup [tabV fun on => t.sem (asP al on), .lst 5 (r.map ND.c) tt])
  | .leaf x, h, r, tt, hl => by
    refine (MCalls.body 115 [.cell 4 54, .tmp 5] Try.func57 rfl rfl rfl rfl ?_)
    simp only [T.fl, List.cons_append, List.nil_append] at hl ⊢
    have hp : x.op ≠ 10 ∧ x.op ≠ 11 ∧ x.op ≠ 12 := by
      refine ⟨fun e => ?_, fun e => ?_, fun e => ?_⟩ <;> (simp only [T.ok, e] at h; revert h; decide)
    obtain ⟨p1, p2, p3⟩ := hp
    have hg : ((x :: r).map ND.c).getD 0 [] = x.c := rfl
    by_cases h2 : x.op = 2
    · have e : (tabV fun on => (T.leaf x).sem (asP al on)) = .agg tz := by simp [T.sem, h2]
      rw [e]
      repeat' (first | (with_reducible first | (refine wT ?_; (first | ((fail_if_success (have := nl1)); refine wN fun nl1 hnl => ?_) | ((fail_if_success (have := nl2)); refine wN fun nl2 hnl => ?_) | ((fail_if_success (have := nl3)); refine wN fun nl3 hnl => ?_) | ((fail_if_success (have := nl4)); refine wN fun nl4 hnl => ?_) | ((fail_if_success (have := nl5)); refine wN fun nl5 hnl => ?_) | refine wN fun _ hnl => ?_); revert hnl; (repeat refine wS fun _ _ => ?_); intro hnl) | refine wD (by decide +kernel) ?_ | refine wI (fun h => ?_) fun h => ?_ | refine wF (fun h => ?_) fun h => ?_ | refine wG (fun h => ?_) fun h => ?_ | refine wH (fun h => ?_) fun h => ?_ | ((first | refine mfork_bool (fun h => ?_) fun h => ?_ | refine mgfork_bool (fun h => ?_) fun h => ?_) <;> simp only [h])) | simp (maxSteps := 4000000) (disch := first | decide | assumption | omega | (simp only [wL]; omega)) only [go_sem, simprocAttr, Try.f57, hg, h2, List.drop_succ_cons, List.drop_zero, zero16, tabM_len, tabM_all, tabM_take, tabM_drop, Nat.min_self])
    · by_cases h1 : x.op = 1
      · have e : (tabV fun on => (T.leaf x).sem (asP al on)) = tabV fun _ => true := by simp [T.sem, h1]
        rw [e]
        repeat' (first | (with_reducible first | (refine wT ?_; (first | ((fail_if_success (have := nl1)); refine wN fun nl1 hnl => ?_) | ((fail_if_success (have := nl2)); refine wN fun nl2 hnl => ?_) | ((fail_if_success (have := nl3)); refine wN fun nl3 hnl => ?_) | ((fail_if_success (have := nl4)); refine wN fun nl4 hnl => ?_) | ((fail_if_success (have := nl5)); refine wN fun nl5 hnl => ?_) | refine wN fun _ hnl => ?_); revert hnl; (repeat refine wS fun _ _ => ?_); intro hnl) | refine wD (by decide +kernel) ?_ | refine wI (fun h => ?_) fun h => ?_ | refine wF (fun h => ?_) fun h => ?_ | refine wG (fun h => ?_) fun h => ?_ | refine wH (fun h => ?_) fun h => ?_ | ((first | refine mfork_bool (fun h => ?_) fun h => ?_ | refine mgfork_bool (fun h => ?_) fun h => ?_) <;> simp only [h])) | simp (maxSteps := 4000000) (disch := first | decide | assumption | omega | (simp only [wL]; omega)) only [go_sem, simprocAttr, Try.f57, hg, h1, List.drop_succ_cons, List.drop_zero, zero16, tabM_len, tabM_all, tabM_take, tabM_drop, Nat.min_self])
        refine mloop_intro (α := Nat) (fun i => ⟨115, [(32, .int .i64 (i : Int)), (8, .ptr nl3 0 0), (7, .lst 5 (r.map ND.c) tt), (4, .ptr nl1 0 0)], []⟩)
          (fun i => ((St.none.set nl1 (.row 54 16 [tz])).set nl2 (.row 49 5 [(⟨1, x.n, x.v⟩ : ND).c])).set nl3 (.row 54 16 [tabM fun k => if k < i then tw (fun _ => true) k else tw (fun _ => false) k]))
          (fun i => i ≤ 16) (fun i => 16 - i) (.of (.less ?_ (by rw [← tz_start]; exact St.le_refl _)) ⟨0, rfl, rfl, by omega⟩) ?_
        · simp (maxSteps := 4000000) (disch := first | decide | assumption | omega | (simp only [wL]; omega)) only [go_sem, simprocAttr, weak_int, weak_same]
          all_goals rfl
        · intro i hi
          by_cases hlt : i < 16
          · have hn := tw_not (fun _ => false) i
            simp only [Bool.not_false] at hn
            repeat' (first | (with_reducible first | (refine wT ?_; (first | ((fail_if_success (have := nl1)); refine wN fun nl1 hnl => ?_) | ((fail_if_success (have := nl2)); refine wN fun nl2 hnl => ?_) | ((fail_if_success (have := nl3)); refine wN fun nl3 hnl => ?_) | ((fail_if_success (have := nl4)); refine wN fun nl4 hnl => ?_) | ((fail_if_success (have := nl5)); refine wN fun nl5 hnl => ?_) | refine wN fun _ hnl => ?_); revert hnl; (repeat refine wS fun _ _ => ?_); intro hnl) | refine wD (by decide +kernel) ?_ | refine wI (fun h => ?_) fun h => ?_ | refine wF (fun h => ?_) fun h => ?_ | refine wG (fun h => ?_) fun h => ?_ | refine wH (fun h => ?_) fun h => ?_ | ((first | refine mfork_bool (fun h => ?_) fun h => ?_ | refine mgfork_bool (fun h => ?_) fun h => ?_) <;> simp only [h])) | simp (maxSteps := 4000000) (disch := first | decide | assumption | omega | (simp only [wL]; omega)) only [go_sem, simprocAttr, Nat.mul_one, tabM_len, List.append_assoc, tabM_at hlt, hn, tabM_laid hlt])
            refine .of (.less ?_ (by rw [← tabM_upd hlt]; exact St.le_refl _)) ⟨i + 1, rfl, rfl, by omega, by omega⟩
            simp (maxSteps := 4000000) (disch := first | decide | assumption | omega | (simp only [wL]; omega)) only [go_sem, simprocAttr, weak_int, weak_same]
            all_goals rfl
          · have : i = 16 := by omega
            subst this
            repeat' (first | (with_reducible first | (refine wT ?_; (first | ((fail_if_success (have := nl1)); refine wN fun nl1 hnl => ?_) | ((fail_if_success (have := nl2)); refine wN fun nl2 hnl => ?_) | ((fail_if_success (have := nl3)); refine wN fun nl3 hnl => ?_) | ((fail_if_success (have := nl4)); refine wN fun nl4 hnl => ?_) | ((fail_if_success (have := nl5)); refine wN fun nl5 hnl => ?_) | refine wN fun _ hnl => ?_); revert hnl; (repeat refine wS fun _ _ => ?_); intro hnl) | refine wD (by decide +kernel) ?_ | refine wI (fun h => ?_) fun h => ?_ | refine wF (fun h => ?_) fun h => ?_ | refine wG (fun h => ?_) fun h => ?_ | refine wH (fun h => ?_) fun h => ?_ | ((first | refine mfork_bool (fun h => ?_) fun h => ?_ | refine mgfork_bool (fun h => ?_) fun h => ?_) <;> simp only [h])) | simp (maxSteps := 4000000) (disch := first | decide | assumption | omega | (simp only [wL]; omega)) only [go_sem, simprocAttr, tabM_len, tabM_done, tabM_all, tabM_take, tabM_drop, Nat.min_self])
      · have e : (tabV fun on => (T.leaf x).sem (asP al on)) = tabV fun on => on.testBit (posK al x) := by simp [T.sem, h1, h2, asP]
        rw [e]
        have hb := bsearch_call al (by omega) ta x hr
        have hpl : posK al x ≤ 1000000 := Nat.le_trans List.findIdx_le_length (by omega)
        have hc := column_call (posK al x) hpl
        repeat' (first | (with_reducible refine use_pure hb ?_) | (with_reducible refine use_pure hc ?_) | (with_reducible first | (refine wT ?_; (first | ((fail_if_success (have := nl1)); refine wN fun nl1 hnl => ?_) | ((fail_if_success (have := nl2)); refine wN fun nl2 hnl => ?_) | ((fail_if_success (have := nl3)); refine wN fun nl3 hnl => ?_) | ((fail_if_success (have := nl4)); refine wN fun nl4 hnl => ?_) | ((fail_if_success (have := nl5)); refine wN fun nl5 hnl => ?_) | refine wN fun _ hnl => ?_); revert hnl; (repeat refine wS fun _ _ => ?_); intro hnl) | refine wD (by decide +kernel) ?_ | refine wI (fun h => ?_) fun h => ?_ | refine wF (fun h => ?_) fun h => ?_ | refine wG (fun h => ?_) fun h => ?_ | refine wH (fun h => ?_) fun h => ?_ | ((first | refine mfork_bool (fun h => ?_) fun h => ?_ | refine mgfork_bool (fun h => ?_) fun h => ?_) <;> simp only [h])) | simp (maxSteps := 4000000) (disch := first | decide | assumption | omega | (simp only [wL]; omega)) only [go_sem, simprocAttr, Try.f57, hg, h1, h2, List.drop_succ_cons, List.drop_zero, zero16, tabM_len, tabM_all, tabM_take, tabM_drop, Nat.min_self])
  | .one x a, h, r, tt, hl => by
    refine (MCalls.body 115 [.cell 4 54, .tmp 5] Try.func57 rfl rfl rfl rfl ?_)
    have h1 := parts_one h.1
    have ih := filled_call al la hr ta a h.2 r tt (by simp only [T.fl, List.cons_append, List.length_cons] at hl; omega)
    simp only [T.fl, List.cons_append] at hl ⊢
    have hg : ((x :: (a.fl ++ r)).map ND.c).getD 0 [] = x.c := rfl
    have e : (tabV fun on => (T.one x a).sem (asP al on)) = tabV fun on => !a.sem (asP al on) := by simp [T.sem]
    rw [e]
    generalize hf : (fun on => a.sem (asP al on)) = f at ih
    have e2 : (fun on => !a.sem (asP al on)) = fun on => !f on := by rw [← hf]
    rw [e2]
    repeat' (first | (with_reducible refine use_pure ih ?_) | (with_reducible first | (refine wT ?_; (first | ((fail_if_success (have := nl1)); refine wN fun nl1 hnl => ?_) | ((fail_if_success (have := nl2)); refine wN fun nl2 hnl => ?_) | ((fail_if_success (have := nl3)); refine wN fun nl3 hnl => ?_) | ((fail_if_success (have := nl4)); refine wN fun nl4 hnl => ?_) | ((fail_if_success (have := nl5)); refine wN fun nl5 hnl => ?_) | refine wN fun _ hnl => ?_); revert hnl; (repeat refine wS fun _ _ => ?_); intro hnl) | refine wD (by decide +kernel) ?_ | refine wI (fun h => ?_) fun h => ?_ | refine wF (fun h => ?_) fun h => ?_ | refine wG (fun h => ?_) fun h => ?_ | refine wH (fun h => ?_) fun h => ?_ | ((first | refine mfork_bool (fun h => ?_) fun h => ?_ | refine mgfork_bool (fun h => ?_) fun h => ?_) <;> simp only [h])) | simp (maxSteps := 4000000) (disch := first | decide | assumption | omega | (simp only [wL]; omega)) only [go_sem, simprocAttr, Try.f57, hg, h1, List.drop_succ_cons, List.drop_zero, zero16, tabM_len, tabM_all, tabM_take, tabM_drop, Nat.min_self])
    refine mloop_intro (α := Nat) (fun i => ⟨115, [(52, .int .i64 (i : Int)), (10, .ptr nl4 0 0), (8, .ptr nl3 0 0), (11, .lst 5 (r.map ND.c) tt), (4, .ptr nl1 0 0)], []⟩)
      (fun i => (((St.none.set nl1 (.row 54 16 [tz])).set nl2 (.row 49 5 [(⟨10, x.n, x.v⟩ : ND).c])).set nl3 (.row 54 16 [tabM fun k => if k < i then tw (fun on => !f on) k else tw (fun _ => false) k])).set nl4 (.row 54 16 [tabM (tw f)]))
      (fun i => i ≤ 16) (fun i => 16 - i) (.of (.less ?_ (by rw [← tz_start]; exact St.le_refl _)) ⟨0, rfl, rfl, by omega⟩) ?_
    · simp (maxSteps := 4000000) (disch := first | decide | assumption | omega | (simp only [wL]; omega)) only [go_sem, simprocAttr, weak_int, weak_same]
      all_goals rfl
    · intro i hi
      by_cases hlt : i < 16
      · repeat' (first | (with_reducible first | (refine wT ?_; (first | ((fail_if_success (have := nl1)); refine wN fun nl1 hnl => ?_) | ((fail_if_success (have := nl2)); refine wN fun nl2 hnl => ?_) | ((fail_if_success (have := nl3)); refine wN fun nl3 hnl => ?_) | ((fail_if_success (have := nl4)); refine wN fun nl4 hnl => ?_) | ((fail_if_success (have := nl5)); refine wN fun nl5 hnl => ?_) | refine wN fun _ hnl => ?_); revert hnl; (repeat refine wS fun _ _ => ?_); intro hnl) | refine wD (by decide +kernel) ?_ | refine wI (fun h => ?_) fun h => ?_ | refine wF (fun h => ?_) fun h => ?_ | refine wG (fun h => ?_) fun h => ?_ | refine wH (fun h => ?_) fun h => ?_ | ((first | refine mfork_bool (fun h => ?_) fun h => ?_ | refine mgfork_bool (fun h => ?_) fun h => ?_) <;> simp only [h])) | simp (maxSteps := 4000000) (disch := first | decide | assumption | omega | (simp only [wL]; omega)) only [go_sem, simprocAttr, Nat.mul_one, tabM_len, List.append_assoc, tabM_get hlt, tw_not f i, tabM_laid hlt])
        refine .of (.less ?_ (by rw [← tabM_upd hlt]; exact St.le_refl _)) ⟨i + 1, rfl, rfl, by omega, by omega⟩
        simp (maxSteps := 4000000) (disch := first | decide | assumption | omega | (simp only [wL]; omega)) only [go_sem, simprocAttr, weak_int, weak_same]
        all_goals rfl
      · have : i = 16 := by omega
        subst this
        repeat' (first | (with_reducible first | (refine wT ?_; (first | ((fail_if_success (have := nl1)); refine wN fun nl1 hnl => ?_) | ((fail_if_success (have := nl2)); refine wN fun nl2 hnl => ?_) | ((fail_if_success (have := nl3)); refine wN fun nl3 hnl => ?_) | ((fail_if_success (have := nl4)); refine wN fun nl4 hnl => ?_) | ((fail_if_success (have := nl5)); refine wN fun nl5 hnl => ?_) | refine wN fun _ hnl => ?_); revert hnl; (repeat refine wS fun _ _ => ?_); intro hnl) | refine wD (by decide +kernel) ?_ | refine wI (fun h => ?_) fun h => ?_ | refine wF (fun h => ?_) fun h => ?_ | refine wG (fun h => ?_) fun h => ?_ | refine wH (fun h => ?_) fun h => ?_ | ((first | refine mfork_bool (fun h => ?_) fun h => ?_ | refine mgfork_bool (fun h => ?_) fun h => ?_) <;> simp only [h])) | simp (maxSteps := 4000000) (disch := first | decide | assumption | omega | (simp only [wL]; omega)) only [go_sem, simprocAttr, tabM_len, tabM_done, tabM_all, tabM_take, tabM_drop, Nat.min_self])
  | .two x a b, h, r, tt, hl => by
    refine (MCalls.body 115 [.cell 4 54, .tmp 5] Try.func57 rfl rfl rfl rfl ?_)
    have iha := filled_call al la hr ta a h.2.1 (b.fl ++ r) tt (by simp only [T.fl, List.cons_append, List.length_cons, List.append_assoc] at hl; omega)
    have ihb := filled_call al la hr ta b h.2.2 r tt (by simp only [T.fl, List.cons_append, List.length_cons, List.length_append] at hl ⊢; omega)
    simp only [T.fl, List.cons_append, List.append_assoc] at hl ⊢
    have hg : ((x :: (a.fl ++ (b.fl ++ r))).map ND.c).getD 0 [] = x.c := rfl
    rcases parts_two h.1 with h1 | h1
    · have e : (tabV fun on => (T.two x a b).sem (asP al on)) = tabV fun on => a.sem (asP al on) && b.sem (asP al on) := by simp [T.sem, h1]
      rw [e]
      generalize hf : (fun on => a.sem (asP al on)) = f at iha
      generalize hgg : (fun on => b.sem (asP al on)) = g at ihb
      have e2 : (fun on => a.sem (asP al on) && b.sem (asP al on)) = fun on => f on && g on := by rw [← hf, ← hgg]
      rw [e2]
      repeat' (first | (with_reducible refine use_pure iha ?_) | (with_reducible refine use_pure ihb ?_) | (with_reducible first | (refine wT ?_; (first | ((fail_if_success (have := nl1)); refine wN fun nl1 hnl => ?_) | ((fail_if_success (have := nl2)); refine wN fun nl2 hnl => ?_) | ((fail_if_success (have := nl3)); refine wN fun nl3 hnl => ?_) | ((fail_if_success (have := nl4)); refine wN fun nl4 hnl => ?_) | ((fail_if_success (have := nl5)); refine wN fun nl5 hnl => ?_) | refine wN fun _ hnl => ?_); revert hnl; (repeat refine wS fun _ _ => ?_); intro hnl) | refine wD (by decide +kernel) ?_ | refine wI (fun h => ?_) fun h => ?_ | refine wF (fun h => ?_) fun h => ?_ | refine wG (fun h => ?_) fun h => ?_ | refine wH (fun h => ?_) fun h => ?_ | ((first | refine mfork_bool (fun h => ?_) fun h => ?_ | refine mgfork_bool (fun h => ?_) fun h => ?_) <;> simp only [h])) | simp (maxSteps := 4000000) (disch := first | decide | assumption | omega | (simp only [wL]; omega)) only [go_sem, simprocAttr, Try.f57, hg, h1, List.drop_succ_cons, List.drop_zero, zero16, tabM_len, tabM_all, tabM_take, tabM_drop, Nat.min_self])
      refine mloop_intro (α := Nat) (fun i => ⟨115, [(79, .int .i64 (i : Int)), (6, .ptr nl2 0 0), (13, .ptr nl4 0 0), (15, .ptr nl5 0 0), (8, .ptr nl3 0 0), (14, .lst 5 (r.map ND.c) tt), (4, .ptr nl1 0 0)], []⟩)
        (fun i => ((((St.none.set nl1 (.row 54 16 [tz])).set nl2 (.row 49 5 [(⟨11, x.n, x.v⟩ : ND).c])).set nl3 (.row 54 16 [tabM fun k => if k < i then tw (fun on => f on && g on) k else tw (fun _ => false) k])).set nl4 (.row 54 16 [tabM (tw f)])).set nl5 (.row 54 16 [tabM (tw g)]))
        (fun i => i ≤ 16) (fun i => 16 - i) (.of (.less ?_ (by rw [← tz_start]; exact St.le_refl _)) ⟨0, rfl, rfl, by omega⟩) ?_
      · simp (maxSteps := 4000000) (disch := first | decide | assumption | omega | (simp only [wL]; omega)) only [go_sem, simprocAttr, weak_int, weak_same]
        all_goals rfl
      · intro i hi
        by_cases hlt : i < 16
        · repeat' (first | (with_reducible first | (refine wT ?_; (first | ((fail_if_success (have := nl1)); refine wN fun nl1 hnl => ?_) | ((fail_if_success (have := nl2)); refine wN fun nl2 hnl => ?_) | ((fail_if_success (have := nl3)); refine wN fun nl3 hnl => ?_) | ((fail_if_success (have := nl4)); refine wN fun nl4 hnl => ?_) | ((fail_if_success (have := nl5)); refine wN fun nl5 hnl => ?_) | refine wN fun _ hnl => ?_); revert hnl; (repeat refine wS fun _ _ => ?_); intro hnl) | refine wD (by decide +kernel) ?_ | refine wI (fun h => ?_) fun h => ?_ | refine wF (fun h => ?_) fun h => ?_ | refine wG (fun h => ?_) fun h => ?_ | refine wH (fun h => ?_) fun h => ?_ | ((first | refine mfork_bool (fun h => ?_) fun h => ?_ | refine mgfork_bool (fun h => ?_) fun h => ?_) <;> simp only [h])) | simp (maxSteps := 4000000) (disch := first | decide | assumption | omega | (simp only [wL]; omega)) only [go_sem, simprocAttr, Nat.mul_one, tabM_len, List.append_assoc, tabM_get hlt, tw_and f g i, tabM_laid hlt])
          refine .of (.less ?_ (by rw [← tabM_upd hlt]; exact St.le_refl _)) ⟨i + 1, rfl, rfl, by omega, by omega⟩
          simp (maxSteps := 4000000) (disch := first | decide | assumption | omega | (simp only [wL]; omega)) only [go_sem, simprocAttr, weak_int, weak_same]
          all_goals rfl
        · have : i = 16 := by omega
          subst this
          repeat' (first | (with_reducible first | (refine wT ?_; (first | ((fail_if_success (have := nl1)); refine wN fun nl1 hnl => ?_) | ((fail_if_success (have := nl2)); refine wN fun nl2 hnl => ?_) | ((fail_if_success (have := nl3)); refine wN fun nl3 hnl => ?_) | ((fail_if_success (have := nl4)); refine wN fun nl4 hnl => ?_) | ((fail_if_success (have := nl5)); refine wN fun nl5 hnl => ?_) | refine wN fun _ hnl => ?_); revert hnl; (repeat refine wS fun _ _ => ?_); intro hnl) | refine wD (by decide +kernel) ?_ | refine wI (fun h => ?_) fun h => ?_ | refine wF (fun h => ?_) fun h => ?_ | refine wG (fun h => ?_) fun h => ?_ | refine wH (fun h => ?_) fun h => ?_ | ((first | refine mfork_bool (fun h => ?_) fun h => ?_ | refine mgfork_bool (fun h => ?_) fun h => ?_) <;> simp only [h])) | simp (maxSteps := 4000000) (disch := first | decide | assumption | omega | (simp only [wL]; omega)) only [go_sem, simprocAttr, tabM_len, tabM_done, tabM_all, tabM_take, tabM_drop, Nat.min_self])
    · have e : (tabV fun on => (T.two x a b).sem (asP al on)) = tabV fun on => a.sem (asP al on) || b.sem (asP al on) := by simp [T.sem, h1]
      rw [e]
      generalize hf : (fun on => a.sem (asP al on)) = f at iha
      generalize hgg : (fun on => b.sem (asP al on)) = g at ihb
      have e2 : (fun on => a.sem (asP al on) || b.sem (asP al on)) = fun on => f on || g on := by rw [← hf, ← hgg]
      rw [e2]
      repeat' (first | (with_reducible refine use_pure iha ?_) | (with_reducible refine use_pure ihb ?_) | (with_reducible first | (refine wT ?_; (first | ((fail_if_success (have := nl1)); refine wN fun nl1 hnl => ?_) | ((fail_if_success (have := nl2)); refine wN fun nl2 hnl => ?_) | ((fail_if_success (have := nl3)); refine wN fun nl3 hnl => ?_) | ((fail_if_success (have := nl4)); refine wN fun nl4 hnl => ?_) | ((fail_if_success (have := nl5)); refine wN fun nl5 hnl => ?_) | refine wN fun _ hnl => ?_); revert hnl; (repeat refine wS fun _ _ => ?_); intro hnl) | refine wD (by decide +kernel) ?_ | refine wI (fun h => ?_) fun h => ?_ | refine wF (fun h => ?_) fun h => ?_ | refine wG (fun h => ?_) fun h => ?_ | refine wH (fun h => ?_) fun h => ?_ | ((first | refine mfork_bool (fun h => ?_) fun h => ?_ | refine mgfork_bool (fun h => ?_) fun h => ?_) <;> simp only [h])) | simp (maxSteps := 4000000) (disch := first | decide | assumption | omega | (simp only [wL]; omega)) only [go_sem, simprocAttr, Try.f57, hg, h1, List.drop_succ_cons, List.drop_zero, zero16, tabM_len, tabM_all, tabM_take, tabM_drop, Nat.min_self])
      refine mloop_intro (α := Nat) (fun i => ⟨115, [(79, .int .i64 (i : Int)), (6, .ptr nl2 0 0), (13, .ptr nl4 0 0), (15, .ptr nl5 0 0), (8, .ptr nl3 0 0), (14, .lst 5 (r.map ND.c) tt), (4, .ptr nl1 0 0)], []⟩)
        (fun i => ((((St.none.set nl1 (.row 54 16 [tz])).set nl2 (.row 49 5 [(⟨12, x.n, x.v⟩ : ND).c])).set nl3 (.row 54 16 [tabM fun k => if k < i then tw (fun on => f on || g on) k else tw (fun _ => false) k])).set nl4 (.row 54 16 [tabM (tw f)])).set nl5 (.row 54 16 [tabM (tw g)]))
        (fun i => i ≤ 16) (fun i => 16 - i) (.of (.less ?_ (by rw [← tz_start]; exact St.le_refl _)) ⟨0, rfl, rfl, by omega⟩) ?_
      · simp (maxSteps := 4000000) (disch := first | decide | assumption | omega | (simp only [wL]; omega)) only [go_sem, simprocAttr, weak_int, weak_same]
        all_goals rfl
      · intro i hi
        by_cases hlt : i < 16
        · repeat' (first | (with_reducible first | (refine wT ?_; (first | ((fail_if_success (have := nl1)); refine wN fun nl1 hnl => ?_) | ((fail_if_success (have := nl2)); refine wN fun nl2 hnl => ?_) | ((fail_if_success (have := nl3)); refine wN fun nl3 hnl => ?_) | ((fail_if_success (have := nl4)); refine wN fun nl4 hnl => ?_) | ((fail_if_success (have := nl5)); refine wN fun nl5 hnl => ?_) | refine wN fun _ hnl => ?_); revert hnl; (repeat refine wS fun _ _ => ?_); intro hnl) | refine wD (by decide +kernel) ?_ | refine wI (fun h => ?_) fun h => ?_ | refine wF (fun h => ?_) fun h => ?_ | refine wG (fun h => ?_) fun h => ?_ | refine wH (fun h => ?_) fun h => ?_ | ((first | refine mfork_bool (fun h => ?_) fun h => ?_ | refine mgfork_bool (fun h => ?_) fun h => ?_) <;> simp only [h])) | simp (maxSteps := 4000000) (disch := first | decide | assumption | omega | (simp only [wL]; omega)) only [go_sem, simprocAttr, Nat.mul_one, tabM_len, List.append_assoc, tabM_get hlt, tw_and f g i, tw_or f g i, tabM_laid hlt])
          refine .of (.less ?_ (by rw [← tabM_upd hlt]; exact St.le_refl _)) ⟨i + 1, rfl, rfl, by omega, by omega⟩
          simp (maxSteps := 4000000) (disch := first | decide | assumption | omega | (simp only [wL]; omega)) only [go_sem, simprocAttr, weak_int, weak_same]
          all_goals rfl
        · have : i = 16 := by omega
          subst this
          repeat' (first | (with_reducible first | (refine wT ?_; (first | ((fail_if_success (have := nl1)); refine wN fun nl1 hnl => ?_) | ((fail_if_success (have := nl2)); refine wN fun nl2 hnl => ?_) | ((fail_if_success (have := nl3)); refine wN fun nl3 hnl => ?_) | ((fail_if_success (have := nl4)); refine wN fun nl4 hnl => ?_) | ((fail_if_success (have := nl5)); refine wN fun nl5 hnl => ?_) | refine wN fun _ hnl => ?_); revert hnl; (repeat refine wS fun _ _ => ?_); intro hnl) | refine wD (by decide +kernel) ?_ | refine wI (fun h => ?_) fun h => ?_ | refine wF (fun h => ?_) fun h => ?_ | refine wG (fun h => ?_) fun h => ?_ | refine wH (fun h => ?_) fun h => ?_ | ((first | refine mfork_bool (fun h => ?_) fun h => ?_ | refine mgfork_bool (fun h => ?_) fun h => ?_) <;> simp only [h])) | simp (maxSteps := 4000000) (disch := first | decide | assumption | omega | (simp only [wL]; omega)) only [go_sem, simprocAttr, tabM_len, tabM_done, tabM_all, tabM_take, tabM_drop, Nat.min_self])
end Go.Proofs.Ytielcgplbnlgbaa
end

section
/- Contracts of logic.tables, Implies and Equal: the conditions that the theorems name. -/
set_option linter.unusedVariables false
set_option linter.unusedSimpArgs false
namespace Go.Proofs.Ytielcgplbnlgbaa

theorem sem_asP {l : List ND} {t : T} (ht : t.ok) (hall : ∀ x, x ∈ t.fl → isAtom x = true → x ∈ l) (on : Nat) : t.sem (asP l on) = t.sem (asg l on) :=
  sem_congr t ht fun x hx hat => by rw [asP, asg, decide_eq_true (hall x hx hat), Bool.true_and]

theorem lens_two {a b : List ND} : [a, b].flatten = a ++ b := by simp

/-- What two trees' tables are. -/
def tabsV (s t : T) : MV :=
  if (atomsS (s.fl ++ t.fl)).length ≤ 10 then .tup [tabV fun on => s.sem (asg (atomsS (s.fl ++ t.fl)) on), tabV fun on => t.sem (asg (atomsS (s.fl ++ t.fl)) on), .int .i64 0]
  else .tup [.agg tz, .agg tz, .int .i64 4]

theorem tables_not (a b : List ND) (ta tb : Bool) (h : (fitS a && fitS b) = false) : MCalls Try.prog 37 [.lst 5 (a.map ND.c) ta, .lst 5 (b.map ND.c) tb] St.none (fun r _ => r = .tup [.agg tz, .agg tz, .int .i64 1]) := by
  refine (MCalls.body 45 [.cell 4 54, .cell 5 54, .tmp 6] Try.func37 rfl rfl rfl rfl ?_)
  have h1 := nfit_call a ta
  have h2 := nfit_call b tb
  cases ha : fitS a <;> cases hb : fitS b
  · rw [ha] at h1; rw [hb] at h2
    repeat' (first | (with_reducible refine use_pure h1 ?_) | (with_reducible refine use_pure h2 ?_) | (with_reducible first | (refine wT ?_; refine wN fun _ hnl => ?_; revert hnl; (repeat refine wS fun _ _ => ?_); intro hnl) | refine wD (by decide +kernel) ?_ | refine wI (fun h => ?_) fun h => ?_ | refine wF (fun h => ?_) fun h => ?_ | refine wG (fun h => ?_) fun h => ?_ | refine wH (fun h => ?_) fun h => ?_ | ((first | refine mfork_bool (fun h => ?_) fun h => ?_ | refine mgfork_bool (fun h => ?_) fun h => ?_) <;> simp only [h])) | simp (maxSteps := 4000000) (disch := first | decide | assumption | omega | (simp only [wL]; omega)) only [go_sem, simprocAttr, Try.f37, zero16, tabM_len, tabM_all, tabM_take, tabM_drop, Nat.min_self])
  · rw [ha] at h1; rw [hb] at h2
    repeat' (first | (with_reducible refine use_pure h1 ?_) | (with_reducible refine use_pure h2 ?_) | (with_reducible first | (refine wT ?_; refine wN fun _ hnl => ?_; revert hnl; (repeat refine wS fun _ _ => ?_); intro hnl) | refine wD (by decide +kernel) ?_ | refine wI (fun h => ?_) fun h => ?_ | refine wF (fun h => ?_) fun h => ?_ | refine wG (fun h => ?_) fun h => ?_ | refine wH (fun h => ?_) fun h => ?_ | ((first | refine mfork_bool (fun h => ?_) fun h => ?_ | refine mgfork_bool (fun h => ?_) fun h => ?_) <;> simp only [h])) | simp (maxSteps := 4000000) (disch := first | decide | assumption | omega | (simp only [wL]; omega)) only [go_sem, simprocAttr, Try.f37, zero16, tabM_len, tabM_all, tabM_take, tabM_drop, Nat.min_self])
  · rw [ha] at h1; rw [hb] at h2
    repeat' (first | (with_reducible refine use_pure h1 ?_) | (with_reducible refine use_pure h2 ?_) | (with_reducible first | (refine wT ?_; refine wN fun _ hnl => ?_; revert hnl; (repeat refine wS fun _ _ => ?_); intro hnl) | refine wD (by decide +kernel) ?_ | refine wI (fun h => ?_) fun h => ?_ | refine wF (fun h => ?_) fun h => ?_ | refine wG (fun h => ?_) fun h => ?_ | refine wH (fun h => ?_) fun h => ?_ | ((first | refine mfork_bool (fun h => ?_) fun h => ?_ | refine mgfork_bool (fun h => ?_) fun h => ?_) <;> simp only [h])) | simp (maxSteps := 4000000) (disch := first | decide | assumption | omega | (simp only [wL]; omega)) only [go_sem, simprocAttr, Try.f37, zero16, tabM_len, tabM_all, tabM_take, tabM_drop, Nat.min_self])
  · rw [ha, hb] at h; cases h

set_option maxHeartbeats 4000000 in
theorem tables_fit (s t : T) (hs : FT s) (ht : FT t) : MCalls Try.prog 37 [.lst 5 (s.fl.map ND.c) false, .lst 5 (t.fl.map ND.c) false] St.none (fun r _ => r = tabsV s t) := by
  refine (MCalls.body 45 [.cell 4 54, .cell 5 54, .tmp 6] Try.func37 rfl rfl rfl rfl ?_)
  have h1 := nfit_call s.fl false
  have h2 := nfit_call t.fl false
  rw [hs.fit] at h1
  rw [ht.fit] at h2
  have hls := hs.len
  have hlt := ht.len
  have h3 := atoms_call [s.fl, t.fl] false (by simp) (fun l hl => by
    simp only [List.mem_cons, List.not_mem_nil, or_false] at hl
    rcases hl with rfl | rfl <;> omega)
  rw [lens_two] at h3
  have hmem : ∀ x, x ∈ s.fl ++ t.fl → isAtom x = true → x ∈ atomsS (s.fl ++ t.fl) := fun x hx ha => mem_atoms.2 ⟨hx, ha⟩
  have hr := atoms_rising (s.fl ++ t.fl)
  have e1 : (fun on => s.sem (asP (atomsS (s.fl ++ t.fl)) on)) = fun on => s.sem (asg (atomsS (s.fl ++ t.fl)) on) := funext fun on => sem_asP hs.good.1 (fun x hx ha => hmem x (List.mem_append.2 (.inl hx)) ha) on
  have e2 : (fun on => t.sem (asP (atomsS (s.fl ++ t.fl)) on)) = fun on => t.sem (asg (atomsS (s.fl ++ t.fl)) on) := funext fun on => sem_asP ht.good.1 (fun x hx ha => hmem x (List.mem_append.2 (.inr hx)) ha) on
  unfold tabsV
  generalize atomsS (s.fl ++ t.fl) = l at h3 hr e1 e2 hmem ⊢
  simp only [List.map_cons, List.map_nil] at h3
  by_cases h10 : l.length ≤ 10
  · rw [if_pos h10]
    have c1 := filled_call l (by omega) hr false s hs.good.1 [] false (by rw [List.append_nil]; omega)
    have c2 := filled_call l (by omega) hr false t ht.good.1 [] false (by rw [List.append_nil]; omega)
    rw [List.append_nil, e1] at c1
    rw [List.append_nil, e2] at c2
    repeat' (first | (with_reducible refine use_pure h1 ?_) | (with_reducible refine use_pure h2 ?_) | (with_reducible first | (refine wT ?_; (first | ((fail_if_success (have := nl1)); refine wN fun nl1 hnl => ?_) | ((fail_if_success (have := nl2)); refine wN fun nl2 hnl => ?_) | ((fail_if_success (have := nl3)); refine wN fun nl3 hnl => ?_) | ((fail_if_success (have := nl4)); refine wN fun nl4 hnl => ?_) | ((fail_if_success (have := nl5)); refine wN fun nl5 hnl => ?_) | refine wN fun _ hnl => ?_); revert hnl; (repeat refine wS fun _ _ => ?_); intro hnl) | refine wD (by decide +kernel) ?_ | refine wI (fun h => ?_) fun h => ?_ | refine wF (fun h => ?_) fun h => ?_ | refine wG (fun h => ?_) fun h => ?_ | refine wH (fun h => ?_) fun h => ?_ | ((first | refine mfork_bool (fun h => ?_) fun h => ?_ | refine mgfork_bool (fun h => ?_) fun h => ?_) <;> simp only [h])) | simp (maxSteps := 4000000) (disch := first | decide | assumption | omega | (simp only [wL]; omega)) only [go_sem, simprocAttr, Try.f37, zero16, tabM_len, tabM_all, tabM_take, tabM_drop, Nat.min_self])
    refine use_give1 _ nl3 h3 (set_hit _ _ _) rfl (views_one (.vecAll (set_hit _ _ _) rfl)) ?_
    repeat' (first | (with_reducible refine use_pure c1 ?_) | (with_reducible refine use_pure c2 ?_) | (with_reducible first | (refine wT ?_; (first | ((fail_if_success (have := nl1)); refine wN fun nl1 hnl => ?_) | ((fail_if_success (have := nl2)); refine wN fun nl2 hnl => ?_) | ((fail_if_success (have := nl3)); refine wN fun nl3 hnl => ?_) | ((fail_if_success (have := nl4)); refine wN fun nl4 hnl => ?_) | ((fail_if_success (have := nl5)); refine wN fun nl5 hnl => ?_) | refine wN fun _ hnl => ?_); revert hnl; (repeat refine wS fun _ _ => ?_); intro hnl) | refine wD (by decide +kernel) ?_ | refine wI (fun h => ?_) fun h => ?_ | refine wF (fun h => ?_) fun h => ?_ | refine wG (fun h => ?_) fun h => ?_ | refine wH (fun h => ?_) fun h => ?_ | ((first | refine mfork_bool (fun h => ?_) fun h => ?_ | refine mgfork_bool (fun h => ?_) fun h => ?_) <;> simp only [h])) | simp (maxSteps := 4000000) (disch := first | decide | assumption | omega | (simp only [wL]; omega)) only [go_sem, simprocAttr, zero16, tabM_len, tabM_all, tabM_take, tabM_drop, Nat.min_self])
    refine mdraw_dis mixed [(4, nl1), (5, nl2), (8, nl4), (10, nl5)] [4, 5, 8, 10] rfl (by decide +kernel) (fun _ _ => none) ?_ ?_ (by decide) ?_
    · intro p hp
      simp only [List.mem_cons, List.not_mem_nil, or_false] at hp
      rcases hp with rfl | rfl | rfl | rfl <;> exact ⟨0, 0, rfl⟩
    · simp only [List.map_cons, List.map_nil, List.pairwise_cons, List.mem_cons, List.not_mem_nil, or_false, forall_eq_or_imp, forall_eq, false_imp_iff, implies_true, and_true, List.Pairwise.nil]
      refine ⟨⟨?_, ?_, ?_⟩, ⟨?_, ?_⟩, ?_⟩ <;> assumption
    repeat' (first | (with_reducible first | (refine wT ?_; (first | ((fail_if_success (have := nl1)); refine wN fun nl1 hnl => ?_) | ((fail_if_success (have := nl2)); refine wN fun nl2 hnl => ?_) | ((fail_if_success (have := nl3)); refine wN fun nl3 hnl => ?_) | ((fail_if_success (have := nl4)); refine wN fun nl4 hnl => ?_) | ((fail_if_success (have := nl5)); refine wN fun nl5 hnl => ?_) | refine wN fun _ hnl => ?_); revert hnl; (repeat refine wS fun _ _ => ?_); intro hnl) | refine wD (by decide +kernel) ?_ | refine wI (fun h => ?_) fun h => ?_ | refine wF (fun h => ?_) fun h => ?_ | refine wG (fun h => ?_) fun h => ?_ | refine wH (fun h => ?_) fun h => ?_ | ((first | refine mfork_bool (fun h => ?_) fun h => ?_ | refine mgfork_bool (fun h => ?_) fun h => ?_) <;> simp only [h])) | simp (maxSteps := 4000000) (disch := first | decide | assumption | omega | (simp only [wL]; omega)) only [go_sem, simprocAttr, zero16, tabM_len, tabM_all, tabM_take, tabM_drop, Nat.min_self])
  · rw [if_neg h10]
    repeat' (first | (with_reducible refine use_pure h1 ?_) | (with_reducible refine use_pure h2 ?_) | (with_reducible first | (refine wT ?_; (first | ((fail_if_success (have := nl1)); refine wN fun nl1 hnl => ?_) | ((fail_if_success (have := nl2)); refine wN fun nl2 hnl => ?_) | ((fail_if_success (have := nl3)); refine wN fun nl3 hnl => ?_) | ((fail_if_success (have := nl4)); refine wN fun nl4 hnl => ?_) | ((fail_if_success (have := nl5)); refine wN fun nl5 hnl => ?_) | refine wN fun _ hnl => ?_); revert hnl; (repeat refine wS fun _ _ => ?_); intro hnl) | refine wD (by decide +kernel) ?_ | refine wI (fun h => ?_) fun h => ?_ | refine wF (fun h => ?_) fun h => ?_ | refine wG (fun h => ?_) fun h => ?_ | refine wH (fun h => ?_) fun h => ?_ | ((first | refine mfork_bool (fun h => ?_) fun h => ?_ | refine mgfork_bool (fun h => ?_) fun h => ?_) <;> simp only [h])) | simp (maxSteps := 4000000) (disch := first | decide | assumption | omega | (simp only [wL]; omega)) only [go_sem, simprocAttr, Try.f37, zero16, tabM_len, tabM_all, tabM_take, tabM_drop, Nat.min_self])
    refine use_give1 _ nl3 h3 (set_hit _ _ _) rfl (views_one (.vecAll (set_hit _ _ _) rfl)) ?_
    repeat' (first | (with_reducible first | (refine wT ?_; (first | ((fail_if_success (have := nl1)); refine wN fun nl1 hnl => ?_) | ((fail_if_success (have := nl2)); refine wN fun nl2 hnl => ?_) | ((fail_if_success (have := nl3)); refine wN fun nl3 hnl => ?_) | ((fail_if_success (have := nl4)); refine wN fun nl4 hnl => ?_) | ((fail_if_success (have := nl5)); refine wN fun nl5 hnl => ?_) | refine wN fun _ hnl => ?_); revert hnl; (repeat refine wS fun _ _ => ?_); intro hnl) | refine wD (by decide +kernel) ?_ | refine wI (fun h => ?_) fun h => ?_ | refine wF (fun h => ?_) fun h => ?_ | refine wG (fun h => ?_) fun h => ?_ | refine wH (fun h => ?_) fun h => ?_ | ((first | refine mfork_bool (fun h => ?_) fun h => ?_ | refine mgfork_bool (fun h => ?_) fun h => ?_) <;> simp only [h])) | simp (maxSteps := 4000000) (disch := first | decide | assumption | omega | (simp only [wL]; omega)) only [go_sem, simprocAttr, zero16, tabM_len, tabM_all, tabM_take, tabM_drop, Nat.min_self])

theorem tabM_inj {h g : Nat → Nat} : tabM h = tabM g ↔ ∀ i, i < 16 → h i = g i := by
  constructor
  · intro e i hi
    have := congrArg (fun l : List MV => l.getD i .junk) e
    simp only [tabM_get hi, MV.int.injEq, true_and] at this
    exact_mod_cast this
  · exact tabM_ext

theorem impB_tw {l : List ND} (hr : Rising (l.map ND.key)) (hl : l.length ≤ 10) (s t : T) : impB l s t = (List.range 16).all (fun i => decide (tw (fun on => s.sem (asg l on) && !t.sem (asg l on)) i = 0)) := by
  rw [impB_1024 hr hl, Bool.eq_iff_iff, List.all_eq_true, List.all_eq_true]
  simp only [List.mem_range, decide_eq_true_eq]
  rw [show (∀ i, i < 16 → tw (fun on => s.sem (asg l on) && !t.sem (asg l on)) i = 0) ↔ _ from tw_le (f := fun on => s.sem (asg l on)) (g := fun on => t.sem (asg l on))]
  constructor
  · intro h on hon hs
    have := h on hon
    rw [hs] at this
    simpa using this
  · intro h on hon
    cases e : s.sem (asg l on)
    · rfl
    · rw [h on hon e]; rfl

set_option maxHeartbeats 4000000 in
theorem limplies_fit (s t : T) (hs : FT s) (ht : FT t) : MCalls Try.prog 15 [.lst 5 (s.fl.map ND.c) false, .lst 5 (t.fl.map ND.c) false] St.none (fun r _ => r = impV s t) := by
  refine (MCalls.body 33 [.tmp 4, .tmp 5] Try.func15 rfl rfl rfl rfl ?_)
  have h1 := tables_fit s t hs ht
  have hr := atoms_rising (s.fl ++ t.fl)
  unfold impV
  unfold tabsV at h1
  generalize atomsS (s.fl ++ t.fl) = l at h1 hr ⊢
  by_cases h10 : l.length ≤ 10
  · rw [if_pos h10] at h1 ⊢
    have hout := impB_tw hr h10 s t
    generalize impB l s t = out at hout ⊢
    generalize hf : (fun on => s.sem (asg l on)) = f at h1
    generalize hg : (fun on => t.sem (asg l on)) = g at h1
    have e : (fun on => s.sem (asg l on) && !t.sem (asg l on)) = fun on => f on && !g on := by rw [← hf, ← hg]
    rw [e] at hout
    repeat' (first | (with_reducible refine use_pure h1 ?_) | (with_reducible first | (refine wT ?_; (first | ((fail_if_success (have := nl1)); refine wN fun nl1 hnl => ?_) | ((fail_if_success (have := nl2)); refine wN fun nl2 hnl => ?_) | refine wN fun _ hnl => ?_); revert hnl; (repeat refine wS fun _ _ => ?_); intro hnl) | refine wD (by decide +kernel) ?_ | refine wI (fun h => ?_) fun h => ?_ | refine wF (fun h => ?_) fun h => ?_ | refine wG (fun h => ?_) fun h => ?_ | refine wH (fun h => ?_) fun h => ?_ | ((first | refine mfork_bool (fun h => ?_) fun h => ?_ | refine mgfork_bool (fun h => ?_) fun h => ?_) <;> simp only [h])) | simp (maxSteps := 4000000) (disch := first | decide | assumption | omega | (simp only [wL]; omega)) only [go_sem, simprocAttr, Try.f15, zero16, tabM_len, tabM_all, tabM_take, tabM_drop, Nat.min_self])
    refine mloop_intro (α := Nat) (fun i => ⟨33, [(22, .int .i64 (i : Int)), (21, .agg (tabM (tw f))), (7, .ptr nl2 0 0)], []⟩)
      (fun _ => St.none.set nl2 (.row 54 16 [tabM (tw g)])) (fun i => i ≤ 16 ∧ ∀ q, q < i → tw (fun on => f on && !g on) q = 0) (fun i => 16 - i) (.of (.less ?_ (St.set_le_set (St.none_le _))) ⟨0, rfl, rfl, Nat.zero_le _, fun q hq => absurd hq (Nat.not_lt_zero _)⟩) ?_
    · simp (maxSteps := 4000000) (disch := first | decide | assumption | omega | (simp only [wL]; omega)) only [go_sem, simprocAttr, weak_int, weak_same]
      all_goals rfl
    · rintro i ⟨hi, hq⟩
      by_cases hlt : i < 16
      · have ha := tw_andNot f g i
        by_cases h0 : tw (fun on => f on && !g on) i = 0
        · rw [h0] at ha
          repeat' (first | (with_reducible first | (refine wT ?_; (first | ((fail_if_success (have := nl1)); refine wN fun nl1 hnl => ?_) | ((fail_if_success (have := nl2)); refine wN fun nl2 hnl => ?_) | refine wN fun _ hnl => ?_); revert hnl; (repeat refine wS fun _ _ => ?_); intro hnl) | refine wD (by decide +kernel) ?_ | refine wI (fun h => ?_) fun h => ?_ | refine wF (fun h => ?_) fun h => ?_ | refine wG (fun h => ?_) fun h => ?_ | refine wH (fun h => ?_) fun h => ?_ | ((first | refine mfork_bool (fun h => ?_) fun h => ?_ | refine mgfork_bool (fun h => ?_) fun h => ?_) <;> simp only [h])) | simp (maxSteps := 4000000) (disch := first | decide | assumption | omega | (simp only [wL]; omega)) only [go_sem, simprocAttr, Nat.mul_one, tabM_len, tabM_get hlt, ha])
          refine .of (.less ?_ (St.le_refl _)) ⟨i + 1, rfl, rfl, ⟨by omega, fun q hq' => ?_⟩, by omega⟩
          · simp (maxSteps := 4000000) (disch := first | decide | assumption | omega | (simp only [wL]; omega)) only [go_sem, simprocAttr, weak_int, weak_same]
            all_goals rfl
          · rcases Nat.lt_or_ge q i with h3 | h3
            · exact hq q h3
            · rw [show q = i by omega]; exact h0
        · have hF : (List.range 16).all (fun i => decide (tw (fun on => f on && !g on) i = 0)) = false := by
            rw [List.all_eq_false]
            exact ⟨i, List.mem_range.2 hlt, by simpa using h0⟩
          rw [hF] at hout
          subst hout
          obtain ⟨w, hw⟩ : ∃ w, tw (fun on => f on && !g on) i = w := ⟨_, rfl⟩
          rw [hw] at ha h0
          repeat' (first | (with_reducible first | (refine wT ?_; (first | ((fail_if_success (have := nl1)); refine wN fun nl1 hnl => ?_) | ((fail_if_success (have := nl2)); refine wN fun nl2 hnl => ?_) | refine wN fun _ hnl => ?_); revert hnl; (repeat refine wS fun _ _ => ?_); intro hnl) | refine wD (by decide +kernel) ?_ | refine wI (fun h => ?_) fun h => ?_ | refine wF (fun h => ?_) fun h => ?_ | refine wG (fun h => ?_) fun h => ?_ | refine wH (fun h => ?_) fun h => ?_ | ((first | refine mfork_bool (fun h => ?_) fun h => ?_ | refine mgfork_bool (fun h => ?_) fun h => ?_) <;> simp only [h])) | simp (maxSteps := 4000000) (disch := first | decide | assumption | omega | (simp only [wL]; omega)) only [go_sem, simprocAttr, Nat.mul_one, tabM_len, tabM_get hlt, ha])
      · have hT : (List.range 16).all (fun i => decide (tw (fun on => f on && !g on) i = 0)) = true := by
          rw [List.all_eq_true]
          exact fun q hqm => decide_eq_true (hq q (by have := List.mem_range.1 hqm; omega))
        rw [hT] at hout
        subst hout
        repeat' (first | (with_reducible first | (refine wT ?_; (first | ((fail_if_success (have := nl1)); refine wN fun nl1 hnl => ?_) | ((fail_if_success (have := nl2)); refine wN fun nl2 hnl => ?_) | refine wN fun _ hnl => ?_); revert hnl; (repeat refine wS fun _ _ => ?_); intro hnl) | refine wD (by decide +kernel) ?_ | refine wI (fun h => ?_) fun h => ?_ | refine wF (fun h => ?_) fun h => ?_ | refine wG (fun h => ?_) fun h => ?_ | refine wH (fun h => ?_) fun h => ?_ | ((first | refine mfork_bool (fun h => ?_) fun h => ?_ | refine mgfork_bool (fun h => ?_) fun h => ?_) <;> simp only [h])) | simp (maxSteps := 4000000) (disch := first | decide | assumption | omega | (simp only [wL]; omega)) only [go_sem, simprocAttr])
  · rw [if_neg h10] at h1 ⊢
    repeat' (first | (with_reducible refine use_pure h1 ?_) | (with_reducible first | (refine wT ?_; (first | ((fail_if_success (have := nl1)); refine wN fun nl1 hnl => ?_) | ((fail_if_success (have := nl2)); refine wN fun nl2 hnl => ?_) | refine wN fun _ hnl => ?_); revert hnl; (repeat refine wS fun _ _ => ?_); intro hnl) | refine wD (by decide +kernel) ?_ | refine wI (fun h => ?_) fun h => ?_ | refine wF (fun h => ?_) fun h => ?_ | refine wG (fun h => ?_) fun h => ?_ | refine wH (fun h => ?_) fun h => ?_ | ((first | refine mfork_bool (fun h => ?_) fun h => ?_ | refine mgfork_bool (fun h => ?_) fun h => ?_) <;> simp only [h])) | simp (maxSteps := 4000000) (disch := first | decide | assumption | omega | (simp only [wL]; omega)) only [go_sem, simprocAttr, Try.f15, zero16, tabM_len, tabM_all, tabM_take, tabM_drop, Nat.min_self])

theorem limplies_not (a b : List ND) (ta tb : Bool) (h : (fitS a && fitS b) = false) : MCalls Try.prog 15 [.lst 5 (a.map ND.c) ta, .lst 5 (b.map ND.c) tb] St.none (fun r _ => r = .tup [.bool false, .int .i64 1]) := by
  refine (MCalls.body 33 [.tmp 4, .tmp 5] Try.func15 rfl rfl rfl rfl ?_)
  have h1 := tables_not a b ta tb h
  repeat' (first | (with_reducible refine use_pure h1 ?_) | (with_reducible first | (refine wT ?_; refine wN fun _ hnl => ?_; revert hnl; (repeat refine wS fun _ _ => ?_); intro hnl) | refine wD (by decide +kernel) ?_ | refine wI (fun h => ?_) fun h => ?_ | refine wF (fun h => ?_) fun h => ?_ | refine wG (fun h => ?_) fun h => ?_ | refine wH (fun h => ?_) fun h => ?_ | ((first | refine mfork_bool (fun h => ?_) fun h => ?_ | refine mgfork_bool (fun h => ?_) fun h => ?_) <;> simp only [h])) | simp (maxSteps := 4000000) (disch := first | decide | assumption | omega | (simp only [wL]; omega)) only [go_sem, simprocAttr, Try.f15, zero16, tabM_len, tabM_all, tabM_take, tabM_drop, Nat.min_self])

theorem lequal_not (a b : List ND) (ta tb : Bool) (h : (fitS a && fitS b) = false) : MCalls Try.prog 17 [.lst 5 (a.map ND.c) ta, .lst 5 (b.map ND.c) tb] St.none (fun r _ => r = .tup [.bool false, .int .i64 1]) := by
  refine (MCalls.body 24 [.tmp 4, .tmp 5] Try.func17 rfl rfl rfl rfl ?_)
  have h1 := tables_not a b ta tb h
  repeat' (first | (with_reducible refine use_pure h1 ?_) | (with_reducible first | (refine wT ?_; refine wN fun _ hnl => ?_; revert hnl; (repeat refine wS fun _ _ => ?_); intro hnl) | refine wD (by decide +kernel) ?_ | refine wI (fun h => ?_) fun h => ?_ | refine wF (fun h => ?_) fun h => ?_ | refine wG (fun h => ?_) fun h => ?_ | refine wH (fun h => ?_) fun h => ?_ | ((first | refine mfork_bool (fun h => ?_) fun h => ?_ | refine mgfork_bool (fun h => ?_) fun h => ?_) <;> simp only [h])) | simp (maxSteps := 4000000) (disch := first | decide | assumption | omega | (simp only [wL]; omega)) only [go_sem, simprocAttr, Try.f17, zero16, tabM_len, tabM_all, tabM_take, tabM_drop, Nat.min_self])

theorem tab_eqs {e : TypeId} (he : td Try.prog e = { ok := true, size := 1, bytes := 8, zok := true, zero := [.int .u64 0], k := .int .u64 }) (d : Nat) (f g : Nat → Nat) : ∀ L : List Nat, (∀ i, i ∈ L → i < 16) →
    meqFields Try.prog (meqs Try.prog (d + 1)) (tabM f) (tabM g) (L.map fun i => (i * 1, e)) = some (L.all fun i => decide (f i = g i))
  | [], _ => rfl
  | i :: L, h => by
    have hi := h i (List.mem_cons_self ..)
    rw [List.map_cons, meqFields, tab_eqs he d f g L fun j hj => h j (List.mem_cons_of_mem _ hj)]
    simp only [he, tabM_len]
    rw [if_pos ⟨trivial, by omega, by omega, by omega⟩]
    simp only [mpart, TK.isAgg, Bool.false_eq_true, if_false, tabM_get1 hi, meqs, he, if_true, Option.map_some, List.all_cons]
    have : decide ((f i : Int) = (g i : Int)) = decide (f i = g i) := decide_eq_decide.mpr ⟨fun h => by exact_mod_cast h, fun h => by rw [h]⟩
    rw [this]
set_option maxRecDepth 100000 in
theorem tab_eq (f g : Nat → Nat) : meqs Try.prog 6 54 (.agg (tabM f)) (.agg (tabM g)) = some ((List.range 16).all fun i => decide (f i = g i)) := by
  have h := tab_eqs td52 4 f g (List.range 16) fun i hi => List.mem_range.1 hi
  simp only [meqs, td54, td52, if_true]
  exact h

theorem imp_both {l : List ND} (hr : Rising (l.map ND.key)) (h10 : l.length ≤ 10) (s t : T) : (impB l s t && impB l t s) = (List.range 16).all fun i => decide (tw (fun on => s.sem (asg l on)) i = tw (fun on => t.sem (asg l on)) i) := by
  rw [Bool.eq_iff_iff, Bool.and_eq_true, impB_1024 hr h10, impB_1024 hr h10, List.all_eq_true, List.all_eq_true, List.all_eq_true]
  simp only [List.mem_range, decide_eq_true_eq]
  rw [show (∀ i, i < 16 → tw (fun on => s.sem (asg l on)) i = tw (fun on => t.sem (asg l on)) i) ↔ _ from tw_all (f := fun on => s.sem (asg l on)) (g := fun on => t.sem (asg l on))]
  constructor
  · rintro ⟨h1, h2⟩ on hon
    have a1 := h1 on hon
    have a2 := h2 on hon
    revert a1 a2
    cases s.sem (asg l on) <;> cases t.sem (asg l on) <;> simp
  · intro h
    refine ⟨fun on hon => ?_, fun on hon => ?_⟩ <;> rw [h on hon] <;> cases t.sem (asg l on) <;> rfl

set_option maxHeartbeats 400000 in
set_option maxRecDepth 10000 in
theorem lequal_fit (s t : T) (hs : FT s) (ht : FT t) : MCalls Try.prog 17 [.lst 5 (s.fl.map ND.c) false, .lst 5 (t.fl.map ND.c) false] St.none (fun r _ => r = eqV' s t) := by
  refine (MCalls.body 24 [.tmp 4, .tmp 5] Try.func17 rfl rfl rfl rfl ?_)
  have h1 := tables_fit s t hs ht
  have hr := atoms_rising (s.fl ++ t.fl)
  unfold eqV'
  unfold tabsV at h1
  generalize atomsS (s.fl ++ t.fl) = l at h1 hr ⊢
  by_cases h10 : l.length ≤ 10
  · rw [if_pos h10] at h1 ⊢
    have hout := imp_both hr h10 s t
    generalize (impB l s t && impB l t s) = out at hout ⊢
    generalize (fun on => s.sem (asg l on)) = f at h1 hout
    generalize (fun on => t.sem (asg l on)) = g at h1 hout
    have hte := tab_eq (tw f) (tw g)
    rw [← hout] at hte
    repeat' (first | (with_reducible refine use_pure h1 ?_) | (with_reducible first | (refine wT ?_; refine wN fun _ hnl => ?_; revert hnl; (repeat refine wS fun _ _ => ?_); intro hnl) | refine wD (by decide +kernel) ?_ | refine wI (fun h => ?_) fun h => ?_ | refine wF (fun h => ?_) fun h => ?_ | refine wG (fun h => ?_) fun h => ?_ | refine wH (fun h => ?_) fun h => ?_ | ((first | refine mfork_bool (fun h => ?_) fun h => ?_ | refine mgfork_bool (fun h => ?_) fun h => ?_) <;> simp only [h])) | simp (maxSteps := 4000000) (disch := first | decide | assumption | omega | (simp only [wL]; omega)) only [go_sem, simprocAttr, Try.f17, ↓hte, zero16, tabM_len, tabM_all, tabM_take, tabM_drop, Nat.min_self])
  · rw [if_neg h10] at h1 ⊢
    repeat' (first | (with_reducible refine use_pure h1 ?_) | (with_reducible first | (refine wT ?_; refine wN fun _ hnl => ?_; revert hnl; (repeat refine wS fun _ _ => ?_); intro hnl) | refine wD (by decide +kernel) ?_ | refine wI (fun h => ?_) fun h => ?_ | refine wF (fun h => ?_) fun h => ?_ | refine wG (fun h => ?_) fun h => ?_ | refine wH (fun h => ?_) fun h => ?_ | ((first | refine mfork_bool (fun h => ?_) fun h => ?_ | refine mgfork_bool (fun h => ?_) fun h => ?_) <;> simp only [h])) | simp (maxSteps := 4000000) (disch := first | decide | assumption | omega | (simp only [wL]; omega)) only [go_sem, simprocAttr, Try.f17, zero16, tabM_len, tabM_all, tabM_take, tabM_drop, Nat.min_self])
end Go.Proofs.Ytielcgplbnlgbaa
end

section
/- Contracts of logic.Says: the conditions that the theorems name. -/
set_option linter.unusedVariables false
set_option linter.unusedSimpArgs false
namespace Go.Proofs.Ytielcgplbnlgbaa

set_option maxHeartbeats 8000000 in
theorem lsays0_call (al : List ND) (la : al.length ≤ 100000) (hr : Rising (al.map ND.key)) (ta : Bool) (on : Nat) (hon : on < 4294967296) : ∀ (t : T), t.ok → ∀ (r : List ND) (tt : Bool), (t.fl ++ r).length ≤ 100000 →
    MCalls Try.prog 46 [.lst 5 ((t.fl ++ r).map ND.c) tt, .lst 5 (al.map ND.c) ta, .int .u32 (on : Int)] St.none (fun v _ => v = .tup [.bool (t.sem (asg al on)), .lst 5 (r.map ND.c) tt])
  | .leaf x, h, r, tt, hl => by
    refine (MCalls.body 89 [.tmp 6, .tmp 7] Try.func46 rfl rfl rfl rfl ?_)
    simp only [T.fl, List.cons_append, List.nil_append] at hl ⊢
    have hp : x.op ≠ 10 ∧ x.op ≠ 11 ∧ x.op ≠ 12 := by
      refine ⟨fun e => ?_, fun e => ?_, fun e => ?_⟩ <;> (simp only [T.ok, e] at h; revert h; decide)
    obtain ⟨p1, p2, p3⟩ := hp
    have hg : ((x :: r).map ND.c).getD 0 [] = x.c := rfl
    by_cases h2 : x.op = 2
    · have e : (T.leaf x).sem (asg al on) = false := by simp [T.sem, h2]
      rw [e]
      repeat' (first | (with_reducible first | (refine wT ?_; refine wN fun _ hnl => ?_; revert hnl; (repeat refine wS fun _ _ => ?_); intro hnl) | refine wD (by decide +kernel) ?_ | refine wI (fun h => ?_) fun h => ?_ | refine wF (fun h => ?_) fun h => ?_ | refine wG (fun h => ?_) fun h => ?_ | refine wH (fun h => ?_) fun h => ?_ | ((first | refine mfork_bool (fun h => ?_) fun h => ?_ | refine mgfork_bool (fun h => ?_) fun h => ?_) <;> simp only [h])) | simp (maxSteps := 4000000) (disch := first | decide | assumption | omega | (simp only [wL]; omega)) only [go_sem, simprocAttr, Try.f46, hg, h2, List.drop_succ_cons, List.drop_zero])
    · by_cases h1 : x.op = 1
      · have e : (T.leaf x).sem (asg al on) = true := by simp [T.sem, h1]
        rw [e]
        repeat' (first | (with_reducible first | (refine wT ?_; refine wN fun _ hnl => ?_; revert hnl; (repeat refine wS fun _ _ => ?_); intro hnl) | refine wD (by decide +kernel) ?_ | refine wI (fun h => ?_) fun h => ?_ | refine wF (fun h => ?_) fun h => ?_ | refine wG (fun h => ?_) fun h => ?_ | refine wH (fun h => ?_) fun h => ?_ | ((first | refine mfork_bool (fun h => ?_) fun h => ?_ | refine mgfork_bool (fun h => ?_) fun h => ?_) <;> simp only [h])) | simp (maxSteps := 4000000) (disch := first | decide | assumption | omega | (simp only [wL]; omega)) only [go_sem, simprocAttr, Try.f46, hg, h1, List.drop_succ_cons, List.drop_zero])
      · have e : (T.leaf x).sem (asg al on) = asg al on x := by simp [T.sem, h1, h2]
        rw [e]
        have hb := bsearch_call al (by omega) ta x hr
        have hpl : posK al x ≤ 1000000 := Nat.le_trans List.findIdx_le_length (by omega)
        have hbit := bit_u32 on (posK al x) hon
        unfold asg
        generalize posK al x = k at hb hpl hbit ⊢
        cases hx : decide (x ∈ al) <;> cases ht : on.testBit k <;> rw [hx] at hb <;> rw [ht] at hbit
        all_goals simp only [if_true, Bool.false_eq_true, if_false] at hbit
        all_goals repeat' (first | (with_reducible refine use_pure hb ?_) | (with_reducible first | (refine wT ?_; refine wN fun _ hnl => ?_; revert hnl; (repeat refine wS fun _ _ => ?_); intro hnl) | refine wD (by decide +kernel) ?_ | refine wI (fun h => ?_) fun h => ?_ | refine wF (fun h => ?_) fun h => ?_ | refine wG (fun h => ?_) fun h => ?_ | refine wH (fun h => ?_) fun h => ?_ | ((first | refine mfork_bool (fun h => ?_) fun h => ?_ | refine mgfork_bool (fun h => ?_) fun h => ?_) <;> simp only [h])) | simp (maxSteps := 4000000) (disch := first | decide | assumption | omega | (simp only [wL]; omega)) only [go_sem, simprocAttr, Try.f46, hg, h1, h2, List.drop_succ_cons, List.drop_zero, hbit])
  | .one x a, h, r, tt, hl => by
    refine (MCalls.body 89 [.tmp 6, .tmp 7] Try.func46 rfl rfl rfl rfl ?_)
    have h1 := parts_one h.1
    have ih := lsays0_call al la hr ta on hon a h.2 r tt (by simp only [T.fl, List.cons_append, List.length_cons] at hl; omega)
    simp only [T.fl, List.cons_append] at hl ⊢
    have hg : ((x :: (a.fl ++ r)).map ND.c).getD 0 [] = x.c := rfl
    have e : (T.one x a).sem (asg al on) = !a.sem (asg al on) := by simp [T.sem]
    rw [e]
    generalize a.sem (asg al on) = f at ih
    repeat' (first | (with_reducible refine use_pure ih ?_) | (with_reducible first | (refine wT ?_; refine wN fun _ hnl => ?_; revert hnl; (repeat refine wS fun _ _ => ?_); intro hnl) | refine wD (by decide +kernel) ?_ | refine wI (fun h => ?_) fun h => ?_ | refine wF (fun h => ?_) fun h => ?_ | refine wG (fun h => ?_) fun h => ?_ | refine wH (fun h => ?_) fun h => ?_ | ((first | refine mfork_bool (fun h => ?_) fun h => ?_ | refine mgfork_bool (fun h => ?_) fun h => ?_) <;> simp only [h])) | simp (maxSteps := 4000000) (disch := first | decide | assumption | omega | (simp only [wL]; omega)) only [go_sem, simprocAttr, Try.f46, hg, h1, List.drop_succ_cons, List.drop_zero])
  | .two x a b, h, r, tt, hl => by
    refine (MCalls.body 89 [.tmp 6, .tmp 7] Try.func46 rfl rfl rfl rfl ?_)
    have iha := lsays0_call al la hr ta on hon a h.2.1 (b.fl ++ r) tt (by simp only [T.fl, List.cons_append, List.length_cons, List.append_assoc] at hl; omega)
    have ihb := lsays0_call al la hr ta on hon b h.2.2 r tt (by simp only [T.fl, List.cons_append, List.length_cons, List.length_append] at hl ⊢; omega)
    simp only [T.fl, List.cons_append, List.append_assoc] at hl ⊢
    have hg : ((x :: (a.fl ++ (b.fl ++ r))).map ND.c).getD 0 [] = x.c := rfl
    rcases parts_two h.1 with h1 | h1
    · have e : (T.two x a b).sem (asg al on) = (a.sem (asg al on) && b.sem (asg al on)) := by simp [T.sem, h1]
      rw [e]
      generalize a.sem (asg al on) = f at iha
      generalize b.sem (asg al on) = g at ihb
      cases f <;> cases g
      all_goals repeat' (first | (with_reducible refine use_pure iha ?_) | (with_reducible refine use_pure ihb ?_) | (with_reducible first | (refine wT ?_; refine wN fun _ hnl => ?_; revert hnl; (repeat refine wS fun _ _ => ?_); intro hnl) | refine wD (by decide +kernel) ?_ | refine wI (fun h => ?_) fun h => ?_ | refine wF (fun h => ?_) fun h => ?_ | refine wG (fun h => ?_) fun h => ?_ | refine wH (fun h => ?_) fun h => ?_ | ((first | refine mfork_bool (fun h => ?_) fun h => ?_ | refine mgfork_bool (fun h => ?_) fun h => ?_) <;> simp only [h])) | simp (maxSteps := 4000000) (disch := first | decide | assumption | omega | (simp only [wL]; omega)) only [go_sem, simprocAttr, Try.f46, hg, h1, List.drop_succ_cons, List.drop_zero])
      all_goals rfl
    · have e : (T.two x a b).sem (asg al on) = (a.sem (asg al on) || b.sem (asg al on)) := by simp [T.sem, h1]
      rw [e]
      generalize a.sem (asg al on) = f at iha
      generalize b.sem (asg al on) = g at ihb
      cases f <;> cases g
      all_goals repeat' (first | (with_reducible refine use_pure iha ?_) | (with_reducible refine use_pure ihb ?_) | (with_reducible first | (refine wT ?_; refine wN fun _ hnl => ?_; revert hnl; (repeat refine wS fun _ _ => ?_); intro hnl) | refine wD (by decide +kernel) ?_ | refine wI (fun h => ?_) fun h => ?_ | refine wF (fun h => ?_) fun h => ?_ | refine wG (fun h => ?_) fun h => ?_ | refine wH (fun h => ?_) fun h => ?_ | ((first | refine mfork_bool (fun h => ?_) fun h => ?_ | refine mgfork_bool (fun h => ?_) fun h => ?_) <;> simp only [h])) | simp (maxSteps := 4000000) (disch := first | decide | assumption | omega | (simp only [wL]; omega)) only [go_sem, simprocAttr, Try.f46, hg, h1, List.drop_succ_cons, List.drop_zero])
      all_goals rfl

theorem lsays_call (al : List ND) (la : al.length ≤ 100000) (hr : Rising (al.map ND.key)) (ta : Bool) (on : Nat) (hon : on < 4294967296) (t : T) (ht : t.ok) (tt : Bool) (hl : t.fl.length ≤ 100000) :
    MCalls Try.prog 24 [.lst 5 (t.fl.map ND.c) tt, .lst 5 (al.map ND.c) ta, .int .u32 (on : Int)] St.none (fun v _ => v = .bool (t.sem (asg al on))) := by
  refine (MCalls.body 17 [.tmp 6] Try.func24 rfl rfl rfl rfl ?_)
  have h := lsays0_call al la hr ta on hon t ht [] tt (by rw [List.append_nil]; exact hl)
  rw [List.append_nil] at h
  repeat' (first | (with_reducible refine use_pure h ?_) | (with_reducible first | (refine wT ?_; refine wN fun _ hnl => ?_; revert hnl; (repeat refine wS fun _ _ => ?_); intro hnl) | refine wD (by decide +kernel) ?_ | refine wI (fun h => ?_) fun h => ?_ | refine wF (fun h => ?_) fun h => ?_ | refine wG (fun h => ?_) fun h => ?_ | refine wH (fun h => ?_) fun h => ?_ | ((first | refine mfork_bool (fun h => ?_) fun h => ?_ | refine mgfork_bool (fun h => ?_) fun h => ?_) <;> simp only [h])) | simp (maxSteps := 4000000) (disch := first | decide | assumption | omega | (simp only [wL]; omega)) only [go_sem, simprocAttr, Try.f24])
end Go.Proofs.Ytielcgplbnlgbaa
end

section
/- Contracts of the laws' example, LogicTells and LogicSays: the conditions that the theorems name. -/
set_option linter.unusedVariables false
set_option linter.unusedSimpArgs false
namespace Go.Proofs.Ytielcgplbnlgbaa

def aw1 : T := .two (nd 11) (.leaf ⟨3, 1, va0⟩) (.leaf ⟨3, 2, va0⟩)
def aw2 : T := .leaf ⟨3, 2, va0⟩
def aw3 : T := .leaf ⟨3, 3, va0⟩
theorem aw1_ft : FT aw1 := ⟨⟨by simp only [aw1, T.ok]; decide, by decide +kernel⟩, by decide, fun x hx => by
  simp only [aw1, T.fl, List.mem_cons, List.not_mem_nil, or_false, List.mem_append] at hx
  rcases hx with rfl | rfl | rfl <;> decide⟩
theorem aw2_ft : FT aw2 := ⟨⟨by simp only [aw2, T.ok]; decide, by decide +kernel⟩, by decide, fun x hx => by
  simp only [aw2, T.fl, List.mem_cons, List.not_mem_nil, or_false] at hx
  subst hx; decide⟩
theorem aw3_ft : FT aw3 := ⟨⟨by simp only [aw3, T.ok]; decide, by decide +kernel⟩, by decide, fun x hx => by
  simp only [aw3, T.fl, List.mem_cons, List.not_mem_nil, or_false] at hx
  subst hx; decide⟩
theorem aw12 : impV aw1 aw2 = .tup [.bool true, .int .i64 0] := by
  rw [impV, if_pos (by decide +kernel), show impB (atomsS (aw1.fl ++ aw2.fl)) aw1 aw2 = true by decide +kernel]
theorem aw13 : impV aw1 aw3 = .tup [.bool false, .int .i64 0] := by
  rw [impV, if_pos (by decide +kernel), show impB (atomsS (aw1.fl ++ aw3.fl)) aw1 aw3 = false by decide +kernel]
theorem flat_be (b : Bool) (n : Int) : Flat (.tup [.bool b, .int .i64 n]) := .tup fun c hc => by
  simp only [List.mem_cons, List.not_mem_nil, or_false] at hc
  rcases hc with rfl | rfl
  · exact .bool _
  · exact .int _ _

theorem lawake_call : MCalls Try.prog 11 [] St.none (fun r _ => r = .bool true) := by
  refine (MCalls.body 37 [.tmp 0] Try.func11 rfl rfl rfl rfl ?_)
  have h1 := limplies_fit aw1 aw2 aw1_ft aw2_ft
  have h2 := limplies_fit aw1 aw3 aw1_ft aw3_ft
  rw [aw12] at h1
  rw [aw13] at h2
  repeat' (first | (with_reducible first | (refine wT ?_; refine wN fun _ hnl => ?_; revert hnl; (repeat refine wS fun _ _ => ?_); intro hnl) | refine wD (by decide +kernel) ?_ | refine wI (fun h => ?_) fun h => ?_ | refine wF (fun h => ?_) fun h => ?_ | refine wG (fun h => ?_) fun h => ?_ | refine wH (fun h => ?_) fun h => ?_ | ((first | refine mfork_bool (fun h => ?_) fun h => ?_ | refine mgfork_bool (fun h => ?_) fun h => ?_) <;> simp only [h])) | simp (maxSteps := 4000000) (disch := first | decide | assumption | omega | (simp only [wL]; omega)) only [go_sem, simprocAttr, Try.f11])
  refine use_lend [.lst 5 (aw1.fl.map ND.c) false, .lst 5 (aw2.fl.map ND.c) false] h1 (flat_be _ _) rfl (views_two (.vecAll (set_hit _ _ _) rfl) (.vec (set_hit _ _ _) (by decide))) ?_
  repeat' (first | (with_reducible first | (refine wT ?_; refine wN fun _ hnl => ?_; revert hnl; (repeat refine wS fun _ _ => ?_); intro hnl) | refine wD (by decide +kernel) ?_ | refine wI (fun h => ?_) fun h => ?_ | refine wF (fun h => ?_) fun h => ?_ | refine wG (fun h => ?_) fun h => ?_ | refine wH (fun h => ?_) fun h => ?_ | ((first | refine mfork_bool (fun h => ?_) fun h => ?_ | refine mgfork_bool (fun h => ?_) fun h => ?_) <;> simp only [h])) | simp (maxSteps := 4000000) (disch := first | decide | assumption | omega | (simp only [wL]; omega)) only [go_sem, simprocAttr])
  refine use_lend [.lst 5 (aw1.fl.map ND.c) false, .lst 5 (aw3.fl.map ND.c) false] h2 (flat_be _ _) rfl (views_two (.vecAll ((set_miss _ _ _ _ (by assumption)).trans (set_hit _ _ _)) rfl) (.vecAll (set_hit _ _ _) rfl)) ?_
  repeat' (first | (with_reducible first | (refine wT ?_; refine wN fun _ hnl => ?_; revert hnl; (repeat refine wS fun _ _ => ?_); intro hnl) | refine wD (by decide +kernel) ?_ | refine wI (fun h => ?_) fun h => ?_ | refine wF (fun h => ?_) fun h => ?_ | refine wG (fun h => ?_) fun h => ?_ | refine wH (fun h => ?_) fun h => ?_ | ((first | refine mfork_bool (fun h => ?_) fun h => ?_ | refine mgfork_bool (fun h => ?_) fun h => ?_) <;> simp only [h])) | simp (maxSteps := 4000000) (disch := first | decide | assumption | omega | (simp only [wL]; omega)) only [go_sem, simprocAttr])

theorem size_of_large {a : List ND} (h : largeS a = false) : ∀ x, x ∈ a → x.v.s.size ≤ 1000000 := fun x hx => by
  simp only [largeS, Bool.or_eq_false_iff, decide_eq_false_iff_not, List.any_eq_false, decide_eq_true_eq] at h
  have := h.2 x hx
  omega

set_option maxHeartbeats 8000000 in
theorem logTells_call (a b : List ND) : MCalls Try.prog 3 [.lst 5 (a.map ND.c) false, .lst 5 (b.map ND.c) false] St.none (fun r _ => r = .bool true) := by
  refine (MCalls.body 85 [.tmp 4] Try.func3 rfl rfl rfl rfl ?_)
  have hw := lawake_call
  have hla := rlarge_call a false
  have hlb := rlarge_call b false
  cases ea : largeS a <;> cases eb : largeS b <;> rw [ea] at hla <;> rw [eb] at hlb
  · have hsa := size_of_large ea
    have hsb := size_of_large eb
    have hfa := rfit_call a false
    have hfb := rfit_call b false
    cases ef : fitS a && fitS b
    · have c1 := limplies_not a b false false ef
      have c2 := rimplies_not a b false false ef
      have c3 := lequal_not a b false false ef
      have c4 := requal_not a b false false ef
      cases ga : fitS a <;> cases gb : fitS b <;> rw [ga] at hfa <;> rw [gb] at hfb <;> rw [ga, gb] at ef
      · repeat' (first | (with_reducible refine use_pure hla ?_) | (with_reducible refine use_pure hlb ?_) | (with_reducible refine use_pure hfa ?_) | (with_reducible refine use_pure hfb ?_) | (with_reducible refine use_pure c1 ?_) | (with_reducible refine use_pure c2 ?_) | (with_reducible refine use_pure c3 ?_) | (with_reducible refine use_pure c4 ?_) | (with_reducible refine use_pure hw ?_) | (with_reducible first | (refine wT ?_; refine wN fun _ hnl => ?_; revert hnl; (repeat refine wS fun _ _ => ?_); intro hnl) | refine wD (by decide +kernel) ?_ | refine wI (fun h => ?_) fun h => ?_ | refine wF (fun h => ?_) fun h => ?_ | refine wG (fun h => ?_) fun h => ?_ | refine wH (fun h => ?_) fun h => ?_ | ((first | refine mfork_bool (fun h => ?_) fun h => ?_ | refine mgfork_bool (fun h => ?_) fun h => ?_) <;> simp only [h])) | simp (maxSteps := 4000000) (disch := first | decide | assumption | omega | (simp only [wL]; omega)) only [go_sem, simprocAttr, Try.f3])
      · repeat' (first | (with_reducible refine use_pure hla ?_) | (with_reducible refine use_pure hlb ?_) | (with_reducible refine use_pure hfa ?_) | (with_reducible refine use_pure hfb ?_) | (with_reducible refine use_pure c1 ?_) | (with_reducible refine use_pure c2 ?_) | (with_reducible refine use_pure c3 ?_) | (with_reducible refine use_pure c4 ?_) | (with_reducible refine use_pure hw ?_) | (with_reducible first | (refine wT ?_; refine wN fun _ hnl => ?_; revert hnl; (repeat refine wS fun _ _ => ?_); intro hnl) | refine wD (by decide +kernel) ?_ | refine wI (fun h => ?_) fun h => ?_ | refine wF (fun h => ?_) fun h => ?_ | refine wG (fun h => ?_) fun h => ?_ | refine wH (fun h => ?_) fun h => ?_ | ((first | refine mfork_bool (fun h => ?_) fun h => ?_ | refine mgfork_bool (fun h => ?_) fun h => ?_) <;> simp only [h])) | simp (maxSteps := 4000000) (disch := first | decide | assumption | omega | (simp only [wL]; omega)) only [go_sem, simprocAttr, Try.f3])
      · repeat' (first | (with_reducible refine use_pure hla ?_) | (with_reducible refine use_pure hlb ?_) | (with_reducible refine use_pure hfa ?_) | (with_reducible refine use_pure hfb ?_) | (with_reducible refine use_pure c1 ?_) | (with_reducible refine use_pure c2 ?_) | (with_reducible refine use_pure c3 ?_) | (with_reducible refine use_pure c4 ?_) | (with_reducible refine use_pure hw ?_) | (with_reducible first | (refine wT ?_; refine wN fun _ hnl => ?_; revert hnl; (repeat refine wS fun _ _ => ?_); intro hnl) | refine wD (by decide +kernel) ?_ | refine wI (fun h => ?_) fun h => ?_ | refine wF (fun h => ?_) fun h => ?_ | refine wG (fun h => ?_) fun h => ?_ | refine wH (fun h => ?_) fun h => ?_ | ((first | refine mfork_bool (fun h => ?_) fun h => ?_ | refine mgfork_bool (fun h => ?_) fun h => ?_) <;> simp only [h])) | simp (maxSteps := 4000000) (disch := first | decide | assumption | omega | (simp only [wL]; omega)) only [go_sem, simprocAttr, Try.f3])
      · cases ef
    · obtain ⟨ga, gb⟩ := Bool.and_eq_true_iff.1 ef
      obtain ⟨s, rfl, hs⟩ := FT.of ga hsa
      obtain ⟨t, rfl, ht⟩ := FT.of gb hsb
      rw [ga] at hfa
      rw [gb] at hfb
      have hls := hs.len
      have hlt := ht.len
      have c0 := few_call s t hs ht false false
      have cr := ratoms_call s.fl t.fl false false (by omega) (by omega) hs.size ht.size
      rw [ft_atoms hs ht] at cr
      have c1 := limplies_fit s t hs ht
      have c2 := rimplies_fit s t hs ht false false
      have c3 := lequal_fit s t hs ht
      have c4 := requal_fit s t hs ht false false
      unfold impV at c1 c2
      unfold eqV' at c3 c4
      generalize impB (atomsS (s.fl ++ t.fl)) s t = p at c1 c2 c3 c4
      generalize impB (atomsS (s.fl ++ t.fl)) t s = q at c3 c4
      generalize atomsS (s.fl ++ t.fl) = l at c0 cr c1 c2 c3 c4
      by_cases h6 : l.length ≤ 6
      · rw [decide_eq_true h6] at c0
        rw [if_pos (by omega)] at c1 c2 c3 c4
        generalize (p && q) = pq at c3 c4
        cases p <;> cases pq
        all_goals repeat' (first | (with_reducible refine use_pure hla ?_) | (with_reducible refine use_pure hlb ?_) | (with_reducible refine use_pure hfa ?_) | (with_reducible refine use_pure hfb ?_) | (with_reducible refine use_pure c0 ?_) | (with_reducible refine use_pure cr ?_) | (with_reducible refine use_pure c1 ?_) | (with_reducible refine use_pure c2 ?_) | (with_reducible refine use_pure c3 ?_) | (with_reducible refine use_pure c4 ?_) | (with_reducible refine use_pure hw ?_) | (with_reducible first | (refine wT ?_; refine wN fun _ hnl => ?_; revert hnl; (repeat refine wS fun _ _ => ?_); intro hnl) | refine wD (by decide +kernel) ?_ | refine wI (fun h => ?_) fun h => ?_ | refine wF (fun h => ?_) fun h => ?_ | refine wG (fun h => ?_) fun h => ?_ | refine wH (fun h => ?_) fun h => ?_ | ((first | refine mfork_bool (fun h => ?_) fun h => ?_ | refine mgfork_bool (fun h => ?_) fun h => ?_) <;> simp only [h])) | simp (maxSteps := 4000000) (disch := first | decide | assumption | omega | (simp only [wL]; omega)) only [go_sem, simprocAttr, Try.f3])
      · rw [decide_eq_false h6] at c0
        by_cases h10 : l.length ≤ 10
        · repeat' (first | (with_reducible refine use_pure hla ?_) | (with_reducible refine use_pure hlb ?_) | (with_reducible refine use_pure hfa ?_) | (with_reducible refine use_pure hfb ?_) | (with_reducible refine use_pure c0 ?_) | (with_reducible refine use_pure cr ?_) | (with_reducible refine use_pure hw ?_) | (with_reducible first | (refine wT ?_; refine wN fun _ hnl => ?_; revert hnl; (repeat refine wS fun _ _ => ?_); intro hnl) | refine wD (by decide +kernel) ?_ | refine wI (fun h => ?_) fun h => ?_ | refine wF (fun h => ?_) fun h => ?_ | refine wG (fun h => ?_) fun h => ?_ | refine wH (fun h => ?_) fun h => ?_ | ((first | refine mfork_bool (fun h => ?_) fun h => ?_ | refine mgfork_bool (fun h => ?_) fun h => ?_) <;> simp only [h])) | simp (maxSteps := 4000000) (disch := first | decide | assumption | omega | (simp only [wL]; omega)) only [go_sem, simprocAttr, Try.f3])
        · rw [if_neg h10] at c1 c2 c3 c4
          repeat' (first | (with_reducible refine use_pure hla ?_) | (with_reducible refine use_pure hlb ?_) | (with_reducible refine use_pure hfa ?_) | (with_reducible refine use_pure hfb ?_) | (with_reducible refine use_pure c0 ?_) | (with_reducible refine use_pure cr ?_) | (with_reducible refine use_pure c1 ?_) | (with_reducible refine use_pure c2 ?_) | (with_reducible refine use_pure c3 ?_) | (with_reducible refine use_pure c4 ?_) | (with_reducible refine use_pure hw ?_) | (with_reducible first | (refine wT ?_; refine wN fun _ hnl => ?_; revert hnl; (repeat refine wS fun _ _ => ?_); intro hnl) | refine wD (by decide +kernel) ?_ | refine wI (fun h => ?_) fun h => ?_ | refine wF (fun h => ?_) fun h => ?_ | refine wG (fun h => ?_) fun h => ?_ | refine wH (fun h => ?_) fun h => ?_ | ((first | refine mfork_bool (fun h => ?_) fun h => ?_ | refine mgfork_bool (fun h => ?_) fun h => ?_) <;> simp only [h])) | simp (maxSteps := 4000000) (disch := first | decide | assumption | omega | (simp only [wL]; omega)) only [go_sem, simprocAttr, Try.f3])
  · repeat' (first | (with_reducible refine use_pure hla ?_) | (with_reducible refine use_pure hlb ?_) | (with_reducible refine use_pure hw ?_) | (with_reducible first | (refine wT ?_; refine wN fun _ hnl => ?_; revert hnl; (repeat refine wS fun _ _ => ?_); intro hnl) | refine wD (by decide +kernel) ?_ | refine wI (fun h => ?_) fun h => ?_ | refine wF (fun h => ?_) fun h => ?_ | refine wG (fun h => ?_) fun h => ?_ | refine wH (fun h => ?_) fun h => ?_ | ((first | refine mfork_bool (fun h => ?_) fun h => ?_ | refine mgfork_bool (fun h => ?_) fun h => ?_) <;> simp only [h])) | simp (maxSteps := 4000000) (disch := first | decide | assumption | omega | (simp only [wL]; omega)) only [go_sem, simprocAttr, Try.f3])
  · repeat' (first | (with_reducible refine use_pure hla ?_) | (with_reducible refine use_pure hw ?_) | (with_reducible first | (refine wT ?_; refine wN fun _ hnl => ?_; revert hnl; (repeat refine wS fun _ _ => ?_); intro hnl) | refine wD (by decide +kernel) ?_ | refine wI (fun h => ?_) fun h => ?_ | refine wF (fun h => ?_) fun h => ?_ | refine wG (fun h => ?_) fun h => ?_ | refine wH (fun h => ?_) fun h => ?_ | ((first | refine mfork_bool (fun h => ?_) fun h => ?_ | refine mgfork_bool (fun h => ?_) fun h => ?_) <;> simp only [h])) | simp (maxSteps := 4000000) (disch := first | decide | assumption | omega | (simp only [wL]; omega)) only [go_sem, simprocAttr, Try.f3])
  · repeat' (first | (with_reducible refine use_pure hla ?_) | (with_reducible refine use_pure hw ?_) | (with_reducible first | (refine wT ?_; refine wN fun _ hnl => ?_; revert hnl; (repeat refine wS fun _ _ => ?_); intro hnl) | refine wD (by decide +kernel) ?_ | refine wI (fun h => ?_) fun h => ?_ | refine wF (fun h => ?_) fun h => ?_ | refine wG (fun h => ?_) fun h => ?_ | refine wH (fun h => ?_) fun h => ?_ | ((first | refine mfork_bool (fun h => ?_) fun h => ?_ | refine mgfork_bool (fun h => ?_) fun h => ?_) <;> simp only [h])) | simp (maxSteps := 4000000) (disch := first | decide | assumption | omega | (simp only [wL]; omega)) only [go_sem, simprocAttr, Try.f3])
end Go.Proofs.Ytielcgplbnlgbaa
end

section
/- Contracts of the laws' example and of NormTells: the conditions that the theorems name. -/
set_option linter.unusedVariables false
set_option linter.unusedSimpArgs false
namespace Go.Proofs.Ytielcgplbnlgbaa

def nw1 : T := .one (nd 10) (.two (nd 12) (.leaf ⟨3, 2, va0⟩) (.one (nd 10) (.leaf ⟨3, 1, va0⟩)))
theorem nw1_ft : FT nw1 := ⟨⟨by simp only [nw1, T.ok]; decide, by decide +kernel⟩, by decide, fun x hx => by
  simp only [nw1, T.fl, List.mem_cons, List.not_mem_nil, or_false, List.cons_append, List.nil_append] at hx
  rcases hx with rfl | rfl | rfl | rfl | rfl <;> decide⟩
theorem nw1_form : (formT nw1 false).fl = [nd 11, ⟨3, 1, va0⟩, nd 10, ⟨3, 2, va0⟩] := by decide +kernel

theorem nawake_call : MCalls Try.prog 26 [] St.none (fun r _ => r = .bool true) := by
  refine MCalls.drops (MCalls.body 16 [.tmp 0] Try.func26 rfl rfl rfl rfl ?_)
  have h1 := nof_fit njoined_call nw1 nw1_ft
  rw [nw1_form] at h1
  have h2 := rsame_call [nd 11, ⟨3, 1, va0⟩, nd 10, ⟨3, 2, va0⟩] [nd 11, ⟨3, 1, va0⟩, nd 10, ⟨3, 2, va0⟩] (by simp) false false
  rw [decide_eq_true rfl] at h2
  repeat' (first | (with_reducible first | (refine wT ?_; (first | ((fail_if_success (have := nl1)); refine wN fun nl1 hnl => ?_) | refine wN fun _ hnl => ?_); revert hnl; (repeat refine wS fun _ _ => ?_); intro hnl) | refine wD (by decide +kernel) ?_ | refine wI (fun h => ?_) fun h => ?_ | refine wF (fun h => ?_) fun h => ?_ | refine wG (fun h => ?_) fun h => ?_ | refine wH (fun h => ?_) fun h => ?_ | ((first | refine mfork_bool (fun h => ?_) fun h => ?_ | refine mgfork_bool (fun h => ?_) fun h => ?_) <;> simp only [h])) | simp (maxSteps := 4000000) (disch := first | decide | assumption | omega | (simp only [wL]; omega)) only [go_sem, simprocAttr, Try.f26])
  refine use_give1 _ nl1 h1 (set_hit _ _ _) rfl (views_one (.vecAll (set_hit _ _ _) rfl)) ?_
  repeat' (first | (with_reducible first | (refine wT ?_; (first | ((fail_if_success (have := nl1)); refine wN fun nl1 hnl => ?_) | refine wN fun _ hnl => ?_); revert hnl; (repeat refine wS fun _ _ => ?_); intro hnl) | refine wD (by decide +kernel) ?_ | refine wI (fun h => ?_) fun h => ?_ | refine wF (fun h => ?_) fun h => ?_ | refine wG (fun h => ?_) fun h => ?_ | refine wH (fun h => ?_) fun h => ?_ | ((first | refine mfork_bool (fun h => ?_) fun h => ?_ | refine mgfork_bool (fun h => ?_) fun h => ?_) <;> simp only [h])) | simp (maxSteps := 4000000) (disch := first | decide | assumption | omega | (simp only [wL]; omega)) only [go_sem, simprocAttr])
  refine use_lend _ h2 (.bool _) rfl (views_two (.same _) (.vecAll (set_hit _ _ _) rfl)) ?_
  repeat' (first | (with_reducible first | (refine wT ?_; (first | ((fail_if_success (have := nl1)); refine wN fun nl1 hnl => ?_) | refine wN fun _ hnl => ?_); revert hnl; (repeat refine wS fun _ _ => ?_); intro hnl) | refine wD (by decide +kernel) ?_ | refine wI (fun h => ?_) fun h => ?_ | refine wF (fun h => ?_) fun h => ?_ | refine wG (fun h => ?_) fun h => ?_ | refine wH (fun h => ?_) fun h => ?_ | ((first | refine mfork_bool (fun h => ?_) fun h => ?_ | refine mgfork_bool (fun h => ?_) fun h => ?_) <;> simp only [h])) | simp (maxSteps := 4000000) (disch := first | decide | assumption | omega | (simp only [wL]; omega)) only [go_sem, simprocAttr])
  exact ⟨_, St.le_refl _⟩

theorem rsame_nils : MCalls Try.prog 22 [.nils, .nils] St.none (fun r _ => r = .bool true) :=
  (MCalls.lend (σ := St.none) (ms := [.nils, .nils]) (rsame_call [] [] (by simp) false false) (fun r e => e ▸ .bool _) rfl (views_two (.nil _ _) (.nil _ _))).mono fun v σ' h => h.1

set_option maxHeartbeats 8000000 in
theorem normTells_call (a b : List ND) : MCalls Try.prog 9 [.lst 5 (a.map ND.c) false, .lst 5 (b.map ND.c) false] St.none (fun r _ => r = .bool true) := by
  refine (MCalls.body 55 [.tmp 4] Try.func9 rfl rfl rfl rfl ?_)
  have hw := nawake_call
  have hla := rlarge_call a false
  have hlb := rlarge_call b false
  have hfa := rfit_call a false
  have hfb := rfit_call b false
  have hna := nfit_call a false
  have hn := rsame_nils
  cases ea : largeS a <;> cases eb : largeS b <;> rw [ea] at hla <;> rw [eb] at hlb
  · cases ga : fitS a <;> cases gb : fitS b <;> rw [ga] at hfa hna <;> rw [gb] at hfb
    · have oa := rof_not a ga
      have na := nof_not a ga
      have ta := rtu_not a ga
      have ua := ntu_not a ga
      have s1 := nsame_not1 a b ga
      repeat' (first | (with_reducible first | refine up hla ?_ | refine up hlb ?_ | refine up hfa ?_ | refine up hfb ?_ | refine up hna ?_ | refine up hn ?_ | refine up oa ?_ | refine up na ?_ | refine up ta ?_ | refine up ua ?_ | refine up s1 ?_ | refine up hw ?_) | (with_reducible first | (refine wT ?_; refine wN fun _ hnl => ?_; revert hnl; (repeat refine wS fun _ _ => ?_); intro hnl) | refine wD (by decide +kernel) ?_ | refine wI (fun h => ?_) fun h => ?_ | refine wF (fun h => ?_) fun h => ?_ | refine wG (fun h => ?_) fun h => ?_ | refine wH (fun h => ?_) fun h => ?_ | ((first | refine mfork_bool (fun h => ?_) fun h => ?_ | refine mgfork_bool (fun h => ?_) fun h => ?_) <;> simp only [h])) | simp (maxSteps := 4000000) (disch := first | decide | assumption | omega | (simp only [wL]; omega)) only [go_sem, simprocAttr, Try.f9])
    · have oa := rof_not a ga
      have na := nof_not a ga
      have ta := rtu_not a ga
      have ua := ntu_not a ga
      have s1 := nsame_not1 a b ga
      repeat' (first | (with_reducible first | refine up hla ?_ | refine up hlb ?_ | refine up hfa ?_ | refine up hfb ?_ | refine up hna ?_ | refine up hn ?_ | refine up oa ?_ | refine up na ?_ | refine up ta ?_ | refine up ua ?_ | refine up s1 ?_ | refine up hw ?_) | (with_reducible first | (refine wT ?_; refine wN fun _ hnl => ?_; revert hnl; (repeat refine wS fun _ _ => ?_); intro hnl) | refine wD (by decide +kernel) ?_ | refine wI (fun h => ?_) fun h => ?_ | refine wF (fun h => ?_) fun h => ?_ | refine wG (fun h => ?_) fun h => ?_ | refine wH (fun h => ?_) fun h => ?_ | ((first | refine mfork_bool (fun h => ?_) fun h => ?_ | refine mgfork_bool (fun h => ?_) fun h => ?_) <;> simp only [h])) | simp (maxSteps := 4000000) (disch := first | decide | assumption | omega | (simp only [wL]; omega)) only [go_sem, simprocAttr, Try.f9])
    · obtain ⟨s, rfl, hs⟩ := FT.of ga (size_of_large ea)
      have hls := hs.len
      have lf := formT_len s false
      have lg := formT_len s true
      have oa := rof_fit s hs
      have na := nof_fit njoined_call s hs
      have ta := rtu_fit s hs
      have ua := ntu_fit njoined_call s hs
      have s1 := nsame_not2 s.fl b ga gb
      have c1 := rsame_call (formT s false).fl (formT s false).fl (by omega) false false
      have c2 := rsame_call (formT s true).fl (formT s true).fl (by omega) false false
      rw [decide_eq_true rfl] at c1 c2
      repeat' (first | (with_reducible first | refine up hla ?_ | refine up hlb ?_ | refine up hfa ?_ | refine up hfb ?_ | refine up hna ?_ | refine up oa ?_ | refine up na ?_ | refine up ta ?_ | refine up ua ?_ | refine up s1 ?_ | refine up c1 ?_ | refine up c2 ?_ | refine up hw ?_) | (with_reducible first | (refine wT ?_; refine wN fun _ hnl => ?_; revert hnl; (repeat refine wS fun _ _ => ?_); intro hnl) | refine wD (by decide +kernel) ?_ | refine wI (fun h => ?_) fun h => ?_ | refine wF (fun h => ?_) fun h => ?_ | refine wG (fun h => ?_) fun h => ?_ | refine wH (fun h => ?_) fun h => ?_ | ((first | refine mfork_bool (fun h => ?_) fun h => ?_ | refine mgfork_bool (fun h => ?_) fun h => ?_) <;> simp only [h])) | simp (maxSteps := 4000000) (disch := first | decide | assumption | omega | (simp only [wL]; omega)) only [go_sem, simprocAttr, Try.f9])
    · obtain ⟨s, rfl, hs⟩ := FT.of ga (size_of_large ea)
      obtain ⟨t, rfl, ht⟩ := FT.of gb (size_of_large eb)
      have hls := hs.len
      have lf := formT_len s false
      have lg := formT_len s true
      have oa := rof_fit s hs
      have ob := rof_fit t ht
      have na := nof_fit njoined_call s hs
      have ta := rtu_fit s hs
      have ua := ntu_fit njoined_call s hs
      have s1 := nsame_fit njoined_call s t hs ht
      have c1 := rsame_call (formT s false).fl (formT s false).fl (by omega) false false
      have c2 := rsame_call (formT s true).fl (formT s true).fl (by omega) false false
      have c3 := rsame_call (formT s false).fl (formT t false).fl (by omega) false false
      rw [decide_eq_true rfl] at c1 c2
      generalize decide ((formT s false).fl = (formT t false).fl) = d at s1 c3
      cases d
      all_goals repeat' (first | (with_reducible first | refine up hla ?_ | refine up hlb ?_ | refine up hfa ?_ | refine up hfb ?_ | refine up hna ?_ | refine up oa ?_ | refine up ob ?_ | refine up na ?_ | refine up ta ?_ | refine up ua ?_ | refine up s1 ?_ | refine up c1 ?_ | refine up c2 ?_ | refine up c3 ?_ | refine up hw ?_) | (with_reducible first | (refine wT ?_; refine wN fun _ hnl => ?_; revert hnl; (repeat refine wS fun _ _ => ?_); intro hnl) | refine wD (by decide +kernel) ?_ | refine wI (fun h => ?_) fun h => ?_ | refine wF (fun h => ?_) fun h => ?_ | refine wG (fun h => ?_) fun h => ?_ | refine wH (fun h => ?_) fun h => ?_ | ((first | refine mfork_bool (fun h => ?_) fun h => ?_ | refine mgfork_bool (fun h => ?_) fun h => ?_) <;> simp only [h])) | simp (maxSteps := 4000000) (disch := first | decide | assumption | omega | (simp only [wL]; omega)) only [go_sem, simprocAttr, Try.f9])
  all_goals repeat' (first | (with_reducible first | refine up hla ?_ | refine up hlb ?_ | refine up hw ?_) | (with_reducible first | (refine wT ?_; refine wN fun _ hnl => ?_; revert hnl; (repeat refine wS fun _ _ => ?_); intro hnl) | refine wD (by decide +kernel) ?_ | refine wI (fun h => ?_) fun h => ?_ | refine wF (fun h => ?_) fun h => ?_ | refine wG (fun h => ?_) fun h => ?_ | refine wH (fun h => ?_) fun h => ?_ | ((first | refine mfork_bool (fun h => ?_) fun h => ?_ | refine mgfork_bool (fun h => ?_) fun h => ?_) <;> simp only [h])) | simp (maxSteps := 4000000) (disch := first | decide | assumption | omega | (simp only [wL]; omega)) only [go_sem, simprocAttr, Try.f9])
end Go.Proofs.Ytielcgplbnlgbaa
end

section
/- Contract of NormOnce: the conditions that the theorems name. -/
set_option linter.unusedVariables false
set_option linter.unusedSimpArgs false
namespace Go.Proofs.Ytielcgplbnlgbaa

theorem ft_of_fit {t : T} (g : Good t) (h : fitS t.fl = true) : FT t := ⟨g, by simp only [fitS, Bool.and_eq_true, decide_eq_true_eq] at h; exact h.1.1.2, good_size g⟩
theorem good_join {op : Int} (hop : op = 11 ∨ op = 12) {s t : T} (hs : Good s) (ht : Good t) : Good (.two (nd op) s t) :=
  good_two.2 ⟨by rcases hop with rfl | rfl <;> decide, by rcases hop with rfl | rfl <;> decide +kernel, hs, ht⟩
theorem two_join (op : Int) (s t : T) : nd op :: [s.fl, t.fl].flatten = (T.two (nd op) s t).fl := by simp [T.fl]

set_option maxHeartbeats 8000000 in
theorem normOnce_call (a b : List ND) : MCalls Try.prog 7 [.lst 5 (a.map ND.c) false, .lst 5 (b.map ND.c) false] St.none (fun r _ => r = .bool true) := by
  refine MCalls.drops (MCalls.body 82 [.tmp 4] Try.func7 rfl rfl rfl rfl ?_)
  have hw := nawake_call
  have hla := rlarge_call a false
  have hlb := rlarge_call b false
  have hfa := rfit_call a false
  have hfb := rfit_call b false
  cases ga : fitS a <;> cases gb : fitS b <;> rw [ga] at hfa <;> rw [gb] at hfb
  all_goals try
    repeat' (first | (with_reducible first | refine up hfa ?_ | refine up hfb ?_ | refine up hw ?_) | (with_reducible first | (refine wT ?_; (first | ((fail_if_success (have := nl1)); refine wN fun nl1 hnl => ?_) | ((fail_if_success (have := nl2)); refine wN fun nl2 hnl => ?_) | ((fail_if_success (have := nl3)); refine wN fun nl3 hnl => ?_) | refine wN fun _ hnl => ?_); revert hnl; (repeat refine wS fun _ _ => ?_); intro hnl) | refine wD (by decide +kernel) ?_ | refine wI (fun h => ?_) fun h => ?_ | refine wF (fun h => ?_) fun h => ?_ | refine wG (fun h => ?_) fun h => ?_ | refine wH (fun h => ?_) fun h => ?_ | ((first | refine mfork_bool (fun h => ?_) fun h => ?_ | refine mgfork_bool (fun h => ?_) fun h => ?_) <;> simp only [h])) | simp (maxSteps := 4000000) (disch := first | decide | assumption | omega | (simp only [wL]; omega)) only [go_sem, simprocAttr, Try.f7])
    exact ⟨_, St.le_refl _⟩
  cases ea : largeS a <;> cases eb : largeS b <;> rw [ea] at hla <;> rw [eb] at hlb
  all_goals try
    repeat' (first | (with_reducible first | refine up hla ?_ | refine up hlb ?_ | refine up hfa ?_ | refine up hfb ?_ | refine up hw ?_) | (with_reducible first | (refine wT ?_; (first | ((fail_if_success (have := nl1)); refine wN fun nl1 hnl => ?_) | ((fail_if_success (have := nl2)); refine wN fun nl2 hnl => ?_) | ((fail_if_success (have := nl3)); refine wN fun nl3 hnl => ?_) | refine wN fun _ hnl => ?_); revert hnl; (repeat refine wS fun _ _ => ?_); intro hnl) | refine wD (by decide +kernel) ?_ | refine wI (fun h => ?_) fun h => ?_ | refine wF (fun h => ?_) fun h => ?_ | refine wG (fun h => ?_) fun h => ?_ | refine wH (fun h => ?_) fun h => ?_ | ((first | refine mfork_bool (fun h => ?_) fun h => ?_ | refine mgfork_bool (fun h => ?_) fun h => ?_) <;> simp only [h])) | simp (maxSteps := 4000000) (disch := first | decide | assumption | omega | (simp only [wL]; omega)) only [go_sem, simprocAttr, Try.f7])
    exact ⟨_, St.le_refl _⟩
  obtain ⟨s, rfl, hs⟩ := FT.of ga (size_of_large ea)
  obtain ⟨t, rfl, ht⟩ := FT.of gb (size_of_large eb)
  have hls := hs.len
  have hlt := ht.len
  have lf := formT_len s false
  have na := nof_fit njoined_call s hs
  have gf := good_form false hs.good
  have hff := form_form hs.good
  obtain ⟨f, hf⟩ : ∃ f, formT s false = f := ⟨_, rfl⟩
  rw [hf] at na gf lf hff
  have cf := rfit_call f.fl false
  have cs := rsame_call f.fl f.fl (by omega) false false
  rw [decide_eq_true rfl] at cs
  have nf : fitS f.fl = true → MCalls Try.prog 27 [.lst 5 (f.fl.map ND.c) false] St.none (fun r _ => r = .lst 5 (f.fl.map ND.c) false) := fun h => by
    have := nof_fit njoined_call f (ft_of_fit gf h)
    rwa [hff] at this
  clear hff hf
  cases hfit : fitS f.fl <;> rw [hfit] at cf nf
  all_goals
    try have nf := nf rfl
    repeat' (first | (with_reducible first | refine up hla ?_ | refine up hlb ?_ | refine up hfa ?_ | refine up hfb ?_ | refine up hw ?_ | refine up na ?_ | refine up cf ?_ | refine up cs ?_ | refine up nf ?_) | (with_reducible first | (refine wT ?_; (first | ((fail_if_success (have := nl1)); refine wN fun nl1 hnl => ?_) | ((fail_if_success (have := nl2)); refine wN fun nl2 hnl => ?_) | ((fail_if_success (have := nl3)); refine wN fun nl3 hnl => ?_) | refine wN fun _ hnl => ?_); revert hnl; (repeat refine wS fun _ _ => ?_); intro hnl) | refine wD (by decide +kernel) ?_ | refine wI (fun h => ?_) fun h => ?_ | refine wF (fun h => ?_) fun h => ?_ | refine wG (fun h => ?_) fun h => ?_ | refine wH (fun h => ?_) fun h => ?_ | ((first | refine mfork_bool (fun h => ?_) fun h => ?_ | refine mgfork_bool (fun h => ?_) fun h => ?_) <;> simp only [h])) | simp (maxSteps := 4000000) (disch := first | decide | assumption | omega | (simp only [wL]; omega)) only [go_sem, simprocAttr, Try.f7])
    refine mloop_intro (α := Nat) (fun k => ⟨82, [(6, .int .i64 (11 + (k : Int))), (0, .lst 5 (s.fl.map ND.c) false), (1, .lst 5 (t.fl.map ND.c) false)], []⟩)
      (fun _ => St.none) (fun k => k ≤ 2) (fun k => 2 - k) (.of (.less ?_ (St.none_le _)) ⟨0, rfl, rfl, Nat.zero_le _⟩) ?_
    · simp (maxSteps := 4000000) (disch := first | decide | assumption | omega | (simp only [wL]; omega)) only [go_sem, simprocAttr, weak_int, weak_same]
    · intro k hk
      have hk : k ≤ 2 := hk
      by_cases hlt2 : k < 2
      · obtain ⟨op, hopE⟩ : ∃ op, 11 + (k : Int) = op := ⟨_, rfl⟩
        have hop : op = 11 ∨ op = 12 := by omega
        rw [hopE]
        have hle : op ≤ 12 := by omega
        have gx := good_join hop hs.good ht.good
        have gy := good_join hop ht.good hs.good
        have gz := good_join hop hs.good gy
        have ly : (T.two (nd op) t s).fl.length = 1 + t.fl.length + s.fl.length := by simp only [T.fl, List.length_cons, List.length_append]; omega
        have lx : (T.two (nd op) s t).fl.length = 1 + s.fl.length + t.fl.length := by simp only [T.fl, List.length_cons, List.length_append]; omega
        have lz : (T.two (nd op) s (.two (nd op) t s)).fl.length = 1 + s.fl.length + (T.two (nd op) t s).fl.length := by simp only [T.fl, List.length_cons, List.length_append]; omega
        have j1 := rjoin_call op [s.fl, t.fl] false (by simp) (fun l hl => by
          simp only [List.mem_cons, List.not_mem_nil, or_false] at hl
          rcases hl with rfl | rfl <;> omega)
        have j2 := rjoin_call op [t.fl, s.fl] false (by simp) (fun l hl => by
          simp only [List.mem_cons, List.not_mem_nil, or_false] at hl
          rcases hl with rfl | rfl <;> omega)
        have j3 := rjoin_call op [s.fl, (T.two (nd op) t s).fl] false (by simp) (fun l hl => by
          simp only [List.mem_cons, List.not_mem_nil, or_false] at hl
          rcases hl with rfl | rfl <;> omega)
        have e1 := form_swap hop hs.good ht.good
        have e2 := form_twice hop hs.good ht.good
        rw [two_join] at j1 j2 j3
        have cz := rfit_call (T.two (nd op) s (.two (nd op) t s)).fl false
        have nx : fitS (T.two (nd op) s (.two (nd op) t s)).fl = true → FT (T.two (nd op) s t) ∧ FT (T.two (nd op) t s) ∧ FT (T.two (nd op) s (.two (nd op) t s)) := fun h => by
          have hz := ft_of_fit gz h
          have := hz.len
          exact ⟨⟨gx, by omega, good_size gx⟩, ⟨gy, by omega, good_size gy⟩, hz⟩
        obtain ⟨x, hx⟩ : ∃ x, T.two (nd op) s t = x := ⟨_, rfl⟩
        obtain ⟨y, hy⟩ : ∃ y, T.two (nd op) t s = y := ⟨_, rfl⟩
        rw [hx] at e1 e2 nx j1
        rw [hy] at e1 e2 nx j2 j3 cz
        obtain ⟨z, hz⟩ : ∃ z, T.two (nd op) s y = z := ⟨_, rfl⟩
        rw [hz] at e2 nx j3 cz
        simp only [List.map_cons, List.map_nil, lcell] at j1 j2 j3
        clear hx hy hz gx gy gz lx ly lz
        repeat' (first | (with_reducible first | (refine wT ?_; (first | ((fail_if_success (have := nl1)); refine wN fun nl1 hnl => ?_) | ((fail_if_success (have := nl2)); refine wN fun nl2 hnl => ?_) | ((fail_if_success (have := nl3)); refine wN fun nl3 hnl => ?_) | refine wN fun _ hnl => ?_); revert hnl; (repeat refine wS fun _ _ => ?_); intro hnl) | refine wD (by decide +kernel) ?_ | refine wI (fun h => ?_) fun h => ?_ | refine wF (fun h => ?_) fun h => ?_ | refine wG (fun h => ?_) fun h => ?_ | refine wH (fun h => ?_) fun h => ?_ | ((first | refine mfork_bool (fun h => ?_) fun h => ?_ | refine mgfork_bool (fun h => ?_) fun h => ?_) <;> simp only [h])) | simp (maxSteps := 4000000) (disch := first | decide | assumption | omega | (simp only [wL]; omega)) only [go_sem, simprocAttr])
        refine use_give1 _ nl1 j1 (set_hit _ _ _) rfl (views_two (.same _) (.vecAll (set_hit _ _ _) rfl)) ?_
        repeat' (first | (with_reducible first | (refine wT ?_; (first | ((fail_if_success (have := nl1)); refine wN fun nl1 hnl => ?_) | ((fail_if_success (have := nl2)); refine wN fun nl2 hnl => ?_) | ((fail_if_success (have := nl3)); refine wN fun nl3 hnl => ?_) | refine wN fun _ hnl => ?_); revert hnl; (repeat refine wS fun _ _ => ?_); intro hnl) | refine wD (by decide +kernel) ?_ | refine wI (fun h => ?_) fun h => ?_ | refine wF (fun h => ?_) fun h => ?_ | refine wG (fun h => ?_) fun h => ?_ | refine wH (fun h => ?_) fun h => ?_ | ((first | refine mfork_bool (fun h => ?_) fun h => ?_ | refine mgfork_bool (fun h => ?_) fun h => ?_) <;> simp only [h])) | simp (maxSteps := 4000000) (disch := first | decide | assumption | omega | (simp only [wL]; omega)) only [go_sem, simprocAttr])
        refine use_give1 _ nl2 j2 (set_hit _ _ _) rfl (views_two (.same _) (.vecAll (set_hit _ _ _) rfl)) ?_
        repeat' (first | (with_reducible first | (refine wT ?_; (first | ((fail_if_success (have := nl1)); refine wN fun nl1 hnl => ?_) | ((fail_if_success (have := nl2)); refine wN fun nl2 hnl => ?_) | ((fail_if_success (have := nl3)); refine wN fun nl3 hnl => ?_) | refine wN fun _ hnl => ?_); revert hnl; (repeat refine wS fun _ _ => ?_); intro hnl) | refine wD (by decide +kernel) ?_ | refine wI (fun h => ?_) fun h => ?_ | refine wF (fun h => ?_) fun h => ?_ | refine wG (fun h => ?_) fun h => ?_ | refine wH (fun h => ?_) fun h => ?_ | ((first | refine mfork_bool (fun h => ?_) fun h => ?_ | refine mgfork_bool (fun h => ?_) fun h => ?_) <;> simp only [h])) | simp (maxSteps := 4000000) (disch := first | decide | assumption | omega | (simp only [wL]; omega)) only [go_sem, simprocAttr])
        refine use_give1 _ nl3 j3 (set_hit _ _ _) rfl (views_two (.same _) (.vecAll (set_hit _ _ _) rfl)) ?_
        cases hzf : fitS z.fl <;> rw [hzf] at cz nx
        · repeat' (first | (with_reducible first | refine up cz ?_) | (with_reducible first | (refine wT ?_; (first | ((fail_if_success (have := nl1)); refine wN fun nl1 hnl => ?_) | ((fail_if_success (have := nl2)); refine wN fun nl2 hnl => ?_) | ((fail_if_success (have := nl3)); refine wN fun nl3 hnl => ?_) | refine wN fun _ hnl => ?_); revert hnl; (repeat refine wS fun _ _ => ?_); intro hnl) | refine wD (by decide +kernel) ?_ | refine wI (fun h => ?_) fun h => ?_ | refine wF (fun h => ?_) fun h => ?_ | refine wG (fun h => ?_) fun h => ?_ | refine wH (fun h => ?_) fun h => ?_ | ((first | refine mfork_bool (fun h => ?_) fun h => ?_ | refine mgfork_bool (fun h => ?_) fun h => ?_) <;> simp only [h])) | simp (maxSteps := 4000000) (disch := first | decide | assumption | omega | (simp only [wL]; omega)) only [go_sem, simprocAttr])
          refine .of (.less ?_ (St.le_refl _)) ⟨k + 1, rfl, rfl, hlt2, by omega⟩
          simp (maxSteps := 4000000) (disch := first | decide | assumption | omega | (simp only [wL]; omega)) only [go_sem, simprocAttr, weak_int, weak_same]
          all_goals omega
        · obtain ⟨fx, fy, fz⟩ := nx rfl
          have n1 := nof_fit njoined_call x fx
          have n2 := nof_fit njoined_call y fy
          have n3 := nof_fit njoined_call z fz
          have n4 := nsame_fit njoined_call z y fz fy
          have c1 := rsame_call (formT y false).fl (formT y false).fl (by have := formT_len y false; have := fy.len; omega) false false
          rw [e2, e1] at n3 n4
          rw [e1] at n1
          rw [decide_eq_true rfl] at n4 c1
          repeat' (first | (with_reducible first | refine up cz ?_ | refine up n1 ?_ | refine up n2 ?_ | refine up n3 ?_ | refine up n4 ?_ | refine up c1 ?_) | (with_reducible first | (refine wT ?_; (first | ((fail_if_success (have := nl1)); refine wN fun nl1 hnl => ?_) | ((fail_if_success (have := nl2)); refine wN fun nl2 hnl => ?_) | ((fail_if_success (have := nl3)); refine wN fun nl3 hnl => ?_) | refine wN fun _ hnl => ?_); revert hnl; (repeat refine wS fun _ _ => ?_); intro hnl) | refine wD (by decide +kernel) ?_ | refine wI (fun h => ?_) fun h => ?_ | refine wF (fun h => ?_) fun h => ?_ | refine wG (fun h => ?_) fun h => ?_ | refine wH (fun h => ?_) fun h => ?_ | ((first | refine mfork_bool (fun h => ?_) fun h => ?_ | refine mgfork_bool (fun h => ?_) fun h => ?_) <;> simp only [h])) | simp (maxSteps := 4000000) (disch := first | decide | assumption | omega | (simp only [wL]; omega)) only [go_sem, simprocAttr])
          refine .of (.less ?_ (St.le_refl _)) ⟨k + 1, rfl, rfl, hlt2, by omega⟩
          simp (maxSteps := 4000000) (disch := first | decide | assumption | omega | (simp only [wL]; omega)) only [go_sem, simprocAttr, weak_int, weak_same]
          all_goals omega
      · have hke : k = 2 := by omega
        subst hke
        repeat' (first | (with_reducible first | refine up hw ?_) | (with_reducible first | (refine wT ?_; (first | ((fail_if_success (have := nl1)); refine wN fun nl1 hnl => ?_) | ((fail_if_success (have := nl2)); refine wN fun nl2 hnl => ?_) | ((fail_if_success (have := nl3)); refine wN fun nl3 hnl => ?_) | refine wN fun _ hnl => ?_); revert hnl; (repeat refine wS fun _ _ => ?_); intro hnl) | refine wD (by decide +kernel) ?_ | refine wI (fun h => ?_) fun h => ?_ | refine wF (fun h => ?_) fun h => ?_ | refine wG (fun h => ?_) fun h => ?_ | refine wH (fun h => ?_) fun h => ?_ | ((first | refine mfork_bool (fun h => ?_) fun h => ?_ | refine mgfork_bool (fun h => ?_) fun h => ?_) <;> simp only [h])) | simp (maxSteps := 4000000) (disch := first | decide | assumption | omega | (simp only [wL]; omega)) only [go_sem, simprocAttr])
        exact ⟨_, St.le_refl _⟩
end Go.Proofs.Ytielcgplbnlgbaa
end

section
/- The bridge: what the arguments of a law hold, as the logic says it; a law out of its contract. -/
set_option linter.unusedVariables false
set_option linter.unusedSimpArgs false
namespace Go.Proofs.Ytielcgplbnlgbaa
open Go.ChangeShapes Go.WideShapes Go.RowKit

/-- Fields that lie one behind the other. -/
def tiles (P : Program) : List (Nat × TypeId) → Nat → Nat → Bool
  | [], o, n => o == n
  | (off, ft) :: r, o, n => off == o && tiles P r (o + (td P ft).size) n

/-- Types whose values are plain data. -/
def shp (P : Program) : Nat → TypeId → Bool
  | 0, _ => false
  | n + 1, t => (td P t).ok && match (td P t).k with
    | .bool | .int _ | .str => (td P t).size == 1
    | .slice e => (td P t).size == 1 && decide (0 < (td P e).size) && (td P e).ok && shp P n e
    | .struct fs => tiles P fs 0 (td P t).size && fs.all fun f => (td P f.2).ok && shp P n f.2
    | .array m e => (td P t).size == m * (td P e).size && (td P e).ok && shp P n e
    | _ => false

/-- Cells of a type. -/
def CT (P : Program) : Nat → TypeId → List MV → Prop
  | 0, _, _ => False
  | n + 1, t, cs => match (td P t).k with
    | .bool => ∃ b, cs = [.bool b]
    | .int k => ∃ v, cs = [.int k v] ∧ k.min ≤ v ∧ v ≤ k.max
    | .str => ∃ s : ByteArray, cs = [.str s] ∧ s.size ≤ maxLen
    | .slice e => ∃ xs, cs = [.lst (td P e).size xs false] ∧ xs.length ≤ maxLen ∧ ∀ x, x ∈ xs → CT P n e x
    | .struct fs => cs.length = (td P t).size ∧ ∀ f, f ∈ fs → CT P n f.2 ((cs.drop f.1).take (td P f.2).size)
    | .array m e => cs.length = (td P t).size ∧ ∀ i, i < m → CT P n e ((cs.drop (i * (td P e).size)).take (td P e).size)
    | _ => False

/-- An argument of a type. -/
def AT (P : Program) (n : Nat) (t : TypeId) (m : MV) : Prop := if (td P t).k.isAgg = true then ∃ cs, m = .agg cs ∧ CT P n t cs else CT P n t [m]

/-- The snapshots of all that is there. -/
def phi0 (w : World) : Phi := ⟨fun a => w.cell? a, fun _ => none, 0⟩

theorem inv0 (w : World) : Inv (phi0 w) w St.none where
  own := fun l o h => by simp [St.none] at h
  inj := fun l l' o o' p p' R h => by simp [St.none] at h
  snap := fun a v h => h
  apart := fun l o p R a v h => by simp [St.none] at h
  fresh := ⟨0, fun _ _ => rfl⟩

def RelL (Φ : Phi) (cs : List Value) (ms : List MV) : Prop := cs.length = ms.length ∧ ∀ (i : Nat) v m, cs[i]? = some v → ms[i]? = some m → m.isCell = true ∧ Rel Φ v m

theorem RelL.one {Φ : Phi} {v : Value} {m : MV} (hc : m.isCell = true) (h : Rel Φ v m) : RelL Φ [v] [m] :=
  ⟨rfl, fun i v' m' h1 h2 => by
    cases i with
    | zero => simp at h1 h2; subst h1 h2; exact ⟨hc, h⟩
    | succ i => simp at h1⟩

theorem RelL.app {Φ : Phi} {c1 c2 : List Value} {m1 m2 : List MV} (h1 : RelL Φ c1 m1) (h2 : RelL Φ c2 m2) : RelL Φ (c1 ++ c2) (m1 ++ m2) :=
  ⟨by simp [h1.1, h2.1], fun i v m hv hm => by
    rw [List.getElem?_append] at hv hm
    rw [h1.1] at hv
    split at hv <;> rename_i hi
    · rw [if_pos hi] at hm; exact h1.2 i v m hv hm
    · rw [if_neg hi] at hm; exact h2.2 _ v m hv hm⟩

section
variable {H : Type} {enc : TypeId × Value → H} {P : Program} {w : World} {base : Nat} {spare : Nat → Bool} {held : Bool}

theorem td_und {t : TypeId} (h : (td P t).ok = true) : ∃ i d, P.info? t = some i ∧ P.underlying t = some d ∧ (td P t).size = P.cellsOf t ∧ (td P t).k = tkOf d := by
  obtain ⟨i, d, h1, h2, h3, h4, h5⟩ := td_info h
  exact ⟨i, d, h1, h2, by rw [h3]; simp [Program.cellsOf, h1], h5⟩

theorem cells_size {t : TypeId} (h : (td P t).ok = true) : P.cellsOf t = (td P t).size := by
  obtain ⟨_, _, _, _, h, _⟩ := td_und h
  exact h.symm

/-- Fields one behind the other: their cells together. -/
theorem tile_fields {Φ : Phi} {n : Nat} {cs : List Value} {size : Nat} (hlen : cs.length = size) : ∀ (fs : List (Nat × TypeId)) (o : Nat), o ≤ size → tiles P fs o size = true →
    (∀ f, f ∈ fs → ∃ ms, RelL Φ ((cs.drop f.1).take (td P f.2).size) ms ∧ CT P n f.2 ms) → (∀ f, f ∈ fs → ∀ ms, CT P n f.2 ms → ms.length = (td P f.2).size) →
    ∃ ms, RelL Φ (cs.drop o) ms ∧ ∀ f, f ∈ fs → o ≤ f.1 ∧ CT P n f.2 ((ms.drop (f.1 - o)).take (td P f.2).size)
  | [], o, ho, ht, _, _ => by
    simp only [tiles, beq_iff_eq] at ht
    refine ⟨[], ?_, fun f h => by cases h⟩
    rw [ht, ← hlen, List.drop_length]
    exact ⟨rfl, fun i v m h => by simp at h⟩
  | (off, ft) :: r, o, ho, ht, hf, hl => by
    simp only [tiles, Bool.and_eq_true, beq_iff_eq] at ht
    obtain ⟨rfl, ht⟩ := ht
    obtain ⟨m1, r1, c1⟩ := hf (off, ft) (List.mem_cons_self ..)
    have e1 := hl (off, ft) (List.mem_cons_self ..) m1 c1
    simp only at r1 c1 e1
    have hle : off + (td P ft).size ≤ size := by
      have := r1.1
      simp only [List.length_take, List.length_drop, hlen] at this
      omega
    obtain ⟨m2, r2, c2⟩ := tile_fields hlen r (off + (td P ft).size) hle ht (fun f h => hf f (List.mem_cons_of_mem _ h)) (fun f h => hl f (List.mem_cons_of_mem _ h))
    refine ⟨m1 ++ m2, ?_, fun f h => ?_⟩
    · have : cs.drop off = (cs.drop off).take (td P ft).size ++ cs.drop (off + (td P ft).size) := by
        rw [← List.drop_drop, List.take_append_drop]
      rw [this]
      exact r1.app r2
    · rcases List.mem_cons.1 h with rfl | h
      · refine ⟨Nat.le_refl _, ?_⟩
        simp only [Nat.sub_self, List.drop_zero]
        rw [List.take_append_of_le_length (by omega), List.take_of_length_le (by omega)]
        exact c1
      · obtain ⟨h1, h2⟩ := c2 f h
        refine ⟨by omega, ?_⟩
        have : (m1 ++ m2).drop (f.1 - off) = m2.drop (f.1 - (off + (td P ft).size)) := by
          rw [List.drop_append, List.drop_eq_nil_of_le (by omega), List.nil_append]
          congr 1
          omega
        rw [this]
        exact h2

theorem ct_len : ∀ (n : Nat) (t : TypeId) (cs : List MV), shp P n t = true → CT P n t cs → cs.length = (td P t).size
  | 0, _, _, h, _ => by cases h
  | n + 1, t, cs, h, hc => by
    simp only [shp, Bool.and_eq_true] at h
    obtain ⟨_, h⟩ := h
    simp only [CT] at hc
    split at hc
    · rename_i hk; rw [hk] at h; simp only [beq_iff_eq] at h; obtain ⟨b, rfl⟩ := hc; exact h.symm
    · rename_i hk; rw [hk] at h; simp only [beq_iff_eq] at h; obtain ⟨b, rfl, _⟩ := hc; exact h.symm
    · rename_i hk; rw [hk] at h; simp only [beq_iff_eq] at h; obtain ⟨b, rfl, _⟩ := hc; exact h.symm
    · rename_i hk; rw [hk] at h; simp only [Bool.and_eq_true, beq_iff_eq] at h; obtain ⟨b, rfl, _⟩ := hc; exact h.1.1.1.symm
    · exact hc.1
    · exact hc.1
    · exact hc.elim

theorem tiles_le : ∀ (fs : List (Nat × TypeId)) (o m : Nat), tiles P fs o m = true → o ≤ m ∧ ∀ f, f ∈ fs → f.1 + (td P f.2).size ≤ m
  | [], o, m, h => by
    simp only [tiles, beq_iff_eq] at h
    exact ⟨by omega, fun f hf => by cases hf⟩
  | (off, ft) :: r, o, m, h => by
    simp only [tiles, Bool.and_eq_true, beq_iff_eq] at h
    obtain ⟨rfl, h⟩ := h
    obtain ⟨h1, h2⟩ := tiles_le r _ m h
    refine ⟨by omega, fun f hf => ?_⟩
    rcases List.mem_cons.1 hf with rfl | hf
    · exact h1
    · exact h2 f hf

theorem tiles_range (e : TypeId) : ∀ (k i : Nat), tiles P ((List.range' i k).map fun j => (j * (td P e).size, e)) (i * (td P e).size) ((i + k) * (td P e).size) = true
  | 0, i => by simp [tiles]
  | k + 1, i => by
    have := tiles_range e k (i + 1)
    rw [List.range'_succ]
    simp only [List.map_cons, tiles, beq_self_eq_true, Bool.true_and]
    rw [show i * (td P e).size + (td P e).size = (i + 1) * (td P e).size by rw [Nat.add_mul, Nat.one_mul], show i + (k + 1) = i + 1 + k by omega]
    exact this

/-- What a reading holds, as cells of the logic. -/
theorem trod_open : ∀ (n : Nat) (t : TypeId) (fuel : Nat) (cs : List Value) (x : DataW H × List MemPlace), shp P n t = true → cs.length = (td P t).size → DataW.trod enc P w base spare held fuel t cs = some x →
    ∃ ms, RelL (phi0 w) cs ms ∧ CT P n t ms
  | 0, _, _, _, _, h, _, _ => by cases h
  | n + 1, t, fuel, cs, x, h, hlen, hx => by
    simp only [shp, Bool.and_eq_true] at h
    obtain ⟨hok, h⟩ := h
    obtain ⟨i, d, hi, hd, hsz, hk⟩ := td_und hok
    split at h <;> rename_i hkk
    · have ht := und_bool hkk
      obtain ⟨b, rfl, _⟩ := DataW.trod_bool ht hx
      exact ⟨[.bool b], .one rfl (.bool b), by simp only [CT, hkk]; exact ⟨b, rfl⟩⟩
    · rename_i k
      have ht := und_int hkk
      obtain ⟨v, rfl, _, hw⟩ := DataW.trod_int ht hx
      simp only [Lit.wf, Bool.and_eq_true, decide_eq_true_eq] at hw
      exact ⟨[.int k v], .one rfl (.int k v), by simp only [CT, hkk]; exact ⟨v, rfl, hw⟩⟩
    · have ht := und_str hkk
      obtain ⟨s, rfl, _, hw⟩ := DataW.trod_string ht hx
      exact ⟨[.str s], .one rfl (.str s), by simp only [CT, hkk]; exact ⟨s, rfl, hw⟩⟩
    · rename_i e
      have ht := und_slice hkk
      simp only [Bool.and_eq_true, decide_eq_true_eq] at h
      obtain ⟨⟨⟨_, h0⟩, heok⟩, h⟩ := h
      have hce := cells_size heok
      rcases DataW.trod_slice ht hx with ⟨rfl, _⟩ | ⟨a, len, cap, elems, rest, m, _, rfl, _, _, hlc, hcm, hel, hget, _⟩
      · exact ⟨[.lst (td P e).size [] false], .one rfl (.lstn _ _), by simp only [CT, hkk]; exact ⟨[], rfl, by simp, fun x h => by cases h⟩⟩
      · have key : ∀ i : Nat, ∃ q : List Value × List MV, i < len → w.cells? base (a.add (i * (td P e).size)) (td P e).size = some q.1 ∧ RelL (phi0 w) q.1 q.2 ∧ CT P n e q.2 ∧ q.2.length = (td P e).size := by
          intro i
          by_cases hi : i < len
          · have := hget i hi
            rw [hce] at this
            obtain ⟨y, hy⟩ : ∃ y, elems[i]? = some y := ⟨elems[i]'(by omega), by simp⟩
            rw [hy] at this
            cases hc : w.cells? base (a.add (i * (td P e).size)) (td P e).size with
            | none => rw [hc] at this; cases this
            | some c =>
              rw [hc] at this
              have hcl := (World.cells?_some hc).2.1
              obtain ⟨ms, r, ct⟩ := trod_open n e m c y h hcl this
              exact ⟨(c, ms), fun _ => ⟨rfl, r, ct, by rw [← r.1]; exact hcl⟩⟩
          · exact ⟨([], []), fun h => absurd h hi⟩
        obtain ⟨F, hF⟩ := Classical.axiomOfChoice key
        let xs := (List.range len).map fun i => (F i).2
        have hxs : ∀ (i : Nat) (y : List MV), xs[i]? = some y → i < len ∧ y = (F i).2 := fun i y hy => by
          simp only [xs, List.getElem?_map, Option.map_eq_some_iff] at hy
          obtain ⟨j, hj, rfl⟩ := hy
          rw [List.getElem?_eq_some_iff] at hj
          obtain ⟨h1, h2⟩ := hj
          simp at h1 h2
          subst h2
          exact ⟨h1, rfl⟩
        refine ⟨[.lst (td P e).size xs false], .one rfl (Rel.mk_lst (by simp [xs]) hlc hcm (fun h => by cases h) (fun h => by cases h) (fun hpos => ?_)), ?_⟩
        · obtain ⟨hc0, hr0, _, hl0⟩ := hF 0 hpos
          obtain ⟨_, hcl, hcell⟩ := World.cells?_some hc0
          have g0 := hcell 0 h0
          obtain ⟨c0, hc0'⟩ : ∃ c0, (F 0).1[0]? = some c0 := ⟨(F 0).1[0]'(by omega), by simp⟩
          rw [hc0'] at g0
          obtain ⟨b, off, spot⟩ := a
          have hspot : spot = none := by simpa [Addr.add] using World.cell?_spot g0
          subst hspot
          refine ⟨b, off, rfl, fun i y hy => ?_, fun i j => (F i).1.getD j undef, fun i y j m hy hm => ?_⟩
          · obtain ⟨hi, rfl⟩ := hxs i y hy
            exact (hF i hi).2.2.2
          · obtain ⟨hi, rfl⟩ := hxs i y hy
            obtain ⟨hc, hr, _, hl⟩ := hF i hi
            obtain ⟨_, hcl, hcell⟩ := World.cells?_some hc
            have hj : j < (F i).2.length := (List.getElem?_eq_some_iff.1 hm).1
            have hj' : j < (F i).1.length := by rw [hcl, ← hl]; exact hj
            have hv : (F i).1[j]? = some ((F i).1.getD j undef) := by simp [List.getD, hj']
            obtain ⟨k1, k2⟩ := hr.2 j _ m hv hm
            refine ⟨k1, ?_, k2⟩
            have := hcell j (by omega)
            rw [hv] at this
            simp only [add_none] at this
            show w.cell? _ = _
            rw [← Nat.add_assoc]
            exact this
        · simp only [CT, hkk]
          refine ⟨xs, rfl, by simp [xs]; omega, fun y hy => ?_⟩
          obtain ⟨i, hi⟩ := List.mem_iff_getElem?.1 hy
          obtain ⟨hil, e⟩ := hxs i y hi
          rw [e]
          exact (hF i hil).2.2.1
    · rename_i fs
      obtain ⟨fa, ht, rfl⟩ := und_struct hkk
      simp only [Bool.and_eq_true, List.all_eq_true] at h
      obtain ⟨htl, hall⟩ := h
      obtain ⟨xs, m, _, _, hcl, hxl, hget⟩ := DataW.trod_struct ht hx
      have hfield : ∀ f, f ∈ (fa.toList.map fun f => (f.offset, f.type)) → ∃ ms, RelL (phi0 w) ((cs.drop f.1).take (td P f.2).size) ms ∧ CT P n f.2 ms := by
        intro f hf
        have hf0 := hall f hf
        obtain ⟨g, hg, rfl⟩ := List.mem_map.1 hf
        obtain ⟨i, hi⟩ := List.mem_iff_getElem?.1 hg
        have hi' : fa[i]? = some g := by simpa using hi
        have hil : i < xs.length := by
          rw [hxl]
          obtain ⟨q, _⟩ := Array.getElem?_eq_some_iff.1 hi'
          exact q
        have := hget i g hi'
        simp only at hf0 ⊢
        rw [cells_size hf0.1, List.getElem?_eq_getElem hil] at this
        refine trod_open n _ m _ _ hf0.2 ?_ this
        have := (tiles_le _ _ _ htl).2 _ hf
        simp only [List.length_take, List.length_drop, hlen] at this ⊢
        omega
      obtain ⟨ms, r, hc⟩ := tile_fields (Φ := phi0 w) (n := n) (P := P) hlen _ 0 (Nat.zero_le _) htl hfield (fun f hf ms hm => ct_len n _ ms (hall f hf).2 hm)
      refine ⟨ms, by simpa using r, ?_⟩
      simp only [CT, hkk]
      refine ⟨by rw [← hlen]; simpa using r.1.symm, fun f hf => ?_⟩
      have := (hc f hf).2
      simpa using this
    · rename_i k e
      have ht := und_array hkk
      simp only [Bool.and_eq_true, beq_iff_eq] at h
      obtain ⟨⟨hsz2, heok⟩, h⟩ := h
      obtain ⟨xs, m, _, _, hcl, hxl, hget⟩ := DataW.trod_array ht hx
      have htl : tiles P ((List.range k).map fun j => (j * (td P e).size, e)) 0 (td P t).size = true := by
        have := tiles_range (P := P) e k 0
        rw [List.range_eq_range', hsz2]
        simpa using this
      have hfield : ∀ f, f ∈ ((List.range k).map fun j => (j * (td P e).size, e)) → ∃ ms, RelL (phi0 w) ((cs.drop f.1).take (td P f.2).size) ms ∧ CT P n f.2 ms := by
        intro f hf
        have hle := (tiles_le _ _ _ htl).2 _ hf
        obtain ⟨i, hi, rfl⟩ := List.mem_map.1 hf
        have hik : i < k := by simpa using hi
        have := hget i hik
        simp only at hle ⊢
        rw [cells_size heok, List.getElem?_eq_getElem (by omega)] at this
        refine trod_open n _ m _ _ h ?_ this
        simp only [List.length_take, List.length_drop, hlen]
        omega
      obtain ⟨ms, r, hc⟩ := tile_fields (Φ := phi0 w) (n := n) (P := P) hlen _ 0 (Nat.zero_le _) htl hfield (fun f hf ms hm => by
        obtain ⟨i, hi, rfl⟩ := List.mem_map.1 hf
        exact ct_len n _ ms h hm)
      refine ⟨ms, by simpa using r, ?_⟩
      simp only [CT, hkk]
      refine ⟨by rw [← hlen]; simpa using r.1.symm, fun i hi => ?_⟩
      have := (hc (i * (td P e).size, e) (List.mem_map.2 ⟨i, by simpa using hi, rfl⟩)).2
      simpa using this
    · cases h

/-- What an argument holds. -/
theorem arg_open {n : Nat} {t : TypeId} {v : Value} {d : DataW H} {ps : List MemPlace} {r : Reach} {b0 : Nat} (h : shp P n t = true) (hv : Value.okWide P w r b0 t v) (hd : DataW.Trod enc P w base spare held t v d ps) :
    ∃ m, Rel (phi0 w) v m ∧ AT P n t m := by
  obtain ⟨fuel, hf⟩ := hd
  have hok : (td P t).ok = true := by
    cases n with
    | zero => cases h
    | succ n => simp only [shp, Bool.and_eq_true] at h; exact h.1
  have hcs := cells_size hok
  unfold AT
  have key : (∃ cs, v = .agg cs ∧ cs.size = (td P t).size ∧ (td P t).k.isAgg = true) ∨ ((td P t).k.isAgg = false ∧ v.cells = #[v] ∧ (td P t).size = 1) := by
    cases n with
    | zero => cases h
    | succ n =>
      simp only [shp, Bool.and_eq_true] at h
      obtain ⟨_, h⟩ := h
      split at h <;> rename_i hk
      · obtain ⟨b, rfl⟩ := okWide_bool (und_bool hk) hv
        exact .inr ⟨by rw [hk]; rfl, rfl, by simpa using h⟩
      · obtain ⟨b, rfl⟩ := okWide_int (und_int hk) hv
        exact .inr ⟨by rw [hk]; rfl, rfl, by simpa using h⟩
      · obtain ⟨b, rfl⟩ := okWide_string (und_str hk) hv
        exact .inr ⟨by rw [hk]; rfl, rfl, by simpa using h⟩
      · obtain ⟨a, l, c, rfl⟩ := okWide_slice (und_slice hk) hv
        simp only [Bool.and_eq_true, beq_iff_eq] at h
        exact .inr ⟨by rw [hk]; rfl, rfl, h.1.1.1⟩
      · obtain ⟨fa, ht, _⟩ := und_struct hk
        obtain ⟨cs, rfl, hs⟩ := okWide_struct ht hv
        exact .inl ⟨cs, rfl, by rw [hs, hcs], by rw [hk]; rfl⟩
      · have ht := und_array hk
        simp only [Value.okWide, ht] at hv
        obtain ⟨cs, rfl, hs, _⟩ := hv
        exact .inl ⟨cs, rfl, by rw [hs, hcs], by rw [hk]; rfl⟩
      · cases h
  rcases key with ⟨cs, rfl, hs, ha⟩ | ⟨ha, hc, hs⟩
  · simp only [ha, if_true]
    obtain ⟨ms, hr, hct⟩ := trod_open n t fuel _ _ h (by simpa [Value.cells] using hs) hf
    have hr' : RelL (phi0 w) cs.toList ms := by simpa [Value.cells] using hr
    have hl : cs.size = ms.length := by simpa using hr'.1
    have get : ∀ (i : Nat) m, ms[i]? = some m → cs.toList[i]? = some (cs.getD i undef) := fun i m hm => by
      have : i < cs.size := by rw [hl]; exact (List.getElem?_eq_some_iff.1 hm).1
      simp [Array.getD, this]
    exact ⟨.agg ms, .agg hl (fun i m hm => (hr'.2 i _ m (get i m hm) hm).1) (fun i m hm => (hr'.2 i _ m (get i m hm) hm).2), ms, rfl, hct⟩
  · simp only [ha, Bool.false_eq_true, if_false]
    obtain ⟨ms, hr, hct⟩ := trod_open n t fuel _ _ h (by rw [hc, hs]; rfl) hf
    rw [hc] at hr
    match ms, hr with
    | [m], hr =>
      exact ⟨m, (hr.2 0 v m rfl rfl).2, hct⟩
    | [], hr => exact absurd hr.1 (by simp)
    | _ :: _ :: _, hr => exact absurd hr.1 (by simp)

/-- All arguments. -/
def ATs (P : Program) (n : Nat) : List TypeId → List MV → Prop
  | [], [] => True
  | t :: ts, m :: ms => AT P n t m ∧ ATs P n ts ms
  | _, _ => False

theorem args_open {n : Nat} : ∀ {ts : List TypeId} {vs : List Value} {ds : List (DataW H)} {ps : List MemPlace}, (∀ t, t ∈ ts → shp P n t = true) → (∀ (j : Nat) t v, ts[j]? = some t → vs[j]? = some v → Value.okWide P w .any base t v) →
    DataW.TrodAll enc P w 0 spare held ts vs ds ps → ∃ ms, vs.length = ms.length ∧ (∀ (i : Nat) v m, vs[i]? = some v → ms[i]? = some m → Rel (phi0 w) v m) ∧ ATs P n ts ms
  | [], vs, ds, ps, _, _, h => by
    obtain ⟨rfl, _, _⟩ := trodAll_nil h
    exact ⟨[], rfl, fun i v m h => by simp at h, trivial⟩
  | t :: ts, vs, ds, ps, hs, hok, h => by
    obtain ⟨v, vs1, d, ds1, a, b, rfl, rfl, rfl, h1, h2⟩ := trodAll_cons h
    obtain ⟨m, r, ht⟩ := arg_open (hs t (List.mem_cons_self ..)) (hok 0 t v rfl rfl) h1
    obtain ⟨ms, e, rs, hts⟩ := args_open (fun t h => hs t (List.mem_cons_of_mem _ h)) (fun j t v p q => hok (j + 1) t v (by simpa using p) (by simpa using q)) h2
    refine ⟨m :: ms, by simp [e], fun i v' m' p q => ?_, ht, hts⟩
    cases i with
    | zero => simp at p q; subst p q; exact r
    | succ i => simp at p q; exact rs i v' m' p q

/-- The arguments read as they did. -/
theorem args_stay {W W' : World} (hl : laidOutB P = true) (hb : ∀ k, k < W.heap.size → W'.heap[k]? = W.heap[k]?) : ∀ {ts : List TypeId} {vs : List Value} {ds : List (DataW H)} {ps : List MemPlace} {sp : Nat → Bool},
    (∀ t, t ∈ ts → P.readableRec t = true ∧ t < P.types.size) → DataW.TrodAll enc P W 0 (fun _ => true) true ts vs ds ps → (∀ x ∈ ps, x.block < W.heap.size) → (∀ x ∈ ps, sp x.block = true) → DataW.TrodAll enc P W' 0 sp true ts vs ds ps
  | [], vs, ds, ps, sp, _, h, _, _ => by
    obtain ⟨rfl, rfl, rfl⟩ := trodAll_nil h
    exact trodAll_mk0
  | t :: ts, vs, ds, ps, sp, hr, h, hlt, hsp => by
    obtain ⟨v, vs1, d, ds1, a, b, rfl, rfl, rfl, h1, h2⟩ := trodAll_cons h
    refine ⟨a, b, ?_, args_stay hl hb (fun t h => hr t (List.mem_cons_of_mem _ h)) h2 (fun x hx => hlt x (List.mem_append_right _ hx)) (fun x hx => hsp x (List.mem_append_right _ hx)), rfl⟩
    obtain ⟨r1, r2⟩ := hr t (List.mem_cons_self ..)
    refine WideElems.Trod_stays hl r1 r2 h1 (fun x hx => ?_) (fun x hx => hsp x (List.mem_append_left _ hx))
    have hp := hlt x (List.mem_append_left _ hx)
    cases x with
    | cell b o => exact World.cell?_of_block (w := W) (hb b hp)
    | map b => exact hb b hp

theorem kept_of {W W' : World} {may : MemPlace → Prop} (h1 : W'.os = W.os) (h2 : W'.output = W.output) (hb : ∀ k, k < W.heap.size → W'.heap[k]? = W.heap[k]?) : W.keptBut W' may := by
  refine ⟨h1, h2, fun i hi => ?_⟩
  rw [hb i hi]
  cases W.heap[i]? with
  | none => rfl
  | some o => cases o with
    | cells c t fr => exact ⟨rfl, rfl, rfl, fun _ _ => rfl⟩
    | map es clock => exact .inr ⟨rfl, rfl⟩
    | _ => rfl

theorem frozen_of {W W' : World} (hb : ∀ k, k < W.heap.size → W'.heap[k]? = W.heap[k]?) {a : Addr} (h : a.block < W.heap.size) : W'.frozen? a = W.frozen? a := by
  unfold World.frozen?
  rw [hb _ h]

/-- A law, out of its contract. -/
theorem law_post {f : Func} {s : ChangeSpec} {apart fresh handsOn again : Bool} {W W' : World} {args : Array Value} {ds gs : List (DataW H)} {before : List MemPlace} {tb : TypeId}
    (hvars : s.vars = []) (hs : ∀ (H : Type) (ds : List (DataW H)), ds.length = f.params.size → s.fn H ds = { results := [.lit (.bool true)], args := ds })
    (hres : f.resultTypes = #[tb]) (htb : P.underlying tb = some .bool) (hl : laidOutB P = true) (hr : ∀ t, t ∈ f.params.toList → P.readableRec t = true ∧ t < P.types.size)
    (hW : DataW.Whole enc P f.params.toList s.vars apart W args.toList ds gs before) (h1 : W'.os = W.os) (h2 : W'.output = W.output) (hb : ∀ k, k < W.heap.size → W'.heap[k]? = W.heap[k]?) :
    s.post enc P f apart fresh handsOn again W args (.bool true) W' := by
  have hlt := hW.lt
  have hW0 := hW
  obtain ⟨p, q, hA, hV, hpq, hfz, hnd⟩ := hW
  rw [hvars] at hV
  obtain ⟨rfl, rfl⟩ := trodVars_none hV
  rw [List.append_nil] at hpq
  subst hpq
  have hlen : ∀ {ts : List TypeId} {vs : List Value} {ds : List (DataW H)} {ps : List MemPlace}, DataW.TrodAll enc P W 0 (fun _ => true) true ts vs ds ps → ds.length = ts.length := by
    intro ts
    induction ts with
    | nil => intro vs ds ps h; obtain ⟨_, rfl, _⟩ := trodAll_nil h; rfl
    | cons t ts ih =>
      intro vs ds ps h
      obtain ⟨v, vs1, d, ds1, a, b, rfl, rfl, rfl, h1, h2⟩ := trodAll_cons h
      simp [ih h2]
  have hfn : s.fn H (ds ++ []) = { results := [.lit (.bool true)], args := ds } := by
    rw [List.append_nil]
    exact hs H ds (by rw [hlen hA]; simp)
  have hargs : ∀ sp : Nat → Bool, (∀ x ∈ before, sp x.block = true) → DataW.TrodAll enc P W' 0 sp true f.params.toList args.toList ds before := fun sp hsp => args_stay hl hb hr hA hlt hsp
  have hresl : (Value.bool true).resultList f.resultTypes.size = [.bool true] := by rw [hres]; rfl
  have hrt : ∀ (b : Nat) (sp : Nat → Bool) (hd : Bool), DataW.TrodAll enc P W' b sp hd f.resultTypes.toList ((Value.bool true).resultList f.resultTypes.size) [.lit (.bool true)] [] := fun b sp hd => by
    rw [hresl, hres]
    exact trodAll_mk1 (shut_bool htb true)
  refine ⟨ds, [], before, [], before, [], hW0, ?_, ?_, ?_, kept_of h1 h2 hb, fun _ => ⟨?_, [.lit (.bool true)] ++ ds, [], [] ++ before, ⟨[] ++ before, [], trodAll_append (hargs _ fun _ _ => rfl) (hrt _ _ _), ?_, by simp, fun b off hp => ?_, fun ha => ?_⟩, fun x hx _ => ?_⟩⟩
  · rw [hfn]; exact hrt _ _ _
  · rw [hfn]; exact hargs _ fun x hx => by simpa using hlt x hx
  · rw [hfn, hvars]; rfl
  · exact ok_one hres rfl (okWide_bool_mk htb true)
  · rw [hvars]; rfl
  · have hp' : MemPlace.cell b off ∈ before := by simpa using hp
    rw [frozen_of hb (a := ⟨b, off, none⟩) (hlt _ hp')]
    exact hfz b off (by simpa using hp')
  · have := hnd ha
    simpa using this
  · simpa using hx

/-- A law is lifted. -/
theorem law_lift {C : Checked} {os : Os} {g : FuncId} {fn : Func} {s : ChangeSpec} {conds : List PathCond} {apart fresh handsOn again : Bool} {tb : TypeId} {n : Nat}
    (hvars : s.vars = []) (hs : ∀ (H : Type) (ds : List (DataW H)), ds.length = fn.params.size → s.fn H ds = { results := [.lit (.bool true)], args := ds })
    (hres : fn.resultTypes = #[tb]) (htb : C.prog.underlying tb = some .bool) (hl : laidOutB C.prog = true) (hr : ∀ t, t ∈ fn.params.toList → C.prog.readableRec t = true ∧ t < C.prog.types.size)
    (hshp : ∀ t, t ∈ fn.params.toList → shp C.prog n t = true)
    (own : ownKnob C.prog.godebug = none) (started : os.Started) (noInit : C.prog.inits.idxOf? g = none) (hfn : C.prog.funcs[g]? = some fn)
    (witness : ∃ (w : World) (tape : Tape) (i : Input), w.os = os ∧ (w.forCall tape i).Shaped C.prog ∧ i.vars = [] ∧ Input.okWide C.prog (w.forCall tape i) .any w.heap.size g i ∧
      s.pre6 enc C.prog fn conds apart (w.forCall tape i).memory i.args ∧ ({} : Assume).holds C.prog (lone (Frame.enter C.prog g i.args .normal) [] (w.forCall tape i)))
    (h : ∀ ms, ATs C.prog n fn.params.toList ms → MCalls C.prog g ms St.none fun r _ => r = .bool true) :
    ReturnsInHanded {} C os g .any (s.pre6 enc C.prog fn conds apart) (s.post enc C.prog fn apart fresh handsOn again) := by
  refine returnsInHanded_of_change own started noInit hfn witness ?_
  intro W base args ds gs before hval hW _ _
  obtain ⟨p, q, hA, _⟩ := id hW
  obtain ⟨ms, e, hrel, hat⟩ := args_open (n := n) (base := base) hshp (fun j t v p q => hval j t v (by simpa using p) (by simpa using q)) hA
  have hrels : Rels (phi0 W) args ms := ⟨by simpa using e, fun i m hm => by
    have hi : i < args.size := by
      have := (List.getElem?_eq_some_iff.1 hm).1
      simp at e; omega
    exact hrel i _ m (by simp [Array.getD, hi]) hm⟩
  refine ((h ms hat).2 (phi0 W) W args (inv0 W) hrels).mono fun e' W' ⟨v, mv, σ', Φ', he, hv, hi, hst, hq⟩ => ?_
  subst hq
  cases hv
  refine ⟨_, he, law_post hvars hs hres htb hl hr hW hst.os hst.output fun k hk => hst.block k hk ?_⟩
  rintro ⟨l, o, p, h1, _⟩
  simp [St.none] at h1

theorem ct_int {n : Nat} {t : TypeId} {k : IntKind} {cs : List MV} (hk : (td P t).k = .int k) (h : CT P (n + 1) t cs) : ∃ v, cs = [.int k v] ∧ k.min ≤ v ∧ v ≤ k.max := by
  simp only [CT, hk] at h; exact h
theorem ct_bool {n : Nat} {t : TypeId} {cs : List MV} (hk : (td P t).k = .bool) (h : CT P (n + 1) t cs) : ∃ b, cs = [.bool b] := by
  simp only [CT, hk] at h; exact h
theorem ct_str {n : Nat} {t : TypeId} {cs : List MV} (hk : (td P t).k = .str) (h : CT P (n + 1) t cs) : ∃ s : ByteArray, cs = [.str s] ∧ s.size ≤ maxLen := by
  simp only [CT, hk] at h; exact h
theorem ct_slice {n : Nat} {t e : TypeId} {cs : List MV} (hk : (td P t).k = .slice e) (h : CT P (n + 1) t cs) : ∃ xs, cs = [.lst (td P e).size xs false] ∧ xs.length ≤ maxLen ∧ ∀ x, x ∈ xs → CT P n e x := by
  simp only [CT, hk] at h; exact h
theorem ct_struct {n : Nat} {t : TypeId} {fs : List (Nat × TypeId)} {cs : List MV} (hk : (td P t).k = .struct fs) (h : CT P (n + 1) t cs) : cs.length = (td P t).size ∧ ∀ f, f ∈ fs → CT P n f.2 ((cs.drop f.1).take (td P f.2).size) := by
  simp only [CT, hk] at h; exact h
theorem ct_array {n m : Nat} {t e : TypeId} {cs : List MV} (hk : (td P t).k = .array m e) (h : CT P (n + 1) t cs) : cs.length = (td P t).size ∧ ∀ i, i < m → CT P n e ((cs.drop (i * (td P e).size)).take (td P e).size) := by
  simp only [CT, hk] at h; exact h
theorem at_cell {n : Nat} {t : TypeId} {m : MV} (hk : (td P t).k.isAgg = false) (h : AT P n t m) : CT P n t [m] := by
  simpa only [AT, hk, Bool.false_eq_true, if_false] using h
theorem at_agg {n : Nat} {t : TypeId} {m : MV} (hk : (td P t).k.isAgg = true) (h : AT P n t m) : ∃ cs, m = .agg cs ∧ CT P n t cs := by
  simpa only [AT, hk, if_true] using h
theorem lists_of {α : Type} {f : α → List MV} {xs : List (List MV)} (h : ∀ x, x ∈ xs → ∃ a, x = f a) : ∃ l : List α, xs = l.map f := by
  induction xs with
  | nil => exact ⟨[], rfl⟩
  | cons x xs ih =>
    obtain ⟨a, rfl⟩ := h x (List.mem_cons_self ..)
    obtain ⟨l, rfl⟩ := ih fun y hy => h y (List.mem_cons_of_mem _ hy)
    exact ⟨a :: l, rfl⟩
theorem lists_ofP {α : Type} {p : α → Prop} {f : α → List MV} {xs : List (List MV)} (h : ∀ x, x ∈ xs → ∃ a, x = f a ∧ p a) : ∃ l : List α, xs = l.map f ∧ ∀ a, a ∈ l → p a := by
  induction xs with
  | nil => exact ⟨[], rfl, fun a h => by cases h⟩
  | cons x xs ih =>
    obtain ⟨a, rfl, ha⟩ := h x (List.mem_cons_self ..)
    obtain ⟨l, rfl, hl⟩ := ih fun y hy => h y (List.mem_cons_of_mem _ hy)
    exact ⟨a :: l, rfl, fun b hb => (List.mem_cons.1 hb).elim (fun e => e ▸ ha) (hl b)⟩
theorem cell_eq {a b : MV} (h : [a] = [b]) : a = b := by simpa using h
end
end Go.Proofs.Ytielcgplbnlgbaa
end

section
/- What the arguments of the laws hold. -/
set_option linter.unusedVariables false
set_option linter.unusedSimpArgs false
namespace Go.Proofs.Ytielcgplbnlgbaa
open Go.ChangeShapes Go.WideShapes Go.RowKit
set_option maxRecDepth 100000

theorem va_open {n : Nat} {x : List MV} (h : CT Try.prog (n + 2) 32 x) : ∃ a : VA, x = a.c := by
  obtain ⟨hl, hf⟩ := ct_struct (congrArg TD.k td32) h
  rw [td32] at hl
  match x, hl with
  | [a, b, c], _ =>
    obtain ⟨v0, h0, _⟩ := ct_int (by rw [td3]) (hf (0, 3) (by simp))
    obtain ⟨v1, h1, _⟩ := ct_int (by rw [td3]) (hf (1, 3) (by simp))
    obtain ⟨v2, h2, _⟩ := ct_str (by rw [td9]) (hf (2, 9) (by simp))
    simp only [td3, td9, List.drop_zero, List.drop_succ_cons, List.take_succ_cons, List.take_zero, List.cons.injEq, and_true] at h0 h1 h2
    subst h0 h1 h2
    exact ⟨⟨v0, v1, v2⟩, rfl⟩

theorem nd_open {n : Nat} {x : List MV} (h : CT Try.prog (n + 3) 49 x) : ∃ a : ND, x = a.c := by
  obtain ⟨hl, hf⟩ := ct_struct (congrArg TD.k td49) h
  rw [td49] at hl
  match x, hl with
  | [a, b, c, d, e], _ =>
    obtain ⟨v0, h0, _⟩ := ct_int (by rw [td3]) (hf (0, 3) (by simp))
    obtain ⟨v1, h1, _⟩ := ct_int (by rw [td3]) (hf (1, 3) (by simp))
    obtain ⟨p, h2⟩ := va_open (hf (2, 32) (by simp))
    simp only [td3, td32, List.drop_zero, List.drop_succ_cons, List.take_succ_cons, List.take_zero, List.cons.injEq, and_true, VA.c] at h0 h1 h2
    obtain ⟨rfl, rfl, rfl⟩ := h2
    subst h0 h1
    exact ⟨⟨v0, v1, p⟩, rfl⟩

theorem nds_open {m : MV} (h : AT Try.prog 6 22 m) : ∃ l : List ND, m = .lst 5 (l.map ND.c) false := by
  obtain ⟨xs, hm, _, hx⟩ := ct_slice (by rw [td22]) (at_cell (by rw [td22]; rfl) h)
  obtain ⟨l, rfl⟩ := lists_of fun x hx' => nd_open (hx x hx')
  rw [td49] at hm
  exact ⟨l, cell_eq hm⟩

theorem nodes2_open {ms : List MV} (h : ATs Try.prog 6 [22, 22] ms) : ∃ a b : List ND, ms = [.lst 5 (a.map ND.c) false, .lst 5 (b.map ND.c) false] := by
  match ms, h with
  | [m, m2], ⟨h, h2, _⟩ =>
    obtain ⟨a, rfl⟩ := nds_open h
    obtain ⟨b, rfl⟩ := nds_open h2
    exact ⟨a, b, rfl⟩

theorem nodes2on_open {ms : List MV} (h : ATs Try.prog 6 [22, 22, 30] ms) : ∃ (a b : List ND) (on : Nat), on < 4294967296 ∧ ms = [.lst 5 (a.map ND.c) false, .lst 5 (b.map ND.c) false, .int .u32 (on : Int)] := by
  match ms, h with
  | [m, m2, m3], ⟨h, h2, h3, _⟩ =>
    obtain ⟨a, rfl⟩ := nds_open h
    obtain ⟨b, rfl⟩ := nds_open h2
    obtain ⟨v, hv, h0, h1⟩ := ct_int (by rw [td30]) (at_cell (by rw [td30]; rfl) h3)
    have e0 : IntKind.u32.min = 0 := by decide
    have e1 : IntKind.u32.max = 4294967295 := by decide
    rw [e0] at h0
    rw [e1] at h1
    refine ⟨a, b, v.toNat, by omega, ?_⟩
    rw [cell_eq hv, Int.toNat_of_nonneg h0]

theorem own_ : ownKnob Try.prog.godebug = none := by kernel_rfl
end Go.Proofs.Ytielcgplbnlgbaa
end
