/- Parts of the proof, joined: each part says what it proves, and under which conditions. -/
import Derived.Test.YtielcgplbnlgbaaNke
import Derived.OpenShut
import Derived.ChangeSame
import Derived.Carry
import Derived.RowKit
import Derived.JoinedOf
import Derived.JoinedAt
import Derived.Test.YtielcgplbnlgbaaRows
section
/- Contract of LogicSays: the conditions that the theorem names. -/
set_option linter.unusedVariables false
set_option linter.unusedSimpArgs false
namespace Go.Proofs.Ytielcgplbnlgbaa

theorem atoms_le (l : List ND) : (atomsS l).length ≤ l.length := by
  have h1 := foldl_len (l.filter isAtom) []
  have h2 := List.length_filter_le isAtom l
  simp only [List.length_nil, Nat.zero_add] at h1
  exact Nat.le_trans h1 h2

set_option maxHeartbeats 8000000 in
theorem logSays_call (a b : List ND) (on : Nat) (hon : on < 4294967296) : MCalls Try.prog 6 [.lst 5 (a.map ND.c) false, .lst 5 (b.map ND.c) false, .int .u32 (on : Int)] St.none (fun r _ => r = .bool true) := by
  refine (MCalls.body 75 [.tmp 6] Try.func6 rfl rfl rfl rfl ?_)
  have hw := lawake_call
  have hla := rlarge_call a false
  have hlb := rlarge_call b false
  have hfa := rfit_call a false
  have hfb := rfit_call b false
  cases ga : fitS a <;> cases gb : fitS b <;> rw [ga] at hfa <;> rw [gb] at hfb
  · repeat' (first | (with_reducible refine use_pure hla ?_) | (with_reducible refine use_pure hlb ?_) | (with_reducible refine use_pure hfa ?_) | (with_reducible refine use_pure hfb ?_) | (with_reducible refine use_pure hw ?_) | (with_reducible first | (refine wT ?_; (first | ((fail_if_success (have := nl1)); refine wN fun nl1 hnl => ?_) | ((fail_if_success (have := nl2)); refine wN fun nl2 hnl => ?_) | refine wN fun _ hnl => ?_); revert hnl; (repeat refine wS fun _ _ => ?_); intro hnl) | refine wD (by decide +kernel) ?_ | refine wI (fun h => ?_) fun h => ?_ | refine wF (fun h => ?_) fun h => ?_ | refine wG (fun h => ?_) fun h => ?_ | refine wH (fun h => ?_) fun h => ?_ | ((first | refine mfork_bool (fun h => ?_) fun h => ?_ | refine mgfork_bool (fun h => ?_) fun h => ?_) <;> simp only [h])) | simp (maxSteps := 4000000) (disch := first | decide | assumption | omega | (simp only [wL]; omega)) only [go_sem, simprocAttr, Try.f6])
  · repeat' (first | (with_reducible refine use_pure hla ?_) | (with_reducible refine use_pure hlb ?_) | (with_reducible refine use_pure hfa ?_) | (with_reducible refine use_pure hfb ?_) | (with_reducible refine use_pure hw ?_) | (with_reducible first | (refine wT ?_; (first | ((fail_if_success (have := nl1)); refine wN fun nl1 hnl => ?_) | ((fail_if_success (have := nl2)); refine wN fun nl2 hnl => ?_) | refine wN fun _ hnl => ?_); revert hnl; (repeat refine wS fun _ _ => ?_); intro hnl) | refine wD (by decide +kernel) ?_ | refine wI (fun h => ?_) fun h => ?_ | refine wF (fun h => ?_) fun h => ?_ | refine wG (fun h => ?_) fun h => ?_ | refine wH (fun h => ?_) fun h => ?_ | ((first | refine mfork_bool (fun h => ?_) fun h => ?_ | refine mgfork_bool (fun h => ?_) fun h => ?_) <;> simp only [h])) | simp (maxSteps := 4000000) (disch := first | decide | assumption | omega | (simp only [wL]; omega)) only [go_sem, simprocAttr, Try.f6])
  · repeat' (first | (with_reducible refine use_pure hla ?_) | (with_reducible refine use_pure hlb ?_) | (with_reducible refine use_pure hfa ?_) | (with_reducible refine use_pure hfb ?_) | (with_reducible refine use_pure hw ?_) | (with_reducible first | (refine wT ?_; (first | ((fail_if_success (have := nl1)); refine wN fun nl1 hnl => ?_) | ((fail_if_success (have := nl2)); refine wN fun nl2 hnl => ?_) | refine wN fun _ hnl => ?_); revert hnl; (repeat refine wS fun _ _ => ?_); intro hnl) | refine wD (by decide +kernel) ?_ | refine wI (fun h => ?_) fun h => ?_ | refine wF (fun h => ?_) fun h => ?_ | refine wG (fun h => ?_) fun h => ?_ | refine wH (fun h => ?_) fun h => ?_ | ((first | refine mfork_bool (fun h => ?_) fun h => ?_ | refine mgfork_bool (fun h => ?_) fun h => ?_) <;> simp only [h])) | simp (maxSteps := 4000000) (disch := first | decide | assumption | omega | (simp only [wL]; omega)) only [go_sem, simprocAttr, Try.f6])
  cases ea : largeS a <;> cases eb : largeS b <;> rw [ea] at hla <;> rw [eb] at hlb
  · obtain ⟨s, rfl, hs⟩ := FT.of ga (size_of_large ea)
    obtain ⟨t, rfl, ht⟩ := FT.of gb (size_of_large eb)
    have hls := hs.len
    have hlt := ht.len
    have cr := ratoms_call s.fl t.fl false false (by omega) (by omega) hs.size ht.size
    rw [ft_atoms hs ht] at cr
    have cr0 := ratoms_call s.fl [] false false (by omega) (by simp) hs.size (by simp)
    rw [ratoms_eq (l := s.fl ++ []) (by rw [List.append_nil]; exact hs.good.2), List.append_nil] at cr0
    have c1 := atoms_call [s.fl, t.fl] false (by simp) (fun l hl => by
      simp only [List.mem_cons, List.not_mem_nil, or_false] at hl
      rcases hl with rfl | rfl <;> omega)
    rw [lens_two] at c1
    have c2 := atoms_call [s.fl] false (by simp) (fun l hl => by
      simp only [List.mem_cons, List.not_mem_nil, or_false] at hl
      subst hl; omega)
    rw [show [s.fl].flatten = s.fl by simp] at c2
    have c3 := atoms_call [] false (by simp) (by simp)
    have e3 : atomsS ([] : List (List ND)).flatten = [] := by decide +kernel
    rw [e3] at c3
    have hr := atoms_rising (s.fl ++ t.fl)
    have hal : (atomsS (s.fl ++ t.fl)).length ≤ 100000 := by
      have := atoms_le (s.fl ++ t.fl)
      rw [List.length_append] at this
      omega
    have hal1 : (atomsS s.fl).length ≤ 100000 := by
      have := atoms_le s.fl
      omega
    have d1 := rsame_call (atomsS (s.fl ++ t.fl)) (atomsS (s.fl ++ t.fl)) (by omega) false false
    have d2 := rsame_call (atomsS s.fl) (atomsS s.fl) (by omega) false false
    rw [decide_eq_true rfl] at d1 d2
    have f1 := lsays_call (atomsS (s.fl ++ t.fl)) hal hr false on hon s hs.good.1 false (by omega)
    have f2 := fun h => rsays_call (atomsS (s.fl ++ t.fl)) h hr false on hon s hs.good.1 (by omega) false
    have g1 := lsays_call [] (by simp) (by simp [Rising]) false on hon t ht.good.1 false (by omega)
    have g2 := rsays_call [] (by simp) (by simp [Rising]) false on hon t ht.good.1 (by omega) false
    generalize t.sem (asg [] on) = q at g1 g2
    generalize s.sem (asg (atomsS (s.fl ++ t.fl)) on) = p at f1 f2
    generalize atomsS (s.fl ++ t.fl) = l at cr c1 hr hal d1 f1 f2
    generalize atomsS s.fl = l1 at cr0 c2 hal1 d2
    simp only [List.map_cons, List.map_nil] at c1 c2 c3 g1 g2 cr0
    by_cases h32 : l.length ≤ 32
    · have f3 := f2 h32
      repeat' (first | (with_reducible refine use_pure hla ?_) | (with_reducible refine use_pure hlb ?_) | (with_reducible refine use_pure hfa ?_) | (with_reducible refine use_pure hfb ?_) | (with_reducible refine use_pure hw ?_) | (with_reducible refine use_pure cr ?_) | (with_reducible refine use_pure d1 ?_) | (with_reducible refine use_pure d2 ?_) | (with_reducible refine use_pure f1 ?_) | (with_reducible refine use_pure f3 ?_) | (with_reducible first | (refine wT ?_; (first | ((fail_if_success (have := nl1)); refine wN fun nl1 hnl => ?_) | ((fail_if_success (have := nl2)); refine wN fun nl2 hnl => ?_) | refine wN fun _ hnl => ?_); revert hnl; (repeat refine wS fun _ _ => ?_); intro hnl) | refine wD (by decide +kernel) ?_ | refine wI (fun h => ?_) fun h => ?_ | refine wF (fun h => ?_) fun h => ?_ | refine wG (fun h => ?_) fun h => ?_ | refine wH (fun h => ?_) fun h => ?_ | ((first | refine mfork_bool (fun h => ?_) fun h => ?_ | refine mgfork_bool (fun h => ?_) fun h => ?_) <;> simp only [h])) | simp (maxSteps := 4000000) (disch := first | decide | assumption | omega | (simp only [wL]; omega)) only [go_sem, simprocAttr, Try.f6])
      refine use_give1 _ nl1 c1 (set_hit _ _ _) rfl (views_one (.vecAll (set_hit _ _ _) rfl)) ?_
      repeat' (first | (with_reducible refine use_pure hla ?_) | (with_reducible refine use_pure hlb ?_) | (with_reducible refine use_pure hfa ?_) | (with_reducible refine use_pure hfb ?_) | (with_reducible refine use_pure hw ?_) | (with_reducible refine use_pure cr ?_) | (with_reducible refine use_pure d1 ?_) | (with_reducible refine use_pure d2 ?_) | (with_reducible refine use_pure f1 ?_) | (with_reducible refine use_pure f3 ?_) | (with_reducible first | (refine wT ?_; (first | ((fail_if_success (have := nl1)); refine wN fun nl1 hnl => ?_) | ((fail_if_success (have := nl2)); refine wN fun nl2 hnl => ?_) | refine wN fun _ hnl => ?_); revert hnl; (repeat refine wS fun _ _ => ?_); intro hnl) | refine wD (by decide +kernel) ?_ | refine wI (fun h => ?_) fun h => ?_ | refine wF (fun h => ?_) fun h => ?_ | refine wG (fun h => ?_) fun h => ?_ | refine wH (fun h => ?_) fun h => ?_ | ((first | refine mfork_bool (fun h => ?_) fun h => ?_ | refine mgfork_bool (fun h => ?_) fun h => ?_) <;> simp only [h])) | simp (maxSteps := 4000000) (disch := first | decide | assumption | omega | (simp only [wL]; omega)) only [go_sem, simprocAttr])
      refine use_give1 _ nl2 c2 (set_hit _ _ _) rfl (views_one (.vecAll (set_hit _ _ _) rfl)) ?_
      repeat' (first | (with_reducible refine use_pure hla ?_) | (with_reducible refine use_pure hlb ?_) | (with_reducible refine use_pure hfa ?_) | (with_reducible refine use_pure hfb ?_) | (with_reducible refine use_pure hw ?_) | (with_reducible refine use_pure cr ?_) | (with_reducible refine use_pure d1 ?_) | (with_reducible refine use_pure d2 ?_) | (with_reducible refine use_pure f1 ?_) | (with_reducible refine use_pure f3 ?_) | (with_reducible first | (refine wT ?_; (first | ((fail_if_success (have := nl1)); refine wN fun nl1 hnl => ?_) | ((fail_if_success (have := nl2)); refine wN fun nl2 hnl => ?_) | refine wN fun _ hnl => ?_); revert hnl; (repeat refine wS fun _ _ => ?_); intro hnl) | refine wD (by decide +kernel) ?_ | refine wI (fun h => ?_) fun h => ?_ | refine wF (fun h => ?_) fun h => ?_ | refine wG (fun h => ?_) fun h => ?_ | refine wH (fun h => ?_) fun h => ?_ | ((first | refine mfork_bool (fun h => ?_) fun h => ?_ | refine mgfork_bool (fun h => ?_) fun h => ?_) <;> simp only [h])) | simp (maxSteps := 4000000) (disch := first | decide | assumption | omega | (simp only [wL]; omega)) only [go_sem, simprocAttr])
      refine use_weak _ cr0 rfl (views_two (.same _) (.nil _ _)) ?_
      repeat' (first | (with_reducible refine use_pure hla ?_) | (with_reducible refine use_pure hlb ?_) | (with_reducible refine use_pure hfa ?_) | (with_reducible refine use_pure hfb ?_) | (with_reducible refine use_pure hw ?_) | (with_reducible refine use_pure cr ?_) | (with_reducible refine use_pure d1 ?_) | (with_reducible refine use_pure d2 ?_) | (with_reducible refine use_pure f1 ?_) | (with_reducible refine use_pure f3 ?_) | (with_reducible first | (refine wT ?_; (first | ((fail_if_success (have := nl1)); refine wN fun nl1 hnl => ?_) | ((fail_if_success (have := nl2)); refine wN fun nl2 hnl => ?_) | refine wN fun _ hnl => ?_); revert hnl; (repeat refine wS fun _ _ => ?_); intro hnl) | refine wD (by decide +kernel) ?_ | refine wI (fun h => ?_) fun h => ?_ | refine wF (fun h => ?_) fun h => ?_ | refine wG (fun h => ?_) fun h => ?_ | refine wH (fun h => ?_) fun h => ?_ | ((first | refine mfork_bool (fun h => ?_) fun h => ?_ | refine mgfork_bool (fun h => ?_) fun h => ?_) <;> simp only [h])) | simp (maxSteps := 4000000) (disch := first | decide | assumption | omega | (simp only [wL]; omega)) only [go_sem, simprocAttr])
      refine use_weak _ c3 rfl (views_one (.nil _ _)) ?_
      repeat' (first | (with_reducible refine use_pure hla ?_) | (with_reducible refine use_pure hlb ?_) | (with_reducible refine use_pure hfa ?_) | (with_reducible refine use_pure hfb ?_) | (with_reducible refine use_pure hw ?_) | (with_reducible refine use_pure cr ?_) | (with_reducible refine use_pure d1 ?_) | (with_reducible refine use_pure d2 ?_) | (with_reducible refine use_pure f1 ?_) | (with_reducible refine use_pure f3 ?_) | (with_reducible first | (refine wT ?_; (first | ((fail_if_success (have := nl1)); refine wN fun nl1 hnl => ?_) | ((fail_if_success (have := nl2)); refine wN fun nl2 hnl => ?_) | refine wN fun _ hnl => ?_); revert hnl; (repeat refine wS fun _ _ => ?_); intro hnl) | refine wD (by decide +kernel) ?_ | refine wI (fun h => ?_) fun h => ?_ | refine wF (fun h => ?_) fun h => ?_ | refine wG (fun h => ?_) fun h => ?_ | refine wH (fun h => ?_) fun h => ?_ | ((first | refine mfork_bool (fun h => ?_) fun h => ?_ | refine mgfork_bool (fun h => ?_) fun h => ?_) <;> simp only [h])) | simp (maxSteps := 4000000) (disch := first | decide | assumption | omega | (simp only [wL]; omega)) only [go_sem, simprocAttr])
      refine use_weak _ g1 rfl (views_three (.same _) (.nil _ _) (.same _)) ?_
      repeat' (first | (with_reducible refine use_pure hla ?_) | (with_reducible refine use_pure hlb ?_) | (with_reducible refine use_pure hfa ?_) | (with_reducible refine use_pure hfb ?_) | (with_reducible refine use_pure hw ?_) | (with_reducible refine use_pure cr ?_) | (with_reducible refine use_pure d1 ?_) | (with_reducible refine use_pure d2 ?_) | (with_reducible refine use_pure f1 ?_) | (with_reducible refine use_pure f3 ?_) | (with_reducible first | (refine wT ?_; (first | ((fail_if_success (have := nl1)); refine wN fun nl1 hnl => ?_) | ((fail_if_success (have := nl2)); refine wN fun nl2 hnl => ?_) | refine wN fun _ hnl => ?_); revert hnl; (repeat refine wS fun _ _ => ?_); intro hnl) | refine wD (by decide +kernel) ?_ | refine wI (fun h => ?_) fun h => ?_ | refine wF (fun h => ?_) fun h => ?_ | refine wG (fun h => ?_) fun h => ?_ | refine wH (fun h => ?_) fun h => ?_ | ((first | refine mfork_bool (fun h => ?_) fun h => ?_ | refine mgfork_bool (fun h => ?_) fun h => ?_) <;> simp only [h])) | simp (maxSteps := 4000000) (disch := first | decide | assumption | omega | (simp only [wL]; omega)) only [go_sem, simprocAttr])
      refine use_weak _ g2 rfl (views_three (.same _) (.nil _ _) (.same _)) ?_
      repeat' (first | (with_reducible refine use_pure hla ?_) | (with_reducible refine use_pure hlb ?_) | (with_reducible refine use_pure hfa ?_) | (with_reducible refine use_pure hfb ?_) | (with_reducible refine use_pure hw ?_) | (with_reducible refine use_pure cr ?_) | (with_reducible refine use_pure d1 ?_) | (with_reducible refine use_pure d2 ?_) | (with_reducible refine use_pure f1 ?_) | (with_reducible refine use_pure f3 ?_) | (with_reducible first | (refine wT ?_; (first | ((fail_if_success (have := nl1)); refine wN fun nl1 hnl => ?_) | ((fail_if_success (have := nl2)); refine wN fun nl2 hnl => ?_) | refine wN fun _ hnl => ?_); revert hnl; (repeat refine wS fun _ _ => ?_); intro hnl) | refine wD (by decide +kernel) ?_ | refine wI (fun h => ?_) fun h => ?_ | refine wF (fun h => ?_) fun h => ?_ | refine wG (fun h => ?_) fun h => ?_ | refine wH (fun h => ?_) fun h => ?_ | ((first | refine mfork_bool (fun h => ?_) fun h => ?_ | refine mgfork_bool (fun h => ?_) fun h => ?_) <;> simp only [h])) | simp (maxSteps := 4000000) (disch := first | decide | assumption | omega | (simp only [wL]; omega)) only [go_sem, simprocAttr])
    · repeat' (first | (with_reducible refine use_pure hla ?_) | (with_reducible refine use_pure hlb ?_) | (with_reducible refine use_pure hfa ?_) | (with_reducible refine use_pure hfb ?_) | (with_reducible refine use_pure hw ?_) | (with_reducible refine use_pure cr ?_) | (with_reducible refine use_pure d1 ?_) | (with_reducible refine use_pure d2 ?_) | (with_reducible first | (refine wT ?_; (first | ((fail_if_success (have := nl1)); refine wN fun nl1 hnl => ?_) | ((fail_if_success (have := nl2)); refine wN fun nl2 hnl => ?_) | refine wN fun _ hnl => ?_); revert hnl; (repeat refine wS fun _ _ => ?_); intro hnl) | refine wD (by decide +kernel) ?_ | refine wI (fun h => ?_) fun h => ?_ | refine wF (fun h => ?_) fun h => ?_ | refine wG (fun h => ?_) fun h => ?_ | refine wH (fun h => ?_) fun h => ?_ | ((first | refine mfork_bool (fun h => ?_) fun h => ?_ | refine mgfork_bool (fun h => ?_) fun h => ?_) <;> simp only [h])) | simp (maxSteps := 4000000) (disch := first | decide | assumption | omega | (simp only [wL]; omega)) only [go_sem, simprocAttr, Try.f6])
      refine use_give1 _ nl1 c1 (set_hit _ _ _) rfl (views_one (.vecAll (set_hit _ _ _) rfl)) ?_
      repeat' (first | (with_reducible refine use_pure hla ?_) | (with_reducible refine use_pure hlb ?_) | (with_reducible refine use_pure hfa ?_) | (with_reducible refine use_pure hfb ?_) | (with_reducible refine use_pure hw ?_) | (with_reducible refine use_pure cr ?_) | (with_reducible refine use_pure d1 ?_) | (with_reducible refine use_pure d2 ?_) | (with_reducible first | (refine wT ?_; (first | ((fail_if_success (have := nl1)); refine wN fun nl1 hnl => ?_) | ((fail_if_success (have := nl2)); refine wN fun nl2 hnl => ?_) | refine wN fun _ hnl => ?_); revert hnl; (repeat refine wS fun _ _ => ?_); intro hnl) | refine wD (by decide +kernel) ?_ | refine wI (fun h => ?_) fun h => ?_ | refine wF (fun h => ?_) fun h => ?_ | refine wG (fun h => ?_) fun h => ?_ | refine wH (fun h => ?_) fun h => ?_ | ((first | refine mfork_bool (fun h => ?_) fun h => ?_ | refine mgfork_bool (fun h => ?_) fun h => ?_) <;> simp only [h])) | simp (maxSteps := 4000000) (disch := first | decide | assumption | omega | (simp only [wL]; omega)) only [go_sem, simprocAttr])
      refine use_give1 _ nl2 c2 (set_hit _ _ _) rfl (views_one (.vecAll (set_hit _ _ _) rfl)) ?_
      repeat' (first | (with_reducible refine use_pure hla ?_) | (with_reducible refine use_pure hlb ?_) | (with_reducible refine use_pure hfa ?_) | (with_reducible refine use_pure hfb ?_) | (with_reducible refine use_pure hw ?_) | (with_reducible refine use_pure cr ?_) | (with_reducible refine use_pure d1 ?_) | (with_reducible refine use_pure d2 ?_) | (with_reducible first | (refine wT ?_; (first | ((fail_if_success (have := nl1)); refine wN fun nl1 hnl => ?_) | ((fail_if_success (have := nl2)); refine wN fun nl2 hnl => ?_) | refine wN fun _ hnl => ?_); revert hnl; (repeat refine wS fun _ _ => ?_); intro hnl) | refine wD (by decide +kernel) ?_ | refine wI (fun h => ?_) fun h => ?_ | refine wF (fun h => ?_) fun h => ?_ | refine wG (fun h => ?_) fun h => ?_ | refine wH (fun h => ?_) fun h => ?_ | ((first | refine mfork_bool (fun h => ?_) fun h => ?_ | refine mgfork_bool (fun h => ?_) fun h => ?_) <;> simp only [h])) | simp (maxSteps := 4000000) (disch := first | decide | assumption | omega | (simp only [wL]; omega)) only [go_sem, simprocAttr])
      refine use_weak _ cr0 rfl (views_two (.same _) (.nil _ _)) ?_
      repeat' (first | (with_reducible refine use_pure hla ?_) | (with_reducible refine use_pure hlb ?_) | (with_reducible refine use_pure hfa ?_) | (with_reducible refine use_pure hfb ?_) | (with_reducible refine use_pure hw ?_) | (with_reducible refine use_pure cr ?_) | (with_reducible refine use_pure d1 ?_) | (with_reducible refine use_pure d2 ?_) | (with_reducible first | (refine wT ?_; (first | ((fail_if_success (have := nl1)); refine wN fun nl1 hnl => ?_) | ((fail_if_success (have := nl2)); refine wN fun nl2 hnl => ?_) | refine wN fun _ hnl => ?_); revert hnl; (repeat refine wS fun _ _ => ?_); intro hnl) | refine wD (by decide +kernel) ?_ | refine wI (fun h => ?_) fun h => ?_ | refine wF (fun h => ?_) fun h => ?_ | refine wG (fun h => ?_) fun h => ?_ | refine wH (fun h => ?_) fun h => ?_ | ((first | refine mfork_bool (fun h => ?_) fun h => ?_ | refine mgfork_bool (fun h => ?_) fun h => ?_) <;> simp only [h])) | simp (maxSteps := 4000000) (disch := first | decide | assumption | omega | (simp only [wL]; omega)) only [go_sem, simprocAttr])
      refine use_weak _ c3 rfl (views_one (.nil _ _)) ?_
      repeat' (first | (with_reducible refine use_pure hla ?_) | (with_reducible refine use_pure hlb ?_) | (with_reducible refine use_pure hfa ?_) | (with_reducible refine use_pure hfb ?_) | (with_reducible refine use_pure hw ?_) | (with_reducible refine use_pure cr ?_) | (with_reducible refine use_pure d1 ?_) | (with_reducible refine use_pure d2 ?_) | (with_reducible first | (refine wT ?_; (first | ((fail_if_success (have := nl1)); refine wN fun nl1 hnl => ?_) | ((fail_if_success (have := nl2)); refine wN fun nl2 hnl => ?_) | refine wN fun _ hnl => ?_); revert hnl; (repeat refine wS fun _ _ => ?_); intro hnl) | refine wD (by decide +kernel) ?_ | refine wI (fun h => ?_) fun h => ?_ | refine wF (fun h => ?_) fun h => ?_ | refine wG (fun h => ?_) fun h => ?_ | refine wH (fun h => ?_) fun h => ?_ | ((first | refine mfork_bool (fun h => ?_) fun h => ?_ | refine mgfork_bool (fun h => ?_) fun h => ?_) <;> simp only [h])) | simp (maxSteps := 4000000) (disch := first | decide | assumption | omega | (simp only [wL]; omega)) only [go_sem, simprocAttr])
      refine use_weak _ g1 rfl (views_three (.same _) (.nil _ _) (.same _)) ?_
      repeat' (first | (with_reducible refine use_pure hla ?_) | (with_reducible refine use_pure hlb ?_) | (with_reducible refine use_pure hfa ?_) | (with_reducible refine use_pure hfb ?_) | (with_reducible refine use_pure hw ?_) | (with_reducible refine use_pure cr ?_) | (with_reducible refine use_pure d1 ?_) | (with_reducible refine use_pure d2 ?_) | (with_reducible first | (refine wT ?_; (first | ((fail_if_success (have := nl1)); refine wN fun nl1 hnl => ?_) | ((fail_if_success (have := nl2)); refine wN fun nl2 hnl => ?_) | refine wN fun _ hnl => ?_); revert hnl; (repeat refine wS fun _ _ => ?_); intro hnl) | refine wD (by decide +kernel) ?_ | refine wI (fun h => ?_) fun h => ?_ | refine wF (fun h => ?_) fun h => ?_ | refine wG (fun h => ?_) fun h => ?_ | refine wH (fun h => ?_) fun h => ?_ | ((first | refine mfork_bool (fun h => ?_) fun h => ?_ | refine mgfork_bool (fun h => ?_) fun h => ?_) <;> simp only [h])) | simp (maxSteps := 4000000) (disch := first | decide | assumption | omega | (simp only [wL]; omega)) only [go_sem, simprocAttr])
      refine use_weak _ g2 rfl (views_three (.same _) (.nil _ _) (.same _)) ?_
      repeat' (first | (with_reducible refine use_pure hla ?_) | (with_reducible refine use_pure hlb ?_) | (with_reducible refine use_pure hfa ?_) | (with_reducible refine use_pure hfb ?_) | (with_reducible refine use_pure hw ?_) | (with_reducible refine use_pure cr ?_) | (with_reducible refine use_pure d1 ?_) | (with_reducible refine use_pure d2 ?_) | (with_reducible first | (refine wT ?_; (first | ((fail_if_success (have := nl1)); refine wN fun nl1 hnl => ?_) | ((fail_if_success (have := nl2)); refine wN fun nl2 hnl => ?_) | refine wN fun _ hnl => ?_); revert hnl; (repeat refine wS fun _ _ => ?_); intro hnl) | refine wD (by decide +kernel) ?_ | refine wI (fun h => ?_) fun h => ?_ | refine wF (fun h => ?_) fun h => ?_ | refine wG (fun h => ?_) fun h => ?_ | refine wH (fun h => ?_) fun h => ?_ | ((first | refine mfork_bool (fun h => ?_) fun h => ?_ | refine mgfork_bool (fun h => ?_) fun h => ?_) <;> simp only [h])) | simp (maxSteps := 4000000) (disch := first | decide | assumption | omega | (simp only [wL]; omega)) only [go_sem, simprocAttr])
  · repeat' (first | (with_reducible refine use_pure hla ?_) | (with_reducible refine use_pure hlb ?_) | (with_reducible refine use_pure hfa ?_) | (with_reducible refine use_pure hfb ?_) | (with_reducible refine use_pure hw ?_) | (with_reducible first | (refine wT ?_; (first | ((fail_if_success (have := nl1)); refine wN fun nl1 hnl => ?_) | ((fail_if_success (have := nl2)); refine wN fun nl2 hnl => ?_) | refine wN fun _ hnl => ?_); revert hnl; (repeat refine wS fun _ _ => ?_); intro hnl) | refine wD (by decide +kernel) ?_ | refine wI (fun h => ?_) fun h => ?_ | refine wF (fun h => ?_) fun h => ?_ | refine wG (fun h => ?_) fun h => ?_ | refine wH (fun h => ?_) fun h => ?_ | ((first | refine mfork_bool (fun h => ?_) fun h => ?_ | refine mgfork_bool (fun h => ?_) fun h => ?_) <;> simp only [h])) | simp (maxSteps := 4000000) (disch := first | decide | assumption | omega | (simp only [wL]; omega)) only [go_sem, simprocAttr, Try.f6])
  · repeat' (first | (with_reducible refine use_pure hla ?_) | (with_reducible refine use_pure hlb ?_) | (with_reducible refine use_pure hfa ?_) | (with_reducible refine use_pure hfb ?_) | (with_reducible refine use_pure hw ?_) | (with_reducible first | (refine wT ?_; (first | ((fail_if_success (have := nl1)); refine wN fun nl1 hnl => ?_) | ((fail_if_success (have := nl2)); refine wN fun nl2 hnl => ?_) | refine wN fun _ hnl => ?_); revert hnl; (repeat refine wS fun _ _ => ?_); intro hnl) | refine wD (by decide +kernel) ?_ | refine wI (fun h => ?_) fun h => ?_ | refine wF (fun h => ?_) fun h => ?_ | refine wG (fun h => ?_) fun h => ?_ | refine wH (fun h => ?_) fun h => ?_ | ((first | refine mfork_bool (fun h => ?_) fun h => ?_ | refine mgfork_bool (fun h => ?_) fun h => ?_) <;> simp only [h])) | simp (maxSteps := 4000000) (disch := first | decide | assumption | omega | (simp only [wL]; omega)) only [go_sem, simprocAttr, Try.f6])
  · repeat' (first | (with_reducible refine use_pure hla ?_) | (with_reducible refine use_pure hlb ?_) | (with_reducible refine use_pure hfa ?_) | (with_reducible refine use_pure hfb ?_) | (with_reducible refine use_pure hw ?_) | (with_reducible first | (refine wT ?_; (first | ((fail_if_success (have := nl1)); refine wN fun nl1 hnl => ?_) | ((fail_if_success (have := nl2)); refine wN fun nl2 hnl => ?_) | refine wN fun _ hnl => ?_); revert hnl; (repeat refine wS fun _ _ => ?_); intro hnl) | refine wD (by decide +kernel) ?_ | refine wI (fun h => ?_) fun h => ?_ | refine wF (fun h => ?_) fun h => ?_ | refine wG (fun h => ?_) fun h => ?_ | refine wH (fun h => ?_) fun h => ?_ | ((first | refine mfork_bool (fun h => ?_) fun h => ?_ | refine mgfork_bool (fun h => ?_) fun h => ?_) <;> simp only [h])) | simp (maxSteps := 4000000) (disch := first | decide | assumption | omega | (simp only [wL]; omega)) only [go_sem, simprocAttr, Try.f6])
end Go.Proofs.Ytielcgplbnlgbaa
end

section
/- The bridge: what the arguments of a law hold, as the logic says it; a law out of its contract. -/
set_option linter.unusedVariables false
set_option linter.unusedSimpArgs false
namespace Go.Proofs.Ytielcgplbnlgbaa
open Go.ChangeShapes Go.WideShapes Go.RowKit

/-- Fields that lie one behind the other. -/
def tiles (P : Program) : List (Nat × TypeId) → Nat → Nat → Bool
  | [], o, n => o == n
  | (off, ft) :: r, o, n => off == o && tiles P r (o + (td P ft).size) n

/-- Types whose values are plain data. -/
def shp (P : Program) : Nat → TypeId → Bool
  | 0, _ => false
  | n + 1, t => (td P t).ok && match (td P t).k with
    | .bool | .int _ | .str => (td P t).size == 1
    | .slice e => (td P t).size == 1 && decide (0 < (td P e).size) && (td P e).ok && shp P n e
    | .struct fs => tiles P fs 0 (td P t).size && fs.all fun f => (td P f.2).ok && shp P n f.2
    | .array m e => (td P t).size == m * (td P e).size && (td P e).ok && shp P n e
    | _ => false

/-- Cells of a type. -/
def CT (P : Program) : Nat → TypeId → List MV → Prop
  | 0, _, _ => False
  | n + 1, t, cs => match (td P t).k with
    | .bool => ∃ b, cs = [.bool b]
    | .int k => ∃ v, cs = [.int k v] ∧ k.min ≤ v ∧ v ≤ k.max
    | .str => ∃ s : ByteArray, cs = [.str s] ∧ s.size ≤ maxLen
    | .slice e => ∃ xs, cs = [.lst (td P e).size xs false] ∧ xs.length ≤ maxLen ∧ ∀ x, x ∈ xs → CT P n e x
    | .struct fs => cs.length = (td P t).size ∧ ∀ f, f ∈ fs → CT P n f.2 ((cs.drop f.1).take (td P f.2).size)
    | .array m e => cs.length = (td P t).size ∧ ∀ i, i < m → CT P n e ((cs.drop (i * (td P e).size)).take (td P e).size)
    | _ => False

/-- An argument of a type. -/
def AT (P : Program) (n : Nat) (t : TypeId) (m : MV) : Prop := if (td P t).k.isAgg = true then ∃ cs, m = .agg cs ∧ CT P n t cs else CT P n t [m]

/-- The snapshots of all that is there. -/
def phi0 (w : World) : Phi := ⟨fun a => w.cell? a, fun _ => none, 0⟩

theorem inv0 (w : World) : Inv (phi0 w) w St.none where
  own := fun l o h => by simp [St.none] at h
  inj := fun l l' o o' p p' R h => by simp [St.none] at h
  snap := fun a v h => h
  apart := fun l o p R a v h => by simp [St.none] at h
  fresh := ⟨0, fun _ _ => rfl⟩

def RelL (Φ : Phi) (cs : List Value) (ms : List MV) : Prop := cs.length = ms.length ∧ ∀ (i : Nat) v m, cs[i]? = some v → ms[i]? = some m → m.isCell = true ∧ Rel Φ v m

theorem RelL.one {Φ : Phi} {v : Value} {m : MV} (hc : m.isCell = true) (h : Rel Φ v m) : RelL Φ [v] [m] :=
  ⟨rfl, fun i v' m' h1 h2 => by
    cases i with
    | zero => simp at h1 h2; subst h1 h2; exact ⟨hc, h⟩
    | succ i => simp at h1⟩

theorem RelL.app {Φ : Phi} {c1 c2 : List Value} {m1 m2 : List MV} (h1 : RelL Φ c1 m1) (h2 : RelL Φ c2 m2) : RelL Φ (c1 ++ c2) (m1 ++ m2) :=
  ⟨by simp [h1.1, h2.1], fun i v m hv hm => by
    rw [List.getElem?_append] at hv hm
    rw [h1.1] at hv
    split at hv <;> rename_i hi
    · rw [if_pos hi] at hm; exact h1.2 i v m hv hm
    · rw [if_neg hi] at hm; exact h2.2 _ v m hv hm⟩

section
variable {H : Type} {enc : TypeId × Value → H} {P : Program} {w : World} {base : Nat} {spare : Nat → Bool} {held : Bool}

theorem td_und {t : TypeId} (h : (td P t).ok = true) : ∃ i d, P.info? t = some i ∧ P.underlying t = some d ∧ (td P t).size = P.cellsOf t ∧ (td P t).k = tkOf d := by
  obtain ⟨i, d, h1, h2, h3, h4, h5⟩ := td_info h
  exact ⟨i, d, h1, h2, by rw [h3]; simp [Program.cellsOf, h1], h5⟩

theorem cells_size {t : TypeId} (h : (td P t).ok = true) : P.cellsOf t = (td P t).size := by
  obtain ⟨_, _, _, _, h, _⟩ := td_und h
  exact h.symm

/-- Fields one behind the other: their cells together. -/
theorem tile_fields {Φ : Phi} {n : Nat} {cs : List Value} {size : Nat} (hlen : cs.length = size) : ∀ (fs : List (Nat × TypeId)) (o : Nat), o ≤ size → tiles P fs o size = true →
    (∀ f, f ∈ fs → ∃ ms, RelL Φ ((cs.drop f.1).take (td P f.2).size) ms ∧ CT P n f.2 ms) → (∀ f, f ∈ fs → ∀ ms, CT P n f.2 ms → ms.length = (td P f.2).size) →
    ∃ ms, RelL Φ (cs.drop o) ms ∧ ∀ f, f ∈ fs → o ≤ f.1 ∧ CT P n f.2 ((ms.drop (f.1 - o)).take (td P f.2).size)
  | [], o, ho, ht, _, _ => by
    simp only [tiles, beq_iff_eq] at ht
    refine ⟨[], ?_, fun f h => by cases h⟩
    rw [ht, ← hlen, List.drop_length]
    exact ⟨rfl, fun i v m h => by simp at h⟩
  | (off, ft) :: r, o, ho, ht, hf, hl => by
    simp only [tiles, Bool.and_eq_true, beq_iff_eq] at ht
    obtain ⟨rfl, ht⟩ := ht
    obtain ⟨m1, r1, c1⟩ := hf (off, ft) (List.mem_cons_self ..)
    have e1 := hl (off, ft) (List.mem_cons_self ..) m1 c1
    simp only at r1 c1 e1
    have hle : off + (td P ft).size ≤ size := by
      have := r1.1
      simp only [List.length_take, List.length_drop, hlen] at this
      omega
    obtain ⟨m2, r2, c2⟩ := tile_fields hlen r (off + (td P ft).size) hle ht (fun f h => hf f (List.mem_cons_of_mem _ h)) (fun f h => hl f (List.mem_cons_of_mem _ h))
    refine ⟨m1 ++ m2, ?_, fun f h => ?_⟩
    · have : cs.drop off = (cs.drop off).take (td P ft).size ++ cs.drop (off + (td P ft).size) := by
        rw [← List.drop_drop, List.take_append_drop]
      rw [this]
      exact r1.app r2
    · rcases List.mem_cons.1 h with rfl | h
      · refine ⟨Nat.le_refl _, ?_⟩
        simp only [Nat.sub_self, List.drop_zero]
        rw [List.take_append_of_le_length (by omega), List.take_of_length_le (by omega)]
        exact c1
      · obtain ⟨h1, h2⟩ := c2 f h
        refine ⟨by omega, ?_⟩
        have : (m1 ++ m2).drop (f.1 - off) = m2.drop (f.1 - (off + (td P ft).size)) := by
          rw [List.drop_append, List.drop_eq_nil_of_le (by omega), List.nil_append]
          congr 1
          omega
        rw [this]
        exact h2

theorem ct_len : ∀ (n : Nat) (t : TypeId) (cs : List MV), shp P n t = true → CT P n t cs → cs.length = (td P t).size
  | 0, _, _, h, _ => by cases h
  | n + 1, t, cs, h, hc => by
    simp only [shp, Bool.and_eq_true] at h
    obtain ⟨_, h⟩ := h
    simp only [CT] at hc
    split at hc
    · rename_i hk; rw [hk] at h; simp only [beq_iff_eq] at h; obtain ⟨b, rfl⟩ := hc; exact h.symm
    · rename_i hk; rw [hk] at h; simp only [beq_iff_eq] at h; obtain ⟨b, rfl, _⟩ := hc; exact h.symm
    · rename_i hk; rw [hk] at h; simp only [beq_iff_eq] at h; obtain ⟨b, rfl, _⟩ := hc; exact h.symm
    · rename_i hk; rw [hk] at h; simp only [Bool.and_eq_true, beq_iff_eq] at h; obtain ⟨b, rfl, _⟩ := hc; exact h.1.1.1.symm
    · exact hc.1
    · exact hc.1
    · exact hc.elim

theorem tiles_le : ∀ (fs : List (Nat × TypeId)) (o m : Nat), tiles P fs o m = true → o ≤ m ∧ ∀ f, f ∈ fs → f.1 + (td P f.2).size ≤ m
  | [], o, m, h => by
    simp only [tiles, beq_iff_eq] at h
    exact ⟨by omega, fun f hf => by cases hf⟩
  | (off, ft) :: r, o, m, h => by
    simp only [tiles, Bool.and_eq_true, beq_iff_eq] at h
    obtain ⟨rfl, h⟩ := h
    obtain ⟨h1, h2⟩ := tiles_le r _ m h
    refine ⟨by omega, fun f hf => ?_⟩
    rcases List.mem_cons.1 hf with rfl | hf
    · exact h1
    · exact h2 f hf

theorem tiles_range (e : TypeId) : ∀ (k i : Nat), tiles P ((List.range' i k).map fun j => (j * (td P e).size, e)) (i * (td P e).size) ((i + k) * (td P e).size) = true
  | 0, i => by simp [tiles]
  | k + 1, i => by
    have := tiles_range e k (i + 1)
    rw [List.range'_succ]
    simp only [List.map_cons, tiles, beq_self_eq_true, Bool.true_and]
    rw [show i * (td P e).size + (td P e).size = (i + 1) * (td P e).size by rw [Nat.add_mul, Nat.one_mul], show i + (k + 1) = i + 1 + k by omega]
    exact this

/-- What a reading holds, as cells of the logic. -/
theorem trod_open : ∀ (n : Nat) (t : TypeId) (fuel : Nat) (cs : List Value) (x : DataW H × List MemPlace), shp P n t = true → cs.length = (td P t).size → DataW.trod enc P w base spare held fuel t cs = some x →
    ∃ ms, RelL (phi0 w) cs ms ∧ CT P n t ms
  | 0, _, _, _, _, h, _, _ => by cases h
  | n + 1, t, fuel, cs, x, h, hlen, hx => by
    simp only [shp, Bool.and_eq_true] at h
    obtain ⟨hok, h⟩ := h
    obtain ⟨i, d, hi, hd, hsz, hk⟩ := td_und hok
    split at h <;> rename_i hkk
    · have ht := und_bool hkk
      obtain ⟨b, rfl, _⟩ := DataW.trod_bool ht hx
      exact ⟨[.bool b], .one rfl (.bool b), by simp only [CT, hkk]; exact ⟨b, rfl⟩⟩
    · rename_i k
      have ht := und_int hkk
      obtain ⟨v, rfl, _, hw⟩ := DataW.trod_int ht hx
      simp only [Lit.wf, Bool.and_eq_true, decide_eq_true_eq] at hw
      exact ⟨[.int k v], .one rfl (.int k v), by simp only [CT, hkk]; exact ⟨v, rfl, hw⟩⟩
    · have ht := und_str hkk
      obtain ⟨s, rfl, _, hw⟩ := DataW.trod_string ht hx
      exact ⟨[.str s], .one rfl (.str s), by simp only [CT, hkk]; exact ⟨s, rfl, hw⟩⟩
    · rename_i e
      have ht := und_slice hkk
      simp only [Bool.and_eq_true, decide_eq_true_eq] at h
      obtain ⟨⟨⟨_, h0⟩, heok⟩, h⟩ := h
      have hce := cells_size heok
      rcases DataW.trod_slice ht hx with ⟨rfl, _⟩ | ⟨a, len, cap, elems, rest, m, _, rfl, _, _, hlc, hcm, hel, hget, _⟩
      · exact ⟨[.lst (td P e).size [] false], .one rfl (.lstn _ _), by simp only [CT, hkk]; exact ⟨[], rfl, by simp, fun x h => by cases h⟩⟩
      · have key : ∀ i : Nat, ∃ q : List Value × List MV, i < len → w.cells? base (a.add (i * (td P e).size)) (td P e).size = some q.1 ∧ RelL (phi0 w) q.1 q.2 ∧ CT P n e q.2 ∧ q.2.length = (td P e).size := by
          intro i
          by_cases hi : i < len
          · have := hget i hi
            rw [hce] at this
            obtain ⟨y, hy⟩ : ∃ y, elems[i]? = some y := ⟨elems[i]'(by omega), by simp⟩
            rw [hy] at this
            cases hc : w.cells? base (a.add (i * (td P e).size)) (td P e).size with
            | none => rw [hc] at this; cases this
            | some c =>
              rw [hc] at this
              have hcl := (World.cells?_some hc).2.1
              obtain ⟨ms, r, ct⟩ := trod_open n e m c y h hcl this
              exact ⟨(c, ms), fun _ => ⟨rfl, r, ct, by rw [← r.1]; exact hcl⟩⟩
          · exact ⟨([], []), fun h => absurd h hi⟩
        obtain ⟨F, hF⟩ := Classical.axiomOfChoice key
        let xs := (List.range len).map fun i => (F i).2
        have hxs : ∀ (i : Nat) (y : List MV), xs[i]? = some y → i < len ∧ y = (F i).2 := fun i y hy => by
          simp only [xs, List.getElem?_map, Option.map_eq_some_iff] at hy
          obtain ⟨j, hj, rfl⟩ := hy
          rw [List.getElem?_eq_some_iff] at hj
          obtain ⟨h1, h2⟩ := hj
          simp at h1 h2
          subst h2
          exact ⟨h1, rfl⟩
        refine ⟨[.lst (td P e).size xs false], .one rfl (Rel.mk_lst (by simp [xs]) hlc hcm (fun h => by cases h) (fun h => by cases h) (fun hpos => ?_)), ?_⟩
        · obtain ⟨hc0, hr0, _, hl0⟩ := hF 0 hpos
          obtain ⟨_, hcl, hcell⟩ := World.cells?_some hc0
          have g0 := hcell 0 h0
          obtain ⟨c0, hc0'⟩ : ∃ c0, (F 0).1[0]? = some c0 := ⟨(F 0).1[0]'(by omega), by simp⟩
          rw [hc0'] at g0
          obtain ⟨b, off, spot⟩ := a
          have hspot : spot = none := by simpa [Addr.add] using World.cell?_spot g0
          subst hspot
          refine ⟨b, off, rfl, fun i y hy => ?_, fun i j => (F i).1.getD j undef, fun i y j m hy hm => ?_⟩
          · obtain ⟨hi, rfl⟩ := hxs i y hy
            exact (hF i hi).2.2.2
          · obtain ⟨hi, rfl⟩ := hxs i y hy
            obtain ⟨hc, hr, _, hl⟩ := hF i hi
            obtain ⟨_, hcl, hcell⟩ := World.cells?_some hc
            have hj : j < (F i).2.length := (List.getElem?_eq_some_iff.1 hm).1
            have hj' : j < (F i).1.length := by rw [hcl, ← hl]; exact hj
            have hv : (F i).1[j]? = some ((F i).1.getD j undef) := by simp [List.getD, hj']
            obtain ⟨k1, k2⟩ := hr.2 j _ m hv hm
            refine ⟨k1, ?_, k2⟩
            have := hcell j (by omega)
            rw [hv] at this
            simp only [add_none] at this
            show w.cell? _ = _
            rw [← Nat.add_assoc]
            exact this
        · simp only [CT, hkk]
          refine ⟨xs, rfl, by simp [xs]; omega, fun y hy => ?_⟩
          obtain ⟨i, hi⟩ := List.mem_iff_getElem?.1 hy
          obtain ⟨hil, e⟩ := hxs i y hi
          rw [e]
          exact (hF i hil).2.2.1
    · rename_i fs
      obtain ⟨fa, ht, rfl⟩ := und_struct hkk
      simp only [Bool.and_eq_true, List.all_eq_true] at h
      obtain ⟨htl, hall⟩ := h
      obtain ⟨xs, m, _, _, hcl, hxl, hget⟩ := DataW.trod_struct ht hx
      have hfield : ∀ f, f ∈ (fa.toList.map fun f => (f.offset, f.type)) → ∃ ms, RelL (phi0 w) ((cs.drop f.1).take (td P f.2).size) ms ∧ CT P n f.2 ms := by
        intro f hf
        have hf0 := hall f hf
        obtain ⟨g, hg, rfl⟩ := List.mem_map.1 hf
        obtain ⟨i, hi⟩ := List.mem_iff_getElem?.1 hg
        have hi' : fa[i]? = some g := by simpa using hi
        have hil : i < xs.length := by
          rw [hxl]
          obtain ⟨q, _⟩ := Array.getElem?_eq_some_iff.1 hi'
          exact q
        have := hget i g hi'
        simp only at hf0 ⊢
        rw [cells_size hf0.1, List.getElem?_eq_getElem hil] at this
        refine trod_open n _ m _ _ hf0.2 ?_ this
        have := (tiles_le _ _ _ htl).2 _ hf
        simp only [List.length_take, List.length_drop, hlen] at this ⊢
        omega
      obtain ⟨ms, r, hc⟩ := tile_fields (Φ := phi0 w) (n := n) (P := P) hlen _ 0 (Nat.zero_le _) htl hfield (fun f hf ms hm => ct_len n _ ms (hall f hf).2 hm)
      refine ⟨ms, by simpa using r, ?_⟩
      simp only [CT, hkk]
      refine ⟨by rw [← hlen]; simpa using r.1.symm, fun f hf => ?_⟩
      have := (hc f hf).2
      simpa using this
    · rename_i k e
      have ht := und_array hkk
      simp only [Bool.and_eq_true, beq_iff_eq] at h
      obtain ⟨⟨hsz2, heok⟩, h⟩ := h
      obtain ⟨xs, m, _, _, hcl, hxl, hget⟩ := DataW.trod_array ht hx
      have htl : tiles P ((List.range k).map fun j => (j * (td P e).size, e)) 0 (td P t).size = true := by
        have := tiles_range (P := P) e k 0
        rw [List.range_eq_range', hsz2]
        simpa using this
      have hfield : ∀ f, f ∈ ((List.range k).map fun j => (j * (td P e).size, e)) → ∃ ms, RelL (phi0 w) ((cs.drop f.1).take (td P f.2).size) ms ∧ CT P n f.2 ms := by
        intro f hf
        have hle := (tiles_le _ _ _ htl).2 _ hf
        obtain ⟨i, hi, rfl⟩ := List.mem_map.1 hf
        have hik : i < k := by simpa using hi
        have := hget i hik
        simp only at hle ⊢
        rw [cells_size heok, List.getElem?_eq_getElem (by omega)] at this
        refine trod_open n _ m _ _ h ?_ this
        simp only [List.length_take, List.length_drop, hlen]
        omega
      obtain ⟨ms, r, hc⟩ := tile_fields (Φ := phi0 w) (n := n) (P := P) hlen _ 0 (Nat.zero_le _) htl hfield (fun f hf ms hm => by
        obtain ⟨i, hi, rfl⟩ := List.mem_map.1 hf
        exact ct_len n _ ms h hm)
      refine ⟨ms, by simpa using r, ?_⟩
      simp only [CT, hkk]
      refine ⟨by rw [← hlen]; simpa using r.1.symm, fun i hi => ?_⟩
      have := (hc (i * (td P e).size, e) (List.mem_map.2 ⟨i, by simpa using hi, rfl⟩)).2
      simpa using this
    · cases h

/-- What an argument holds. -/
theorem arg_open {n : Nat} {t : TypeId} {v : Value} {d : DataW H} {ps : List MemPlace} {r : Reach} {b0 : Nat} (h : shp P n t = true) (hv : Value.okWide P w r b0 t v) (hd : DataW.Trod enc P w base spare held t v d ps) :
    ∃ m, Rel (phi0 w) v m ∧ AT P n t m := by
  obtain ⟨fuel, hf⟩ := hd
  have hok : (td P t).ok = true := by
    cases n with
    | zero => cases h
    | succ n => simp only [shp, Bool.and_eq_true] at h; exact h.1
  have hcs := cells_size hok
  unfold AT
  have key : (∃ cs, v = .agg cs ∧ cs.size = (td P t).size ∧ (td P t).k.isAgg = true) ∨ ((td P t).k.isAgg = false ∧ v.cells = #[v] ∧ (td P t).size = 1) := by
    cases n with
    | zero => cases h
    | succ n =>
      simp only [shp, Bool.and_eq_true] at h
      obtain ⟨_, h⟩ := h
      split at h <;> rename_i hk
      · obtain ⟨b, rfl⟩ := okWide_bool (und_bool hk) hv
        exact .inr ⟨by rw [hk]; rfl, rfl, by simpa using h⟩
      · obtain ⟨b, rfl⟩ := okWide_int (und_int hk) hv
        exact .inr ⟨by rw [hk]; rfl, rfl, by simpa using h⟩
      · obtain ⟨b, rfl⟩ := okWide_string (und_str hk) hv
        exact .inr ⟨by rw [hk]; rfl, rfl, by simpa using h⟩
      · obtain ⟨a, l, c, rfl⟩ := okWide_slice (und_slice hk) hv
        simp only [Bool.and_eq_true, beq_iff_eq] at h
        exact .inr ⟨by rw [hk]; rfl, rfl, h.1.1.1⟩
      · obtain ⟨fa, ht, _⟩ := und_struct hk
        obtain ⟨cs, rfl, hs⟩ := okWide_struct ht hv
        exact .inl ⟨cs, rfl, by rw [hs, hcs], by rw [hk]; rfl⟩
      · have ht := und_array hk
        simp only [Value.okWide, ht] at hv
        obtain ⟨cs, rfl, hs, _⟩ := hv
        exact .inl ⟨cs, rfl, by rw [hs, hcs], by rw [hk]; rfl⟩
      · cases h
  rcases key with ⟨cs, rfl, hs, ha⟩ | ⟨ha, hc, hs⟩
  · simp only [ha, if_true]
    obtain ⟨ms, hr, hct⟩ := trod_open n t fuel _ _ h (by simpa [Value.cells] using hs) hf
    have hr' : RelL (phi0 w) cs.toList ms := by simpa [Value.cells] using hr
    have hl : cs.size = ms.length := by simpa using hr'.1
    have get : ∀ (i : Nat) m, ms[i]? = some m → cs.toList[i]? = some (cs.getD i undef) := fun i m hm => by
      have : i < cs.size := by rw [hl]; exact (List.getElem?_eq_some_iff.1 hm).1
      simp [Array.getD, this]
    exact ⟨.agg ms, .agg hl (fun i m hm => (hr'.2 i _ m (get i m hm) hm).1) (fun i m hm => (hr'.2 i _ m (get i m hm) hm).2), ms, rfl, hct⟩
  · simp only [ha, Bool.false_eq_true, if_false]
    obtain ⟨ms, hr, hct⟩ := trod_open n t fuel _ _ h (by rw [hc, hs]; rfl) hf
    rw [hc] at hr
    match ms, hr with
    | [m], hr =>
      exact ⟨m, (hr.2 0 v m rfl rfl).2, hct⟩
    | [], hr => exact absurd hr.1 (by simp)
    | _ :: _ :: _, hr => exact absurd hr.1 (by simp)

/-- All arguments. -/
def ATs (P : Program) (n : Nat) : List TypeId → List MV → Prop
  | [], [] => True
  | t :: ts, m :: ms => AT P n t m ∧ ATs P n ts ms
  | _, _ => False

theorem args_open {n : Nat} : ∀ {ts : List TypeId} {vs : List Value} {ds : List (DataW H)} {ps : List MemPlace}, (∀ t, t ∈ ts → shp P n t = true) → (∀ (j : Nat) t v, ts[j]? = some t → vs[j]? = some v → Value.okWide P w .any base t v) →
    DataW.TrodAll enc P w 0 spare held ts vs ds ps → ∃ ms, vs.length = ms.length ∧ (∀ (i : Nat) v m, vs[i]? = some v → ms[i]? = some m → Rel (phi0 w) v m) ∧ ATs P n ts ms
  | [], vs, ds, ps, _, _, h => by
    obtain ⟨rfl, _, _⟩ := trodAll_nil h
    exact ⟨[], rfl, fun i v m h => by simp at h, trivial⟩
  | t :: ts, vs, ds, ps, hs, hok, h => by
    obtain ⟨v, vs1, d, ds1, a, b, rfl, rfl, rfl, h1, h2⟩ := trodAll_cons h
    obtain ⟨m, r, ht⟩ := arg_open (hs t (List.mem_cons_self ..)) (hok 0 t v rfl rfl) h1
    obtain ⟨ms, e, rs, hts⟩ := args_open (fun t h => hs t (List.mem_cons_of_mem _ h)) (fun j t v p q => hok (j + 1) t v (by simpa using p) (by simpa using q)) h2
    refine ⟨m :: ms, by simp [e], fun i v' m' p q => ?_, ht, hts⟩
    cases i with
    | zero => simp at p q; subst p q; exact r
    | succ i => simp at p q; exact rs i v' m' p q

/-- The arguments read as they did. -/
theorem args_stay {W W' : World} (hl : laidOutB P = true) (hb : ∀ k, k < W.heap.size → W'.heap[k]? = W.heap[k]?) : ∀ {ts : List TypeId} {vs : List Value} {ds : List (DataW H)} {ps : List MemPlace} {sp : Nat → Bool},
    (∀ t, t ∈ ts → P.readableRec t = true ∧ t < P.types.size) → DataW.TrodAll enc P W 0 (fun _ => true) true ts vs ds ps → (∀ x ∈ ps, x.block < W.heap.size) → (∀ x ∈ ps, sp x.block = true) → DataW.TrodAll enc P W' 0 sp true ts vs ds ps
  | [], vs, ds, ps, sp, _, h, _, _ => by
    obtain ⟨rfl, rfl, rfl⟩ := trodAll_nil h
    exact trodAll_mk0
  | t :: ts, vs, ds, ps, sp, hr, h, hlt, hsp => by
    obtain ⟨v, vs1, d, ds1, a, b, rfl, rfl, rfl, h1, h2⟩ := trodAll_cons h
    refine ⟨a, b, ?_, args_stay hl hb (fun t h => hr t (List.mem_cons_of_mem _ h)) h2 (fun x hx => hlt x (List.mem_append_right _ hx)) (fun x hx => hsp x (List.mem_append_right _ hx)), rfl⟩
    obtain ⟨r1, r2⟩ := hr t (List.mem_cons_self ..)
    refine WideElems.Trod_stays hl r1 r2 h1 (fun x hx => ?_) (fun x hx => hsp x (List.mem_append_left _ hx))
    have hp := hlt x (List.mem_append_left _ hx)
    cases x with
    | cell b o => exact World.cell?_of_block (w := W) (hb b hp)
    | map b => exact hb b hp

theorem kept_of {W W' : World} {may : MemPlace → Prop} (h1 : W'.os = W.os) (h2 : W'.output = W.output) (hb : ∀ k, k < W.heap.size → W'.heap[k]? = W.heap[k]?) : W.keptBut W' may := by
  refine ⟨h1, h2, fun i hi => ?_⟩
  rw [hb i hi]
  cases W.heap[i]? with
  | none => rfl
  | some o => cases o with
    | cells c t fr => exact ⟨rfl, rfl, rfl, fun _ _ => rfl⟩
    | map es clock => exact .inr ⟨rfl, rfl⟩
    | _ => rfl

theorem frozen_of {W W' : World} (hb : ∀ k, k < W.heap.size → W'.heap[k]? = W.heap[k]?) {a : Addr} (h : a.block < W.heap.size) : W'.frozen? a = W.frozen? a := by
  unfold World.frozen?
  rw [hb _ h]

/-- A law, out of its contract. -/
theorem law_post {f : Func} {s : ChangeSpec} {apart fresh handsOn again : Bool} {W W' : World} {args : Array Value} {ds gs : List (DataW H)} {before : List MemPlace} {tb : TypeId}
    (hvars : s.vars = []) (hs : ∀ (H : Type) (ds : List (DataW H)), ds.length = f.params.size → s.fn H ds = { results := [.lit (.bool true)], args := ds })
    (hres : f.resultTypes = #[tb]) (htb : P.underlying tb = some .bool) (hl : laidOutB P = true) (hr : ∀ t, t ∈ f.params.toList → P.readableRec t = true ∧ t < P.types.size)
    (hW : DataW.Whole enc P f.params.toList s.vars apart W args.toList ds gs before) (h1 : W'.os = W.os) (h2 : W'.output = W.output) (hb : ∀ k, k < W.heap.size → W'.heap[k]? = W.heap[k]?) :
    s.post enc P f apart fresh handsOn again W args (.bool true) W' := by
  have hlt := hW.lt
  have hW0 := hW
  obtain ⟨p, q, hA, hV, hpq, hfz, hnd⟩ := hW
  rw [hvars] at hV
  obtain ⟨rfl, rfl⟩ := trodVars_none hV
  rw [List.append_nil] at hpq
  subst hpq
  have hlen : ∀ {ts : List TypeId} {vs : List Value} {ds : List (DataW H)} {ps : List MemPlace}, DataW.TrodAll enc P W 0 (fun _ => true) true ts vs ds ps → ds.length = ts.length := by
    intro ts
    induction ts with
    | nil => intro vs ds ps h; obtain ⟨_, rfl, _⟩ := trodAll_nil h; rfl
    | cons t ts ih =>
      intro vs ds ps h
      obtain ⟨v, vs1, d, ds1, a, b, rfl, rfl, rfl, h1, h2⟩ := trodAll_cons h
      simp [ih h2]
  have hfn : s.fn H (ds ++ []) = { results := [.lit (.bool true)], args := ds } := by
    rw [List.append_nil]
    exact hs H ds (by rw [hlen hA]; simp)
  have hargs : ∀ sp : Nat → Bool, (∀ x ∈ before, sp x.block = true) → DataW.TrodAll enc P W' 0 sp true f.params.toList args.toList ds before := fun sp hsp => args_stay hl hb hr hA hlt hsp
  have hresl : (Value.bool true).resultList f.resultTypes.size = [.bool true] := by rw [hres]; rfl
  have hrt : ∀ (b : Nat) (sp : Nat → Bool) (hd : Bool), DataW.TrodAll enc P W' b sp hd f.resultTypes.toList ((Value.bool true).resultList f.resultTypes.size) [.lit (.bool true)] [] := fun b sp hd => by
    rw [hresl, hres]
    exact trodAll_mk1 (shut_bool htb true)
  refine ⟨ds, [], before, [], before, [], hW0, ?_, ?_, ?_, kept_of h1 h2 hb, fun _ => ⟨?_, [.lit (.bool true)] ++ ds, [], [] ++ before, ⟨[] ++ before, [], trodAll_append (hargs _ fun _ _ => rfl) (hrt _ _ _), ?_, by simp, fun b off hp => ?_, fun ha => ?_⟩, fun x hx _ => ?_⟩⟩
  · rw [hfn]; exact hrt _ _ _
  · rw [hfn]; exact hargs _ fun x hx => by simpa using hlt x hx
  · rw [hfn, hvars]; rfl
  · exact ok_one hres rfl (okWide_bool_mk htb true)
  · rw [hvars]; rfl
  · have hp' : MemPlace.cell b off ∈ before := by simpa using hp
    rw [frozen_of hb (a := ⟨b, off, none⟩) (hlt _ hp')]
    exact hfz b off (by simpa using hp')
  · have := hnd ha
    simpa using this
  · simpa using hx

/-- A law is lifted. -/
theorem law_lift {C : Checked} {os : Os} {g : FuncId} {fn : Func} {s : ChangeSpec} {conds : List PathCond} {apart fresh handsOn again : Bool} {tb : TypeId} {n : Nat}
    (hvars : s.vars = []) (hs : ∀ (H : Type) (ds : List (DataW H)), ds.length = fn.params.size → s.fn H ds = { results := [.lit (.bool true)], args := ds })
    (hres : fn.resultTypes = #[tb]) (htb : C.prog.underlying tb = some .bool) (hl : laidOutB C.prog = true) (hr : ∀ t, t ∈ fn.params.toList → C.prog.readableRec t = true ∧ t < C.prog.types.size)
    (hshp : ∀ t, t ∈ fn.params.toList → shp C.prog n t = true)
    (own : ownKnob C.prog.godebug = none) (started : os.Started) (noInit : C.prog.inits.idxOf? g = none) (hfn : C.prog.funcs[g]? = some fn)
    (witness : ∃ (w : World) (tape : Tape) (i : Input), w.os = os ∧ (w.forCall tape i).Shaped C.prog ∧ i.vars = [] ∧ Input.okWide C.prog (w.forCall tape i) .any w.heap.size g i ∧
      s.pre6 enc C.prog fn conds apart (w.forCall tape i).memory i.args ∧ ({} : Assume).holds C.prog (lone (Frame.enter C.prog g i.args .normal) [] (w.forCall tape i)))
    (h : ∀ ms, ATs C.prog n fn.params.toList ms → MCalls C.prog g ms St.none fun r _ => r = .bool true) :
    ReturnsInHanded {} C os g .any (s.pre6 enc C.prog fn conds apart) (s.post enc C.prog fn apart fresh handsOn again) := by
  refine returnsInHanded_of_change own started noInit hfn witness ?_
  intro W base args ds gs before hval hW _ _
  obtain ⟨p, q, hA, _⟩ := id hW
  obtain ⟨ms, e, hrel, hat⟩ := args_open (n := n) (base := base) hshp (fun j t v p q => hval j t v (by simpa using p) (by simpa using q)) hA
  have hrels : Rels (phi0 W) args ms := ⟨by simpa using e, fun i m hm => by
    have hi : i < args.size := by
      have := (List.getElem?_eq_some_iff.1 hm).1
      simp at e; omega
    exact hrel i _ m (by simp [Array.getD, hi]) hm⟩
  refine ((h ms hat).2 (phi0 W) W args (inv0 W) hrels).mono fun e' W' ⟨v, mv, σ', Φ', he, hv, hi, hst, hq⟩ => ?_
  subst hq
  cases hv
  refine ⟨_, he, law_post hvars hs hres htb hl hr hW hst.os hst.output fun k hk => hst.block k hk ?_⟩
  rintro ⟨l, o, p, h1, _⟩
  simp [St.none] at h1

theorem ct_int {n : Nat} {t : TypeId} {k : IntKind} {cs : List MV} (hk : (td P t).k = .int k) (h : CT P (n + 1) t cs) : ∃ v, cs = [.int k v] ∧ k.min ≤ v ∧ v ≤ k.max := by
  simp only [CT, hk] at h; exact h
theorem ct_bool {n : Nat} {t : TypeId} {cs : List MV} (hk : (td P t).k = .bool) (h : CT P (n + 1) t cs) : ∃ b, cs = [.bool b] := by
  simp only [CT, hk] at h; exact h
theorem ct_str {n : Nat} {t : TypeId} {cs : List MV} (hk : (td P t).k = .str) (h : CT P (n + 1) t cs) : ∃ s : ByteArray, cs = [.str s] ∧ s.size ≤ maxLen := by
  simp only [CT, hk] at h; exact h
theorem ct_slice {n : Nat} {t e : TypeId} {cs : List MV} (hk : (td P t).k = .slice e) (h : CT P (n + 1) t cs) : ∃ xs, cs = [.lst (td P e).size xs false] ∧ xs.length ≤ maxLen ∧ ∀ x, x ∈ xs → CT P n e x := by
  simp only [CT, hk] at h; exact h
theorem ct_struct {n : Nat} {t : TypeId} {fs : List (Nat × TypeId)} {cs : List MV} (hk : (td P t).k = .struct fs) (h : CT P (n + 1) t cs) : cs.length = (td P t).size ∧ ∀ f, f ∈ fs → CT P n f.2 ((cs.drop f.1).take (td P f.2).size) := by
  simp only [CT, hk] at h; exact h
theorem ct_array {n m : Nat} {t e : TypeId} {cs : List MV} (hk : (td P t).k = .array m e) (h : CT P (n + 1) t cs) : cs.length = (td P t).size ∧ ∀ i, i < m → CT P n e ((cs.drop (i * (td P e).size)).take (td P e).size) := by
  simp only [CT, hk] at h; exact h
theorem at_cell {n : Nat} {t : TypeId} {m : MV} (hk : (td P t).k.isAgg = false) (h : AT P n t m) : CT P n t [m] := by
  simpa only [AT, hk, Bool.false_eq_true, if_false] using h
theorem at_agg {n : Nat} {t : TypeId} {m : MV} (hk : (td P t).k.isAgg = true) (h : AT P n t m) : ∃ cs, m = .agg cs ∧ CT P n t cs := by
  simpa only [AT, hk, if_true] using h
theorem lists_of {α : Type} {f : α → List MV} {xs : List (List MV)} (h : ∀ x, x ∈ xs → ∃ a, x = f a) : ∃ l : List α, xs = l.map f := by
  induction xs with
  | nil => exact ⟨[], rfl⟩
  | cons x xs ih =>
    obtain ⟨a, rfl⟩ := h x (List.mem_cons_self ..)
    obtain ⟨l, rfl⟩ := ih fun y hy => h y (List.mem_cons_of_mem _ hy)
    exact ⟨a :: l, rfl⟩
theorem lists_ofP {α : Type} {p : α → Prop} {f : α → List MV} {xs : List (List MV)} (h : ∀ x, x ∈ xs → ∃ a, x = f a ∧ p a) : ∃ l : List α, xs = l.map f ∧ ∀ a, a ∈ l → p a := by
  induction xs with
  | nil => exact ⟨[], rfl, fun a h => by cases h⟩
  | cons x xs ih =>
    obtain ⟨a, rfl, ha⟩ := h x (List.mem_cons_self ..)
    obtain ⟨l, rfl, hl⟩ := ih fun y hy => h y (List.mem_cons_of_mem _ hy)
    exact ⟨a :: l, rfl, fun b hb => (List.mem_cons.1 hb).elim (fun e => e ▸ ha) (hl b)⟩
theorem cell_eq {a b : MV} (h : [a] = [b]) : a = b := by simpa using h
end
end Go.Proofs.Ytielcgplbnlgbaa
end

section
/- What the arguments of the laws hold. -/
set_option linter.unusedVariables false
set_option linter.unusedSimpArgs false
namespace Go.Proofs.Ytielcgplbnlgbaa
open Go.ChangeShapes Go.WideShapes Go.RowKit
set_option maxRecDepth 100000

theorem va_open {n : Nat} {x : List MV} (h : CT Try.prog (n + 2) 32 x) : ∃ a : VA, x = a.c := by
  obtain ⟨hl, hf⟩ := ct_struct (congrArg TD.k td32) h
  rw [td32] at hl
  match x, hl with
  | [a, b, c], _ =>
    obtain ⟨v0, h0, _⟩ := ct_int (by rw [td3]) (hf (0, 3) (by simp))
    obtain ⟨v1, h1, _⟩ := ct_int (by rw [td3]) (hf (1, 3) (by simp))
    obtain ⟨v2, h2, _⟩ := ct_str (by rw [td9]) (hf (2, 9) (by simp))
    simp only [td3, td9, List.drop_zero, List.drop_succ_cons, List.take_succ_cons, List.take_zero, List.cons.injEq, and_true] at h0 h1 h2
    subst h0 h1 h2
    exact ⟨⟨v0, v1, v2⟩, rfl⟩

theorem nd_open {n : Nat} {x : List MV} (h : CT Try.prog (n + 3) 49 x) : ∃ a : ND, x = a.c := by
  obtain ⟨hl, hf⟩ := ct_struct (congrArg TD.k td49) h
  rw [td49] at hl
  match x, hl with
  | [a, b, c, d, e], _ =>
    obtain ⟨v0, h0, _⟩ := ct_int (by rw [td3]) (hf (0, 3) (by simp))
    obtain ⟨v1, h1, _⟩ := ct_int (by rw [td3]) (hf (1, 3) (by simp))
    obtain ⟨p, h2⟩ := va_open (hf (2, 32) (by simp))
    simp only [td3, td32, List.drop_zero, List.drop_succ_cons, List.take_succ_cons, List.take_zero, List.cons.injEq, and_true, VA.c] at h0 h1 h2
    obtain ⟨rfl, rfl, rfl⟩ := h2
    subst h0 h1
    exact ⟨⟨v0, v1, p⟩, rfl⟩

theorem nds_open {m : MV} (h : AT Try.prog 6 22 m) : ∃ l : List ND, m = .lst 5 (l.map ND.c) false := by
  obtain ⟨xs, hm, _, hx⟩ := ct_slice (by rw [td22]) (at_cell (by rw [td22]; rfl) h)
  obtain ⟨l, rfl⟩ := lists_of fun x hx' => nd_open (hx x hx')
  rw [td49] at hm
  exact ⟨l, cell_eq hm⟩

theorem nodes2_open {ms : List MV} (h : ATs Try.prog 6 [22, 22] ms) : ∃ a b : List ND, ms = [.lst 5 (a.map ND.c) false, .lst 5 (b.map ND.c) false] := by
  match ms, h with
  | [m, m2], ⟨h, h2, _⟩ =>
    obtain ⟨a, rfl⟩ := nds_open h
    obtain ⟨b, rfl⟩ := nds_open h2
    exact ⟨a, b, rfl⟩

theorem nodes2on_open {ms : List MV} (h : ATs Try.prog 6 [22, 22, 30] ms) : ∃ (a b : List ND) (on : Nat), on < 4294967296 ∧ ms = [.lst 5 (a.map ND.c) false, .lst 5 (b.map ND.c) false, .int .u32 (on : Int)] := by
  match ms, h with
  | [m, m2, m3], ⟨h, h2, h3, _⟩ =>
    obtain ⟨a, rfl⟩ := nds_open h
    obtain ⟨b, rfl⟩ := nds_open h2
    obtain ⟨v, hv, h0, h1⟩ := ct_int (by rw [td30]) (at_cell (by rw [td30]; rfl) h3)
    have e0 : IntKind.u32.min = 0 := by decide
    have e1 : IntKind.u32.max = 4294967295 := by decide
    rw [e0] at h0
    rw [e1] at h1
    refine ⟨a, b, v.toNat, by omega, ?_⟩
    rw [cell_eq hv, Int.toNat_of_nonneg h0]

theorem own_ : ownKnob Try.prog.godebug = none := by kernel_rfl
end Go.Proofs.Ytielcgplbnlgbaa
end

section
/- What implies what, of all sets of atoms. No program in sight. -/
set_option linter.unusedVariables false
set_option linter.unusedSimpArgs false
namespace Go.Proofs.Ytielcgplbnlgbaa

theorem posK_at {l : List ND} (h : Rising (l.map ND.key)) {x : ND} (hx : x ∈ l) : l.getD (posK l x) nd0 = x := by
  have hp := posK_lt h hx
  rw [getD_of_lt nd0 hp]
  obtain ⟨i, hi, e⟩ := List.mem_iff_getElem.1 hx
  have h1 : ¬ lessK (l[posK l x]).key x.key := fun hc => by
    have h := List.findIdx_getElem (w := hp) (p := fun y : ND => !decide (lessK y.key x.key))
    have h' : (!decide (lessK (l[posK l x]).key x.key)) = true := h
    rw [decide_eq_true hc] at h'
    cases h'
  have h2 : ∀ j, j < posK l x → (hj : j < l.length) → lessK (l[j]).key x.key := fun j hj hl => by
    have := List.not_of_lt_findIdx (p := fun y : ND => !decide (lessK y.key x.key)) hj
    simpa using this
  have hle : posK l x ≤ i := by
    refine Nat.le_of_not_lt fun hlt => ?_
    have := h2 i hlt hi
    rw [e] at this
    exact lessK_irrefl this
  rcases Nat.lt_or_ge (posK l x) i with h3 | h3
  · exfalso
    have hr : lessK (l[posK l x]).key (l[i]).key := by
      have := List.pairwise_iff_getElem.1 h (posK l x) i (by simpa using hp) (by simpa using hi) h3
      simpa using this
    rw [e] at hr
    exact h1 hr
  · have : posK l x = i := by omega
    simp only [this, e]

/-- Each set of atoms is gone through. -/
theorem asg_all {l : List ND} (h : Rising (l.map ND.key)) (av : ND → Bool) : ∃ on, on < 2 ^ l.length ∧ ∀ x, x ∈ l → asg l on x = av x := by
  refine ⟨wd (fun i => av (l.getD i nd0)) l.length, wd_lt _ _, fun x hx => ?_⟩
  rw [asg, decide_eq_true hx, wd_bit, posK_at h hx, decide_eq_true (posK_lt h hx)]
  rfl

theorem imp_all {s t : T} (hs : s.ok) (ht : t.ok) {l : List ND} (hr : Rising (l.map ND.key)) (h1 : ∀ x, x ∈ s.fl → isAtom x = true → x ∈ l) (h2 : ∀ x, x ∈ t.fl → isAtom x = true → x ∈ l) :
    impB l s t = true ↔ ∀ av : ND → Bool, (!s.sem av || t.sem av) = true := by
  rw [impB, decide_eq_true_eq]
  constructor
  · intro h av
    obtain ⟨on, hon, e⟩ := asg_all hr av
    rw [sem_congr s hs fun x hx hat => (e x (h1 x hx hat)).symm, sem_congr t ht fun x hx hat => (e x (h2 x hx hat)).symm]
    exact h on hon
  · exact fun h on _ => h _

theorem atoms_in_l {s t : T} : ∀ x, x ∈ s.fl → isAtom x = true → x ∈ atomsS (s.fl ++ t.fl) := fun x hx ha => mem_atoms.2 ⟨List.mem_append.2 (.inl hx), ha⟩
theorem atoms_in_r {s t : T} : ∀ x, x ∈ t.fl → isAtom x = true → x ∈ atomsS (s.fl ++ t.fl) := fun x hx ha => mem_atoms.2 ⟨List.mem_append.2 (.inr hx), ha⟩
theorem imp_st {s t : T} (hs : s.ok) (ht : t.ok) : impB (atomsS (s.fl ++ t.fl)) s t = true ↔ ∀ av : ND → Bool, (!s.sem av || t.sem av) = true := imp_all hs ht (atoms_rising _) atoms_in_l atoms_in_r
theorem imp_ts {s t : T} (hs : s.ok) (ht : t.ok) : impB (atomsS (s.fl ++ t.fl)) t s = true ↔ ∀ av : ND → Bool, (!t.sem av || s.sem av) = true := imp_all ht hs (atoms_rising _) atoms_in_r atoms_in_l

theorem insN_ge (x : ND) : ∀ l : List ND, l.length ≤ (insN x l).length
  | [] => by simp
  | y :: l => by
    have := insN_ge x l
    unfold insN
    repeat' split
    all_goals simp only [List.length_cons]
    all_goals omega
theorem fold_ge : ∀ (m l : List ND), l.length ≤ (m.foldl (fun acc x => insN x acc) l).length
  | [], l => Nat.le_refl _
  | x :: m, l => Nat.le_trans (insN_ge x l) (fold_ge m (insN x l))
theorem atoms_mono (a b : List ND) : (atomsS a).length ≤ (atomsS (a ++ b)).length := by
  unfold atomsS
  rw [List.filter_append, List.foldl_append]
  exact fold_ge _ _
end Go.Proofs.Ytielcgplbnlgbaa
end

section
/- Contracts of Large at cards, and of LogicCards; what a card and its groups hold: the conditions that the theorems name. -/
set_option linter.unusedVariables false
set_option linter.unusedSimpArgs false
namespace Go.Proofs.Ytielcgplbnlgbaa
set_option maxRecDepth 100000

def largeC (f : List VA) : Bool := f.any fun v => decide (200 < v.s.size)
theorem fcs_get2 {f : List VA} {i : Nat} (h : i < f.length) {d : MV} : (fcs f).getD (i * 3 + 2) d = .str (f.getD i va0).s := by
  have := fcs_at h
  rw [List.getD_eq_getElem?_getD, show i * 3 + 2 = 3 * i + 2 by omega, ← List.getElem?_drop, this]; rfl
set_option maxHeartbeats 1000000 in
theorem clarge_call (f : List VA) (hf : f.length = 8) : MCalls Try.prog 19 [.agg (fcs f)] St.none (fun r _ => r = .bool (largeC f)) := by
  refine MCalls.drops (MCalls.body 14 [.tmp 2] Try.func19 rfl rfl rfl rfl ?_)
  have hcell := fcs_cell f
  have hlen := fcs_len f
  rw [hf] at hlen
  have hget := fun i (h : i < f.length) => fcs_get2 h (d := .junk)
  obtain ⟨cells, hcells⟩ : ∃ cells, fcs f = cells := ⟨_, rfl⟩
  rw [hcells] at hcell hlen ⊢
  repeat' (first | (with_reducible first | (refine wT ?_; (first | ((fail_if_success (have := nl1)); refine wN fun nl1 hnl => ?_) | refine wN fun _ hnl => ?_); revert hnl; (repeat refine wS fun _ _ => ?_); intro hnl) | refine wD (by decide +kernel) ?_ | refine wI (fun h => ?_) fun h => ?_ | refine wF (fun h => ?_) fun h => ?_ | refine wG (fun h => ?_) fun h => ?_ | refine wH (fun h => ?_) fun h => ?_ | ((first | refine mfork_bool (fun h => ?_) fun h => ?_ | refine mgfork_bool (fun h => ?_) fun h => ?_) <;> simp only [h])) | simp (maxSteps := 4000000) (disch := first | decide | assumption | omega | (simp only [wL]; omega)) only [go_sem, simprocAttr, Try.f19, hcell, hlen])
  refine mloop_intro (α := Nat) (fun i => ⟨14, [(3, .int .i64 (i : Int)), (1, .ptr nl1 0 0)], []⟩)
    (fun _ => St.none.set nl1 (.row 33 24 [cells])) (fun i => i ≤ 8 ∧ (f.take i).any (fun v => decide (200 < v.s.size)) = false) (fun i => 8 - i) (.of (.less ?_ (St.le_refl _)) ⟨0, rfl, rfl, Nat.zero_le _, rfl⟩) ?_
  · simp (maxSteps := 4000000) (disch := first | decide | assumption | omega | (simp only [wL]; omega)) only [go_sem, simprocAttr, weak_int, weak_same]
    all_goals rfl
  · rintro i ⟨hi, hq⟩
    by_cases hlt : i < 8
    · have hil : i < f.length := by omega
      have hg := hget i hil
      rw [hcells] at hg
      have hm := getD_mem va0 hil
      obtain ⟨v, hv⟩ : ∃ v, f.getD i va0 = v := ⟨_, rfl⟩
      have hvi : f[i] = v := by rw [← hv, getD_of_lt va0 hil]
      rw [hv] at hg hm
      repeat' (first | (with_reducible first | (refine wT ?_; (first | ((fail_if_success (have := nl1)); refine wN fun nl1 hnl => ?_) | refine wN fun _ hnl => ?_); revert hnl; (repeat refine wS fun _ _ => ?_); intro hnl) | refine wD (by decide +kernel) ?_ | refine wI (fun h => ?_) fun h => ?_ | refine wF (fun h => ?_) fun h => ?_ | refine wG (fun h => ?_) fun h => ?_ | refine wH (fun h => ?_) fun h => ?_ | ((first | refine mfork_bool (fun h => ?_) fun h => ?_ | refine mgfork_bool (fun h => ?_) fun h => ?_) <;> simp only [h])) | simp (maxSteps := 4000000) (disch := first | decide | assumption | omega | (simp only [wL]; omega)) only [go_sem, simprocAttr, hg, hlen])
      · have e : largeC f = true := List.any_eq_true.2 ⟨v, hm, decide_eq_true (by omega)⟩
        rw [e]
        first | exact ⟨_, St.le_refl _, rfl⟩ | exact ⟨_, St.le_refl _⟩
      · refine .of (.less ?_ (St.le_refl _)) ⟨i + 1, rfl, rfl, ⟨by omega, ?_⟩, by omega⟩
        · simp (maxSteps := 4000000) (disch := first | decide | assumption | omega | (simp only [wL]; omega)) only [go_sem, simprocAttr, weak_int, weak_same]
          all_goals rfl
        · rw [any_take_succ hil, hq, hvi, decide_eq_false (by omega)]; rfl
    · have hie : i = 8 := by omega
      subst hie
      rw [List.take_of_length_le (by omega)] at hq
      have e : largeC f = false := hq
      rw [e]
      repeat' (first | (with_reducible first | (refine wT ?_; (first | ((fail_if_success (have := nl1)); refine wN fun nl1 hnl => ?_) | refine wN fun _ hnl => ?_); revert hnl; (repeat refine wS fun _ _ => ?_); intro hnl) | refine wD (by decide +kernel) ?_ | refine wI (fun h => ?_) fun h => ?_ | refine wF (fun h => ?_) fun h => ?_ | refine wG (fun h => ?_) fun h => ?_ | refine wH (fun h => ?_) fun h => ?_ | ((first | refine mfork_bool (fun h => ?_) fun h => ?_ | refine mgfork_bool (fun h => ?_) fun h => ?_) <;> simp only [h])) | simp (maxSteps := 4000000) (disch := first | decide | assumption | omega | (simp only [wL]; omega)) only [go_sem, simprocAttr])
      first | exact ⟨_, St.le_refl _, rfl⟩ | exact ⟨_, St.le_refl _⟩

theorem vas_open {m n : Nat} {cs : List MV} (hl : cs.length = n * 3) (h : ∀ i, i < n → CT Try.prog (m + 2) 32 ((cs.drop (i * 3)).take 3)) : ∃ f : List VA, f.length = n ∧ cs = fcs f := by
  induction n generalizing cs with
  | zero => exact ⟨[], rfl, List.eq_nil_of_length_eq_zero (by omega)⟩
  | succ n ih =>
    obtain ⟨v, hv⟩ := va_open (h 0 (by omega))
    obtain ⟨f, hf, e⟩ := ih (cs := cs.drop 3) (by rw [List.length_drop]; omega) fun i hi => by
      have := h (i + 1) (by omega)
      rw [List.drop_drop, show 3 + i * 3 = (i + 1) * 3 by omega]
      exact this
    refine ⟨v :: f, by simp [hf], ?_⟩
    rw [Nat.zero_mul, List.drop_zero] at hv
    rw [← List.take_append_drop 3 cs, hv, e]
    simp [fcs]

theorem card_open {n : Nat} {cs : List MV} (h : CT Try.prog (n + 4) 35 cs) : ∃ c : CD, cs = c.c ∧ c.f.length = 8 ∧ c.lab < 4294967296 := by
  obtain ⟨hl, hf⟩ := ct_struct (congrArg TD.k td35) h
  rw [td35] at hl
  simp only at hl
  obtain ⟨v0, h0, _⟩ := ct_int (by rw [td3]) (hf (0, 3) (by simp))
  obtain ⟨v1, h1, _⟩ := ct_int (by rw [td3]) (hf (1, 3) (by simp))
  obtain ⟨v2, h2, l2, u2⟩ := ct_int (by rw [td30]) (hf (2, 30) (by simp))
  obtain ⟨hal, ha⟩ := ct_array (congrArg TD.k td33) (hf (3, 33) (by simp))
  have e0 : IntKind.u32.min = 0 := by decide
  have e1 : IntKind.u32.max = 4294967295 := by decide
  rw [e0] at l2
  rw [e1] at u2
  match cs, hl with
  | a :: b :: c :: r, hl =>
    simp only [td3, td30, td33, td32, List.drop_zero, List.drop_succ_cons, List.take_succ_cons, List.take_zero, List.cons.injEq, and_true] at h0 h1 h2 hal ha
    subst h0 h1 h2
    have hr : r.length = 24 := by simp only [List.length_cons] at hl; omega
    obtain ⟨f, hf, e⟩ := vas_open (m := n) (n := 8) (cs := r) hr fun i hi => by
      have := ha i hi
      rwa [show List.take 24 r = r from List.take_of_length_le (by omega)] at this
    refine ⟨⟨v0, v1, v2.toNat, f⟩, ?_, hf, by simp only; omega⟩
    simp only [CD.c, Int.toNat_of_nonneg l2]
    rw [e]

theorem asked_open {m : MV} (h : AT Try.prog 6 37 m) : ∃ (c : CD) (g : Nat), m = .agg (c.c ++ [MV.int .u32 (g : Int)]) ∧ c.f.length = 8 ∧ c.lab < 4294967296 ∧ g < 4294967296 := by
  obtain ⟨cs, rfl, h1⟩ := at_agg (by rw [td37]; rfl) h
  obtain ⟨hl, hf⟩ := ct_struct (congrArg TD.k td37) h1
  rw [td37] at hl
  simp only at hl
  obtain ⟨c, hc, hc8, hcl⟩ := card_open (hf (0, 35) (by simp))
  obtain ⟨v2, h2, l2, u2⟩ := ct_int (by rw [td30]) (hf (27, 30) (by simp))
  have e0 : IntKind.u32.min = 0 := by decide
  have e1 : IntKind.u32.max = 4294967295 := by decide
  rw [e0] at l2
  rw [e1] at u2
  simp only [td35, td30, List.drop_zero] at hc h2
  refine ⟨c, v2.toNat, ?_, hc8, hcl, by omega⟩
  rw [Int.toNat_of_nonneg l2, ← hc, ← h2]
  congr 1
  conv => lhs; rw [← List.take_append_drop 27 cs]
  congr 1
  exact (List.take_of_length_le (by rw [List.length_drop]; omega)).symm

/-- What the law's walk needs of its arguments. -/
structure LC (A B : List ND) (c : CD) (g : Nat) (cells ff : List MV) : Prop where
  la : MCalls Try.prog 10 [.lst 5 (A.map ND.c) false] St.none (fun r _ => r = .bool false)
  lb : MCalls Try.prog 10 [.lst 5 (B.map ND.c) false] St.none (fun r _ => r = .bool false)
  lc : MCalls Try.prog 19 [.agg ff] St.none (fun r _ => r = .bool false)
  fa : MCalls Try.prog 12 [.lst 5 (A.map ND.c) false] St.none (fun r _ => r = .bool true)
  fb : MCalls Try.prog 12 [.lst 5 (B.map ND.c) false] St.none (fun r _ => r = .bool true)
  take : List.take 24 cells = ff
  get : cells.getD 24 .junk = .int .u32 (g : Int)
  cell : cells.all MV.isCell = true
  len : cells.length = 25

def lcM (c : CD) (cells : List MV) : MV := .agg (.int .i64 c.id :: .int .i64 c.ver :: .int .u32 (c.lab : Int) :: cells)

set_option maxHeartbeats 4000000 in
theorem lc_no {A B : List ND} {c : CD} {g : Nat} {cells ff : List MV} (h : LC A B c g cells ff) (n : Int) (hn : n = 0 ∨ n = 4)
    (c1 : MCalls Try.prog 15 [.lst 5 (A.map ND.c) false, .lst 5 (B.map ND.c) false] St.none (fun r _ => r = .tup [.bool false, .int .i64 n]))
    (c3 : MCalls Try.prog 17 [.lst 5 (A.map ND.c) false, .lst 5 (B.map ND.c) false] St.none (fun r _ => r = .tup [.bool false, .int .i64 n])) :
    MCalls Try.prog 4 [.lst 5 (A.map ND.c) false, .lst 5 (B.map ND.c) false, lcM c cells] St.none (fun r _ => r = .bool true) := by
  refine MCalls.drops (MCalls.body 94 [.tmp 6] Try.func4 rfl rfl rfl rfl ?_)
  obtain ⟨hla, hlb, hlc, hfa, hfb, ht, hgt, hac, hll⟩ := h
  have hw := lawake_call
  simp only [lcM]
  rcases hn with rfl | rfl
  all_goals
    repeat' (first | (with_reducible first | refine up hfa ?_ | refine up hfb ?_ | refine up hla ?_ | refine up hlb ?_ | refine up hlc ?_ | refine up hw ?_ | refine up c1 ?_ | refine up c3 ?_) | (with_reducible first | (refine wT ?_; refine wN fun _ hnl => ?_; revert hnl; (repeat refine wS fun _ _ => ?_); intro hnl) | refine wD (by decide +kernel) ?_ | refine wI (fun h => ?_) fun h => ?_ | refine wF (fun h => ?_) fun h => ?_ | refine wG (fun h => ?_) fun h => ?_ | refine wH (fun h => ?_) fun h => ?_ | ((first | refine mfork_bool (fun h => ?_) fun h => ?_ | refine mgfork_bool (fun h => ?_) fun h => ?_) <;> simp only [h])) | simp (maxSteps := 4000000) (disch := first | decide | assumption | omega | (simp only [wL]; omega)) only [go_sem, simprocAttr, Try.f4, hac, hll, ht, hgt])
    refine mdraw_know mixed (by decide +kernel) (fun _ _ => none) ?_
    repeat' (first | (with_reducible first | refine up hw ?_) | (with_reducible first | (refine wT ?_; refine wN fun _ hnl => ?_; revert hnl; (repeat refine wS fun _ _ => ?_); intro hnl) | refine wD (by decide +kernel) ?_ | refine wI (fun h => ?_) fun h => ?_ | refine wF (fun h => ?_) fun h => ?_ | refine wG (fun h => ?_) fun h => ?_ | refine wH (fun h => ?_) fun h => ?_ | ((first | refine mfork_bool (fun h => ?_) fun h => ?_ | refine mgfork_bool (fun h => ?_) fun h => ?_) <;> simp only [h])) | simp (maxSteps := 4000000) (disch := first | decide | assumption | omega | (simp only [wL]; omega)) only [go_sem, simprocAttr, hac, hll, ht, hgt])
    first | exact ⟨_, St.le_refl _, rfl⟩ | exact ⟨_, St.le_refl _⟩

set_option maxHeartbeats 4000000 in
theorem lc_imp {A B : List ND} {c : CD} {g : Nat} {cells ff : List MV} (h : LC A B c g cells ff) (sa sb : Bool) (hab : sa = true → sb = true)
    (c1 : MCalls Try.prog 15 [.lst 5 (A.map ND.c) false, .lst 5 (B.map ND.c) false] St.none (fun r _ => r = .tup [.bool true, .int .i64 0]))
    (c3 : MCalls Try.prog 17 [.lst 5 (A.map ND.c) false, .lst 5 (B.map ND.c) false] St.none (fun r _ => r = .tup [.bool false, .int .i64 0]))
    (m1 : MCalls Try.prog 20 [.lst 5 (A.map ND.c) false, lcM c ff, .int .u32 (g : Int)] St.none (fun r _ => r = .bool sa))
    (m2 : MCalls Try.prog 20 [.lst 5 (B.map ND.c) false, lcM c ff, .int .u32 (g : Int)] St.none (fun r _ => r = .bool sb)) :
    MCalls Try.prog 4 [.lst 5 (A.map ND.c) false, .lst 5 (B.map ND.c) false, lcM c cells] St.none (fun r _ => r = .bool true) := by
  refine MCalls.drops (MCalls.body 94 [.tmp 6] Try.func4 rfl rfl rfl rfl ?_)
  obtain ⟨hla, hlb, hlc, hfa, hfb, ht, hgt, hac, hll⟩ := h
  have hw := lawake_call
  simp only [lcM] at m1 m2 ⊢
  cases sa
  · repeat' (first | (with_reducible first | refine up hfa ?_ | refine up hfb ?_ | refine up hla ?_ | refine up hlb ?_ | refine up hlc ?_ | refine up hw ?_ | refine up c1 ?_ | refine up c3 ?_ | refine up m1 ?_) | (with_reducible first | (refine wT ?_; refine wN fun _ hnl => ?_; revert hnl; (repeat refine wS fun _ _ => ?_); intro hnl) | refine wD (by decide +kernel) ?_ | refine wI (fun h => ?_) fun h => ?_ | refine wF (fun h => ?_) fun h => ?_ | refine wG (fun h => ?_) fun h => ?_ | refine wH (fun h => ?_) fun h => ?_ | ((first | refine mfork_bool (fun h => ?_) fun h => ?_ | refine mgfork_bool (fun h => ?_) fun h => ?_) <;> simp only [h])) | simp (maxSteps := 4000000) (disch := first | decide | assumption | omega | (simp only [wL]; omega)) only [go_sem, simprocAttr, Try.f4, hac, hll, ht, hgt])
    refine mdraw_know mixed (by decide +kernel) (fun _ _ => none) ?_
    repeat' (first | (with_reducible first | refine up hw ?_) | (with_reducible first | (refine wT ?_; refine wN fun _ hnl => ?_; revert hnl; (repeat refine wS fun _ _ => ?_); intro hnl) | refine wD (by decide +kernel) ?_ | refine wI (fun h => ?_) fun h => ?_ | refine wF (fun h => ?_) fun h => ?_ | refine wG (fun h => ?_) fun h => ?_ | refine wH (fun h => ?_) fun h => ?_ | ((first | refine mfork_bool (fun h => ?_) fun h => ?_ | refine mgfork_bool (fun h => ?_) fun h => ?_) <;> simp only [h])) | simp (maxSteps := 4000000) (disch := first | decide | assumption | omega | (simp only [wL]; omega)) only [go_sem, simprocAttr, hac, hll, ht, hgt])
    first | exact ⟨_, St.le_refl _, rfl⟩ | exact ⟨_, St.le_refl _⟩
  · rw [hab rfl] at m2
    repeat' (first | (with_reducible first | refine up hfa ?_ | refine up hfb ?_ | refine up hla ?_ | refine up hlb ?_ | refine up hlc ?_ | refine up hw ?_ | refine up c1 ?_ | refine up c3 ?_ | refine up m1 ?_ | refine up m2 ?_) | (with_reducible first | (refine wT ?_; refine wN fun _ hnl => ?_; revert hnl; (repeat refine wS fun _ _ => ?_); intro hnl) | refine wD (by decide +kernel) ?_ | refine wI (fun h => ?_) fun h => ?_ | refine wF (fun h => ?_) fun h => ?_ | refine wG (fun h => ?_) fun h => ?_ | refine wH (fun h => ?_) fun h => ?_ | ((first | refine mfork_bool (fun h => ?_) fun h => ?_ | refine mgfork_bool (fun h => ?_) fun h => ?_) <;> simp only [h])) | simp (maxSteps := 4000000) (disch := first | decide | assumption | omega | (simp only [wL]; omega)) only [go_sem, simprocAttr, Try.f4, hac, hll, ht, hgt])
    refine mdraw_know mixed (by decide +kernel) (fun _ _ => none) ?_
    repeat' (first | (with_reducible first | refine up hw ?_) | (with_reducible first | (refine wT ?_; refine wN fun _ hnl => ?_; revert hnl; (repeat refine wS fun _ _ => ?_); intro hnl) | refine wD (by decide +kernel) ?_ | refine wI (fun h => ?_) fun h => ?_ | refine wF (fun h => ?_) fun h => ?_ | refine wG (fun h => ?_) fun h => ?_ | refine wH (fun h => ?_) fun h => ?_ | ((first | refine mfork_bool (fun h => ?_) fun h => ?_ | refine mgfork_bool (fun h => ?_) fun h => ?_) <;> simp only [h])) | simp (maxSteps := 4000000) (disch := first | decide | assumption | omega | (simp only [wL]; omega)) only [go_sem, simprocAttr, hac, hll, ht, hgt])
    first | exact ⟨_, St.le_refl _, rfl⟩ | exact ⟨_, St.le_refl _⟩

set_option maxHeartbeats 4000000 in
theorem lc_eq {A B : List ND} {c : CD} {g : Nat} {cells ff : List MV} (h : LC A B c g cells ff) (sa : Bool)
    (c1 : MCalls Try.prog 15 [.lst 5 (A.map ND.c) false, .lst 5 (B.map ND.c) false] St.none (fun r _ => r = .tup [.bool true, .int .i64 0]))
    (c3 : MCalls Try.prog 17 [.lst 5 (A.map ND.c) false, .lst 5 (B.map ND.c) false] St.none (fun r _ => r = .tup [.bool true, .int .i64 0]))
    (m1 : MCalls Try.prog 20 [.lst 5 (A.map ND.c) false, lcM c ff, .int .u32 (g : Int)] St.none (fun r _ => r = .bool sa))
    (m2 : MCalls Try.prog 20 [.lst 5 (B.map ND.c) false, lcM c ff, .int .u32 (g : Int)] St.none (fun r _ => r = .bool sa)) :
    MCalls Try.prog 4 [.lst 5 (A.map ND.c) false, .lst 5 (B.map ND.c) false, lcM c cells] St.none (fun r _ => r = .bool true) := by
  refine MCalls.drops (MCalls.body 94 [.tmp 6] Try.func4 rfl rfl rfl rfl ?_)
  obtain ⟨hla, hlb, hlc, hfa, hfb, ht, hgt, hac, hll⟩ := h
  have hw := lawake_call
  simp only [lcM] at m1 m2 ⊢
  cases sa
  all_goals
    repeat' (first | (with_reducible first | refine up hfa ?_ | refine up hfb ?_ | refine up hla ?_ | refine up hlb ?_ | refine up hlc ?_ | refine up hw ?_ | refine up c1 ?_ | refine up c3 ?_ | refine up m1 ?_ | refine up m2 ?_) | (with_reducible first | (refine wT ?_; refine wN fun _ hnl => ?_; revert hnl; (repeat refine wS fun _ _ => ?_); intro hnl) | refine wD (by decide +kernel) ?_ | refine wI (fun h => ?_) fun h => ?_ | refine wF (fun h => ?_) fun h => ?_ | refine wG (fun h => ?_) fun h => ?_ | refine wH (fun h => ?_) fun h => ?_ | ((first | refine mfork_bool (fun h => ?_) fun h => ?_ | refine mgfork_bool (fun h => ?_) fun h => ?_) <;> simp only [h])) | simp (maxSteps := 4000000) (disch := first | decide | assumption | omega | (simp only [wL]; omega)) only [go_sem, simprocAttr, Try.f4, hac, hll, ht, hgt])
  · refine mdraw_know mixed (by decide +kernel) (fun _ _ => some ⟨[], fun v => v = .bool false, none⟩) ?_
    repeat' (first | (with_reducible refine know_pure rfl m1 ?_) | (with_reducible refine know_pure rfl m2 ?_) | (with_reducible first | refine up hw ?_) | (with_reducible first | (refine wT ?_; refine wN fun _ hnl => ?_; revert hnl; (repeat refine wS fun _ _ => ?_); intro hnl) | refine wD (by decide +kernel) ?_ | refine wI (fun h => ?_) fun h => ?_ | refine wF (fun h => ?_) fun h => ?_ | refine wG (fun h => ?_) fun h => ?_ | refine wH (fun h => ?_) fun h => ?_ | ((first | refine mfork_bool (fun h => ?_) fun h => ?_ | refine mgfork_bool (fun h => ?_) fun h => ?_) <;> simp only [h])) | simp (maxSteps := 4000000) (disch := first | decide | assumption | omega | (simp only [wL]; omega)) only [go_sem, simprocAttr, hac, hll, ht, hgt])
    first | exact ⟨_, St.le_refl _, rfl⟩ | exact ⟨_, St.le_refl _⟩
  · refine mdraw_know mixed (by decide +kernel) (fun _ _ => some ⟨[], fun v => v = .bool true, none⟩) ?_
    repeat' (first | (with_reducible refine know_pure rfl m1 ?_) | (with_reducible refine know_pure rfl m2 ?_) | (with_reducible first | refine up hw ?_) | (with_reducible first | (refine wT ?_; refine wN fun _ hnl => ?_; revert hnl; (repeat refine wS fun _ _ => ?_); intro hnl) | refine wD (by decide +kernel) ?_ | refine wI (fun h => ?_) fun h => ?_ | refine wF (fun h => ?_) fun h => ?_ | refine wG (fun h => ?_) fun h => ?_ | refine wH (fun h => ?_) fun h => ?_ | ((first | refine mfork_bool (fun h => ?_) fun h => ?_ | refine mgfork_bool (fun h => ?_) fun h => ?_) <;> simp only [h])) | simp (maxSteps := 4000000) (disch := first | decide | assumption | omega | (simp only [wL]; omega)) only [go_sem, simprocAttr, hac, hll, ht, hgt])
    first | exact ⟨_, St.le_refl _, rfl⟩ | exact ⟨_, St.le_refl _⟩

set_option maxHeartbeats 8000000 in
theorem logCards_call (a b : List ND) (c : CD) (g : Nat) (hc8 : c.f.length = 8) (hcl : c.lab < 4294967296) (hg : g < 4294967296) :
    MCalls Try.prog 4 [.lst 5 (a.map ND.c) false, .lst 5 (b.map ND.c) false, .agg (c.c ++ [MV.int .u32 (g : Int)])] St.none (fun r _ => r = .bool true) := by
  have hw := lawake_call
  have hla := rlarge_call a false
  have hlb := rlarge_call b false
  have hlc := clarge_call c.f hc8
  have hfa := rfit_call a false
  have hfb := rfit_call b false
  have hcell := fcs_cell c.f
  have hlen := fcs_len c.f
  rw [hc8] at hlen
  have ht : List.take 24 (fcs c.f ++ [MV.int .u32 (g : Int)]) = fcs c.f := by rw [List.take_append_of_le_length (by omega), List.take_of_length_le (by omega)]
  have hgt : (fcs c.f ++ [MV.int .u32 (g : Int)]).getD 24 .junk = .int .u32 (g : Int) := by
    rw [List.getD_eq_getElem?_getD, List.getElem?_append_right (by omega), show 24 - (fcs c.f).length = 0 by omega]; rfl
  have hac : (fcs c.f ++ [MV.int .u32 (g : Int)]).all MV.isCell = true := by rw [List.all_append, hcell]; rfl
  have hll : (fcs c.f ++ [MV.int .u32 (g : Int)]).length = 25 := by rw [List.length_append, hlen]; rfl
  simp only [CD.c, List.cons_append]
  obtain ⟨cells, hcells⟩ : ∃ cells, fcs c.f ++ [MV.int .u32 (g : Int)] = cells := ⟨_, rfl⟩
  rw [hcells] at ht hgt hac hll ⊢
  cases ga : fitS a <;> cases gb : fitS b <;> rw [ga] at hfa <;> rw [gb] at hfb
  all_goals try
    refine MCalls.drops (MCalls.body 94 [.tmp 6] Try.func4 rfl rfl rfl rfl ?_)
    repeat' (first | (with_reducible first | refine up hfa ?_ | refine up hfb ?_ | refine up hw ?_) | (with_reducible first | (refine wT ?_; refine wN fun _ hnl => ?_; revert hnl; (repeat refine wS fun _ _ => ?_); intro hnl) | refine wD (by decide +kernel) ?_ | refine wI (fun h => ?_) fun h => ?_ | refine wF (fun h => ?_) fun h => ?_ | refine wG (fun h => ?_) fun h => ?_ | refine wH (fun h => ?_) fun h => ?_ | ((first | refine mfork_bool (fun h => ?_) fun h => ?_ | refine mgfork_bool (fun h => ?_) fun h => ?_) <;> simp only [h])) | simp (maxSteps := 4000000) (disch := first | decide | assumption | omega | (simp only [wL]; omega)) only [go_sem, simprocAttr, Try.f4, hac, hll, ht, hgt])
    first | exact ⟨_, St.le_refl _, rfl⟩ | exact ⟨_, St.le_refl _⟩
  cases ea : largeS a <;> cases eb : largeS b <;> rw [ea] at hla <;> rw [eb] at hlb
  all_goals try
    refine MCalls.drops (MCalls.body 94 [.tmp 6] Try.func4 rfl rfl rfl rfl ?_)
    repeat' (first | (with_reducible first | refine up hfa ?_ | refine up hfb ?_ | refine up hla ?_ | refine up hlb ?_ | refine up hw ?_) | (with_reducible first | (refine wT ?_; refine wN fun _ hnl => ?_; revert hnl; (repeat refine wS fun _ _ => ?_); intro hnl) | refine wD (by decide +kernel) ?_ | refine wI (fun h => ?_) fun h => ?_ | refine wF (fun h => ?_) fun h => ?_ | refine wG (fun h => ?_) fun h => ?_ | refine wH (fun h => ?_) fun h => ?_ | ((first | refine mfork_bool (fun h => ?_) fun h => ?_ | refine mgfork_bool (fun h => ?_) fun h => ?_) <;> simp only [h])) | simp (maxSteps := 4000000) (disch := first | decide | assumption | omega | (simp only [wL]; omega)) only [go_sem, simprocAttr, Try.f4, hac, hll, ht, hgt])
    first | exact ⟨_, St.le_refl _, rfl⟩ | exact ⟨_, St.le_refl _⟩
  cases ec : largeC c.f <;> rw [ec] at hlc
  · have hcf : CF c := ⟨hc8, fun v hv => by
      have := List.any_eq_false.1 ec v hv
      simp only [decide_eq_true_eq] at this
      omega, hcl⟩
    obtain ⟨s, rfl, hs⟩ := FT.of ga (size_of_large ea)
    obtain ⟨t, rfl, ht'⟩ := FT.of gb (size_of_large eb)
    have hls := hs.len
    have hlt := ht'.len
    have c1 := limplies_fit s t hs ht'
    have c3 := lequal_fit s t hs ht'
    have m1 := rmatch_call c hcf g hg s hs.good (by omega) false
    have m2 := rmatch_call c hcf g hg t ht'.good (by omega) false
    have i1 := fun h => (imp_st hs.good.1 ht'.good.1).1 h (leafB c g)
    have i2 := fun h => (imp_ts hs.good.1 ht'.good.1).1 h (leafB c g)
    have hcc : c.c = .int .i64 c.id :: .int .i64 c.ver :: .int .u32 (c.lab : Int) :: fcs c.f := rfl
    rw [hcc] at m1 m2
    unfold impV at c1
    unfold eqV' at c3
    generalize impB (atomsS (s.fl ++ t.fl)) s t = p at c1 c3 i1
    generalize impB (atomsS (s.fl ++ t.fl)) t s = q at c3 i2
    generalize s.sem (leafB c g) = sa at m1 i1 i2
    generalize t.sem (leafB c g) = sb at m2 i1 i2
    have hL : LC s.fl t.fl c g cells (fcs c.f) := ⟨hla, hlb, hlc, hfa, hfb, ht, hgt, hac, hll⟩
    have key : MCalls Try.prog 4 [.lst 5 (s.fl.map ND.c) false, .lst 5 (t.fl.map ND.c) false, lcM c cells] St.none (fun r _ => r = .bool true) := by
      by_cases h10 : (atomsS (s.fl ++ t.fl)).length ≤ 10
      · rw [if_pos h10] at c1 c3
        cases p
        · exact lc_no hL 0 (.inl rfl) c1 c3
        · cases q
          · exact lc_imp hL sa sb (fun e => by have := i1 rfl; rw [e] at this; simpa using this) c1 c3 m1 m2
          · have e : sb = sa := by
              have h1 := i1 rfl
              have h2 := i2 rfl
              cases sa <;> cases sb <;> first | rfl | exact absurd h1 (by decide) | exact absurd h2 (by decide)
            rw [e] at m2
            exact lc_eq hL sa c1 c3 m1 m2
      · rw [if_neg h10] at c1 c3
        exact lc_no hL 4 (.inr rfl) c1 c3
    exact key
  · refine MCalls.drops (MCalls.body 94 [.tmp 6] Try.func4 rfl rfl rfl rfl ?_)
    repeat' (first | (with_reducible first | refine up hfa ?_ | refine up hfb ?_ | refine up hla ?_ | refine up hlb ?_ | refine up hlc ?_ | refine up hw ?_) | (with_reducible first | (refine wT ?_; refine wN fun _ hnl => ?_; revert hnl; (repeat refine wS fun _ _ => ?_); intro hnl) | refine wD (by decide +kernel) ?_ | refine wI (fun h => ?_) fun h => ?_ | refine wF (fun h => ?_) fun h => ?_ | refine wG (fun h => ?_) fun h => ?_ | refine wH (fun h => ?_) fun h => ?_ | ((first | refine mfork_bool (fun h => ?_) fun h => ?_ | refine mgfork_bool (fun h => ?_) fun h => ?_) <;> simp only [h])) | simp (maxSteps := 4000000) (disch := first | decide | assumption | omega | (simp only [wL]; omega)) only [go_sem, simprocAttr, Try.f4, hac, hll, ht, hgt])
    first | exact ⟨_, St.le_refl _, rfl⟩ | exact ⟨_, St.le_refl _⟩

theorem cards_open {ms : List MV} (h : ATs Try.prog 6 [22, 22, 37] ms) : ∃ (a b : List ND) (c : CD) (g : Nat), c.f.length = 8 ∧ c.lab < 4294967296 ∧ g < 4294967296 ∧ ms = [.lst 5 (a.map ND.c) false, .lst 5 (b.map ND.c) false, .agg (c.c ++ [.int .u32 (g : Int)])] := by
  match ms, h with
  | [m, m2, m3], ⟨h, h2, h3, _⟩ =>
    obtain ⟨a, rfl⟩ := nds_open h
    obtain ⟨b, rfl⟩ := nds_open h2
    obtain ⟨c, g, rfl, h8, hl, hg⟩ := asked_open h3
    exact ⟨a, b, c, g, h8, hl, hg, rfl⟩
end Go.Proofs.Ytielcgplbnlgbaa
end

section
/- Contract of NormTakes: the conditions that the theorems name. -/
set_option linter.unusedVariables false
set_option linter.unusedSimpArgs false
namespace Go.Proofs.Ytielcgplbnlgbaa
set_option maxRecDepth 100000

theorem tbf : (true == false) = false := rfl
theorem fbt : (false == true) = false := rfl
theorem end_whole {t : T} (h : t.ok) : endS t.fl 0 = (t.fl.length : Int) := by
  have := endS_fl h [] []
  simpa using this

set_option maxHeartbeats 8000000 in
theorem normTakes_call (a : List ND) (c : CD) (g : Nat) (hc8 : c.f.length = 8) (hcl : c.lab < 4294967296) (hg : g < 4294967296) :
    MCalls Try.prog 8 [.lst 5 (a.map ND.c) false, .agg (c.c ++ [MV.int .u32 (g : Int)])] St.none (fun r _ => r = .bool true) := by
  refine MCalls.drops (MCalls.body 101 [.tmp 4] Try.func8 rfl rfl rfl rfl ?_)
  have hw := nawake_call
  have hla := rlarge_call a false
  have hlc := clarge_call c.f hc8
  have hfa := rfit_call a false
  have hcell := fcs_cell c.f
  have hlen := fcs_len c.f
  rw [hc8] at hlen
  have ht : List.take 24 (fcs c.f ++ [MV.int .u32 (g : Int)]) = fcs c.f := by rw [List.take_append_of_le_length (by omega), List.take_of_length_le (by omega)]
  have hgt : (fcs c.f ++ [MV.int .u32 (g : Int)]).getD 24 .junk = .int .u32 (g : Int) := by
    rw [List.getD_eq_getElem?_getD, List.getElem?_append_right (by omega), show 24 - (fcs c.f).length = 0 by omega]; rfl
  have hac : (fcs c.f ++ [MV.int .u32 (g : Int)]).all MV.isCell = true := by rw [List.all_append, hcell]; rfl
  have hll : (fcs c.f ++ [MV.int .u32 (g : Int)]).length = 25 := by rw [List.length_append, hlen]; rfl
  simp only [CD.c, List.cons_append]
  obtain ⟨cells, hcells⟩ : ∃ cells, fcs c.f ++ [MV.int .u32 (g : Int)] = cells := ⟨_, rfl⟩
  rw [hcells] at ht hgt hac hll ⊢
  cases ga : fitS a <;> rw [ga] at hfa
  · repeat' (first | (with_reducible first | refine up hfa ?_ | refine up hw ?_) | (with_reducible first | (refine wT ?_; (first | ((fail_if_success (have := nl1)); refine wN fun nl1 hnl => ?_) | refine wN fun _ hnl => ?_); revert hnl; (repeat refine wS fun _ _ => ?_); intro hnl) | refine wD (by decide +kernel) ?_ | refine wI (fun h => ?_) fun h => ?_ | refine wF (fun h => ?_) fun h => ?_ | refine wG (fun h => ?_) fun h => ?_ | refine wH (fun h => ?_) fun h => ?_ | ((first | refine mfork_bool (fun h => ?_) fun h => ?_ | refine mgfork_bool (fun h => ?_) fun h => ?_) <;> simp only [h])) | simp (maxSteps := 4000000) (disch := first | decide | assumption | omega | (simp only [wL]; omega)) only [go_sem, simprocAttr, Try.f8, hac, hll, ht, hgt])
    exact ⟨_, St.le_refl _⟩
  cases ea : largeS a <;> rw [ea] at hla
  rotate_left
  · repeat' (first | (with_reducible first | refine up hfa ?_ | refine up hla ?_ | refine up hw ?_) | (with_reducible first | (refine wT ?_; (first | ((fail_if_success (have := nl1)); refine wN fun nl1 hnl => ?_) | refine wN fun _ hnl => ?_); revert hnl; (repeat refine wS fun _ _ => ?_); intro hnl) | refine wD (by decide +kernel) ?_ | refine wI (fun h => ?_) fun h => ?_ | refine wF (fun h => ?_) fun h => ?_ | refine wG (fun h => ?_) fun h => ?_ | refine wH (fun h => ?_) fun h => ?_ | ((first | refine mfork_bool (fun h => ?_) fun h => ?_ | refine mgfork_bool (fun h => ?_) fun h => ?_) <;> simp only [h])) | simp (maxSteps := 4000000) (disch := first | decide | assumption | omega | (simp only [wL]; omega)) only [go_sem, simprocAttr, Try.f8, hac, hll, ht, hgt])
    exact ⟨_, St.le_refl _⟩
  cases ec : largeC c.f <;> rw [ec] at hlc
  rotate_left
  · repeat' (first | (with_reducible first | refine up hfa ?_ | refine up hla ?_ | refine up hlc ?_ | refine up hw ?_) | (with_reducible first | (refine wT ?_; (first | ((fail_if_success (have := nl1)); refine wN fun nl1 hnl => ?_) | refine wN fun _ hnl => ?_); revert hnl; (repeat refine wS fun _ _ => ?_); intro hnl) | refine wD (by decide +kernel) ?_ | refine wI (fun h => ?_) fun h => ?_ | refine wF (fun h => ?_) fun h => ?_ | refine wG (fun h => ?_) fun h => ?_ | refine wH (fun h => ?_) fun h => ?_ | ((first | refine mfork_bool (fun h => ?_) fun h => ?_ | refine mgfork_bool (fun h => ?_) fun h => ?_) <;> simp only [h])) | simp (maxSteps := 4000000) (disch := first | decide | assumption | omega | (simp only [wL]; omega)) only [go_sem, simprocAttr, Try.f8, hac, hll, ht, hgt])
    exact ⟨_, St.le_refl _⟩
  have hcf : CF c := ⟨hc8, fun v hv => by
    have := List.any_eq_false.1 ec v hv
    simp only [decide_eq_true_eq] at this
    omega, hcl⟩
  obtain ⟨s, rfl, hs⟩ := FT.of ga (size_of_large ea)
  have hls := hs.len
  have hcc : c.c = .int .i64 c.id :: .int .i64 c.ver :: .int .u32 (c.lab : Int) :: fcs c.f := rfl
  have n1 := nof_fit njoined_call s hs
  have n2 := ntu_fit njoined_call s hs
  have gf := good_form false hs.good
  have gt := good_form true hs.good
  have lf := formT_len s false
  have lt := formT_len s true
  have m1 := rmatch_call c hcf g hg s hs.good (by omega) false
  have m2 := rmatch_call c hcf g hg (formT s false) gf (by omega) false
  have m3 := rmatch_call c hcf g hg (formT s true) gt (by omega) false
  rw [hcc] at m1 m2 m3
  rw [sem_form (leafB c g) false hs.good, Bool.xor_false] at m2
  rw [sem_form (leafB c g) true hs.good, Bool.xor_true] at m3
  obtain ⟨f, hf⟩ : ∃ f, formT s false = f := ⟨_, rfl⟩
  obtain ⟨t, hft⟩ : ∃ t, formT s true = t := ⟨_, rfl⟩
  rw [hf] at n1 gf m2 lf
  rw [hft] at n2 gt m3 lt
  have e1 := rend_call f.fl (by omega) false 0
  have e2 := rend_call t.fl (by omega) false 0
  rw [end_whole gf.1] at e1
  rw [end_whole gt.1] at e2
  have p1 := f.fl_pos
  have p2 := t.fl_pos
  generalize s.sem (leafB c g) = sa at m1 m2 m3
  repeat' (first | (with_reducible first | refine up hfa ?_ | refine up hla ?_ | refine up hlc ?_ | refine up hw ?_ | refine up n1 ?_ | refine up n2 ?_ | refine up e1 ?_ | refine up e2 ?_) | (with_reducible first | (refine wT ?_; (first | ((fail_if_success (have := nl1)); refine wN fun nl1 hnl => ?_) | refine wN fun _ hnl => ?_); revert hnl; (repeat refine wS fun _ _ => ?_); intro hnl) | refine wD (by decide +kernel) ?_ | refine wI (fun h => ?_) fun h => ?_ | refine wF (fun h => ?_) fun h => ?_ | refine wG (fun h => ?_) fun h => ?_ | refine wH (fun h => ?_) fun h => ?_ | ((first | refine mfork_bool (fun h => ?_) fun h => ?_ | refine mgfork_bool (fun h => ?_) fun h => ?_) <;> simp only [h])) | simp (maxSteps := 4000000) (disch := first | decide | assumption | omega | (simp only [wL]; omega)) only [go_sem, simprocAttr, Try.f8, hac, hll, ht, hgt])
  have hfl : f.fl.length ≤ 200 := by omega
  have htl : t.fl.length ≤ 200 := by omega
  clear n1 n2 e1 e2 hfa hla hlc hf hft lf lt
  obtain ⟨S, hS⟩ : ∃ S, S = St.none.set nl1 (.row 37 28 [.int .i64 c.id :: .int .i64 c.ver :: .int .u32 (c.lab : Int) :: cells]) := ⟨_, rfl⟩
  have hSl : S nl1 = some (.row 37 28 [.int .i64 c.id :: .int .i64 c.ver :: .int .u32 (c.lab : Int) :: cells]) := by rw [hS]; exact set_hit _ _ _
  rw [← hS]
  refine mloop_intro (α := Nat) (fun k => ⟨101, [(7, .int .i64 (k : Int)), (6, .lst 5 (t.fl.map ND.c) false), (5, .lst 5 (f.fl.map ND.c) false), (3, .ptr nl1 0 0), (0, .lst 5 (s.fl.map ND.c) false)], []⟩)
    (fun _ => S) (fun k => k ≤ f.fl.length) (fun k => f.fl.length - k) (.of (.less ?_ (St.le_refl _)) ⟨0, rfl, rfl, Nat.zero_le _⟩) ?_
  · simp (maxSteps := 4000000) (disch := first | decide | assumption | omega | (simp only [wL]; omega)) only [go_sem, simprocAttr, weak_int, weak_same]
  · intro k hk
    have hk : k ≤ f.fl.length := hk
    by_cases hlt : k < f.fl.length
    · have r1 := rnode_call (f.fl.getD k nd0)
      rw [gf.2 _ (getD_mem nd0 hlt)] at r1
      repeat' (first | (with_reducible first | refine up r1 ?_) | (with_reducible first | (refine wT ?_; (first | ((fail_if_success (have := nl1)); refine wN fun nl1 hnl => ?_) | refine wN fun _ hnl => ?_); revert hnl; (repeat refine wS fun _ _ => ?_); intro hnl) | refine wD (by decide +kernel) ?_ | refine wI (fun h => ?_) fun h => ?_ | refine wF (fun h => ?_) fun h => ?_ | refine wG (fun h => ?_) fun h => ?_ | refine wH (fun h => ?_) fun h => ?_ | ((first | refine mfork_bool (fun h => ?_) fun h => ?_ | refine mgfork_bool (fun h => ?_) fun h => ?_) <;> simp only [h])) | simp (maxSteps := 4000000) (disch := first | decide | assumption | omega | (simp only [wL]; omega)) only [go_sem, simprocAttr, getD_mapd nd0])
      refine .of (.less ?_ (St.le_refl _)) ⟨k + 1, rfl, rfl, hlt, by omega⟩
      simp (maxSteps := 4000000) (disch := first | decide | assumption | omega | (simp only [wL]; omega)) only [go_sem, simprocAttr, weak_int, weak_same]
      all_goals omega
    · have hke : k = f.fl.length := by omega
      subst hke
      repeat' (first | (with_reducible first | (refine wT ?_; (first | ((fail_if_success (have := nl1)); refine wN fun nl1 hnl => ?_) | refine wN fun _ hnl => ?_); revert hnl; (repeat refine wS fun _ _ => ?_); intro hnl) | refine wD (by decide +kernel) ?_ | refine wI (fun h => ?_) fun h => ?_ | refine wF (fun h => ?_) fun h => ?_ | refine wG (fun h => ?_) fun h => ?_ | refine wH (fun h => ?_) fun h => ?_ | ((first | refine mfork_bool (fun h => ?_) fun h => ?_ | refine mgfork_bool (fun h => ?_) fun h => ?_) <;> simp only [h])) | simp (maxSteps := 4000000) (disch := first | decide | assumption | omega | (simp only [wL]; omega)) only [go_sem, simprocAttr])
      refine mloop_intro (α := Nat) (fun k => ⟨101, [(8, .int .i64 (k : Int)), (6, .lst 5 (t.fl.map ND.c) false), (5, .lst 5 (f.fl.map ND.c) false), (3, .ptr nl1 0 0), (0, .lst 5 (s.fl.map ND.c) false)], []⟩)
        (fun _ => S) (fun k => k ≤ t.fl.length) (fun k => t.fl.length - k) (.of (.less ?_ (St.le_refl _)) ⟨0, rfl, rfl, Nat.zero_le _⟩) ?_
      · simp (maxSteps := 4000000) (disch := first | decide | assumption | omega | (simp only [wL]; omega)) only [go_sem, simprocAttr, weak_int, weak_same]
      · intro k hk
        have hk : k ≤ t.fl.length := hk
        by_cases hlt : k < t.fl.length
        · have r1 := rnode_call (t.fl.getD k nd0)
          rw [gt.2 _ (getD_mem nd0 hlt)] at r1
          repeat' (first | (with_reducible first | refine up r1 ?_) | (with_reducible first | (refine wT ?_; (first | ((fail_if_success (have := nl1)); refine wN fun nl1 hnl => ?_) | refine wN fun _ hnl => ?_); revert hnl; (repeat refine wS fun _ _ => ?_); intro hnl) | refine wD (by decide +kernel) ?_ | refine wI (fun h => ?_) fun h => ?_ | refine wF (fun h => ?_) fun h => ?_ | refine wG (fun h => ?_) fun h => ?_ | refine wH (fun h => ?_) fun h => ?_ | ((first | refine mfork_bool (fun h => ?_) fun h => ?_ | refine mgfork_bool (fun h => ?_) fun h => ?_) <;> simp only [h])) | simp (maxSteps := 4000000) (disch := first | decide | assumption | omega | (simp only [wL]; omega)) only [go_sem, simprocAttr, getD_mapd nd0])
          refine .of (.less ?_ (St.le_refl _)) ⟨k + 1, rfl, rfl, hlt, by omega⟩
          simp (maxSteps := 4000000) (disch := first | decide | assumption | omega | (simp only [wL]; omega)) only [go_sem, simprocAttr, weak_int, weak_same]
          all_goals omega
        · have hke : k = t.fl.length := by omega
          subst hke
          cases sa
          all_goals
            simp only [Bool.not_false, Bool.not_true] at m3
            repeat' (first | (with_reducible first | refine up m1 ?_ | refine up m2 ?_ | refine up m3 ?_ | refine up hw ?_) | (with_reducible first | (refine wT ?_; (first | ((fail_if_success (have := nl1)); refine wN fun nl1 hnl => ?_) | refine wN fun _ hnl => ?_); revert hnl; (repeat refine wS fun _ _ => ?_); intro hnl) | refine wD (by decide +kernel) ?_ | refine wI (fun h => ?_) fun h => ?_ | refine wF (fun h => ?_) fun h => ?_ | refine wG (fun h => ?_) fun h => ?_ | refine wH (fun h => ?_) fun h => ?_ | ((first | refine mfork_bool (fun h => ?_) fun h => ?_ | refine mgfork_bool (fun h => ?_) fun h => ?_) <;> simp only [h])) | simp (maxSteps := 4000000) (disch := first | decide | assumption | omega | (simp only [wL]; omega)) only [go_sem, simprocAttr, hac, hll, ht, hgt, hSl, tbf, fbt, Bool.not_false, Bool.not_true])
            first | exact ⟨_, St.le_refl _⟩ | exact ⟨_, St.le_refl _, rfl⟩

theorem takes_open {ms : List MV} (h : ATs Try.prog 6 [22, 37] ms) : ∃ (a : List ND) (c : CD) (g : Nat), c.f.length = 8 ∧ c.lab < 4294967296 ∧ g < 4294967296 ∧ ms = [.lst 5 (a.map ND.c) false, .agg (c.c ++ [.int .u32 (g : Int)])] := by
  match ms, h with
  | [m, m3], ⟨h, h3, _⟩ =>
    obtain ⟨a, rfl⟩ := nds_open h
    obtain ⟨c, g, rfl, h8, hl, hg⟩ := asked_open h3
    exact ⟨a, c, g, h8, hl, hg, rfl⟩
end Go.Proofs.Ytielcgplbnlgbaa
end
