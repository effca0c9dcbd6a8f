/- Parts of the proof, joined. Each part says what it proves, and under which conditions it does: those that its theorems name. -/
import Derived.Test.YtjljgahfkcdhfaaGreatDoorSnr
set_option linter.unusedVariables false
set_option linter.unusedSimpArgs false
set_option maxHeartbeats 4000000
namespace Go.Proofs.YtjljgahfkcdhfaaGreatDoor
theorem parts_call (op : Int) : MCalls Tryz.prog 154 [.int .i64 op] St.none (fun r _ => r = .int .i64 (parts op)) := by
 refine (MCalls.body 9 [.tmp 2] Tryz.func154 rfl rfl rfl rfl ?_)
 repeat' (first | (with_reducible first | (refine wN fun nl hnl => ?_; revert hnl; (repeat refine wS fun _ _ => ?_); intro hnl) | refine wD (by decide +kernel) ?_ | refine wI (fun h => ?_) fun h => ?_ | refine wF (fun h => ?_) fun h => ?_ | refine wG (fun h => ?_) fun h => ?_ | refine wH (fun h => ?_) fun h => ?_ | ((first | refine mfork_bool (fun h => ?_) fun h => ?_ | refine mgfork_bool (fun h => ?_) fun h => ?_) <;> simp only [h])) | simp (maxSteps := 4000000) (disch := first | decide | assumption | omega | (simp only [wL]; omega)) only [go_sem, simprocAttr, Tryz.f154])
 all_goals simp [parts, *]
theorem vcheck_call (kd n : Int) (s : ByteArray) : MCalls Tryz.prog 141 [.agg [.int .i64 kd, .int .i64 n, .str s]] St.none (fun r _ => r = .bool (vaOk ⟨kd, n, s⟩)) := by
 refine (MCalls.body 36 [.tmp 2] Tryz.func141 rfl rfl rfl rfl ?_)
 repeat' (first | (with_reducible first | (refine wN fun nl hnl => ?_; revert hnl; (repeat refine wS fun _ _ => ?_); intro hnl) | refine wD (by decide +kernel) ?_ | refine wI (fun h => ?_) fun h => ?_ | refine wF (fun h => ?_) fun h => ?_ | refine wG (fun h => ?_) fun h => ?_ | refine wH (fun h => ?_) fun h => ?_ | ((first | refine mfork_bool (fun h => ?_) fun h => ?_ | refine mgfork_bool (fun h => ?_) fun h => ?_) <;> simp only [h])) | simp (maxSteps := 4000000) (disch := first | decide | assumption | omega | (simp only [wL]; omega)) only [go_sem, simprocAttr, Tryz.f141])
 all_goals first
  | (simp [vaOk, va0, *]; done)
  | (simp [vaOk, va0, *]; omega)
theorem nanint_call (a : Int) : MCalls Tryz.prog 162 [.int .i64 a] St.none (fun r _ => r = .bool false) := by
 refine (MCalls.body 6 [.tmp 2] Tryz.func162 rfl rfl rfl rfl ?_)
 repeat' (first | (with_reducible first | (refine wN fun nl hnl => ?_; revert hnl; (repeat refine wS fun _ _ => ?_); intro hnl) | refine wD (by decide +kernel) ?_ | refine wI (fun h => ?_) fun h => ?_ | refine wF (fun h => ?_) fun h => ?_ | refine wG (fun h => ?_) fun h => ?_ | refine wH (fun h => ?_) fun h => ?_ | ((first | refine mfork_bool (fun h => ?_) fun h => ?_ | refine mgfork_bool (fun h => ?_) fun h => ?_) <;> simp only [h])) | simp (maxSteps := 4000000) (disch := first | decide | assumption | omega | (simp only [wL]; omega)) only [go_sem, simprocAttr, Tryz.f162, dec_not_self])
theorem nanstr_call (a : ByteArray) : MCalls Tryz.prog 184 [.str a] St.none (fun r _ => r = .bool false) := by
 refine (MCalls.body 6 [.tmp 2] Tryz.func184 rfl rfl rfl rfl ?_)
 repeat' (first | (with_reducible first | (refine wN fun nl hnl => ?_; revert hnl; (repeat refine wS fun _ _ => ?_); intro hnl) | refine wD (by decide +kernel) ?_ | refine wI (fun h => ?_) fun h => ?_ | refine wF (fun h => ?_) fun h => ?_ | refine wG (fun h => ?_) fun h => ?_ | refine wH (fun h => ?_) fun h => ?_ | ((first | refine mfork_bool (fun h => ?_) fun h => ?_ | refine mgfork_bool (fun h => ?_) fun h => ?_) <;> simp only [h])) | simp (maxSteps := 4000000) (disch := first | decide | assumption | omega | (simp only [wL]; omega)) only [go_sem, simprocAttr, Tryz.f184, dec_not_self])
theorem cmpint_call (a b : Int) : MCalls Tryz.prog 129 [.int .i64 a, .int .i64 b] St.none (fun r _ => r = .int .i64 (ordI (cmpL [a] [b]))) := by
 refine (MCalls.body 20 [.tmp 4] Tryz.func129 rfl rfl rfl rfl ?_)
 repeat' (first | (with_reducible refine use_pure (nanint_call _) ?_) | (with_reducible first | (refine wN fun nl hnl => ?_; revert hnl; (repeat refine wS fun _ _ => ?_); intro hnl) | refine wD (by decide +kernel) ?_ | refine wI (fun h => ?_) fun h => ?_ | refine wF (fun h => ?_) fun h => ?_ | refine wG (fun h => ?_) fun h => ?_ | refine wH (fun h => ?_) fun h => ?_ | ((first | refine mfork_bool (fun h => ?_) fun h => ?_ | refine mgfork_bool (fun h => ?_) fun h => ?_) <;> simp only [h])) | simp (maxSteps := 4000000) (disch := first | decide | assumption | omega | (simp only [wL]; omega)) only [go_sem, simprocAttr, Tryz.f129])
 all_goals simp [cmpL, ordI, *]
theorem cmpstr_call (a b : ByteArray) : MCalls Tryz.prog 163 [.str a, .str b] St.none (fun r _ => r = .int .i64 (ordI (cmpL (bk a) (bk b)))) := by
 refine (MCalls.body 20 [.tmp 4] Tryz.func163 rfl rfl rfl rfl ?_)
 have hb := bytesLess_cmp a.toList b.toList
 change _ = decide (cmpL (bk a) (bk b) = .lt) at hb
 repeat' (first | (with_reducible refine use_pure (nanstr_call _) ?_) | (with_reducible first | (refine wN fun nl hnl => ?_; revert hnl; (repeat refine wS fun _ _ => ?_); intro hnl) | refine wD (by decide +kernel) ?_ | refine wI (fun h => ?_) fun h => ?_ | refine wF (fun h => ?_) fun h => ?_ | refine wG (fun h => ?_) fun h => ?_ | refine wH (fun h => ?_) fun h => ?_ | ((first | refine mfork_bool (fun h => ?_) fun h => ?_ | refine mgfork_bool (fun h => ?_) fun h => ?_) <;> simp only [h])) | simp (maxSteps := 4000000) (disch := first | decide | assumption | omega | (simp only [wL]; omega)) only [go_sem, simprocAttr, Tryz.f163])
 ·rw [hb] at h
  simp only [decide_eq_true_eq] at h
  rw [h]; rfl
 ·rename_i h0
  rw [hb] at h0
  simp only [decide_eq_false_iff_not] at h0
  simp only [Bool.not_eq_true', Bool.or_eq_false_iff, decide_eq_false_iff_not] at h
  have h1 : cmpL (bk a) (bk b) ≠ .eq := fun e => h.2 (bytes_inj (cmpL_eq.1 e))
  cases e : cmpL (bk a) (bk b)
  ·exact absurd e h0
  ·exact absurd e h1
  ·rfl
 ·rename_i h0
  simp only [h0, Bool.false_or, Bool.not_eq_false', decide_eq_true_eq] at h
  rw [h, cmpL_refl]; rfl
theorem endS_in {l : List ND} {i : Int} (h : ¬ (i < 0 ∨ (l.length : Int) ≤ i)) : endS l i = match endN 1 (l.drop i.toNat) with
  | none => -1
  | some k => i + k := by
 unfold endS
 rw [if_neg (by omega)]
 cases endN 1 (l.drop i.toNat) <;> rfl
theorem pend_call (l : List ND) (hl : l.length ≤ 1000000) (t : Bool) (i : Int) : MCalls Tryz.prog 109 [.lst 5 (l.map ND.c) t, .int .i64 i] St.none (fun r _ => r = .int .i64 (endS l i)) := by
 refine (MCalls.body 38 [.tmp 4] Tryz.func109 rfl rfl rfl rfl ?_)
 by_cases hi : i < 0 ∨ (l.length : Int) ≤ i
 ·have he : endS l i = -1 := by
   unfold endS
   by_cases h0 : i < 0
   ·rw [if_pos h0]
   ·rw [if_neg h0, List.drop_eq_nil_of_le (by omega)]; rfl
  rw [he]
  repeat' (first | (with_reducible first | (refine wN fun nl hnl => ?_; revert hnl; (repeat refine wS fun _ _ => ?_); intro hnl) | refine wD (by decide +kernel) ?_ | refine wI (fun h => ?_) fun h => ?_ | refine wF (fun h => ?_) fun h => ?_ | refine wG (fun h => ?_) fun h => ?_ | refine wH (fun h => ?_) fun h => ?_ | ((first | refine mfork_bool (fun h => ?_) fun h => ?_ | refine mgfork_bool (fun h => ?_) fun h => ?_) <;> simp only [h])) | simp (maxSteps := 4000000) (disch := first | decide | assumption | omega | (simp only [wL]; omega)) only [go_sem, simprocAttr, Tryz.f109])
 ·obtain ⟨m, hm⟩ : ∃ m, l.drop i.toNat = m := ⟨_, rfl⟩
  have hml : l.length - i.toNat = m.length := by rw [← hm]; simp
  have hm0 : m.length ≤ 1000000 := by omega
  have hb : i + m.length ≤ 1000000 := by omega
  have h0 : 0 ≤ i := by omega
  rw [endS_in hi, hm]
  repeat' (first | (with_reducible first | (refine wN fun nl hnl => ?_; revert hnl; (repeat refine wS fun _ _ => ?_); intro hnl) | refine wD (by decide +kernel) ?_ | refine wI (fun h => ?_) fun h => ?_ | refine wF (fun h => ?_) fun h => ?_ | refine wG (fun h => ?_) fun h => ?_ | refine wH (fun h => ?_) fun h => ?_ | ((first | refine mfork_bool (fun h => ?_) fun h => ?_ | refine mgfork_bool (fun h => ?_) fun h => ?_) <;> simp only [h])) | simp (maxSteps := 4000000) (disch := first | decide | assumption | omega | (simp only [wL]; omega)) only [go_sem, simprocAttr, Tryz.f109, hm, hml])
  refine mloop_intro (α := Nat × Nat) (fun a => ⟨38, [(20, .int .i64 (a.1 : Int)), (19, .int .i64 (m.length : Int)), (18, .lst 5 (m.map ND.c) t), (5, .int .i64 (a.2 : Int)), (1, .int .i64 i)], []⟩) (fun _ => St.none)
   (fun a => a.1 ≤ m.length ∧ 1 ≤ a.2 ∧ a.2 ≤ 1 + a.1 ∧ endN 1 m = (endN a.2 (m.drop a.1)).map (· + a.1)) (fun a => m.length - a.1) (.of (.less ?_ (St.le_refl _)) ⟨(0, 1), rfl, rfl, by simp⟩) ?_
  ·simp (maxSteps := 4000000) (disch := first | decide | assumption | omega | (simp only [wL]; omega)) only [go_sem, simprocAttr, weak_int, weak_same]
   all_goals omega
  ·rintro ⟨k, n⟩ ⟨h1, h2, h3, h4⟩
   simp only at h1 h2 h3 h4 ⊢
   obtain ⟨q, rfl⟩ : ∃ q, n = q + 1 := ⟨n - 1, by omega⟩
   by_cases hk : k < m.length
   ·have hp := parts_cases (m.getD k nd0).op
    rw [endN_step hk] at h4
    obtain ⟨pp, hpp⟩ : ∃ pp : Nat, parts (m.getD k nd0).op = pp := ⟨_, rfl⟩
    rw [hpp] at h4 hp
    by_cases hz : q + pp = 0
    ·rw [hz] at h4
     have hq : q = 0 := by omega
     have hpz : pp = 0 := by omega
     subst hq
     rw [hpz] at hpp
     repeat' (first | (with_reducible refine use_pure (parts_call _) ?_) | (with_reducible first | (refine wN fun nl hnl => ?_; revert hnl; (repeat refine wS fun _ _ => ?_); intro hnl) | refine wD (by decide +kernel) ?_ | refine wI (fun h => ?_) fun h => ?_ | refine wF (fun h => ?_) fun h => ?_ | refine wG (fun h => ?_) fun h => ?_ | refine wH (fun h => ?_) fun h => ?_ | ((first | refine mfork_bool (fun h => ?_) fun h => ?_ | refine mgfork_bool (fun h => ?_) fun h => ?_) <;> simp only [h])) | simp (maxSteps := 4000000) (disch := first | decide | assumption | omega | (simp only [wL]; omega)) only [go_sem, simprocAttr, getD_mapd nd0, hpp])
     rw [h4]
     simp only [endN, Option.map_some, MV.int.injEq, true_and]
     have e1 : ((0 + 1 + k : Nat) : Int) = (k : Int) + 1 := by omega
     rw [e1, Int.add_assoc]
    ·repeat' (first | (with_reducible refine use_pure (parts_call _) ?_) | (with_reducible first | (refine wN fun nl hnl => ?_; revert hnl; (repeat refine wS fun _ _ => ?_); intro hnl) | refine wD (by decide +kernel) ?_ | refine wI (fun h => ?_) fun h => ?_ | refine wF (fun h => ?_) fun h => ?_ | refine wG (fun h => ?_) fun h => ?_ | refine wH (fun h => ?_) fun h => ?_ | ((first | refine mfork_bool (fun h => ?_) fun h => ?_ | refine mgfork_bool (fun h => ?_) fun h => ?_) <;> simp only [h])) | simp (maxSteps := 4000000) (disch := first | decide | assumption | omega | (simp only [wL]; omega)) only [go_sem, simprocAttr, getD_mapd nd0, hpp])
     refine .of (.less (l1 := [(20, .int .i64 ((k + 1 : Nat) : Int)), (19, .int .i64 (m.length : Int)), (18, .lst 5 (m.map ND.c) t), (5, .int .i64 ((q + pp : Nat) : Int)), (1, .int .i64 i)]) ?_ (St.none_le _)) ⟨(k + 1, q + pp), rfl, rfl, ⟨by simp only; omega, by simp only; omega, by simp only; omega, ?_⟩, by simp only; omega⟩
     ·simp (maxSteps := 4000000) (disch := first | decide | assumption | omega | (simp only [wL]; omega)) only [go_sem, simprocAttr, weak_int, weak_same]
      all_goals omega
     ·rw [h4]
      simp only [Option.map_map]
      congr 1
      funext k
      simp only [Function.comp]
      omega
   ·rw [List.drop_eq_nil_of_le (by omega)] at h4
    rw [h4]
    repeat' (first | (with_reducible first | (refine wN fun nl hnl => ?_; revert hnl; (repeat refine wS fun _ _ => ?_); intro hnl) | refine wD (by decide +kernel) ?_ | refine wI (fun h => ?_) fun h => ?_ | refine wF (fun h => ?_) fun h => ?_ | refine wG (fun h => ?_) fun h => ?_ | refine wH (fun h => ?_) fun h => ?_ | ((first | refine mfork_bool (fun h => ?_) fun h => ?_ | refine mgfork_bool (fun h => ?_) fun h => ?_) <;> simp only [h])) | simp (maxSteps := 4000000) (disch := first | decide | assumption | omega | (simp only [wL]; omega)) only [go_sem, simprocAttr, getD_mapd nd0])
    rfl
theorem index_call (p : ND → Bool) (g : FuncId) (l : List ND) (hl : l.length ≤ 1000000) (t : Bool) (hg : ∀ x, x ∈ l → MCalls Tryz.prog g [.agg x.c] St.none (fun r _ => r = .bool (p x))) :
  MCalls Tryz.prog 155 [.lst 5 (l.map ND.c) t, .fn (.func g) [] []] St.none (fun r _ => r = .int .i64 (if l.any p then (l.findIdx p : Int) else -1)) := by
 refine (MCalls.body 19 [.tmp 4] Tryz.func155 rfl rfl rfl rfl ?_)
 repeat' (first | (with_reducible first | (refine wN fun nl hnl => ?_; revert hnl; (repeat refine wS fun _ _ => ?_); intro hnl) | refine wD (by decide +kernel) ?_ | refine wI (fun h => ?_) fun h => ?_ | refine wF (fun h => ?_) fun h => ?_ | refine wG (fun h => ?_) fun h => ?_ | refine wH (fun h => ?_) fun h => ?_ | ((first | refine mfork_bool (fun h => ?_) fun h => ?_ | refine mgfork_bool (fun h => ?_) fun h => ?_) <;> simp only [h])) | simp (maxSteps := 4000000) (disch := first | decide | assumption | omega | (simp only [wL]; omega)) only [go_sem, simprocAttr, Tryz.f155])
 refine mloop_intro (α := Nat) (fun k => ⟨19, [(8, .int .i64 (k : Int)), (7, .int .i64 (l.length : Int)), (6, .lst 5 (l.map ND.c) t), (0, .lst 5 (l.map ND.c) t), (1, .fn (.func g) [] [])], []⟩) (fun _ => St.none)
  (fun k => k ≤ l.length ∧ (l.take k).any p = false) (fun k => l.length - k) (.of (.less ?_ (St.le_refl _)) ⟨0, rfl, rfl, by simp⟩) ?_
 ·simp (maxSteps := 4000000) (disch := first | decide | assumption | omega | (simp only [wL]; omega)) only [go_sem, simprocAttr, weak_int, weak_same]
  all_goals rfl
 ·rintro k ⟨h1, h2⟩
  by_cases hk : k < l.length
  ·have hgk := hg _ (getD_mem nd0 hk)
   cases hp : p (l.getD k nd0)
   ·rw [hp] at hgk
    repeat' (first | (with_reducible refine use_pure hgk ?_) | (with_reducible first | (refine wN fun nl hnl => ?_; revert hnl; (repeat refine wS fun _ _ => ?_); intro hnl) | refine wD (by decide +kernel) ?_ | refine wI (fun h => ?_) fun h => ?_ | refine wF (fun h => ?_) fun h => ?_ | refine wG (fun h => ?_) fun h => ?_ | refine wH (fun h => ?_) fun h => ?_ | ((first | refine mfork_bool (fun h => ?_) fun h => ?_ | refine mgfork_bool (fun h => ?_) fun h => ?_) <;> simp only [h])) | simp (maxSteps := 4000000) (disch := first | decide | assumption | omega | (simp only [wL]; omega)) only [go_sem, simprocAttr, getD_mapd nd0])
    refine .of (.less (l1 := [(8, .int .i64 ((k + 1 : Nat) : Int)), (7, .int .i64 (l.length : Int)), (6, .lst 5 (l.map ND.c) t), (0, .lst 5 (l.map ND.c) t), (1, .fn (.func g) [] [])]) ?_ (St.le_refl _)) ⟨k + 1, rfl, rfl, ⟨by omega, ?_⟩, by omega⟩
    ·simp (maxSteps := 4000000) (disch := first | decide | assumption | omega | (simp only [wL]; omega)) only [go_sem, simprocAttr, weak_int, weak_same]
     all_goals omega
    ·rw [any_take_succ hk, h2, ← getD_of_lt nd0 hk, hp]; rfl
   ·rw [hp] at hgk
    have hany : l.any p = true := List.any_eq_true.2 ⟨_, getD_mem nd0 hk, hp⟩
    have hf : l.findIdx p = k := by
     rw [List.findIdx_eq hk]
     refine ⟨by rw [← getD_of_lt nd0 hk]; exact hp, fun j hj => ?_⟩
     have := List.any_eq_false.1 h2 l[j] (by rw [List.mem_take_iff_getElem]; exact ⟨j, by omega, rfl⟩)
     simpa using this
    rw [hany, hf]
    repeat' (first | (with_reducible refine use_pure hgk ?_) | (with_reducible first | (refine wN fun nl hnl => ?_; revert hnl; (repeat refine wS fun _ _ => ?_); intro hnl) | refine wD (by decide +kernel) ?_ | refine wI (fun h => ?_) fun h => ?_ | refine wF (fun h => ?_) fun h => ?_ | refine wG (fun h => ?_) fun h => ?_ | refine wH (fun h => ?_) fun h => ?_ | ((first | refine mfork_bool (fun h => ?_) fun h => ?_ | refine mgfork_bool (fun h => ?_) fun h => ?_) <;> simp only [h])) | simp (maxSteps := 4000000) (disch := first | decide | assumption | omega | (simp only [wL]; omega)) only [go_sem, simprocAttr, getD_mapd nd0])
  ·have : k = l.length := by omega
   subst this
   rw [List.take_length] at h2
   rw [h2]
   repeat' (first | (with_reducible first | (refine wN fun nl hnl => ?_; revert hnl; (repeat refine wS fun _ _ => ?_); intro hnl) | refine wD (by decide +kernel) ?_ | refine wI (fun h => ?_) fun h => ?_ | refine wF (fun h => ?_) fun h => ?_ | refine wG (fun h => ?_) fun h => ?_ | refine wH (fun h => ?_) fun h => ?_ | ((first | refine mfork_bool (fun h => ?_) fun h => ?_ | refine mgfork_bool (fun h => ?_) fun h => ?_) <;> simp only [h])) | simp (maxSteps := 4000000) (disch := first | decide | assumption | omega | (simp only [wL]; omega)) only [go_sem, simprocAttr, getD_mapd nd0])
theorem contains_call (p : ND → Bool) (g : FuncId) (l : List ND) (hl : l.length ≤ 1000000) (t : Bool) (hg : ∀ x, x ∈ l → MCalls Tryz.prog g [.agg x.c] St.none (fun r _ => r = .bool (p x))) :
  MCalls Tryz.prog 110 [.lst 5 (l.map ND.c) t, .fn (.func g) [] []] St.none (fun r _ => r = .bool (l.any p)) := by
 refine (MCalls.body 9 [.tmp 4] Tryz.func110 rfl rfl rfl rfl ?_)
 have hi := index_call p g l hl t hg
 cases hany : l.any p
 ·rw [hany] at hi
  simp only [Bool.false_eq_true, if_false] at hi
  repeat' (first | (with_reducible refine use_pure hi ?_) | (with_reducible first | (refine wN fun nl hnl => ?_; revert hnl; (repeat refine wS fun _ _ => ?_); intro hnl) | refine wD (by decide +kernel) ?_ | refine wI (fun h => ?_) fun h => ?_ | refine wF (fun h => ?_) fun h => ?_ | refine wG (fun h => ?_) fun h => ?_ | refine wH (fun h => ?_) fun h => ?_ | ((first | refine mfork_bool (fun h => ?_) fun h => ?_ | refine mgfork_bool (fun h => ?_) fun h => ?_) <;> simp only [h])) | simp (maxSteps := 4000000) (disch := first | decide | assumption | omega | (simp only [wL]; omega)) only [go_sem, simprocAttr, Tryz.f110])
 ·rw [hany] at hi
  simp only [if_true] at hi
  repeat' (first | (with_reducible refine use_pure hi ?_) | (with_reducible first | (refine wN fun nl hnl => ?_; revert hnl; (repeat refine wS fun _ _ => ?_); intro hnl) | refine wD (by decide +kernel) ?_ | refine wI (fun h => ?_) fun h => ?_ | refine wF (fun h => ?_) fun h => ?_ | refine wG (fun h => ?_) fun h => ?_ | refine wH (fun h => ?_) fun h => ?_ | ((first | refine mfork_bool (fun h => ?_) fun h => ?_ | refine mgfork_bool (fun h => ?_) fun h => ?_) <;> simp only [h])) | simp (maxSteps := 4000000) (disch := first | decide | assumption | omega | (simp only [wL]; omega)) only [go_sem, simprocAttr, Tryz.f110])
  simp
theorem or_call (a b c : Int) : MCalls Tryz.prog 128 [.lst 1 [[.int .i64 a], [.int .i64 b], [.int .i64 c]] false] St.none (fun r _ => r = .int .i64 (if a ≠ 0 then a else if b ≠ 0 then b else c)) := by
 refine (MCalls.body 18 [.tmp 2] Tryz.func128 rfl rfl rfl rfl ?_)
 repeat' (first | (with_reducible first | (refine wN fun nl hnl => ?_; revert hnl; (repeat refine wS fun _ _ => ?_); intro hnl) | refine wD (by decide +kernel) ?_ | refine wI (fun h => ?_) fun h => ?_ | refine wF (fun h => ?_) fun h => ?_ | refine wG (fun h => ?_) fun h => ?_ | refine wH (fun h => ?_) fun h => ?_ | ((first | refine mfork_bool (fun h => ?_) fun h => ?_ | refine mgfork_bool (fun h => ?_) fun h => ?_) <;> simp only [h])) | simp (maxSteps := 4000000) (disch := first | decide | assumption | omega | (simp only [wL]; omega)) only [go_sem, simprocAttr, Tryz.f128])
 refine mloop_intro (α := Nat) (fun k => ⟨18, [(8, .int .i64 (k : Int)), (7, .int .i64 3), (6, .lst 1 [[.int .i64 a], [.int .i64 b], [.int .i64 c]] false), (3, .int .i64 0)], []⟩) (fun _ => St.none)
  (fun k => k ≤ 3 ∧ (0 < k → a = 0) ∧ (1 < k → b = 0) ∧ (2 < k → c = 0)) (fun k => 3 - k) (.of (.less ?_ (St.le_refl _)) ⟨0, rfl, rfl, by omega⟩) ?_
 ·simp (maxSteps := 4000000) (disch := first | decide | assumption | omega | (simp only [wL]; omega)) only [go_sem, simprocAttr, weak_int, weak_same]
  all_goals omega
 ·rintro k ⟨h1, h2, h3, h4⟩
  have hk : k = 0 ∨ k = 1 ∨ k = 2 ∨ k = 3 := by omega
  rcases hk with rfl | rfl | rfl | rfl
  ·by_cases ha : a = 0
   ·subst ha
    repeat' (first | (with_reducible first | (refine wN fun nl hnl => ?_; revert hnl; (repeat refine wS fun _ _ => ?_); intro hnl) | refine wD (by decide +kernel) ?_ | refine wI (fun h => ?_) fun h => ?_ | refine wF (fun h => ?_) fun h => ?_ | refine wG (fun h => ?_) fun h => ?_ | refine wH (fun h => ?_) fun h => ?_ | ((first | refine mfork_bool (fun h => ?_) fun h => ?_ | refine mgfork_bool (fun h => ?_) fun h => ?_) <;> simp only [h])) | simp (maxSteps := 4000000) (disch := first | decide | assumption | omega | (simp only [wL]; omega)) only [go_sem, simprocAttr])
    refine .of (.less (l1 := [(8, .int .i64 ((1 : Nat) : Int)), (7, .int .i64 3), (6, .lst 1 [[.int .i64 0], [.int .i64 b], [.int .i64 c]] false), (3, .int .i64 0)]) ?_ (St.none_le _)) ⟨1, rfl, rfl, ⟨by omega, fun _ => trivial, fun h => by first | assumption | omega, fun h => by first | assumption | omega⟩, by omega⟩
    simp (maxSteps := 4000000) (disch := first | decide | assumption | omega | (simp only [wL]; omega)) only [go_sem, simprocAttr, weak_int, weak_same]
    all_goals omega
   ·repeat' (first | (with_reducible first | (refine wN fun nl hnl => ?_; revert hnl; (repeat refine wS fun _ _ => ?_); intro hnl) | refine wD (by decide +kernel) ?_ | refine wI (fun h => ?_) fun h => ?_ | refine wF (fun h => ?_) fun h => ?_ | refine wG (fun h => ?_) fun h => ?_ | refine wH (fun h => ?_) fun h => ?_ | ((first | refine mfork_bool (fun h => ?_) fun h => ?_ | refine mgfork_bool (fun h => ?_) fun h => ?_) <;> simp only [h])) | simp (maxSteps := 4000000) (disch := first | decide | assumption | omega | (simp only [wL]; omega)) only [go_sem, simprocAttr])
    all_goals simp [ha]
  ·have ha := h2 (by omega)
   by_cases hb : b = 0
   ·repeat' (first | (with_reducible first | (refine wN fun nl hnl => ?_; revert hnl; (repeat refine wS fun _ _ => ?_); intro hnl) | refine wD (by decide +kernel) ?_ | refine wI (fun h => ?_) fun h => ?_ | refine wF (fun h => ?_) fun h => ?_ | refine wG (fun h => ?_) fun h => ?_ | refine wH (fun h => ?_) fun h => ?_ | ((first | refine mfork_bool (fun h => ?_) fun h => ?_ | refine mgfork_bool (fun h => ?_) fun h => ?_) <;> simp only [h])) | simp (maxSteps := 4000000) (disch := first | decide | assumption | omega | (simp only [wL]; omega)) only [go_sem, simprocAttr])
    refine .of (.less (l1 := [(8, .int .i64 ((2 : Nat) : Int)), (7, .int .i64 3), (6, .lst 1 [[.int .i64 a], [.int .i64 b], [.int .i64 c]] false), (3, .int .i64 0)]) ?_ (St.none_le _)) ⟨2, rfl, rfl, ⟨by omega, fun _ => by assumption, fun h => by first | assumption | omega, fun h => by first | assumption | omega⟩, by omega⟩
    simp (maxSteps := 4000000) (disch := first | decide | assumption | omega | (simp only [wL]; omega)) only [go_sem, simprocAttr, weak_int, weak_same]
    all_goals omega
   ·repeat' (first | (with_reducible first | (refine wN fun nl hnl => ?_; revert hnl; (repeat refine wS fun _ _ => ?_); intro hnl) | refine wD (by decide +kernel) ?_ | refine wI (fun h => ?_) fun h => ?_ | refine wF (fun h => ?_) fun h => ?_ | refine wG (fun h => ?_) fun h => ?_ | refine wH (fun h => ?_) fun h => ?_ | ((first | refine mfork_bool (fun h => ?_) fun h => ?_ | refine mgfork_bool (fun h => ?_) fun h => ?_) <;> simp only [h])) | simp (maxSteps := 4000000) (disch := first | decide | assumption | omega | (simp only [wL]; omega)) only [go_sem, simprocAttr])
    all_goals simp [ha, hb]
  ·have ha := h2 (by omega)
   have hb := h3 (by omega)
   by_cases hc : c = 0
   ·repeat' (first | (with_reducible first | (refine wN fun nl hnl => ?_; revert hnl; (repeat refine wS fun _ _ => ?_); intro hnl) | refine wD (by decide +kernel) ?_ | refine wI (fun h => ?_) fun h => ?_ | refine wF (fun h => ?_) fun h => ?_ | refine wG (fun h => ?_) fun h => ?_ | refine wH (fun h => ?_) fun h => ?_ | ((first | refine mfork_bool (fun h => ?_) fun h => ?_ | refine mgfork_bool (fun h => ?_) fun h => ?_) <;> simp only [h])) | simp (maxSteps := 4000000) (disch := first | decide | assumption | omega | (simp only [wL]; omega)) only [go_sem, simprocAttr])
    refine .of (.less (l1 := [(8, .int .i64 ((3 : Nat) : Int)), (7, .int .i64 3), (6, .lst 1 [[.int .i64 a], [.int .i64 b], [.int .i64 c]] false), (3, .int .i64 0)]) ?_ (St.none_le _)) ⟨3, rfl, rfl, ⟨by omega, fun _ => by assumption, fun h => by first | assumption | omega, fun h => by first | assumption | omega⟩, by omega⟩
    simp (maxSteps := 4000000) (disch := first | decide | assumption | omega | (simp only [wL]; omega)) only [go_sem, simprocAttr, weak_int, weak_same]
    all_goals omega
   ·repeat' (first | (with_reducible first | (refine wN fun nl hnl => ?_; revert hnl; (repeat refine wS fun _ _ => ?_); intro hnl) | refine wD (by decide +kernel) ?_ | refine wI (fun h => ?_) fun h => ?_ | refine wF (fun h => ?_) fun h => ?_ | refine wG (fun h => ?_) fun h => ?_ | refine wH (fun h => ?_) fun h => ?_ | ((first | refine mfork_bool (fun h => ?_) fun h => ?_ | refine mgfork_bool (fun h => ?_) fun h => ?_) <;> simp only [h])) | simp (maxSteps := 4000000) (disch := first | decide | assumption | omega | (simp only [wL]; omega)) only [go_sem, simprocAttr])
    all_goals simp [ha, hb]
  ·repeat' (first | (with_reducible first | (refine wN fun nl hnl => ?_; revert hnl; (repeat refine wS fun _ _ => ?_); intro hnl) | refine wD (by decide +kernel) ?_ | refine wI (fun h => ?_) fun h => ?_ | refine wF (fun h => ?_) fun h => ?_ | refine wG (fun h => ?_) fun h => ?_ | refine wH (fun h => ?_) fun h => ?_ | ((first | refine mfork_bool (fun h => ?_) fun h => ?_ | refine mgfork_bool (fun h => ?_) fun h => ?_) <;> simp only [h])) | simp (maxSteps := 4000000) (disch := first | decide | assumption | omega | (simp only [wL]; omega)) only [go_sem, simprocAttr])
   simp [h2 (by omega), h3 (by omega), h4 (by omega)]
theorem cmpfn_call (g : FuncId) (a b : List ND) (la : a.length ≤ 1000000) (lb : b.length ≤ 1000000) (ta tb : Bool) (hg : ∀ x y, x ∈ a → y ∈ b → MCalls Tryz.prog g [.agg x.c, .agg y.c] St.none (fun r _ => r = .int .i64 (ordI (cmpL x.key y.key)))) :
  MCalls Tryz.prog 126 [.lst 5 (a.map ND.c) ta, .lst 5 (b.map ND.c) tb, .fn (.func g) [] []] St.none (fun r _ => r = .int .i64 (ordI (cmpF a b))) := by
 refine (MCalls.body 39 [.tmp 6] Tryz.func126 rfl rfl rfl rfl ?_)
 repeat' (first | (with_reducible first | (refine wN fun nl hnl => ?_; revert hnl; (repeat refine wS fun _ _ => ?_); intro hnl) | refine wD (by decide +kernel) ?_ | refine wI (fun h => ?_) fun h => ?_ | refine wF (fun h => ?_) fun h => ?_ | refine wG (fun h => ?_) fun h => ?_ | refine wH (fun h => ?_) fun h => ?_ | ((first | refine mfork_bool (fun h => ?_) fun h => ?_ | refine mgfork_bool (fun h => ?_) fun h => ?_) <;> simp only [h])) | simp (maxSteps := 4000000) (disch := first | decide | assumption | omega | (simp only [wL]; omega)) only [go_sem, simprocAttr, Tryz.f126])
 refine mloop_intro (α := Nat) (fun k => ⟨39, [(13, .int .i64 (k : Int)), (12, .int .i64 (a.length : Int)), (11, .lst 5 (a.map ND.c) ta), (0, .lst 5 (a.map ND.c) ta), (1, .lst 5 (b.map ND.c) tb), (2, .fn (.func g) [] [])], []⟩) (fun _ => St.none)
  (fun i => i ≤ a.length ∧ i ≤ b.length ∧ cmpF a b = cmpF (a.drop i) (b.drop i)) (fun k => a.length - k) (.of (.less ?_ (St.le_refl _)) ⟨0, rfl, rfl, by simp⟩) ?_
 ·simp (maxSteps := 4000000) (disch := first | decide | assumption | omega | (simp only [wL]; omega)) only [go_sem, simprocAttr, weak_int, weak_same]
  all_goals rfl
 ·rintro i ⟨h3, h4, h5⟩
  by_cases hi1 : i < a.length
  ·by_cases hi2 : i < b.length
   ·rw [drop_getD nd0 hi1, drop_getD nd0 hi2, cmpF_cons] at h5
    have hord := hg _ _ (getD_mem nd0 hi1) (getD_mem nd0 hi2)
    generalize ho : cmpL (a.getD i nd0).key (b.getD i nd0).key = o at h5 hord
    by_cases hoe : o = .eq
    ·have h0 : ordI o = 0 := by rw [hoe]; rfl
     rw [h0] at hord
     rw [if_pos hoe] at h5
     repeat' (first | (with_reducible refine use_pure hord ?_) | (with_reducible first | (refine wN fun nl hnl => ?_; revert hnl; (repeat refine wS fun _ _ => ?_); intro hnl) | refine wD (by decide +kernel) ?_ | refine wI (fun h => ?_) fun h => ?_ | refine wF (fun h => ?_) fun h => ?_ | refine wG (fun h => ?_) fun h => ?_ | refine wH (fun h => ?_) fun h => ?_ | ((first | refine mfork_bool (fun h => ?_) fun h => ?_ | refine mgfork_bool (fun h => ?_) fun h => ?_) <;> simp only [h])) | simp (maxSteps := 4000000) (disch := first | decide | assumption | omega | (simp only [wL]; omega)) only [go_sem, simprocAttr, getD_mapd nd0])
     refine .of (.less (l1 := [(13, .int .i64 ((i + 1 : Nat) : Int)), (12, .int .i64 (a.length : Int)), (11, .lst 5 (a.map ND.c) ta), (0, .lst 5 (a.map ND.c) ta), (1, .lst 5 (b.map ND.c) tb), (2, .fn (.func g) [] [])]) ?_ (St.none_le _)) ⟨i + 1, rfl, rfl, ⟨by omega, by omega, h5⟩, by omega⟩
     simp (maxSteps := 4000000) (disch := first | decide | assumption | omega | (simp only [wL]; omega)) only [go_sem, simprocAttr, weak_int, weak_same]
     all_goals omega
    ·have h0 : ordI o ≠ 0 := fun h => hoe (ordI_zero.1 h)
     rw [if_neg hoe] at h5
     rw [h5]
     repeat' (first | (with_reducible refine use_pure hord ?_) | (with_reducible first | (refine wN fun nl hnl => ?_; revert hnl; (repeat refine wS fun _ _ => ?_); intro hnl) | refine wD (by decide +kernel) ?_ | refine wI (fun h => ?_) fun h => ?_ | refine wF (fun h => ?_) fun h => ?_ | refine wG (fun h => ?_) fun h => ?_ | refine wH (fun h => ?_) fun h => ?_ | ((first | refine mfork_bool (fun h => ?_) fun h => ?_ | refine mgfork_bool (fun h => ?_) fun h => ?_) <;> simp only [h])) | simp (maxSteps := 4000000) (disch := first | decide | assumption | omega | (simp only [wL]; omega)) only [go_sem, simprocAttr, getD_mapd nd0])
   ·rw [drop_getD nd0 hi1, List.drop_eq_nil_of_le (show b.length ≤ i by omega)] at h5
    rw [h5]
    repeat' (first | (with_reducible first | (refine wN fun nl hnl => ?_; revert hnl; (repeat refine wS fun _ _ => ?_); intro hnl) | refine wD (by decide +kernel) ?_ | refine wI (fun h => ?_) fun h => ?_ | refine wF (fun h => ?_) fun h => ?_ | refine wG (fun h => ?_) fun h => ?_ | refine wH (fun h => ?_) fun h => ?_ | ((first | refine mfork_bool (fun h => ?_) fun h => ?_ | refine mgfork_bool (fun h => ?_) fun h => ?_) <;> simp only [h])) | simp (maxSteps := 4000000) (disch := first | decide | assumption | omega | (simp only [wL]; omega)) only [go_sem, simprocAttr, getD_mapd nd0])
    rfl
  ·rw [List.drop_eq_nil_of_le (show a.length ≤ i by omega)] at h5
   by_cases h8 : i < b.length
   ·rw [drop_getD nd0 h8] at h5
    rw [h5]
    repeat' (first | (with_reducible first | (refine wN fun nl hnl => ?_; revert hnl; (repeat refine wS fun _ _ => ?_); intro hnl) | refine wD (by decide +kernel) ?_ | refine wI (fun h => ?_) fun h => ?_ | refine wF (fun h => ?_) fun h => ?_ | refine wG (fun h => ?_) fun h => ?_ | refine wH (fun h => ?_) fun h => ?_ | ((first | refine mfork_bool (fun h => ?_) fun h => ?_ | refine mgfork_bool (fun h => ?_) fun h => ?_) <;> simp only [h])) | simp (maxSteps := 4000000) (disch := first | decide | assumption | omega | (simp only [wL]; omega)) only [go_sem, simprocAttr, getD_mapd nd0])
    rfl
   ·rw [List.drop_eq_nil_of_le (show b.length ≤ i by omega)] at h5
    rw [h5]
    repeat' (first | (with_reducible first | (refine wN fun nl hnl => ?_; revert hnl; (repeat refine wS fun _ _ => ?_); intro hnl) | refine wD (by decide +kernel) ?_ | refine wI (fun h => ?_) fun h => ?_ | refine wF (fun h => ?_) fun h => ?_ | refine wG (fun h => ?_) fun h => ?_ | refine wH (fun h => ?_) fun h => ?_ | ((first | refine mfork_bool (fun h => ?_) fun h => ?_ | refine mgfork_bool (fun h => ?_) fun h => ?_) <;> simp only [h])) | simp (maxSteps := 4000000) (disch := first | decide | assumption | omega | (simp only [wL]; omega)) only [go_sem, simprocAttr, getD_mapd nd0])
    rfl
theorem vcompare_call (a b : VA) : MCalls Tryz.prog 130 [.agg a.c, .agg b.c] St.none (fun r _ => r = .int .i64 (ordI (cmpL a.key b.key))) := by
 refine (MCalls.body 28 [.tmp 4] Tryz.func130 rfl rfl rfl rfl ?_)
 by_cases h1 : a.kd = b.kd
 ·have e1 : cmpL a.key b.key = cmpL (a.n :: bk a.s) (b.n :: bk b.s) := by rw [VA.key, VA.key, h1, cmpL_same]; rfl
  have c1 : ordI (cmpL [a.kd] [b.kd]) = 0 := by rw [h1, cmpL_refl]; rfl
  by_cases h2 : a.n = b.n
  ·have e2 : cmpL a.key b.key = cmpL (bk a.s) (bk b.s) := by rw [e1, h2, cmpL_same]
   have c2 : ordI (cmpL [a.n] [b.n]) = 0 := by rw [h2, cmpL_refl]; rfl
   rw [e2]
   repeat' (first | (with_reducible refine use_pure (cmpint_call _ _) ?_) | (with_reducible refine use_pure (cmpstr_call _ _) ?_) | (with_reducible first | (refine wN fun nl hnl => ?_; revert hnl; (repeat refine wS fun _ _ => ?_); intro hnl) | refine wD (by decide +kernel) ?_ | refine wI (fun h => ?_) fun h => ?_ | refine wF (fun h => ?_) fun h => ?_ | refine wG (fun h => ?_) fun h => ?_ | refine wH (fun h => ?_) fun h => ?_ | ((first | refine mfork_bool (fun h => ?_) fun h => ?_ | refine mgfork_bool (fun h => ?_) fun h => ?_) <;> simp only [h])) | simp (maxSteps := 4000000) (disch := first | decide | assumption | omega | (simp only [wL]; omega)) only [go_sem, simprocAttr, Tryz.f130, c1, c2])
  ·have e2 : cmpL a.key b.key = cmpL [a.n] [b.n] := by rw [e1, cmpL_ne h2]
   have c2 : ordI (cmpL [a.n] [b.n]) ≠ 0 := fun h => h2 (by have := cmpL_eq.1 (ordI_zero.1 h); simpa using this)
   rw [e2]
   repeat' (first | (with_reducible refine use_pure (cmpint_call _ _) ?_) | (with_reducible refine use_pure (cmpstr_call _ _) ?_) | (with_reducible first | (refine wN fun nl hnl => ?_; revert hnl; (repeat refine wS fun _ _ => ?_); intro hnl) | refine wD (by decide +kernel) ?_ | refine wI (fun h => ?_) fun h => ?_ | refine wF (fun h => ?_) fun h => ?_ | refine wG (fun h => ?_) fun h => ?_ | refine wH (fun h => ?_) fun h => ?_ | ((first | refine mfork_bool (fun h => ?_) fun h => ?_ | refine mgfork_bool (fun h => ?_) fun h => ?_) <;> simp only [h])) | simp (maxSteps := 4000000) (disch := first | decide | assumption | omega | (simp only [wL]; omega)) only [go_sem, simprocAttr, Tryz.f130, c1])
 ·have e1 : cmpL a.key b.key = cmpL [a.kd] [b.kd] := by rw [VA.key, VA.key, cmpL_ne h1]
  have c1 : ordI (cmpL [a.kd] [b.kd]) ≠ 0 := fun h => h1 (by have := cmpL_eq.1 (ordI_zero.1 h); simpa using this)
  rw [e1]
  repeat' (first | (with_reducible refine use_pure (cmpint_call _ _) ?_) | (with_reducible refine use_pure (cmpstr_call _ _) ?_) | (with_reducible first | (refine wN fun nl hnl => ?_; revert hnl; (repeat refine wS fun _ _ => ?_); intro hnl) | refine wD (by decide +kernel) ?_ | refine wI (fun h => ?_) fun h => ?_ | refine wF (fun h => ?_) fun h => ?_ | refine wG (fun h => ?_) fun h => ?_ | refine wH (fun h => ?_) fun h => ?_ | ((first | refine mfork_bool (fun h => ?_) fun h => ?_ | refine mgfork_bool (fun h => ?_) fun h => ?_) <;> simp only [h])) | simp (maxSteps := 4000000) (disch := first | decide | assumption | omega | (simp only [wL]; omega)) only [go_sem, simprocAttr, Tryz.f130])
end Go.Proofs.YtjljgahfkcdhfaaGreatDoor
