/- Parts of the proof, joined. Each part says what it proves, and under which conditions it does: those that its theorems name. -/
import Derived.Test.YtjljgahfkcdhfaaGreatDoorSnza
set_option linter.unusedVariables false
set_option linter.unusedSimpArgs false
set_option maxHeartbeats 4000000
namespace Go.Proofs.YtjljgahfkcdhfaaGreatDoor
set_option maxRecDepth 100000
set_option maxHeartbeats 4000000
def wi (n from_ to : Int) (must : Bool) : Bool := if must = true then decide (from_ ≤ n ∧ n ≤ to) else decide (n = 0)
theorem pwithin_call (n a b : Int) (must : Bool) : MCalls Tryz.prog 100 [.int .i64 n, .int .i64 a, .int .i64 b, .bool must] St.none (fun r _ => r = .bool (wi n a b must)) := by
 refine (MCalls.body 21 [.tmp 8] Tryz.func100 rfl rfl rfl rfl ?_)
 unfold wi
 cases must
 ·repeat' (first | (with_reducible first | (refine wN fun _ hnl => ?_; revert hnl; (repeat refine wS fun _ _ => ?_); intro hnl) | refine wE ?_ | (refine wK ?_ ?_ <;> intro h) | (refine wB ?_ ?_ <;> intro h <;> simp only [h])) | simp (maxSteps := 4000000) (disch := first | decide | assumption | omega | (simp only [wL]; omega)) only [go_sem, simprocAttr, Tryz.f100])
  all_goals simp
 ·repeat' (first | (with_reducible first | (refine wN fun _ hnl => ?_; revert hnl; (repeat refine wS fun _ _ => ?_); intro hnl) | refine wE ?_ | (refine wK ?_ ?_ <;> intro h) | (refine wB ?_ ?_ <;> intro h <;> simp only [h])) | simp (maxSteps := 4000000) (disch := first | decide | assumption | omega | (simp only [wL]; omega)) only [go_sem, simprocAttr, Tryz.f100])
  all_goals first | (exact (decide_eq_false (by omega)).symm) | (exact decide_eq_decide.mpr (by omega)) | (exact (decide_eq_true (by omega)).symm) | (simp; omega)
theorem prcheck_call (a : RE) (hl : a.fl.length ≤ 1000000) : MCalls Tryz.prog 57 [.agg a.c] St.none (fun r _ => r = .bool (repOk a)) := by
 refine MCalls.drops (MCalls.body 104 [.tmp 2] Tryz.func57 rfl rfl rfl rfl ?_)
 have hp := ppcheck_call a.fl hl
 have hm := pmcheck_call a.mask
 have hmt := a.mask.toNat_lt
 obtain ⟨res, hres⟩ : ∃ b, repOk a = b := ⟨_, rfl⟩
 have e : Unit → repOk a = res := fun _ => hres
 simp only [repOk, big, idMax, u32_zero, ← List.length_eq_zero_iff, ite_imp] at e
 rw [hres]
 clear hres
 have h4 : (a.code = 0 ∧ a.kd = 2) ∨ (a.code = 0 ∧ a.kd = 3) ∨ (a.code = 0 ∧ ¬ a.kd = 2 ∧ ¬ a.kd = 3) ∨ ¬ a.code = 0 := by omega
 rcases h4 with ⟨h0, h2⟩ | ⟨h0, h3⟩ | ⟨h0, h2, h3⟩ | h0
 ·have d0 : decide (a.code = 0) = true := decide_eq_true h0
  have d2 : decide (a.kd = 2) = true := decide_eq_true h2
  have d3 : decide (a.kd = 3) = false := decide_eq_false (by omega)
  have w1 := pwithin_call a.sq 0 1099511627776 true
  have w2 := pwithin_call a.id 1 1073741823 true
  have w3 := pwithin_call a.ver 1 1099511627776 true
  have w4 := pwithin_call a.ep 1 1099511627776 false
  simp only [wi, Bool.false_eq_true, if_true, if_false] at w1 w2 w3 w4
  repeat' (first | (with_reducible first | refine up w1 ?_ | refine up w2 ?_ | refine up w3 ?_ | refine up w4 ?_) | (with_reducible first | (refine wN fun _ hnl => ?_; revert hnl; (repeat refine wS fun _ _ => ?_); intro hnl) | refine wE ?_ | (refine wK ?_ ?_ <;> intro h) | (refine wB ?_ ?_ <;> intro h <;> simp only [h])) | simp (maxSteps := 4000000) (disch := first | decide | assumption | omega | (simp only [wL]; omega)) only [go_sem, simprocAttr, Tryz.f57, d0, d2, d3])
  all_goals (first | refine ⟨_, St.le_refl _, ?_⟩ | skip)
  all_goals rw [← e ()]
  all_goals clear e hp hm w1 w2 w3 w4
  all_goals (first | (exact (decide_eq_false (by omega)).symm) | (exact decide_eq_decide.mpr (by omega)) | (exact (decide_eq_true (by omega)).symm) | skip)
 ·have d0 : decide (a.code = 0) = true := decide_eq_true h0
  have d2 : decide (a.kd = 2) = false := decide_eq_false (by omega)
  have d3 : decide (a.kd = 3) = true := decide_eq_true h3
  have w1 := pwithin_call a.sq 0 1099511627776 true
  have w2 := pwithin_call a.id 1 1073741823 false
  have w3 := pwithin_call a.ver 1 1099511627776 false
  have w4 := pwithin_call a.ep 1 1099511627776 true
  simp only [wi, Bool.false_eq_true, if_true, if_false] at w1 w2 w3 w4
  have hp := hp false
  repeat' (first | (with_reducible first | refine up hm ?_ | refine up hp ?_ | refine up w1 ?_ | refine up w2 ?_ | refine up w3 ?_ | refine up w4 ?_) | (with_reducible first | (refine wN fun _ hnl => ?_; revert hnl; (repeat refine wS fun _ _ => ?_); intro hnl) | refine wE ?_ | (refine wK ?_ ?_ <;> intro h) | (refine wB ?_ ?_ <;> intro h <;> simp only [h])) | simp (maxSteps := 4000000) (disch := first | decide | assumption | omega | (simp only [wL]; omega)) only [go_sem, simprocAttr, Tryz.f57, d0, d2, d3])
  all_goals (first | refine ⟨_, St.le_refl _, ?_⟩ | skip)
  all_goals rw [← e ()]
  all_goals clear e hp hm w1 w2 w3 w4
  all_goals (first | (exact (decide_eq_false (by omega)).symm) | (exact decide_eq_decide.mpr (by omega)) | (exact (decide_eq_true (by omega)).symm) | skip)
 ·have d0 : decide (a.code = 0) = true := decide_eq_true h0
  have d2 : decide (a.kd = 2) = false := decide_eq_false h2
  have d3 : decide (a.kd = 3) = false := decide_eq_false h3
  have w1 := pwithin_call a.sq 0 1099511627776 true
  have w2 := pwithin_call a.id 1 1073741823 false
  have w3 := pwithin_call a.ver 1 1099511627776 false
  have w4 := pwithin_call a.ep 1 1099511627776 false
  simp only [wi, Bool.false_eq_true, if_true, if_false] at w1 w2 w3 w4
  repeat' (first | (with_reducible first | refine up w1 ?_ | refine up w2 ?_ | refine up w3 ?_ | refine up w4 ?_) | (with_reducible first | (refine wN fun _ hnl => ?_; revert hnl; (repeat refine wS fun _ _ => ?_); intro hnl) | refine wE ?_ | (refine wK ?_ ?_ <;> intro h) | (refine wB ?_ ?_ <;> intro h <;> simp only [h])) | simp (maxSteps := 4000000) (disch := first | decide | assumption | omega | (simp only [wL]; omega)) only [go_sem, simprocAttr, Tryz.f57, d0, d2, d3])
  all_goals (first | refine ⟨_, St.le_refl _, ?_⟩ | skip)
  all_goals rw [← e ()]
  all_goals clear e hp hm w1 w2 w3 w4
  all_goals (first | (exact (decide_eq_false (by omega)).symm) | (exact decide_eq_decide.mpr (by omega)) | (exact (decide_eq_true (by omega)).symm) | skip)
 ·have d0 : decide (a.code = 0) = false := decide_eq_false h0
  have w1 := pwithin_call a.sq 0 1099511627776 false
  have w2 := pwithin_call a.id 1 1073741823 false
  have w3 := pwithin_call a.ver 1 1099511627776 false
  have w4 := pwithin_call a.ep 1 1099511627776 false
  simp only [wi, Bool.false_eq_true, if_true, if_false] at w1 w2 w3 w4
  repeat' (first | (with_reducible first | refine up w1 ?_ | refine up w2 ?_ | refine up w3 ?_ | refine up w4 ?_) | (with_reducible first | (refine wN fun _ hnl => ?_; revert hnl; (repeat refine wS fun _ _ => ?_); intro hnl) | refine wE ?_ | (refine wK ?_ ?_ <;> intro h) | (refine wB ?_ ?_ <;> intro h <;> simp only [h])) | simp (maxSteps := 4000000) (disch := first | decide | assumption | omega | (simp only [wL]; omega)) only [go_sem, simprocAttr, Tryz.f57, d0])
  all_goals (first | refine ⟨_, St.le_refl _, ?_⟩ | skip)
  all_goals rw [← e ()]
  all_goals clear e hp hm w1 w2 w3 w4
  all_goals (first | (exact (decide_eq_false (by omega)).symm) | (exact decide_eq_decide.mpr (by omega)) | (exact (decide_eq_true (by omega)).symm) | skip)
theorem prsame_call (a b : RE) (ha : a.fl.length ≤ 1000000) (hb : b.fl.length ≤ 1000000) : MCalls Tryz.prog 41 [.agg a.c, .agg b.c] St.none (fun r _ => r = .bool (decide (a = b))) := by
 refine MCalls.drops (MCalls.body 72 [.tmp 4] Tryz.func41 rfl rfl rfl rfl ?_)
 have hs := pcompare_call a.fl b.fl ha hb false false
 have hu := u32_int (a := a.mask) (b := b.mask)
 have hz : ordI (cmpF a.fl b.fl) = 0 ↔ a.fl = b.fl := by rw [← cmpF_eq]; cases cmpF a.fl b.fl <;> simp [ordI]
 obtain ⟨z, hzz⟩ : ∃ z, ordI (cmpF a.fl b.fl) = z := ⟨_, rfl⟩
 rw [hzz] at hs hz
 obtain ⟨res, hres⟩ : ∃ r, decide (a = b) = r := ⟨_, rfl⟩
 have e : Unit → decide (a.kd = b.kd ∧ a.dev = b.dev ∧ a.req = b.req ∧ a.code = b.code ∧ a.id = b.id ∧ a.ver = b.ver ∧ a.sq = b.sq ∧ a.ep = b.ep ∧ z = 0 ∧ (a.mask.toNat : Int) = (b.mask.toNat : Int)) = res := fun _ => by
  rw [← hres]
  refine decide_eq_decide.mpr ?_
  rw [re_iff, hu, hz]
 rw [hres]
 clear hres hu hz hzz
 repeat' (first | (with_reducible first | refine up hs ?_) | (with_reducible first | (refine wN fun _ hnl => ?_; revert hnl; (repeat refine wS fun _ _ => ?_); intro hnl) | refine wE ?_ | (refine wK ?_ ?_ <;> intro h) | (refine wB ?_ ?_ <;> intro h <;> simp only [h])) | simp (maxSteps := 4000000) (disch := first | decide | assumption | omega | (simp only [wL]; omega)) only [go_sem, simprocAttr, Tryz.f41])
 all_goals first | refine ⟨_, St.le_refl _, ?_⟩ | skip
 all_goals rw [← e ()]
 all_goals clear e
 all_goals first | (simp [*]; done) | exact decide_eq_decide.mpr (by omega)
end Go.Proofs.YtjljgahfkcdhfaaGreatDoor
