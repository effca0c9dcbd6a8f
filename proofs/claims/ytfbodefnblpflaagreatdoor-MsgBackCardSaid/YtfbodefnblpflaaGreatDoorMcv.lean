/- Parts of the proof, joined. Each part says what it proves, and under which conditions it does: those that its theorems name. -/
import Derived.Test.YtfbodefnblpflaaGreatDoorMcu
set_option linter.unusedVariables false
set_option linter.unusedSimpArgs false
set_option maxHeartbeats 4000000
section
namespace Go.Proofs.YtfbodefnblpflaaGreatDoor
set_option maxRecDepth 100000
set_option maxHeartbeats 4000000
def wi (n from_ to : Int) (must : Bool) : Bool := if must = true then decide (from_ ≤ n ∧ n ≤ to) else decide (n = 0)
theorem pwithin_call (n a b : Int) (must : Bool) : MCalls Tryz.prog 117 [.int .i64 n, .int .i64 a, .int .i64 b, .bool must] St.none (fun r _ => r = .bool (wi n a b must)) := by
 refine (MCalls.body 21 [.tmp 8] Tryz.func117 rfl rfl rfl rfl ?_)
 unfold wi
 cases must
 ·repeat' (first | (with_reducible first | (refine wN fun _ hnl => ?_; revert hnl; (repeat refine wS fun _ _ => ?_); intro hnl) | refine wE ?_ | (refine wK ?_ ?_ <;> intro h) | (refine wB ?_ ?_ <;> intro h <;> simp only [h])) | simp (maxSteps := 4000000) (disch := first | decide | assumption | omega | (simp only [wL]; omega)) only [go_sem, simprocAttr, Tryz.f117])
  all_goals simp
 ·repeat' (first | (with_reducible first | (refine wN fun _ hnl => ?_; revert hnl; (repeat refine wS fun _ _ => ?_); intro hnl) | refine wE ?_ | (refine wK ?_ ?_ <;> intro h) | (refine wB ?_ ?_ <;> intro h <;> simp only [h])) | simp (maxSteps := 4000000) (disch := first | decide | assumption | omega | (simp only [wL]; omega)) only [go_sem, simprocAttr, Tryz.f117])
  all_goals first | (exact (decide_eq_false (by omega)).symm) | (exact decide_eq_decide.mpr (by omega)) | (exact (decide_eq_true (by omega)).symm) | (simp; omega)
theorem prcheck_call (a : RE) (hl : a.fl.length ≤ 1000000) : MCalls Tryz.prog 64 [.agg a.c] St.none (fun r _ => r = .bool (repOk a)) := by
 refine MCalls.drops (MCalls.body 104 [.tmp 2] Tryz.func64 rfl rfl rfl rfl ?_)
 have hp := ppcheck_call a.fl hl
 have hm := pmcheck_call a.mask
 have hmt := a.mask.toNat_lt
 obtain ⟨res, hres⟩ : ∃ b, repOk a = b := ⟨_, rfl⟩
 have e : Unit → repOk a = res := fun _ => hres
 simp only [repOk, big, idMax, u32_zero, ← List.length_eq_zero_iff, ite_imp] at e
 rw [hres]
 clear hres
 have h4 : (a.code = 0 ∧ a.kd = 2) ∨ (a.code = 0 ∧ a.kd = 3) ∨ (a.code = 0 ∧ ¬ a.kd = 2 ∧ ¬ a.kd = 3) ∨ ¬ a.code = 0 := by omega
 rcases h4 with ⟨h0, h2⟩ | ⟨h0, h3⟩ | ⟨h0, h2, h3⟩ | h0
 ·have d0 : decide (a.code = 0) = true := decide_eq_true h0
  have d2 : decide (a.kd = 2) = true := decide_eq_true h2
  have d3 : decide (a.kd = 3) = false := decide_eq_false (by omega)
  have w1 := pwithin_call a.sq 0 1099511627776 true
  have w2 := pwithin_call a.id 1 1073741823 true
  have w3 := pwithin_call a.ver 1 1099511627776 true
  have w4 := pwithin_call a.ep 1 1099511627776 false
  simp only [wi, Bool.false_eq_true, if_true, if_false] at w1 w2 w3 w4
  repeat' (first | (with_reducible first | refine up w1 ?_ | refine up w2 ?_ | refine up w3 ?_ | refine up w4 ?_) | (with_reducible first | (refine wN fun _ hnl => ?_; revert hnl; (repeat refine wS fun _ _ => ?_); intro hnl) | refine wE ?_ | (refine wK ?_ ?_ <;> intro h) | (refine wB ?_ ?_ <;> intro h <;> simp only [h])) | simp (maxSteps := 4000000) (disch := first | decide | assumption | omega | (simp only [wL]; omega)) only [go_sem, simprocAttr, Tryz.f64, d0, d2, d3])
  all_goals (first | refine ⟨_, St.le_refl _, ?_⟩ | skip)
  all_goals rw [← e ()]
  all_goals clear e hp hm w1 w2 w3 w4
  all_goals (first | (exact (decide_eq_false (by omega)).symm) | (exact decide_eq_decide.mpr (by omega)) | (exact (decide_eq_true (by omega)).symm) | skip)
 ·have d0 : decide (a.code = 0) = true := decide_eq_true h0
  have d2 : decide (a.kd = 2) = false := decide_eq_false (by omega)
  have d3 : decide (a.kd = 3) = true := decide_eq_true h3
  have w1 := pwithin_call a.sq 0 1099511627776 true
  have w2 := pwithin_call a.id 1 1073741823 false
  have w3 := pwithin_call a.ver 1 1099511627776 false
  have w4 := pwithin_call a.ep 1 1099511627776 true
  simp only [wi, Bool.false_eq_true, if_true, if_false] at w1 w2 w3 w4
  have hp := hp false
  repeat' (first | (with_reducible first | refine up hm ?_ | refine up hp ?_ | refine up w1 ?_ | refine up w2 ?_ | refine up w3 ?_ | refine up w4 ?_) | (with_reducible first | (refine wN fun _ hnl => ?_; revert hnl; (repeat refine wS fun _ _ => ?_); intro hnl) | refine wE ?_ | (refine wK ?_ ?_ <;> intro h) | (refine wB ?_ ?_ <;> intro h <;> simp only [h])) | simp (maxSteps := 4000000) (disch := first | decide | assumption | omega | (simp only [wL]; omega)) only [go_sem, simprocAttr, Tryz.f64, d0, d2, d3])
  all_goals (first | refine ⟨_, St.le_refl _, ?_⟩ | skip)
  all_goals rw [← e ()]
  all_goals clear e hp hm w1 w2 w3 w4
  all_goals (first | (exact (decide_eq_false (by omega)).symm) | (exact decide_eq_decide.mpr (by omega)) | (exact (decide_eq_true (by omega)).symm) | skip)
 ·have d0 : decide (a.code = 0) = true := decide_eq_true h0
  have d2 : decide (a.kd = 2) = false := decide_eq_false h2
  have d3 : decide (a.kd = 3) = false := decide_eq_false h3
  have w1 := pwithin_call a.sq 0 1099511627776 true
  have w2 := pwithin_call a.id 1 1073741823 false
  have w3 := pwithin_call a.ver 1 1099511627776 false
  have w4 := pwithin_call a.ep 1 1099511627776 false
  simp only [wi, Bool.false_eq_true, if_true, if_false] at w1 w2 w3 w4
  repeat' (first | (with_reducible first | refine up w1 ?_ | refine up w2 ?_ | refine up w3 ?_ | refine up w4 ?_) | (with_reducible first | (refine wN fun _ hnl => ?_; revert hnl; (repeat refine wS fun _ _ => ?_); intro hnl) | refine wE ?_ | (refine wK ?_ ?_ <;> intro h) | (refine wB ?_ ?_ <;> intro h <;> simp only [h])) | simp (maxSteps := 4000000) (disch := first | decide | assumption | omega | (simp only [wL]; omega)) only [go_sem, simprocAttr, Tryz.f64, d0, d2, d3])
  all_goals (first | refine ⟨_, St.le_refl _, ?_⟩ | skip)
  all_goals rw [← e ()]
  all_goals clear e hp hm w1 w2 w3 w4
  all_goals (first | (exact (decide_eq_false (by omega)).symm) | (exact decide_eq_decide.mpr (by omega)) | (exact (decide_eq_true (by omega)).symm) | skip)
 ·have d0 : decide (a.code = 0) = false := decide_eq_false h0
  have w1 := pwithin_call a.sq 0 1099511627776 false
  have w2 := pwithin_call a.id 1 1073741823 false
  have w3 := pwithin_call a.ver 1 1099511627776 false
  have w4 := pwithin_call a.ep 1 1099511627776 false
  simp only [wi, Bool.false_eq_true, if_true, if_false] at w1 w2 w3 w4
  repeat' (first | (with_reducible first | refine up w1 ?_ | refine up w2 ?_ | refine up w3 ?_ | refine up w4 ?_) | (with_reducible first | (refine wN fun _ hnl => ?_; revert hnl; (repeat refine wS fun _ _ => ?_); intro hnl) | refine wE ?_ | (refine wK ?_ ?_ <;> intro h) | (refine wB ?_ ?_ <;> intro h <;> simp only [h])) | simp (maxSteps := 4000000) (disch := first | decide | assumption | omega | (simp only [wL]; omega)) only [go_sem, simprocAttr, Tryz.f64, d0])
  all_goals (first | refine ⟨_, St.le_refl _, ?_⟩ | skip)
  all_goals rw [← e ()]
  all_goals clear e hp hm w1 w2 w3 w4
  all_goals (first | (exact (decide_eq_false (by omega)).symm) | (exact decide_eq_decide.mpr (by omega)) | (exact (decide_eq_true (by omega)).symm) | skip)
theorem prsame_call (a b : RE) (ha : a.fl.length ≤ 1000000) (hb : b.fl.length ≤ 1000000) : MCalls Tryz.prog 37 [.agg a.c, .agg b.c] St.none (fun r _ => r = .bool (decide (a = b))) := by
 refine MCalls.drops (MCalls.body 72 [.tmp 4] Tryz.func37 rfl rfl rfl rfl ?_)
 have hs := pcompare_call a.fl b.fl ha hb false false
 have hu := u32_int (a := a.mask) (b := b.mask)
 have hz : ordI (cmpF a.fl b.fl) = 0 ↔ a.fl = b.fl := by rw [← cmpF_eq]; cases cmpF a.fl b.fl <;> simp [ordI]
 obtain ⟨z, hzz⟩ : ∃ z, ordI (cmpF a.fl b.fl) = z := ⟨_, rfl⟩
 rw [hzz] at hs hz
 obtain ⟨res, hres⟩ : ∃ r, decide (a = b) = r := ⟨_, rfl⟩
 have e : Unit → decide (a.kd = b.kd ∧ a.dev = b.dev ∧ a.req = b.req ∧ a.code = b.code ∧ a.id = b.id ∧ a.ver = b.ver ∧ a.sq = b.sq ∧ a.ep = b.ep ∧ z = 0 ∧ (a.mask.toNat : Int) = (b.mask.toNat : Int)) = res := fun _ => by
  rw [← hres]
  refine decide_eq_decide.mpr ?_
  rw [re_iff, hu, hz]
 rw [hres]
 clear hres hu hz hzz
 repeat' (first | (with_reducible first | refine up hs ?_) | (with_reducible first | (refine wN fun _ hnl => ?_; revert hnl; (repeat refine wS fun _ _ => ?_); intro hnl) | refine wE ?_ | (refine wK ?_ ?_ <;> intro h) | (refine wB ?_ ?_ <;> intro h <;> simp only [h])) | simp (maxSteps := 4000000) (disch := first | decide | assumption | omega | (simp only [wL]; omega)) only [go_sem, simprocAttr, Tryz.f37])
 all_goals first | refine ⟨_, St.le_refl _, ?_⟩ | skip
 all_goals rw [← e ()]
 all_goals clear e
 all_goals first | (simp [*]; done) | exact decide_eq_decide.mpr (by omega)
end Go.Proofs.YtfbodefnblpflaaGreatDoor
end

section
namespace Go.Proofs.YtfbodefnblpflaaGreatDoor
set_option maxRecDepth 100000
set_option maxHeartbeats 4000000
theorem pnumK_skip {C : Know} {g : FuncId} {ms : List MV} {F : Fact} (h : C g ms = some F) (hg : (g == 21) = false) : pnumK C g ms = some F := by
 unfold pnumK
 rw [if_neg (by simpa using hg)]
 exact h
def repP (a : RE) (i : Int) : BL := (if 0 < i then numB a.kd else []) ++ (if 1 < i then numB a.dev else []) ++ (if 2 < i then numB a.req else []) ++ (if 3 < i then numB a.code else [])
theorem repP0 (t : RE) : repP t 0 = [] := by simp [repP]
theorem repP1 (t : RE) : repP t 1 = numB t.kd := by simp [repP]
theorem repP2 (t : RE) : repP t 2 = numB t.kd ++ numB t.dev := by simp [repP]
theorem repP3 (t : RE) : repP t 3 = numB t.kd ++ numB t.dev ++ numB t.req := by simp [repP]
theorem repP4 (t : RE) : repP t 4 = numB t.kd ++ numB t.dev ++ numB t.req ++ numB t.code := by simp [repP]
theorem pputrep_call (bs : BL) (hb : bs.length ≤ 300000) (tt : Bool) (a : RE) (hl : a.fl.length ≤ 1000000) (hok : repOk a = true) : MCalls Tryz.prog 65 [.lst 1 (bs.map bc) tt, .agg a.c] St.none (fun r _ => r = .lst 1 ((bs ++ repB a).map bc) false) := by
 refine MCalls.drops (MCalls.body 61 [.tmp 4] Tryz.func65 rfl rfl rfl rfl ?_)
 have hc := prcheck_call a hl
 rw [hok] at hc
 have l1 := numB_len a.kd
 have l2 := numB_len a.dev
 have l3 := numB_len a.req
 have l4 := numB_len a.code
 have l5 := numB_len a.sq
 have l6 := numB_len a.id
 have l7 := numB_len a.ver
 have l8 := numB_len a.ep
 have n1 := pnum_call bs tt a.kd (by omega)
 have n2 := pnum_call (bs ++ numB a.kd) false a.dev (by simp only [List.length_append]; omega)
 have n3 := pnum_call (bs ++ numB a.kd ++ numB a.dev) false a.req (by simp only [List.length_append]; omega)
 have n4 := pnum_call (bs ++ numB a.kd ++ numB a.dev ++ numB a.req) false a.code (by simp only [List.length_append]; omega)
 repeat' (first | (with_reducible first | refine up hc ?_) | (with_reducible first | (refine wT ?_; (first | ((fail_if_success (have := nl1)); refine wN fun nl1 hnl => ?_) | refine wN fun _ hnl => ?_); revert hnl; (repeat refine wS fun _ _ => ?_); intro hnl) | refine wE ?_ | (refine wK ?_ ?_ <;> intro h) | (refine wB ?_ ?_ <;> intro h <;> simp only [h])) | simp (maxSteps := 4000000) (disch := first | decide | assumption | omega | (simp only [wL]; omega)) only [go_sem, simprocAttr, Tryz.f65])
 refine mloop_intro (α := Int) (fun i => ⟨61, [(21, .int .i64 i), (20, .agg [.int .i64 a.kd, .int .i64 a.dev, .int .i64 a.req, .int .i64 a.code]), (3, .ptr nl1 0 0), (0, .lst 1 ((bs ++ repP a i).map bc) (if i = 0 then tt else false))], []⟩)
  (fun _ => St.none.set nl1 (.row 37 10 [a.c])) (fun i => 0 ≤ i ∧ i ≤ 4) (fun i => (4 - i).toNat) (.of (.less ?_ (St.le_refl _)) ⟨0, rfl, rfl, by omega, by omega⟩) ?_
 ·rw [repP0, List.append_nil]
  simp (maxSteps := 4000000) (disch := first | decide | assumption | omega | (simp only [wL]; omega)) only [go_sem, simprocAttr, weak_int, weak_same]
 ·rintro i ⟨h0, h4⟩
  by_cases hi4 : i = 4
  ·subst hi4
   have e : bs ++ repB a = (bs ++ repP a 4) ++ (if a.code = 0 then numB a.sq ++ (if a.kd = 2 then numB a.id ++ numB a.ver else []) ++ (if a.kd = 3 then numB a.ep ++ predB a.fl ++ numB a.mask.toNat else []) else []) := by
    unfold repB
    rw [if_pos hok, repP4]
    simp only [List.append_assoc]
   rw [e]
   have hpl : (bs ++ repP a 4).length ≤ 300024 := by rw [repP4]; simp only [List.length_append]; omega
   obtain ⟨pre, hpre⟩ : ∃ pre, bs ++ repP a 4 = pre := ⟨_, rfl⟩
   rw [hpre] at hpl ⊢
   have m1 := pnum_call pre false a.sq (by omega)
   clear n1 n2 n3 n4 e hpre
   simp only [Int.reduceEq, if_false]
   by_cases hc0 : a.code = 0
   ·rw [if_pos hc0]
    have hp := fun h => repOk_sub (a := a) hok hc0 h
    clear hok hc
    by_cases k2 : a.kd = 2
    ·rw [if_pos k2, if_neg (by omega)]
     have m2 := pnum_call (pre ++ numB a.sq) false a.id (by simp only [List.length_append]; omega)
     have m3 := pnum_call (pre ++ numB a.sq ++ numB a.id) false a.ver (by simp only [List.length_append]; omega)
     repeat' (first | ((with_reducible refine mdraw_know mixed ?chk (pnumK (fun _ _ => none)) ?_); (case chk => decide +kernel)) | (with_reducible refine know_pure pnumK_hit m2 ?_) | (with_reducible refine know_pure pnumK_hit m3 ?_) | (with_reducible first | refine up m1 ?_) | (with_reducible first | (refine wT ?_; (first | ((fail_if_success (have := nl1)); refine wN fun nl1 hnl => ?_) | refine wN fun _ hnl => ?_); revert hnl; (repeat refine wS fun _ _ => ?_); intro hnl) | refine wE ?_ | (refine wK ?_ ?_ <;> intro h) | (refine wB ?_ ?_ <;> intro h <;> simp only [h])) | simp (maxSteps := 4000000) (disch := first | decide | assumption | omega | (simp only [wL]; omega)) only [go_sem, simprocAttr])
     all_goals first | refine ⟨_, St.le_refl _, ?_⟩ | refine ⟨_, St.le_refl _⟩ | skip
     all_goals simp only [List.append_assoc, List.append_nil]
    ·rw [if_neg k2]
     by_cases k3 : a.kd = 3
     ·rw [if_pos k3]
      have hp := hp k3
      have lp := (inferInstance : LB (predB a.fl) 1600).h
      have m2 := pnum_call (pre ++ numB a.sq) false a.ep (by simp only [List.length_append]; omega)
      have m3 := pputpred_call (pre ++ numB a.sq ++ numB a.ep) (by simp only [List.length_append]; omega) false a.fl false hp
      have m4 := pnum_call (pre ++ numB a.sq ++ numB a.ep ++ predB a.fl) false (a.mask.toNat : Int) (by simp only [List.length_append]; omega)
      have hmt := a.mask.toNat_lt
      repeat' (first | ((with_reducible refine mdraw_know mixed ?chk (pnumK (kn [(106, [.lst 1 ((pre ++ numB a.sq ++ numB a.ep).map bc) false, .lst 5 (a.fl.map ND.c) false], ⟨[], fun v => v = .lst 1 ((pre ++ numB a.sq ++ numB a.ep ++ predB a.fl).map bc) false, none⟩)])) ?_); (case chk => decide +kernel)) | (with_reducible refine know_pure pnumK_hit m2 ?_) | (with_reducible refine know_pure (pnumK_skip kn_hit rfl) m3 ?_) | (with_reducible refine know_pure pnumK_hit m4 ?_) | (with_reducible first | refine up m1 ?_) | (with_reducible first | (refine wT ?_; (first | ((fail_if_success (have := nl1)); refine wN fun nl1 hnl => ?_) | refine wN fun _ hnl => ?_); revert hnl; (repeat refine wS fun _ _ => ?_); intro hnl) | refine wE ?_ | (refine wK ?_ ?_ <;> intro h) | (refine wB ?_ ?_ <;> intro h <;> simp only [h])) | simp (maxSteps := 4000000) (disch := first | decide | assumption | omega | (simp only [wL]; omega)) only [go_sem, simprocAttr])
      all_goals first | refine ⟨_, St.le_refl _, ?_⟩ | refine ⟨_, St.le_refl _⟩ | skip
      all_goals simp only [List.append_assoc, List.append_nil, List.nil_append]
     ·rw [if_neg k3]
      repeat' (first | (with_reducible first | refine up m1 ?_) | (with_reducible first | (refine wT ?_; (first | ((fail_if_success (have := nl1)); refine wN fun nl1 hnl => ?_) | refine wN fun _ hnl => ?_); revert hnl; (repeat refine wS fun _ _ => ?_); intro hnl) | refine wE ?_ | (refine wK ?_ ?_ <;> intro h) | (refine wB ?_ ?_ <;> intro h <;> simp only [h])) | simp (maxSteps := 4000000) (disch := first | decide | assumption | omega | (simp only [wL]; omega)) only [go_sem, simprocAttr])
      all_goals first | refine ⟨_, St.le_refl _, ?_⟩ | refine ⟨_, St.le_refl _⟩ | skip
      all_goals simp only [List.append_assoc, List.append_nil, List.nil_append]
   ·rw [if_neg hc0]
    repeat' (first | (with_reducible first | refine up m1 ?_) | (with_reducible first | (refine wT ?_; (first | ((fail_if_success (have := nl1)); refine wN fun nl1 hnl => ?_) | refine wN fun _ hnl => ?_); revert hnl; (repeat refine wS fun _ _ => ?_); intro hnl) | refine wE ?_ | (refine wK ?_ ?_ <;> intro h) | (refine wB ?_ ?_ <;> intro h <;> simp only [h])) | simp (maxSteps := 4000000) (disch := first | decide | assumption | omega | (simp only [wL]; omega)) only [go_sem, simprocAttr])
    all_goals first | refine ⟨_, St.le_refl _, ?_⟩ | refine ⟨_, St.le_refl _⟩ | skip
    all_goals simp only [List.append_assoc, List.append_nil]
  ·have hi : i = 0 ∨ i = 1 ∨ i = 2 ∨ i = 3 := by omega
   rcases hi with rfl | rfl | rfl | rfl
   all_goals
    simp only [repP0, repP1, repP2, repP3, repP4, Int.reduceEq, if_true, if_false, ← List.append_assoc, List.append_nil]
    repeat' (first | (with_reducible first | refine up n1 ?_ | refine up n2 ?_ | refine up n3 ?_ | refine up n4 ?_) | (with_reducible first | (refine wT ?_; (first | ((fail_if_success (have := nl1)); refine wN fun nl1 hnl => ?_) | refine wN fun _ hnl => ?_); revert hnl; (repeat refine wS fun _ _ => ?_); intro hnl) | refine wE ?_ | (refine wK ?_ ?_ <;> intro h) | (refine wB ?_ ?_ <;> intro h <;> simp only [h])) | simp (maxSteps := 4000000) (disch := first | decide | assumption | omega | (simp only [wL]; omega)) only [go_sem, simprocAttr])
   all_goals first
    | refine .of (.less ?_ (St.le_refl _)) ⟨1, rfl, rfl, ⟨by omega, by omega⟩, by omega⟩
    | refine .of (.less ?_ (St.le_refl _)) ⟨2, rfl, rfl, ⟨by omega, by omega⟩, by omega⟩
    | refine .of (.less ?_ (St.le_refl _)) ⟨3, rfl, rfl, ⟨by omega, by omega⟩, by omega⟩
    | refine .of (.less ?_ (St.le_refl _)) ⟨4, rfl, rfl, ⟨by omega, by omega⟩, by omega⟩
   all_goals
    simp only [repP0, repP1, repP2, repP3, repP4, Int.reduceEq, if_true, if_false, ← List.append_assoc, List.append_nil]
    simp (maxSteps := 4000000) (disch := first | decide | assumption | omega | (simp only [wL]; omega)) only [go_sem, simprocAttr, weak_int, weak_same]
end Go.Proofs.YtfbodefnblpflaaGreatDoor
end
