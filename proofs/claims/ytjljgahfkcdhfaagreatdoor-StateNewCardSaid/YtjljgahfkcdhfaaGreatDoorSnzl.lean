/- Parts of the proof, joined. Each part says what it proves, and under which conditions it does: those that its theorems name. -/
import Derived.Test.YtjljgahfkcdhfaaGreatDoorSnzc
set_option linter.unusedVariables false
set_option linter.unusedSimpArgs false
set_option maxHeartbeats 4000000
namespace Go.Proofs.YtjljgahfkcdhfaaGreatDoor
set_option maxRecDepth 100000
set_option maxHeartbeats 8000000
def fnF0 (g : FuncId) (v : MV) : Know := fun g' _ => if g' = g then some ⟨[], fun w => w = v, none⟩ else none
theorem fnF0_hit {g : FuncId} {v : MV} {ms : List MV} : fnF0 g v g ms = some ⟨[], fun w => w = v, none⟩ := by simp [fnF0]
instance : Inhabited DE := ⟨⟨0, 0, 0⟩⟩
def deZ : DE := ⟨0, 0, 0⟩
def grZ : GR := ⟨0, []⟩
theorem de_iff {a b : DE} : a = b ↔ a.id = b.id ∧ a.ver = b.ver ∧ a.sq = b.sq := by
 obtain ⟨a1, a2, a3⟩ := a
 obtain ⟨b1, b2, b3⟩ := b
 simp
theorem gr_iff {a b : GR} : a = b ↔ a.no = b.no ∧ a.mem = b.mem := by
 obtain ⟨a1, a2⟩ := a
 obtain ⟨b1, b2⟩ := b
 simp
theorem rw_iff {a b : RW} : a = b ↔ a.last = b.last ∧ a.ep = b.ep ∧ a.ans = b.ans := by
 obtain ⟨a1, a2, a3⟩ := a
 obtain ⟨b1, b2, b3⟩ := b
 simp
theorem bk_iff {a b : BK} : a = b ↔ a.sq = b.sq ∧ a.nx = b.nx ∧ a.cards = b.cards ∧ a.dead = b.dead ∧ a.gr = b.gr := by
 obtain ⟨a1, a2, a3, a4, a5⟩ := a
 obtain ⟨b1, b2, b3, b4, b5⟩ := b
 simp
theorem meq_dead (d : Nat) (a b : DE) : meqs Tryz.prog (d + 2) 110 (.agg a.c) (.agg b.c) = some (decide (a = b)) := by
 have hp : eqPlain Tryz.prog 110 = true := by decide +kernel
 rw [meqs_struct (by rw [td110]) hp]
 simp only [meqFields, td3, mpart, TK.isAgg, Bool.false_eq_true, if_false, List.getD_cons_zero, List.getD_cons_succ, List.length_cons, List.length_nil, meqs_int tdk3]
 simp [de_iff, Bool.decide_and]
theorem pl_dead : eqPlain Tryz.prog 110 = true := by decide +kernel
theorem mbn_dead (a b : DE) : mbin Tryz.prog 110 .neq (.agg a.c) (.agg b.c) = some (True, .bool (!decide (a = b))) := mb_neq (meq_dead 4 a b) pl_dead
theorem rints_call (a b : List Int) (hl : a.length ≤ 1000000) (ta tb : Bool) : MCalls Tryz.prog 66 [.lst 1 (a.map icell) ta, .lst 1 (b.map icell) tb] St.none (fun r _ => r = .bool (decide (a = b))) := by
 refine (MCalls.body 26 [.tmp 4] Tryz.func66 rfl rfl rfl rfl ?_)
 by_cases hlen : a.length = b.length
 ·repeat' (first | (with_reducible first | (refine wN fun _ hnl => ?_; revert hnl; (repeat refine wS fun _ _ => ?_); intro hnl) | refine wE ?_ | (refine wK ?_ ?_ <;> intro h) | (refine wB ?_ ?_ <;> intro h <;> simp only [h])) | simp (maxSteps := 4000000) (disch := first | decide | assumption | omega | (simp only [wL]; omega)) only [go_sem, simprocAttr, Tryz.f66])
  refine mloop_intro (α := Nat) (fun i => ⟨26, [(5, .int .i64 (i : Int)), (0, .lst 1 (a.map icell) ta), (1, .lst 1 (b.map icell) tb)], []⟩) (fun _ => St.none) (fun i => i ≤ a.length ∧ a.take i = b.take i) (fun i => a.length - i) (.of (.less ?_ (St.le_refl _)) ⟨0, rfl, rfl, Nat.zero_le _, rfl⟩) ?_
  ·simp (maxSteps := 4000000) (disch := first | decide | assumption | omega | (simp only [wL]; omega)) only [go_sem, simprocAttr, weak_int, weak_same]
   all_goals rfl
  ·rintro i ⟨hi, hq⟩
   by_cases hlt : i < a.length
   ·have hsa := List.take_succ_eq_append_getElem (l := a) hlt
    have hib : i < b.length := by omega
    have hsb := List.take_succ_eq_append_getElem (l := b) hib
    rw [← getD_of_lt 0 hlt] at hsa
    rw [← getD_of_lt 0 hib] at hsb
    have hma := getD_mem 0 hlt
    have hmb := getD_mem 0 hib
    obtain ⟨x, hx⟩ : ∃ x, a.getD i 0 = x := ⟨_, rfl⟩
    obtain ⟨y, hy⟩ : ∃ y, b.getD i 0 = y := ⟨_, rfl⟩
    rw [hx] at hsa hma
    rw [hy] at hsb hmb

    by_cases he : x = y
    ·have hyy := he
     repeat' (first | (with_reducible first | (refine wN fun _ hnl => ?_; revert hnl; (repeat refine wS fun _ _ => ?_); intro hnl) | refine wE ?_ | (refine wK ?_ ?_ <;> intro h) | (refine wB ?_ ?_ <;> intro h <;> simp only [h])) | simp (maxSteps := 4000000) (disch := first | decide | assumption | omega | (simp only [wL]; omega)) only [go_sem, simprocAttr, getD_mapd (0 : Int), icell, hx, hy, he])
     refine .of (.less ?_ (St.le_refl _)) ⟨i + 1, rfl, rfl, ⟨by omega, by rw [hsa, hsb, hq, he]⟩, by omega⟩
     simp (maxSteps := 4000000) (disch := first | decide | assumption | omega | (simp only [wL]; omega)) only [go_sem, simprocAttr, weak_int, weak_same]
     all_goals rfl
    ·have hyy := he
     have hne : ¬ a = b := fun e => he (by rw [← hx, ← hy, e])
     rw [decide_eq_false hne]
     repeat' (first | (with_reducible first | (refine wN fun _ hnl => ?_; revert hnl; (repeat refine wS fun _ _ => ?_); intro hnl) | refine wE ?_ | (refine wK ?_ ?_ <;> intro h) | (refine wB ?_ ?_ <;> intro h <;> simp only [h])) | simp (maxSteps := 4000000) (disch := first | decide | assumption | omega | (simp only [wL]; omega)) only [go_sem, simprocAttr, getD_mapd (0 : Int), icell, hx, hy, he])
     all_goals done
   ·have : i = a.length := by omega
    subst this
    rw [List.take_length, hlen, List.take_length] at hq
    rw [decide_eq_true hq]
    repeat' (first | (with_reducible first | (refine wN fun _ hnl => ?_; revert hnl; (repeat refine wS fun _ _ => ?_); intro hnl) | refine wE ?_ | (refine wK ?_ ?_ <;> intro h) | (refine wB ?_ ?_ <;> intro h <;> simp only [h])) | simp (maxSteps := 4000000) (disch := first | decide | assumption | omega | (simp only [wL]; omega)) only [go_sem, simprocAttr])
    all_goals done
 ·rw [decide_eq_false fun e => hlen (by rw [e])]
  repeat' (first | (with_reducible first | (refine wN fun _ hnl => ?_; revert hnl; (repeat refine wS fun _ _ => ?_); intro hnl) | refine wE ?_ | (refine wK ?_ ?_ <;> intro h) | (refine wB ?_ ?_ <;> intro h <;> simp only [h])) | simp (maxSteps := 4000000) (disch := first | decide | assumption | omega | (simp only [wL]; omega)) only [go_sem, simprocAttr, Tryz.f66])
  all_goals (first | rfl | (exfalso; omega))
theorem rcards_call (a b : List CA) (hl : a.length ≤ 1000000) (ta tb : Bool) : MCalls Tryz.prog 14 [.lst 27 (a.map CA.c) ta, .lst 27 (b.map CA.c) tb] St.none (fun r _ => r = .bool (decide (a = b))) := by
 refine (MCalls.body 26 [.tmp 4] Tryz.func14 rfl rfl rfl rfl ?_)
 by_cases hlen : a.length = b.length
 ·repeat' (first | (with_reducible first | (refine wN fun _ hnl => ?_; revert hnl; (repeat refine wS fun _ _ => ?_); intro hnl) | refine wE ?_ | (refine wK ?_ ?_ <;> intro h) | (refine wB ?_ ?_ <;> intro h <;> simp only [h])) | simp (maxSteps := 4000000) (disch := first | decide | assumption | omega | (simp only [wL]; omega)) only [go_sem, simprocAttr, Tryz.f14])
  refine mloop_intro (α := Nat) (fun i => ⟨26, [(5, .int .i64 (i : Int)), (0, .lst 27 (a.map CA.c) ta), (1, .lst 27 (b.map CA.c) tb)], []⟩) (fun _ => St.none) (fun i => i ≤ a.length ∧ a.take i = b.take i) (fun i => a.length - i) (.of (.less ?_ (St.le_refl _)) ⟨0, rfl, rfl, Nat.zero_le _, rfl⟩) ?_
  ·simp (maxSteps := 4000000) (disch := first | decide | assumption | omega | (simp only [wL]; omega)) only [go_sem, simprocAttr, weak_int, weak_same]
   all_goals rfl
  ·rintro i ⟨hi, hq⟩
   by_cases hlt : i < a.length
   ·have hsa := List.take_succ_eq_append_getElem (l := a) hlt
    have hib : i < b.length := by omega
    have hsb := List.take_succ_eq_append_getElem (l := b) hib
    rw [← getD_of_lt ca0 hlt] at hsa
    rw [← getD_of_lt ca0 hib] at hsb
    have hma := getD_mem ca0 hlt
    have hmb := getD_mem ca0 hib
    obtain ⟨x, hx⟩ : ∃ x, a.getD i ca0 = x := ⟨_, rfl⟩
    obtain ⟨y, hy⟩ : ∃ y, b.getD i ca0 = y := ⟨_, rfl⟩
    rw [hx] at hsa hma
    rw [hy] at hsb hmb
    have hm := mbn_card x y
    by_cases he : x = y
    ·rw [decide_eq_true he] at hm
     repeat' (first | (with_reducible first | (refine wN fun _ hnl => ?_; revert hnl; (repeat refine wS fun _ _ => ?_); intro hnl) | refine wE ?_ | (refine wK ?_ ?_ <;> intro h) | (refine wB ?_ ?_ <;> intro h <;> simp only [h])) | simp (maxSteps := 4000000) (disch := first | decide | assumption | omega | (simp only [wL]; omega)) only [go_sem, simprocAttr, FXs, getD_mapd ca0, hx, hy, hm])
     refine .of (.less ?_ (St.le_refl _)) ⟨i + 1, rfl, rfl, ⟨by omega, by rw [hsa, hsb, hq, he]⟩, by omega⟩
     simp (maxSteps := 4000000) (disch := first | decide | assumption | omega | (simp only [wL]; omega)) only [go_sem, simprocAttr, weak_int, weak_same]
     all_goals rfl
    ·rw [decide_eq_false he] at hm
     have hne : ¬ a = b := fun e => he (by rw [← hx, ← hy, e])
     rw [decide_eq_false hne]
     repeat' (first | (with_reducible first | (refine wN fun _ hnl => ?_; revert hnl; (repeat refine wS fun _ _ => ?_); intro hnl) | refine wE ?_ | (refine wK ?_ ?_ <;> intro h) | (refine wB ?_ ?_ <;> intro h <;> simp only [h])) | simp (maxSteps := 4000000) (disch := first | decide | assumption | omega | (simp only [wL]; omega)) only [go_sem, simprocAttr, FXs, getD_mapd ca0, hx, hy, hm])
     all_goals done
   ·have : i = a.length := by omega
    subst this
    rw [List.take_length, hlen, List.take_length] at hq
    rw [decide_eq_true hq]
    repeat' (first | (with_reducible first | (refine wN fun _ hnl => ?_; revert hnl; (repeat refine wS fun _ _ => ?_); intro hnl) | refine wE ?_ | (refine wK ?_ ?_ <;> intro h) | (refine wB ?_ ?_ <;> intro h <;> simp only [h])) | simp (maxSteps := 4000000) (disch := first | decide | assumption | omega | (simp only [wL]; omega)) only [go_sem, simprocAttr])
    all_goals done
 ·rw [decide_eq_false fun e => hlen (by rw [e])]
  repeat' (first | (with_reducible first | (refine wN fun _ hnl => ?_; revert hnl; (repeat refine wS fun _ _ => ?_); intro hnl) | refine wE ?_ | (refine wK ?_ ?_ <;> intro h) | (refine wB ?_ ?_ <;> intro h <;> simp only [h])) | simp (maxSteps := 4000000) (disch := first | decide | assumption | omega | (simp only [wL]; omega)) only [go_sem, simprocAttr, Tryz.f14])
  all_goals (first | rfl | (exfalso; omega))
theorem rdead_call (a b : List DE) (hl : a.length ≤ 1000000) (ta tb : Bool) : MCalls Tryz.prog 63 [.lst 3 (a.map DE.c) ta, .lst 3 (b.map DE.c) tb] St.none (fun r _ => r = .bool (decide (a = b))) := by
 refine (MCalls.body 26 [.tmp 4] Tryz.func63 rfl rfl rfl rfl ?_)
 by_cases hlen : a.length = b.length
 ·repeat' (first | (with_reducible first | (refine wN fun _ hnl => ?_; revert hnl; (repeat refine wS fun _ _ => ?_); intro hnl) | refine wE ?_ | (refine wK ?_ ?_ <;> intro h) | (refine wB ?_ ?_ <;> intro h <;> simp only [h])) | simp (maxSteps := 4000000) (disch := first | decide | assumption | omega | (simp only [wL]; omega)) only [go_sem, simprocAttr, Tryz.f63])
  refine mloop_intro (α := Nat) (fun i => ⟨26, [(5, .int .i64 (i : Int)), (0, .lst 3 (a.map DE.c) ta), (1, .lst 3 (b.map DE.c) tb)], []⟩) (fun _ => St.none) (fun i => i ≤ a.length ∧ a.take i = b.take i) (fun i => a.length - i) (.of (.less ?_ (St.le_refl _)) ⟨0, rfl, rfl, Nat.zero_le _, rfl⟩) ?_
  ·simp (maxSteps := 4000000) (disch := first | decide | assumption | omega | (simp only [wL]; omega)) only [go_sem, simprocAttr, weak_int, weak_same]
   all_goals rfl
  ·rintro i ⟨hi, hq⟩
   by_cases hlt : i < a.length
   ·have hsa := List.take_succ_eq_append_getElem (l := a) hlt
    have hib : i < b.length := by omega
    have hsb := List.take_succ_eq_append_getElem (l := b) hib
    rw [← getD_of_lt deZ hlt] at hsa
    rw [← getD_of_lt deZ hib] at hsb
    have hma := getD_mem deZ hlt
    have hmb := getD_mem deZ hib
    obtain ⟨x, hx⟩ : ∃ x, a.getD i deZ = x := ⟨_, rfl⟩
    obtain ⟨y, hy⟩ : ∃ y, b.getD i deZ = y := ⟨_, rfl⟩
    rw [hx] at hsa hma
    rw [hy] at hsb hmb
    have hm := mbn_dead x y
    by_cases he : x = y
    ·rw [decide_eq_true he] at hm
     repeat' (first | (with_reducible first | (refine wN fun _ hnl => ?_; revert hnl; (repeat refine wS fun _ _ => ?_); intro hnl) | refine wE ?_ | (refine wK ?_ ?_ <;> intro h) | (refine wB ?_ ?_ <;> intro h <;> simp only [h])) | simp (maxSteps := 4000000) (disch := first | decide | assumption | omega | (simp only [wL]; omega)) only [go_sem, simprocAttr, getD_mapd deZ, hx, hy, hm])
     refine .of (.less ?_ (St.le_refl _)) ⟨i + 1, rfl, rfl, ⟨by omega, by rw [hsa, hsb, hq, he]⟩, by omega⟩
     simp (maxSteps := 4000000) (disch := first | decide | assumption | omega | (simp only [wL]; omega)) only [go_sem, simprocAttr, weak_int, weak_same]
     all_goals rfl
    ·rw [decide_eq_false he] at hm
     have hne : ¬ a = b := fun e => he (by rw [← hx, ← hy, e])
     rw [decide_eq_false hne]
     repeat' (first | (with_reducible first | (refine wN fun _ hnl => ?_; revert hnl; (repeat refine wS fun _ _ => ?_); intro hnl) | refine wE ?_ | (refine wK ?_ ?_ <;> intro h) | (refine wB ?_ ?_ <;> intro h <;> simp only [h])) | simp (maxSteps := 4000000) (disch := first | decide | assumption | omega | (simp only [wL]; omega)) only [go_sem, simprocAttr, getD_mapd deZ, hx, hy, hm])
     all_goals done
   ·have : i = a.length := by omega
    subst this
    rw [List.take_length, hlen, List.take_length] at hq
    rw [decide_eq_true hq]
    repeat' (first | (with_reducible first | (refine wN fun _ hnl => ?_; revert hnl; (repeat refine wS fun _ _ => ?_); intro hnl) | refine wE ?_ | (refine wK ?_ ?_ <;> intro h) | (refine wB ?_ ?_ <;> intro h <;> simp only [h])) | simp (maxSteps := 4000000) (disch := first | decide | assumption | omega | (simp only [wL]; omega)) only [go_sem, simprocAttr])
    all_goals done
 ·rw [decide_eq_false fun e => hlen (by rw [e])]
  repeat' (first | (with_reducible first | (refine wN fun _ hnl => ?_; revert hnl; (repeat refine wS fun _ _ => ?_); intro hnl) | refine wE ?_ | (refine wK ?_ ?_ <;> intro h) | (refine wB ?_ ?_ <;> intro h <;> simp only [h])) | simp (maxSteps := 4000000) (disch := first | decide | assumption | omega | (simp only [wL]; omega)) only [go_sem, simprocAttr, Tryz.f63])
  all_goals (first | rfl | (exfalso; omega))
theorem rgroups_call (a b : List GR) (hl : a.length ≤ 1000000) (hb : ∀ g, g ∈ a → g.mem.length ≤ 1000000) (ta tb : Bool) : MCalls Tryz.prog 64 [.lst 2 (a.map GR.c) ta, .lst 2 (b.map GR.c) tb] St.none (fun r _ => r = .bool (decide (a = b))) := by
 refine (MCalls.body 42 [.tmp 4] Tryz.func64 rfl rfl rfl rfl ?_)
 by_cases hlen : a.length = b.length
 ·repeat' (first | (with_reducible first | (refine wN fun _ hnl => ?_; revert hnl; (repeat refine wS fun _ _ => ?_); intro hnl) | refine wE ?_ | (refine wK ?_ ?_ <;> intro h) | (refine wB ?_ ?_ <;> intro h <;> simp only [h])) | simp (maxSteps := 4000000) (disch := first | decide | assumption | omega | (simp only [wL]; omega)) only [go_sem, simprocAttr, Tryz.f64])
  refine mloop_intro (α := Nat) (fun i => ⟨42, [(5, .int .i64 (i : Int)), (0, .lst 2 (a.map GR.c) ta), (1, .lst 2 (b.map GR.c) tb)], []⟩) (fun _ => St.none) (fun i => i ≤ a.length ∧ a.take i = b.take i) (fun i => a.length - i) (.of (.less ?_ (St.le_refl _)) ⟨0, rfl, rfl, Nat.zero_le _, rfl⟩) ?_
  ·simp (maxSteps := 4000000) (disch := first | decide | assumption | omega | (simp only [wL]; omega)) only [go_sem, simprocAttr, weak_int, weak_same]
   all_goals rfl
  ·rintro i ⟨hi, hq⟩
   by_cases hlt : i < a.length
   ·have hsa := List.take_succ_eq_append_getElem (l := a) hlt
    have hib : i < b.length := by omega
    have hsb := List.take_succ_eq_append_getElem (l := b) hib
    rw [← getD_of_lt grZ hlt] at hsa
    rw [← getD_of_lt grZ hib] at hsb
    have hma := getD_mem grZ hlt
    have hmb := getD_mem grZ hib
    obtain ⟨x, hx⟩ : ∃ x, a.getD i grZ = x := ⟨_, rfl⟩
    obtain ⟨y, hy⟩ : ∃ y, b.getD i grZ = y := ⟨_, rfl⟩
    rw [hx] at hsa hma
    rw [hy] at hsb hmb
    have hc := rints_call x.mem y.mem (hb x hma) false false
    have hi' : x = y ↔ x.no = y.no ∧ x.mem = y.mem := gr_iff
    by_cases he : x = y
    ·have e1 := (hi'.1 he).1
     rw [decide_eq_true (hi'.1 he).2] at hc
     obtain ⟨C, c1⟩ : ∃ C : Know, ∀ ms, C 66 ms = some ⟨[], fun v => v = .bool true, none⟩ := ⟨fnF0 66 (.bool true), fun _ => fnF0_hit⟩
     repeat' (first | ((with_reducible refine mdraw_know mixed ?chk C ?_); (case chk => decide +kernel)) | (with_reducible refine know_pure (c1 _) hc ?_) | (with_reducible first | (refine wN fun _ hnl => ?_; revert hnl; (repeat refine wS fun _ _ => ?_); intro hnl) | refine wE ?_ | (refine wK ?_ ?_ <;> intro h) | (refine wB ?_ ?_ <;> intro h <;> simp only [h])) | simp (maxSteps := 4000000) (disch := first | decide | assumption | omega | (simp only [wL]; omega)) only [go_sem, simprocAttr, getD_mapd grZ, hx, hy, e1])
     refine .of (.less ?_ (St.le_refl _)) ⟨i + 1, rfl, rfl, ⟨by omega, by rw [hsa, hsb, hq, he]⟩, by omega⟩
     simp (maxSteps := 4000000) (disch := first | decide | assumption | omega | (simp only [wL]; omega)) only [go_sem, simprocAttr, weak_int, weak_same]
     all_goals rfl
    ·have hne : ¬ a = b := fun e => he (by rw [← hx, ← hy, e])
     rw [decide_eq_false hne]
     by_cases e1 : x.no = y.no
     ·rw [decide_eq_false fun e => he (hi'.2 ⟨e1, e⟩)] at hc
      obtain ⟨C, c1⟩ : ∃ C : Know, ∀ ms, C 66 ms = some ⟨[], fun v => v = .bool false, none⟩ := ⟨fnF0 66 (.bool false), fun _ => fnF0_hit⟩
      repeat' (first | ((with_reducible refine mdraw_know mixed ?chk C ?_); (case chk => decide +kernel)) | (with_reducible refine know_pure (c1 _) hc ?_) | (with_reducible first | (refine wN fun _ hnl => ?_; revert hnl; (repeat refine wS fun _ _ => ?_); intro hnl) | refine wE ?_ | (refine wK ?_ ?_ <;> intro h) | (refine wB ?_ ?_ <;> intro h <;> simp only [h])) | simp (maxSteps := 4000000) (disch := first | decide | assumption | omega | (simp only [wL]; omega)) only [go_sem, simprocAttr, getD_mapd grZ, hx, hy, e1])
      all_goals done
     ·obtain ⟨C, c1⟩ : ∃ C : Know, ∀ ms, C 66 ms = some ⟨[], fun v => v = .bool false, none⟩ := ⟨fnF0 66 (.bool false), fun _ => fnF0_hit⟩
      repeat' (first | ((with_reducible refine mdraw_know mixed ?chk C ?_); (case chk => decide +kernel)) | (with_reducible refine know_pure (c1 _) hc ?_) | (with_reducible first | (refine wN fun _ hnl => ?_; revert hnl; (repeat refine wS fun _ _ => ?_); intro hnl) | refine wE ?_ | (refine wK ?_ ?_ <;> intro h) | (refine wB ?_ ?_ <;> intro h <;> simp only [h])) | simp (maxSteps := 4000000) (disch := first | decide | assumption | omega | (simp only [wL]; omega)) only [go_sem, simprocAttr, getD_mapd grZ, hx, hy, e1])
      all_goals done
   ·have : i = a.length := by omega
    subst this
    rw [List.take_length, hlen, List.take_length] at hq
    rw [decide_eq_true hq]
    repeat' (first | (with_reducible first | (refine wN fun _ hnl => ?_; revert hnl; (repeat refine wS fun _ _ => ?_); intro hnl) | refine wE ?_ | (refine wK ?_ ?_ <;> intro h) | (refine wB ?_ ?_ <;> intro h <;> simp only [h])) | simp (maxSteps := 4000000) (disch := first | decide | assumption | omega | (simp only [wL]; omega)) only [go_sem, simprocAttr])
    all_goals done
 ·rw [decide_eq_false fun e => hlen (by rw [e])]
  repeat' (first | (with_reducible first | (refine wN fun _ hnl => ?_; revert hnl; (repeat refine wS fun _ _ => ?_); intro hnl) | refine wE ?_ | (refine wK ?_ ?_ <;> intro h) | (refine wB ?_ ?_ <;> intro h <;> simp only [h])) | simp (maxSteps := 4000000) (disch := first | decide | assumption | omega | (simp only [wL]; omega)) only [go_sem, simprocAttr, Tryz.f64])
  all_goals (first | rfl | (exfalso; omega))
theorem rrows_call (a b : List RW) (hl : a.length ≤ 1000000) (hb : ∀ r, r ∈ a → r.ans.fl.length ≤ 1000000) (ta tb : Bool) : MCalls Tryz.prog 31 [.lst 12 (a.map RW.c) ta, .lst 12 (b.map RW.c) tb] St.none (fun r _ => r = .bool (decide (a = b))) := by
 refine (MCalls.body 55 [.tmp 4] Tryz.func31 rfl rfl rfl rfl ?_)
 by_cases hlen : a.length = b.length
 ·repeat' (first | (with_reducible first | (refine wN fun _ hnl => ?_; revert hnl; (repeat refine wS fun _ _ => ?_); intro hnl) | refine wE ?_ | (refine wK ?_ ?_ <;> intro h) | (refine wB ?_ ?_ <;> intro h <;> simp only [h])) | simp (maxSteps := 4000000) (disch := first | decide | assumption | omega | (simp only [wL]; omega)) only [go_sem, simprocAttr, Tryz.f31])
  refine mloop_intro (α := Nat) (fun i => ⟨55, [(5, .int .i64 (i : Int)), (0, .lst 12 (a.map RW.c) ta), (1, .lst 12 (b.map RW.c) tb)], []⟩) (fun _ => St.none) (fun i => i ≤ a.length ∧ a.take i = b.take i) (fun i => a.length - i) (.of (.less ?_ (St.le_refl _)) ⟨0, rfl, rfl, Nat.zero_le _, rfl⟩) ?_
  ·simp (maxSteps := 4000000) (disch := first | decide | assumption | omega | (simp only [wL]; omega)) only [go_sem, simprocAttr, weak_int, weak_same]
   all_goals rfl
  ·rintro i ⟨hi, hq⟩
   by_cases hlt : i < a.length
   ·have hsa := List.take_succ_eq_append_getElem (l := a) hlt
    have hib : i < b.length := by omega
    have hsb := List.take_succ_eq_append_getElem (l := b) hib
    rw [← getD_of_lt rwZ hlt] at hsa
    rw [← getD_of_lt rwZ hib] at hsb
    have hma := getD_mem rwZ hlt
    have hmb := getD_mem rwZ hib
    obtain ⟨x, hx⟩ : ∃ x, a.getD i rwZ = x := ⟨_, rfl⟩
    obtain ⟨y, hy⟩ : ∃ y, b.getD i rwZ = y := ⟨_, rfl⟩
    rw [hx] at hsa hma
    rw [hy] at hsb hmb
    have hc := rrsame_call x.ans y.ans (hb x hma)
    have hi' : x = y ↔ x.last = y.last ∧ x.ep = y.ep ∧ x.ans = y.ans := rw_iff
    by_cases he : x = y
    ·have e1 := (hi'.1 he).1
     have e2 := (hi'.1 he).2.1
     rw [decide_eq_true (hi'.1 he).2.2] at hc
     obtain ⟨C, c1⟩ : ∃ C : Know, ∀ ms, C 68 ms = some ⟨[], fun v => v = .bool true, none⟩ := ⟨fnF0 68 (.bool true), fun _ => fnF0_hit⟩
     repeat' (first | ((with_reducible refine mdraw_know mixed ?chk C ?_); (case chk => decide +kernel)) | (with_reducible refine know_pure (c1 _) hc ?_) | (with_reducible first | (refine wN fun _ hnl => ?_; revert hnl; (repeat refine wS fun _ _ => ?_); intro hnl) | refine wE ?_ | (refine wK ?_ ?_ <;> intro h) | (refine wB ?_ ?_ <;> intro h <;> simp only [h])) | simp (maxSteps := 4000000) (disch := first | decide | assumption | omega | (simp only [wL]; omega)) only [go_sem, simprocAttr, getD_mapd rwZ, hx, hy, e1, e2])
     refine .of (.less ?_ (St.le_refl _)) ⟨i + 1, rfl, rfl, ⟨by omega, by rw [hsa, hsb, hq, he]⟩, by omega⟩
     simp (maxSteps := 4000000) (disch := first | decide | assumption | omega | (simp only [wL]; omega)) only [go_sem, simprocAttr, weak_int, weak_same]
     all_goals rfl
    ·have hne : ¬ a = b := fun e => he (by rw [← hx, ← hy, e])
     rw [decide_eq_false hne]
     by_cases e1 : x.last = y.last
     ·by_cases e2 : x.ep = y.ep
      ·rw [decide_eq_false fun e => he (hi'.2 ⟨e1, e2, e⟩)] at hc
       obtain ⟨C, c1⟩ : ∃ C : Know, ∀ ms, C 68 ms = some ⟨[], fun v => v = .bool false, none⟩ := ⟨fnF0 68 (.bool false), fun _ => fnF0_hit⟩
       repeat' (first | ((with_reducible refine mdraw_know mixed ?chk C ?_); (case chk => decide +kernel)) | (with_reducible refine know_pure (c1 _) hc ?_) | (with_reducible first | (refine wN fun _ hnl => ?_; revert hnl; (repeat refine wS fun _ _ => ?_); intro hnl) | refine wE ?_ | (refine wK ?_ ?_ <;> intro h) | (refine wB ?_ ?_ <;> intro h <;> simp only [h])) | simp (maxSteps := 4000000) (disch := first | decide | assumption | omega | (simp only [wL]; omega)) only [go_sem, simprocAttr, getD_mapd rwZ, hx, hy, e1, e2])
       all_goals done
      ·obtain ⟨C, c1⟩ : ∃ C : Know, ∀ ms, C 68 ms = some ⟨[], fun v => v = .bool false, none⟩ := ⟨fnF0 68 (.bool false), fun _ => fnF0_hit⟩
       repeat' (first | ((with_reducible refine mdraw_know mixed ?chk C ?_); (case chk => decide +kernel)) | (with_reducible refine know_pure (c1 _) hc ?_) | (with_reducible first | (refine wN fun _ hnl => ?_; revert hnl; (repeat refine wS fun _ _ => ?_); intro hnl) | refine wE ?_ | (refine wK ?_ ?_ <;> intro h) | (refine wB ?_ ?_ <;> intro h <;> simp only [h])) | simp (maxSteps := 4000000) (disch := first | decide | assumption | omega | (simp only [wL]; omega)) only [go_sem, simprocAttr, getD_mapd rwZ, hx, hy, e1, e2])
       all_goals done
     ·obtain ⟨C, c1⟩ : ∃ C : Know, ∀ ms, C 68 ms = some ⟨[], fun v => v = .bool false, none⟩ := ⟨fnF0 68 (.bool false), fun _ => fnF0_hit⟩
      repeat' (first | ((with_reducible refine mdraw_know mixed ?chk C ?_); (case chk => decide +kernel)) | (with_reducible refine know_pure (c1 _) hc ?_) | (with_reducible first | (refine wN fun _ hnl => ?_; revert hnl; (repeat refine wS fun _ _ => ?_); intro hnl) | refine wE ?_ | (refine wK ?_ ?_ <;> intro h) | (refine wB ?_ ?_ <;> intro h <;> simp only [h])) | simp (maxSteps := 4000000) (disch := first | decide | assumption | omega | (simp only [wL]; omega)) only [go_sem, simprocAttr, getD_mapd rwZ, hx, hy, e1])
      all_goals done
   ·have : i = a.length := by omega
    subst this
    rw [List.take_length, hlen, List.take_length] at hq
    rw [decide_eq_true hq]
    repeat' (first | (with_reducible first | (refine wN fun _ hnl => ?_; revert hnl; (repeat refine wS fun _ _ => ?_); intro hnl) | refine wE ?_ | (refine wK ?_ ?_ <;> intro h) | (refine wB ?_ ?_ <;> intro h <;> simp only [h])) | simp (maxSteps := 4000000) (disch := first | decide | assumption | omega | (simp only [wL]; omega)) only [go_sem, simprocAttr])
    all_goals done
 ·rw [decide_eq_false fun e => hlen (by rw [e])]
  repeat' (first | (with_reducible first | (refine wN fun _ hnl => ?_; revert hnl; (repeat refine wS fun _ _ => ?_); intro hnl) | refine wE ?_ | (refine wK ?_ ?_ <;> intro h) | (refine wB ?_ ?_ <;> intro h <;> simp only [h])) | simp (maxSteps := 4000000) (disch := first | decide | assumption | omega | (simp only [wL]; omega)) only [go_sem, simprocAttr, Tryz.f31])
  all_goals (first | rfl | (exfalso; omega))
end Go.Proofs.YtjljgahfkcdhfaaGreatDoor
