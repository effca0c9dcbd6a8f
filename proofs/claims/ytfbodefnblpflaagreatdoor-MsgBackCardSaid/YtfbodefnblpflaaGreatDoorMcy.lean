/- Parts of the proof, joined. Each part says what it proves, and under which conditions it does: those that its theorems name. -/
import Derived.Test.YtfbodefnblpflaaGreatDoorMcs
import Derived.Test.YtfbodefnblpflaaGreatDoorMcx
set_option linter.unusedVariables false
set_option linter.unusedSimpArgs false
set_option maxHeartbeats 4000000
section
namespace Go.Proofs.YtfbodefnblpflaaGreatDoor
set_option maxRecDepth 100000
set_option maxHeartbeats 4000000
abbrev topC : List MV := [.int .i64 5, .int .i64 1099511627776, .int .i64 1099511627776, .int .i64 1073741824]
theorem ptmost_call : MCalls Tryz.prog 115 [] St.none (fun r _ => r = .agg topC) := by
 refine MCalls.drops (MCalls.body 2 [.cell 0 151] Tryz.func115 rfl rfl rfl rfl ?_)
 repeat' (first | (with_reducible first | (refine wN fun _ hnl => ?_; revert hnl; (repeat refine wS fun _ _ => ?_); intro hnl) | refine wE ?_ | (refine wK ?_ ?_ <;> intro h) | (refine wB ?_ ?_ <;> intro h <;> simp only [h])) | simp (maxSteps := 4000000) (disch := first | decide | assumption | omega | (simp only [wL]; omega)) only [go_sem, simprocAttr, Tryz.f115])
 all_goals first | exact ⟨_, St.le_refl _, rfl⟩ | exact ⟨_, St.le_refl _⟩
theorem ptparts_call (t : TO) : MCalls Tryz.prog 114 [.agg t.c] St.none (fun r _ => r = .agg t.c) := by
 refine MCalls.drops (MCalls.body 12 [.cell 2 151] Tryz.func114 rfl rfl rfl rfl ?_)
 repeat' (first | (with_reducible first | (refine wN fun _ hnl => ?_; revert hnl; (repeat refine wS fun _ _ => ?_); intro hnl) | refine wE ?_ | (refine wK ?_ ?_ <;> intro h) | (refine wB ?_ ?_ <;> intro h <;> simp only [h])) | simp (maxSteps := 4000000) (disch := first | decide | assumption | omega | (simp only [wL]; omega)) only [go_sem, simprocAttr, Tryz.f114])
 all_goals first | exact ⟨_, St.le_refl _, rfl⟩ | exact ⟨_, St.le_refl _⟩
theorem ptof_call (t : TO) : MCalls Tryz.prog 116 [.agg t.c] St.none (fun r _ => r = .agg t.c) := by
 refine MCalls.drops (MCalls.body 12 [.cell 2 34] Tryz.func116 rfl rfl rfl rfl ?_)
 repeat' (first | (with_reducible first | (refine wN fun _ hnl => ?_; revert hnl; (repeat refine wS fun _ _ => ?_); intro hnl) | refine wE ?_ | (refine wK ?_ ?_ <;> intro h) | (refine wB ?_ ?_ <;> intro h <;> simp only [h])) | simp (maxSteps := 4000000) (disch := first | decide | assumption | omega | (simp only [wL]; omega)) only [go_sem, simprocAttr, Tryz.f116])
 all_goals first | exact ⟨_, St.le_refl _, rfl⟩ | exact ⟨_, St.le_refl _⟩
theorem tokOk_no {t : TO} (h : ¬ (0 ≤ t.dev ∧ t.dev ≤ 5 ∧ 0 ≤ t.ep ∧ t.ep ≤ 1099511627776 ∧ 0 ≤ t.sq ∧ t.sq ≤ 1099511627776 ∧ 0 ≤ t.cu ∧ t.cu ≤ 1073741824)) : tokOk t = false := by
 unfold tokOk big idMax
 refine decide_eq_false fun h2 => h ?_
 omega
theorem ptcheck_call (t : TO) : MCalls Tryz.prog 61 [.agg t.c] St.none (fun r _ => r = .bool (tokOk t)) := by
 refine MCalls.drops (MCalls.body 29 [.tmp 2] Tryz.func61 rfl rfl rfl rfl ?_)
 have hp := ptparts_call t
 have hm := ptmost_call
 repeat' (first | (with_reducible first | refine up hp ?_ | refine up hm ?_) | (with_reducible first | (refine wT ?_; (first | ((fail_if_success (have := nl1)); refine wN fun nl1 hnl => ?_) | ((fail_if_success (have := nl2)); refine wN fun nl2 hnl => ?_) | ((fail_if_success (have := nl3)); refine wN fun nl3 hnl => ?_) | refine wN fun _ hnl => ?_); revert hnl; (repeat refine wS fun _ _ => ?_); intro hnl) | refine wE ?_ | (refine wK ?_ ?_ <;> intro h) | (refine wB ?_ ?_ <;> intro h <;> simp only [h])) | simp (maxSteps := 4000000) (disch := first | decide | assumption | omega | (simp only [wL]; omega)) only [go_sem, simprocAttr, Tryz.f61])
 have d1 : nl2 ≠ nl1 := by assumption
 have d2 : nl3 ≠ nl1 := by assumption
 have d3 : nl3 ≠ nl2 := by assumption
 refine mloop_intro (α := Int) (fun i => ⟨29, [(9, .int .i64 i), (4, .ptr nl3 0 0), (3, .ptr nl2 0 0), (1, .ptr nl1 0 0)], []⟩)
  (fun _ => ((St.none.set nl1 (.row 34 4 [t.c])).set nl2 (.row 151 4 [t.c])).set nl3 (.row 151 4 [topC])) (fun i => 0 ≤ i ∧ i ≤ 4 ∧ (0 < i → 0 ≤ t.dev ∧ t.dev ≤ 5) ∧ (1 < i → 0 ≤ t.ep ∧ t.ep ≤ 1099511627776) ∧ (2 < i → 0 ≤ t.sq ∧ t.sq ≤ 1099511627776) ∧ (3 < i → 0 ≤ t.cu ∧ t.cu ≤ 1073741824)) (fun i => (4 - i).toNat) ?_ ?_
 ·refine .of (.less ?_ (St.le_refl _)) ⟨0, rfl, rfl, by omega, by omega, by omega, by omega, by omega, by omega⟩
  simp (maxSteps := 4000000) (disch := first | decide | assumption | omega | (simp only [wL]; omega)) only [go_sem, simprocAttr, weak_int, weak_same]
 ·rintro i ⟨h0, h4, q0, q1, q2, q3⟩
  have hi : i = 0 ∨ i = 1 ∨ i = 2 ∨ i = 3 ∨ i = 4 := by omega
  rcases hi with rfl | rfl | rfl | rfl | rfl
  case' inr.inr.inr.inr =>
   obtain ⟨a0, a1⟩ := q0 (by decide)
   obtain ⟨b0, b1⟩ := q1 (by decide)
   obtain ⟨c0, c1⟩ := q2 (by decide)
   obtain ⟨e0, e1⟩ := q3 (by decide)
  all_goals
   repeat' (first | (with_reducible first | (refine wT ?_; (first | ((fail_if_success (have := nl1)); refine wN fun nl1 hnl => ?_) | ((fail_if_success (have := nl2)); refine wN fun nl2 hnl => ?_) | ((fail_if_success (have := nl3)); refine wN fun nl3 hnl => ?_) | refine wN fun _ hnl => ?_); revert hnl; (repeat refine wS fun _ _ => ?_); intro hnl) | refine wE ?_ | (refine wK ?_ ?_ <;> intro h) | (refine wB ?_ ?_ <;> intro h <;> simp only [h])) | simp (maxSteps := 4000000) (disch := first | decide | assumption | omega | (simp only [wL]; omega)) only [go_sem, simprocAttr])
   all_goals first | refine ⟨_, St.le_refl _, ?_⟩ | refine ⟨_, St.le_refl _⟩ | skip
  case' inr.inr.inr.inr =>
   unfold tokOk big idMax
   exact decide_eq_decide.2 (by omega)
  all_goals first
   | exact (tokOk_no (by omega)).symm
   | refine .of (.less ?_ (St.le_refl _)) ⟨1, rfl, rfl, ⟨by omega, by omega, by omega, by omega, by omega, by omega⟩, by omega⟩
   | refine .of (.less ?_ (St.le_refl _)) ⟨2, rfl, rfl, ⟨by omega, by omega, by omega, by omega, by omega, by omega⟩, by omega⟩
   | refine .of (.less ?_ (St.le_refl _)) ⟨3, rfl, rfl, ⟨by omega, by omega, by omega, by omega, by omega, by omega⟩, by omega⟩
   | refine .of (.less ?_ (St.le_refl _)) ⟨4, rfl, rfl, ⟨by omega, by omega, by omega, by omega, by omega, by omega⟩, by omega⟩
  all_goals
   simp (maxSteps := 4000000) (disch := first | decide | assumption | omega | (simp only [wL]; omega)) only [go_sem, simprocAttr, weak_int, weak_same]
theorem ptgoes_call (a b : TO) : MCalls Tryz.prog 120 [.agg a.c, .agg b.c] St.none (fun r _ => r = .bool (tokGo a b)) := by
 refine MCalls.drops (MCalls.body 39 [.tmp 4] Tryz.func120 rfl rfl rfl rfl ?_)
 have h1 := ptcheck_call a
 have h2 := ptcheck_call b
 obtain ⟨res, hres⟩ : ∃ r, tokGo a b = r := ⟨_, rfl⟩
 have e : Unit → tokGo a b = res := fun _ => hres
 rw [hres]
 clear hres
 unfold tokGo at e
 cases hb1 : tokOk a <;> cases hb2 : tokOk b
 all_goals
  rw [hb1] at h1 e
  rw [hb2] at h2 e
  repeat' (first | (with_reducible first | refine up h1 ?_ | refine up h2 ?_) | (with_reducible first | (refine wN fun _ hnl => ?_; revert hnl; (repeat refine wS fun _ _ => ?_); intro hnl) | refine wE ?_ | (refine wK ?_ ?_ <;> intro h) | (refine wB ?_ ?_ <;> intro h <;> simp only [h])) | simp (maxSteps := 4000000) (disch := first | decide | assumption | omega | (simp only [wL]; omega)) only [go_sem, simprocAttr, Tryz.f120])
 all_goals first | refine ⟨_, St.le_refl _, ?_⟩ | refine ⟨_, St.le_refl _⟩ | skip
 all_goals rw [← e ()]
 all_goals clear e
 all_goals (first | (simp [*]; done) | (simp; omega) | skip)
def tokP (t : TO) (i : Int) : BL := (if 0 < i then numB t.dev else []) ++ (if 1 < i then numB t.ep else []) ++ (if 2 < i then numB t.sq else []) ++ (if 3 < i then numB t.cu else [])
theorem tokP0 (t : TO) : tokP t 0 = [] := by simp [tokP]
theorem tokP1 (t : TO) : tokP t 1 = numB t.dev := by simp [tokP]
theorem tokP2 (t : TO) : tokP t 2 = numB t.dev ++ numB t.ep := by simp [tokP]
theorem tokP3 (t : TO) : tokP t 3 = numB t.dev ++ numB t.ep ++ numB t.sq := by simp [tokP]
theorem tokP4 (t : TO) : tokP t 4 = numB t.dev ++ numB t.ep ++ numB t.sq ++ numB t.cu := by simp [tokP]
theorem pputtok_call (bs : BL) (hb : bs.length ≤ 400000) (tt : Bool) (t : TO) (hok : tokOk t = true) : MCalls Tryz.prog 62 [.lst 1 (bs.map bc) tt, .agg t.c] St.none (fun r _ => r = .lst 1 ((bs ++ tokB t).map bc) false) := by
 refine MCalls.drops (MCalls.body 22 [.tmp 4] Tryz.func62 rfl rfl rfl rfl ?_)
 have hc := ptcheck_call t
 rw [hok] at hc
 have hp := ptparts_call t
 have l1 := numB_len t.dev
 have l2 := numB_len t.ep
 have l3 := numB_len t.sq
 have n1 := pnum_call bs tt t.dev (by omega)
 have n2 := pnum_call (bs ++ numB t.dev) false t.ep (by simp only [List.length_append]; omega)
 have n3 := pnum_call (bs ++ numB t.dev ++ numB t.ep) false t.sq (by simp only [List.length_append]; omega)
 have n4 := pnum_call (bs ++ numB t.dev ++ numB t.ep ++ numB t.sq) false t.cu (by simp only [List.length_append]; omega)
 unfold tokB
 rw [if_pos hok]
 repeat' (first | (with_reducible first | refine up hc ?_ | refine up hp ?_) | (with_reducible first | (refine wN fun _ hnl => ?_; revert hnl; (repeat refine wS fun _ _ => ?_); intro hnl) | refine wE ?_ | (refine wK ?_ ?_ <;> intro h) | (refine wB ?_ ?_ <;> intro h <;> simp only [h])) | simp (maxSteps := 4000000) (disch := first | decide | assumption | omega | (simp only [wL]; omega)) only [go_sem, simprocAttr, Tryz.f62])
 refine mloop_intro (α := Int) (fun i => ⟨22, [(14, .int .i64 i), (13, .agg t.c), (0, .lst 1 ((bs ++ tokP t i).map bc) (if i = 0 then tt else false))], []⟩)
  (fun _ => St.none) (fun i => 0 ≤ i ∧ i ≤ 4) (fun i => (4 - i).toNat) (.of (.less ?_ (St.none_le _)) ⟨0, rfl, rfl, by omega, by omega⟩) ?_
 ·rw [tokP0, List.append_nil]
  simp (maxSteps := 4000000) (disch := first | decide | assumption | omega | (simp only [wL]; omega)) only [go_sem, simprocAttr, weak_int, weak_same]
 ·rintro i ⟨h0, h4⟩
  have hi : i = 0 ∨ i = 1 ∨ i = 2 ∨ i = 3 ∨ i = 4 := by omega
  rcases hi with rfl | rfl | rfl | rfl | rfl
  all_goals
   simp only [tokP0, tokP1, tokP2, tokP3, tokP4, Int.reduceEq, if_true, if_false, ← List.append_assoc, List.append_nil]
   repeat' (first | (with_reducible first | refine up n1 ?_ | refine up n2 ?_ | refine up n3 ?_ | refine up n4 ?_) | (with_reducible first | (refine wN fun _ hnl => ?_; revert hnl; (repeat refine wS fun _ _ => ?_); intro hnl) | refine wE ?_ | (refine wK ?_ ?_ <;> intro h) | (refine wB ?_ ?_ <;> intro h <;> simp only [h])) | simp (maxSteps := 4000000) (disch := first | decide | assumption | omega | (simp only [wL]; omega)) only [go_sem, simprocAttr])
  case' inr.inr.inr.inr => first | exact ⟨_, St.le_refl _, rfl⟩ | exact ⟨_, St.le_refl _⟩
  all_goals first
   | refine .of (.less ?_ (St.none_le _)) ⟨1, rfl, rfl, ⟨by omega, by omega⟩, by omega⟩
   | refine .of (.less ?_ (St.none_le _)) ⟨2, rfl, rfl, ⟨by omega, by omega⟩, by omega⟩
   | refine .of (.less ?_ (St.none_le _)) ⟨3, rfl, rfl, ⟨by omega, by omega⟩, by omega⟩
   | refine .of (.less ?_ (St.none_le _)) ⟨4, rfl, rfl, ⟨by omega, by omega⟩, by omega⟩
  all_goals
   simp only [tokP0, tokP1, tokP2, tokP3, tokP4, Int.reduceEq, if_true, if_false, ← List.append_assoc, List.append_nil]
   simp (maxSteps := 4000000) (disch := first | decide | assumption | omega | (simp only [wL]; omega)) only [go_sem, simprocAttr, weak_int, weak_same]
end Go.Proofs.YtfbodefnblpflaaGreatDoor
end

section
namespace Go.Proofs.YtfbodefnblpflaaGreatDoor
set_option maxRecDepth 100000
def deepest (l : List T) : Nat := l.foldl (fun d t => max d t.depth) 0
theorem T.depth_kids (t : T) : t.depth = deepest t.kids + 1 := by
 cases t <;> simp only [T.depth, T.kids, deepest, List.foldl_nil, List.foldl_cons] <;> omega
theorem deepest_snoc (l : List T) (t : T) : deepest (l ++ [t]) = max (deepest l) t.depth := by simp [deepest]
theorem T.depth_le : ∀ t : T, t.depth ≤ t.fl.length
 | .leaf _ => by simp [T.depth, T.fl]
 | .one _ a => by have := T.depth_le a; simp only [T.depth, T.fl, List.length_cons]; omega
 | .two _ a b => by have := T.depth_le a; have := T.depth_le b; simp only [T.depth, T.fl, List.length_cons, List.length_append]; omega
theorem kid_small {t k : T} (h : k ∈ t.kids) : k.fl.length < t.fl.length := by
 cases t <;> simp only [T.kids, List.mem_cons, List.not_mem_nil, or_false] at h
 ·subst h; simp only [T.fl, List.length_cons]; omega
 ·rcases h with rfl | rfl <;> simp only [T.fl, List.length_cons, List.length_append] <;> omega
theorem kid_ok {t k : T} (ht : t.ok) (h : k ∈ t.kids) : k.ok := by
 cases t <;> simp only [T.kids, List.mem_cons, List.not_mem_nil, or_false] at h
 ·subst h; exact ht.2
 ·rcases h with rfl | rfl
  ·exact ht.2.1
  ·exact ht.2.2
theorem rdepth_tree : ∀ (n : Nat) (t : T), t.ok → endS t.fl 0 = (t.fl.length : Int) → t.fl.length ≤ n → n ≤ 1000 → ∀ tt : Bool, MCalls Tryz.prog 138 [.lst 5 (t.fl.map ND.c) tt] St.none (fun r _ => r = .int .i64 (t.depth : Int)) := by
 intro n
 induction n with
 | zero => intro t h _ hl; have := t.fl_pos; omega
 | succ n ih =>
  intro t h he hl hn tt
  refine (MCalls.body 33 [.tmp 2] Tryz.func138 rfl rfl rfl rfl ?_)
  have hend := rend_call t.fl (by omega) tt 0
  rw [he] at hend
  have hk := rkids_call t h (by omega) tt
  have hpos := t.fl_pos
  have hkl : t.kids.length ≤ 2 := by cases t <;> simp [T.kids]
  repeat' (first | (with_reducible first | refine up hend ?_ | refine up hk ?_) | (with_reducible first | (refine wN fun _ hnl => ?_; revert hnl; (repeat refine wS fun _ _ => ?_); intro hnl) | refine wE ?_ | (refine wK ?_ ?_ <;> intro h) | (refine wB ?_ ?_ <;> intro h <;> simp only [h])) | simp (maxSteps := 4000000) (disch := first | decide | assumption | omega | (simp only [wL]; omega)) only [go_sem, simprocAttr, Tryz.f138])
  refine mloop_intro (α := Nat) (fun i => ⟨33, [(5, .int .i64 (i : Int)), (4, .int .i64 (deepest (t.kids.take i) : Int)), (3, .lst 1 t.kl false)], []⟩) (fun _ => St.none) (fun i => i ≤ t.kids.length) (fun i => t.kids.length - i) (.of (.less ?_ (St.le_refl _)) ⟨0, rfl, rfl, Nat.zero_le _⟩) ?_
  ·simp (maxSteps := 4000000) (disch := first | decide | assumption | omega | (simp only [wL]; omega)) only [go_sem, simprocAttr, weak_int, weak_same]
   all_goals rfl
  ·intro i hi
   have hi : i ≤ t.kids.length := hi
   by_cases hlt : i < t.kids.length
   ·have hm := getD_mem (T.leaf nd0) hlt
    have hko := kid_ok h hm
    have hks := kid_small hm
    have hke : endS (t.kids.getD i (.leaf nd0)).fl 0 = ((t.kids.getD i (.leaf nd0)).fl.length : Int) := by
     have := endS_fl hko [] []
     simpa using this
    have hd := ih _ hko hke (by omega) (by omega) false
    have hdl := T.depth_le (t.kids.getD i (.leaf nd0))
    have hsn : deepest (t.kids.take (i + 1)) = max (deepest (t.kids.take i)) (t.kids.getD i (.leaf nd0)).depth := by
     rw [List.take_succ_eq_append_getElem hlt, ← getD_of_lt (.leaf nd0) hlt, deepest_snoc]
    repeat' (first | (with_reducible first | refine up hd ?_) | (with_reducible first | (refine wN fun _ hnl => ?_; revert hnl; (repeat refine wS fun _ _ => ?_); intro hnl) | refine wE ?_ | (refine wK ?_ ?_ <;> intro h) | (refine wB ?_ ?_ <;> intro h <;> simp only [h])) | simp (maxSteps := 4000000) (disch := first | decide | assumption | omega | (simp only [wL]; omega)) only [go_sem, simprocAttr, getD_mapd (T.leaf nd0)])
    refine .of (.less (l1 := [(5, .int .i64 ((i + 1 : Nat) : Int)), (4, .int .i64 (deepest (t.kids.take (i + 1)) : Int)), (3, .lst 1 t.kl false)]) ?_ (St.le_refl _)) ⟨i + 1, rfl, rfl, by omega, by omega⟩
    rw [hsn]
    simp (maxSteps := 4000000) (disch := first | decide | assumption | omega | (simp only [wL]; omega)) only [go_sem, simprocAttr, weak_int, weak_same]
    all_goals omega
   ·have : i = t.kids.length := by omega
    subst this
    have hdk := t.depth_kids
    have hdl := t.depth_le
    rw [List.take_length]
    repeat' (first | (with_reducible first | (refine wN fun _ hnl => ?_; revert hnl; (repeat refine wS fun _ _ => ?_); intro hnl) | refine wE ?_ | (refine wK ?_ ?_ <;> intro h) | (refine wB ?_ ?_ <;> intro h <;> simp only [h])) | simp (maxSteps := 4000000) (disch := first | decide | assumption | omega | (simp only [wL]; omega)) only [go_sem, simprocAttr])
    all_goals (first | rfl | (congr 1; omega) | omega)
theorem rdepth_call (l : List ND) (hl : l.length ≤ 1000) (tt : Bool) : MCalls Tryz.prog 138 [.lst 5 (l.map ND.c) tt] St.none (fun r _ => r = .int .i64 (depthS l : Int)) := by
 by_cases h : l = [] ∨ endS l 0 ≠ l.length
 ·have e : depthS l = 0 := by unfold depthS; rw [if_pos h]
  rw [e]
  refine (MCalls.body 33 [.tmp 2] Tryz.func138 rfl rfl rfl rfl ?_)
  have hend := rend_call l (by omega) tt 0
  rcases h with rfl | h
  ·repeat' (first | (with_reducible first | refine up hend ?_) | (with_reducible first | (refine wN fun _ hnl => ?_; revert hnl; (repeat refine wS fun _ _ => ?_); intro hnl) | refine wE ?_ | (refine wK ?_ ?_ <;> intro h) | (refine wB ?_ ?_ <;> intro h <;> simp only [h])) | simp (maxSteps := 4000000) (disch := first | decide | assumption | omega | (simp only [wL]; omega)) only [go_sem, simprocAttr, Tryz.f138])
   all_goals rfl
  ·repeat' (first | (with_reducible first | refine up hend ?_) | (with_reducible first | (refine wN fun _ hnl => ?_; revert hnl; (repeat refine wS fun _ _ => ?_); intro hnl) | refine wE ?_ | (refine wK ?_ ?_ <;> intro h) | (refine wB ?_ ?_ <;> intro h <;> simp only [h])) | simp (maxSteps := 4000000) (disch := first | decide | assumption | omega | (simp only [wL]; omega)) only [go_sem, simprocAttr, Tryz.f138])
   all_goals rfl
 ·have h2 : endS l 0 = l.length := Classical.not_not.1 fun h3 => h (.inr h3)
  obtain ⟨t, ht, rfl⟩ := parse h2
  rw [depth_tree ht h2]
  exact rdepth_tree _ t ht h2 hl (Nat.le_refl _) tt
theorem rpcheck_call (l : List ND) (tt : Bool) : MCalls Tryz.prog 81 [.lst 5 (l.map ND.c) tt] St.none (fun r _ => r = .int .i64 (predErr l)) := by
 refine (MCalls.body 32 [.tmp 2] Tryz.func81 rfl rfl rfl rfl ?_)
 unfold predErr
 by_cases h31 : 31 < l.length
 ·rw [if_pos h31]
  repeat' (first | (with_reducible first | (refine wN fun _ hnl => ?_; revert hnl; (repeat refine wS fun _ _ => ?_); intro hnl) | refine wE ?_ | (refine wK ?_ ?_ <;> intro h) | (refine wB ?_ ?_ <;> intro h <;> simp only [h])) | simp (maxSteps := 4000000) (disch := first | decide | assumption | omega | (simp only [wL]; omega)) only [go_sem, simprocAttr, Tryz.f81])
  all_goals rfl
 ·rw [if_neg h31]
  have hend := rend_call l (by omega) tt 0
  have hd := rdepth_call l (by omega) tt
  repeat' (first | (with_reducible first | (refine wN fun _ hnl => ?_; revert hnl; (repeat refine wS fun _ _ => ?_); intro hnl) | refine wE ?_ | (refine wK ?_ ?_ <;> intro h) | (refine wB ?_ ?_ <;> intro h <;> simp only [h])) | simp (maxSteps := 4000000) (disch := first | decide | assumption | omega | (simp only [wL]; omega)) only [go_sem, simprocAttr, Tryz.f81])
  refine mloop_intro (α := Nat) (fun i => ⟨32, [(3, .int .i64 (i : Int)), (0, .lst 5 (l.map ND.c) tt)], []⟩) (fun _ => St.none) (fun i => i ≤ l.length ∧ (l.take i).all ndOk = true) (fun i => l.length - i) (.of (.less ?_ (St.le_refl _)) ⟨0, rfl, rfl, Nat.zero_le _, rfl⟩) ?_
  ·simp (maxSteps := 4000000) (disch := first | decide | assumption | omega | (simp only [wL]; omega)) only [go_sem, simprocAttr, weak_int, weak_same]
   all_goals rfl
  ·rintro i ⟨hi, hq⟩
   by_cases hlt : i < l.length
   ·have hn := rnode_call (l.getD i nd0)
    cases hok : ndOk (l.getD i nd0) <;> rw [hok] at hn
    ·repeat' (first | (with_reducible first | refine up hn ?_) | (with_reducible first | (refine wN fun _ hnl => ?_; revert hnl; (repeat refine wS fun _ _ => ?_); intro hnl) | refine wE ?_ | (refine wK ?_ ?_ <;> intro h) | (refine wB ?_ ?_ <;> intro h <;> simp only [h])) | simp (maxSteps := 4000000) (disch := first | decide | assumption | omega | (simp only [wL]; omega)) only [go_sem, simprocAttr, getD_mapd nd0])
     rw [if_pos]
     refine .inr (.inr ?_)
     cases hb : l.all ndOk
     ·rfl
     ·have := List.all_eq_true.1 hb _ (getD_mem nd0 hlt)
      rw [hok] at this; cases this
    ·repeat' (first | (with_reducible first | refine up hn ?_) | (with_reducible first | (refine wN fun _ hnl => ?_; revert hnl; (repeat refine wS fun _ _ => ?_); intro hnl) | refine wE ?_ | (refine wK ?_ ?_ <;> intro h) | (refine wB ?_ ?_ <;> intro h <;> simp only [h])) | simp (maxSteps := 4000000) (disch := first | decide | assumption | omega | (simp only [wL]; omega)) only [go_sem, simprocAttr, getD_mapd nd0])
     refine .of (.less ?_ (St.le_refl _)) ⟨i + 1, rfl, rfl, ⟨by omega, by rw [all_take_succ hlt, hq, ← getD_of_lt nd0 hlt, hok]; rfl⟩, by omega⟩
     simp (maxSteps := 4000000) (disch := first | decide | assumption | omega | (simp only [wL]; omega)) only [go_sem, simprocAttr, weak_int, weak_same]
     all_goals rfl
   ·have : i = l.length := by omega
    subst this
    rw [List.take_length] at hq
    rw [hq]
    by_cases he : l = [] ∨ endS l 0 ≠ l.length
    ·rw [if_pos (by rcases he with h | h; exact .inl h; exact .inr (.inl h))]
     rcases he with rfl | he
     ·repeat' (first | (with_reducible first | refine up hend ?_) | (with_reducible first | (refine wN fun _ hnl => ?_; revert hnl; (repeat refine wS fun _ _ => ?_); intro hnl) | refine wE ?_ | (refine wK ?_ ?_ <;> intro h) | (refine wB ?_ ?_ <;> intro h <;> simp only [h])) | simp (maxSteps := 4000000) (disch := first | decide | assumption | omega | (simp only [wL]; omega)) only [go_sem, simprocAttr])
      all_goals rfl
     ·repeat' (first | (with_reducible first | refine up hend ?_) | (with_reducible first | (refine wN fun _ hnl => ?_; revert hnl; (repeat refine wS fun _ _ => ?_); intro hnl) | refine wE ?_ | (refine wK ?_ ?_ <;> intro h) | (refine wB ?_ ?_ <;> intro h <;> simp only [h])) | simp (maxSteps := 4000000) (disch := first | decide | assumption | omega | (simp only [wL]; omega)) only [go_sem, simprocAttr])
      all_goals rfl
    ·have he1 : 0 < l.length := by
      cases l with
      | nil => exact absurd (.inl rfl) he
      | cons x l => simp
     have he2 : endS l 0 = l.length := Classical.not_not.1 fun h3 => he (.inr h3)
     rw [he2] at hend
     rw [if_neg (by rintro (h | h | h); exact he (.inl h); exact he (.inr h); cases h)]
     repeat' (first | (with_reducible first | refine up hend ?_ | refine up hd ?_) | (with_reducible first | (refine wN fun _ hnl => ?_; revert hnl; (repeat refine wS fun _ _ => ?_); intro hnl) | refine wE ?_ | (refine wK ?_ ?_ <;> intro h) | (refine wB ?_ ?_ <;> intro h <;> simp only [h])) | simp (maxSteps := 4000000) (disch := first | decide | assumption | omega | (simp only [wL]; omega)) only [go_sem, simprocAttr])
     all_goals (try simp only [Classical.not_not] at *)
     all_goals (first | (simp [*]; done) | (simp only []; (repeat' split) <;> (first | (simp_all; done) | omega | (exfalso; omega))) | skip)
     all_goals (first | (rw [if_pos (by omega)]; done) | (rw [if_neg (by omega)]; done))
end Go.Proofs.YtfbodefnblpflaaGreatDoor
end
