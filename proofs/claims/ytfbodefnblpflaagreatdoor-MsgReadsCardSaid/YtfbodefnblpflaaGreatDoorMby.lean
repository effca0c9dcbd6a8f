/- Parts of the proof, joined. Each part says what it proves, and under which conditions it does: those that its theorems name. -/
import Derived.Test.YtfbodefnblpflaaGreatDoorMbs
import Derived.Test.YtfbodefnblpflaaGreatDoorMbx
set_option linter.unusedVariables false
set_option linter.unusedSimpArgs false
set_option maxHeartbeats 4000000
namespace Go.Proofs.YtfbodefnblpflaaGreatDoor
set_option maxRecDepth 100000
def deepest (l : List T) : Nat := l.foldl (fun d t => max d t.depth) 0
theorem T.depth_kids (t : T) : t.depth = deepest t.kids + 1 := by
 cases t <;> simp only [T.depth, T.kids, deepest, List.foldl_nil, List.foldl_cons] <;> omega
theorem deepest_snoc (l : List T) (t : T) : deepest (l ++ [t]) = max (deepest l) t.depth := by simp [deepest]
theorem T.depth_le : ∀ t : T, t.depth ≤ t.fl.length
 | .leaf _ => by simp [T.depth, T.fl]
 | .one _ a => by have := T.depth_le a; simp only [T.depth, T.fl, List.length_cons]; omega
 | .two _ a b => by have := T.depth_le a; have := T.depth_le b; simp only [T.depth, T.fl, List.length_cons, List.length_append]; omega
theorem kid_small {t k : T} (h : k ∈ t.kids) : k.fl.length < t.fl.length := by
 cases t <;> simp only [T.kids, List.mem_cons, List.not_mem_nil, or_false] at h
 ·subst h; simp only [T.fl, List.length_cons]; omega
 ·rcases h with rfl | rfl <;> simp only [T.fl, List.length_cons, List.length_append] <;> omega
theorem kid_ok {t k : T} (ht : t.ok) (h : k ∈ t.kids) : k.ok := by
 cases t <;> simp only [T.kids, List.mem_cons, List.not_mem_nil, or_false] at h
 ·subst h; exact ht.2
 ·rcases h with rfl | rfl
  ·exact ht.2.1
  ·exact ht.2.2
theorem rdepth_tree : ∀ (n : Nat) (t : T), t.ok → endS t.fl 0 = (t.fl.length : Int) → t.fl.length ≤ n → n ≤ 1000 → ∀ tt : Bool, MCalls Tryz.prog 138 [.lst 5 (t.fl.map ND.c) tt] St.none (fun r _ => r = .int .i64 (t.depth : Int)) := by
 intro n
 induction n with
 | zero => intro t h _ hl; have := t.fl_pos; omega
 | succ n ih =>
  intro t h he hl hn tt
  refine (MCalls.body 33 [.tmp 2] Tryz.func138 rfl rfl rfl rfl ?_)
  have hend := rend_call t.fl (by omega) tt 0
  rw [he] at hend
  have hk := rkids_call t h (by omega) tt
  have hpos := t.fl_pos
  have hkl : t.kids.length ≤ 2 := by cases t <;> simp [T.kids]
  repeat' (first | (with_reducible first | refine up hend ?_ | refine up hk ?_) | (with_reducible first | (refine wN fun _ hnl => ?_; revert hnl; (repeat refine wS fun _ _ => ?_); intro hnl) | refine wE ?_ | (refine wK ?_ ?_ <;> intro h) | (refine wB ?_ ?_ <;> intro h <;> simp only [h])) | simp (maxSteps := 4000000) (disch := first | decide | assumption | omega | (simp only [wL]; omega)) only [go_sem, simprocAttr, Tryz.f138])
  refine mloop_intro (α := Nat) (fun i => ⟨33, [(5, .int .i64 (i : Int)), (4, .int .i64 (deepest (t.kids.take i) : Int)), (3, .lst 1 t.kl false)], []⟩) (fun _ => St.none) (fun i => i ≤ t.kids.length) (fun i => t.kids.length - i) (.of (.less ?_ (St.le_refl _)) ⟨0, rfl, rfl, Nat.zero_le _⟩) ?_
  ·simp (maxSteps := 4000000) (disch := first | decide | assumption | omega | (simp only [wL]; omega)) only [go_sem, simprocAttr, weak_int, weak_same]
   all_goals rfl
  ·intro i hi
   have hi : i ≤ t.kids.length := hi
   by_cases hlt : i < t.kids.length
   ·have hm := getD_mem (T.leaf nd0) hlt
    have hko := kid_ok h hm
    have hks := kid_small hm
    have hke : endS (t.kids.getD i (.leaf nd0)).fl 0 = ((t.kids.getD i (.leaf nd0)).fl.length : Int) := by
     have := endS_fl hko [] []
     simpa using this
    have hd := ih _ hko hke (by omega) (by omega) false
    have hdl := T.depth_le (t.kids.getD i (.leaf nd0))
    have hsn : deepest (t.kids.take (i + 1)) = max (deepest (t.kids.take i)) (t.kids.getD i (.leaf nd0)).depth := by
     rw [List.take_succ_eq_append_getElem hlt, ← getD_of_lt (.leaf nd0) hlt, deepest_snoc]
    repeat' (first | (with_reducible first | refine up hd ?_) | (with_reducible first | (refine wN fun _ hnl => ?_; revert hnl; (repeat refine wS fun _ _ => ?_); intro hnl) | refine wE ?_ | (refine wK ?_ ?_ <;> intro h) | (refine wB ?_ ?_ <;> intro h <;> simp only [h])) | simp (maxSteps := 4000000) (disch := first | decide | assumption | omega | (simp only [wL]; omega)) only [go_sem, simprocAttr, getD_mapd (T.leaf nd0)])
    refine .of (.less (l1 := [(5, .int .i64 ((i + 1 : Nat) : Int)), (4, .int .i64 (deepest (t.kids.take (i + 1)) : Int)), (3, .lst 1 t.kl false)]) ?_ (St.le_refl _)) ⟨i + 1, rfl, rfl, by omega, by omega⟩
    rw [hsn]
    simp (maxSteps := 4000000) (disch := first | decide | assumption | omega | (simp only [wL]; omega)) only [go_sem, simprocAttr, weak_int, weak_same]
    all_goals omega
   ·have : i = t.kids.length := by omega
    subst this
    have hdk := t.depth_kids
    have hdl := t.depth_le
    rw [List.take_length]
    repeat' (first | (with_reducible first | (refine wN fun _ hnl => ?_; revert hnl; (repeat refine wS fun _ _ => ?_); intro hnl) | refine wE ?_ | (refine wK ?_ ?_ <;> intro h) | (refine wB ?_ ?_ <;> intro h <;> simp only [h])) | simp (maxSteps := 4000000) (disch := first | decide | assumption | omega | (simp only [wL]; omega)) only [go_sem, simprocAttr])
    all_goals (first | rfl | (congr 1; omega) | omega)
theorem rdepth_call (l : List ND) (hl : l.length ≤ 1000) (tt : Bool) : MCalls Tryz.prog 138 [.lst 5 (l.map ND.c) tt] St.none (fun r _ => r = .int .i64 (depthS l : Int)) := by
 by_cases h : l = [] ∨ endS l 0 ≠ l.length
 ·have e : depthS l = 0 := by unfold depthS; rw [if_pos h]
  rw [e]
  refine (MCalls.body 33 [.tmp 2] Tryz.func138 rfl rfl rfl rfl ?_)
  have hend := rend_call l (by omega) tt 0
  rcases h with rfl | h
  ·repeat' (first | (with_reducible first | refine up hend ?_) | (with_reducible first | (refine wN fun _ hnl => ?_; revert hnl; (repeat refine wS fun _ _ => ?_); intro hnl) | refine wE ?_ | (refine wK ?_ ?_ <;> intro h) | (refine wB ?_ ?_ <;> intro h <;> simp only [h])) | simp (maxSteps := 4000000) (disch := first | decide | assumption | omega | (simp only [wL]; omega)) only [go_sem, simprocAttr, Tryz.f138])
   all_goals rfl
  ·repeat' (first | (with_reducible first | refine up hend ?_) | (with_reducible first | (refine wN fun _ hnl => ?_; revert hnl; (repeat refine wS fun _ _ => ?_); intro hnl) | refine wE ?_ | (refine wK ?_ ?_ <;> intro h) | (refine wB ?_ ?_ <;> intro h <;> simp only [h])) | simp (maxSteps := 4000000) (disch := first | decide | assumption | omega | (simp only [wL]; omega)) only [go_sem, simprocAttr, Tryz.f138])
   all_goals rfl
 ·have h2 : endS l 0 = l.length := Classical.not_not.1 fun h3 => h (.inr h3)
  obtain ⟨t, ht, rfl⟩ := parse h2
  rw [depth_tree ht h2]
  exact rdepth_tree _ t ht h2 hl (Nat.le_refl _) tt
theorem rpcheck_call (l : List ND) (tt : Bool) : MCalls Tryz.prog 81 [.lst 5 (l.map ND.c) tt] St.none (fun r _ => r = .int .i64 (predErr l)) := by
 refine (MCalls.body 32 [.tmp 2] Tryz.func81 rfl rfl rfl rfl ?_)
 unfold predErr
 by_cases h31 : 31 < l.length
 ·rw [if_pos h31]
  repeat' (first | (with_reducible first | (refine wN fun _ hnl => ?_; revert hnl; (repeat refine wS fun _ _ => ?_); intro hnl) | refine wE ?_ | (refine wK ?_ ?_ <;> intro h) | (refine wB ?_ ?_ <;> intro h <;> simp only [h])) | simp (maxSteps := 4000000) (disch := first | decide | assumption | omega | (simp only [wL]; omega)) only [go_sem, simprocAttr, Tryz.f81])
  all_goals rfl
 ·rw [if_neg h31]
  have hend := rend_call l (by omega) tt 0
  have hd := rdepth_call l (by omega) tt
  repeat' (first | (with_reducible first | (refine wN fun _ hnl => ?_; revert hnl; (repeat refine wS fun _ _ => ?_); intro hnl) | refine wE ?_ | (refine wK ?_ ?_ <;> intro h) | (refine wB ?_ ?_ <;> intro h <;> simp only [h])) | simp (maxSteps := 4000000) (disch := first | decide | assumption | omega | (simp only [wL]; omega)) only [go_sem, simprocAttr, Tryz.f81])
  refine mloop_intro (α := Nat) (fun i => ⟨32, [(3, .int .i64 (i : Int)), (0, .lst 5 (l.map ND.c) tt)], []⟩) (fun _ => St.none) (fun i => i ≤ l.length ∧ (l.take i).all ndOk = true) (fun i => l.length - i) (.of (.less ?_ (St.le_refl _)) ⟨0, rfl, rfl, Nat.zero_le _, rfl⟩) ?_
  ·simp (maxSteps := 4000000) (disch := first | decide | assumption | omega | (simp only [wL]; omega)) only [go_sem, simprocAttr, weak_int, weak_same]
   all_goals rfl
  ·rintro i ⟨hi, hq⟩
   by_cases hlt : i < l.length
   ·have hn := rnode_call (l.getD i nd0)
    cases hok : ndOk (l.getD i nd0) <;> rw [hok] at hn
    ·repeat' (first | (with_reducible first | refine up hn ?_) | (with_reducible first | (refine wN fun _ hnl => ?_; revert hnl; (repeat refine wS fun _ _ => ?_); intro hnl) | refine wE ?_ | (refine wK ?_ ?_ <;> intro h) | (refine wB ?_ ?_ <;> intro h <;> simp only [h])) | simp (maxSteps := 4000000) (disch := first | decide | assumption | omega | (simp only [wL]; omega)) only [go_sem, simprocAttr, getD_mapd nd0])
     rw [if_pos]
     refine .inr (.inr ?_)
     cases hb : l.all ndOk
     ·rfl
     ·have := List.all_eq_true.1 hb _ (getD_mem nd0 hlt)
      rw [hok] at this; cases this
    ·repeat' (first | (with_reducible first | refine up hn ?_) | (with_reducible first | (refine wN fun _ hnl => ?_; revert hnl; (repeat refine wS fun _ _ => ?_); intro hnl) | refine wE ?_ | (refine wK ?_ ?_ <;> intro h) | (refine wB ?_ ?_ <;> intro h <;> simp only [h])) | simp (maxSteps := 4000000) (disch := first | decide | assumption | omega | (simp only [wL]; omega)) only [go_sem, simprocAttr, getD_mapd nd0])
     refine .of (.less ?_ (St.le_refl _)) ⟨i + 1, rfl, rfl, ⟨by omega, by rw [all_take_succ hlt, hq, ← getD_of_lt nd0 hlt, hok]; rfl⟩, by omega⟩
     simp (maxSteps := 4000000) (disch := first | decide | assumption | omega | (simp only [wL]; omega)) only [go_sem, simprocAttr, weak_int, weak_same]
     all_goals rfl
   ·have : i = l.length := by omega
    subst this
    rw [List.take_length] at hq
    rw [hq]
    by_cases he : l = [] ∨ endS l 0 ≠ l.length
    ·rw [if_pos (by rcases he with h | h; exact .inl h; exact .inr (.inl h))]
     rcases he with rfl | he
     ·repeat' (first | (with_reducible first | refine up hend ?_) | (with_reducible first | (refine wN fun _ hnl => ?_; revert hnl; (repeat refine wS fun _ _ => ?_); intro hnl) | refine wE ?_ | (refine wK ?_ ?_ <;> intro h) | (refine wB ?_ ?_ <;> intro h <;> simp only [h])) | simp (maxSteps := 4000000) (disch := first | decide | assumption | omega | (simp only [wL]; omega)) only [go_sem, simprocAttr])
      all_goals rfl
     ·repeat' (first | (with_reducible first | refine up hend ?_) | (with_reducible first | (refine wN fun _ hnl => ?_; revert hnl; (repeat refine wS fun _ _ => ?_); intro hnl) | refine wE ?_ | (refine wK ?_ ?_ <;> intro h) | (refine wB ?_ ?_ <;> intro h <;> simp only [h])) | simp (maxSteps := 4000000) (disch := first | decide | assumption | omega | (simp only [wL]; omega)) only [go_sem, simprocAttr])
      all_goals rfl
    ·have he1 : 0 < l.length := by
      cases l with
      | nil => exact absurd (.inl rfl) he
      | cons x l => simp
     have he2 : endS l 0 = l.length := Classical.not_not.1 fun h3 => he (.inr h3)
     rw [he2] at hend
     rw [if_neg (by rintro (h | h | h); exact he (.inl h); exact he (.inr h); cases h)]
     repeat' (first | (with_reducible first | refine up hend ?_ | refine up hd ?_) | (with_reducible first | (refine wN fun _ hnl => ?_; revert hnl; (repeat refine wS fun _ _ => ?_); intro hnl) | refine wE ?_ | (refine wK ?_ ?_ <;> intro h) | (refine wB ?_ ?_ <;> intro h <;> simp only [h])) | simp (maxSteps := 4000000) (disch := first | decide | assumption | omega | (simp only [wL]; omega)) only [go_sem, simprocAttr])
     all_goals (try simp only [Classical.not_not] at *)
     all_goals (first | (simp [*]; done) | (simp only []; (repeat' split) <;> (first | (simp_all; done) | omega | (exfalso; omega))) | skip)
     all_goals (first | (rw [if_pos (by omega)]; done) | (rw [if_neg (by omega)]; done))
theorem rmost_call (op : Int) : MCalls Tryz.prog 176 [.int .i64 op] St.none (fun r _ => r = .int .i64 (mostN op)) := by
 refine (MCalls.body 7 [.tmp 2] Tryz.func176 rfl rfl rfl rfl ?_)
 repeat' (first | (with_reducible first | (refine wN fun _ hnl => ?_; revert hnl; (repeat refine wS fun _ _ => ?_); intro hnl) | refine wE ?_ | (refine wK ?_ ?_ <;> intro h) | (refine wB ?_ ?_ <;> intro h <;> simp only [h])) | simp (maxSteps := 4000000) (disch := first | decide | assumption | omega | (simp only [wL]; omega)) only [go_sem, simprocAttr, Tryz.f176])
 all_goals (try simp only [Classical.not_not] at *)
 all_goals (first | (simp [mostN, *]; done) | (simp only [mostN]; (repeat' split) <;> (first | (simp_all; done) | omega | (exfalso; omega))) | skip)
end Go.Proofs.YtfbodefnblpflaaGreatDoor
