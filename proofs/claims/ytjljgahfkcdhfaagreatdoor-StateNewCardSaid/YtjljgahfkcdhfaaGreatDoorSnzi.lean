/- Parts of the proof, joined. Each part says what it proves, and under which conditions it does: those that its theorems name. -/
import Derived.Test.YtjljgahfkcdhfaaGreatDoorSnzh
import Derived.Lib.SliceRun
import Derived.OwnWalk
set_option linter.unusedVariables false
set_option linter.unusedSimpArgs false
set_option maxHeartbeats 4000000
section
namespace Go.Proofs.YtjljgahfkcdhfaaGreatDoor
set_option maxRecDepth 100000
set_option maxHeartbeats 4000000
abbrev st0v (q : Nat) : List MV := [.int .i64 0, .int .i64 1, .lst 27 [] false, .nils, .nils, .nils, .vec 12 q 0 6]
abbrev rw6 : MObj := .row 41 12 (List.replicate 6 rw0z)
theorem bk0_ne {σ : St} {m l b : Nat} (h1 : l ≠ m) (h2 : b ≠ m) (h3 : b ≠ l) : (bk0 m l b).le (((σ.set m (.mp [])).set l (shO 1 m .nils)).set b (bkO 0 l .nils)) :=
 fun j o h => by
  simp only [bk0, St.set, St.none] at h ⊢
  split
  ·rename_i e; rw [if_pos e] at h; exact h
  ·rename_i e
   rw [if_neg e] at h
   split
   ·rename_i e; rw [if_pos e] at h; exact h
   ·rename_i e
    rw [if_neg e] at h
    split
    ·rename_i e; rw [if_pos e] at h; exact h
    ·rename_i e; rw [if_neg e] at h; cases h
theorem stnew_call : MCalls Tryz.prog 5 [] St.none (fun v σ' => ∃ q, v = .agg (st0v q) ∧ σ' = St.none.set q rw6) := by
 refine MCalls.less (Q' := fun v σ' => ∃ q, v = .agg (st0v q) ∧ σ' q = some rw6) (MCalls.body 6 [.cell 0 30] Tryz.func5 rfl rfl rfl rfl ?_) fun v σ' h => ?_
 rotate_left
 ·obtain ⟨q, rfl, h⟩ := h
  exact ⟨_, St.set_le (St.none_le _) h, q, rfl, rfl⟩
 have hd := bkdata0_call
 have hg := lgdata0_call
 repeat' (first | (refine use_new3 bknew_call ?_; (intro m l b hm hl hb hlm hbm hbl; have hml := Ne.symm hlm; have hmb := Ne.symm hbm; have hlb := Ne.symm hbl; have m1 := (none_ne hm).1; have l1 := (none_ne hl).1; have b1 := (none_ne hb).1; have m2 := Ne.symm m1; have l2 := Ne.symm l1; have b2 := Ne.symm b1)) | ((refine use_same (hd _ _ _ (by assumption) (by assumption) (by assumption)) (bk0_ne (by assumption) (by assumption) (by assumption)) ?_)) | (refine use_new lgnew_call ?_; (intro g hgg; obtain ⟨g1, hgg⟩ := none_ne hgg; obtain ⟨g2, hgg⟩ := none_ne hgg; obtain ⟨g3, hgg⟩ := none_ne hgg; obtain ⟨g4, -⟩ := none_ne hgg; have g1' := Ne.symm g1; have g2' := Ne.symm g2; have g3' := Ne.symm g3; have g4' := Ne.symm g4)) | (refine use_newK (hg _) (St.set_le (St.none_le _) (set_hit _ _ _)) ?_; (intro q hq; obtain ⟨q0, hq⟩ := none_ne hq; obtain ⟨q1, hq⟩ := none_ne hq; obtain ⟨q2, hq⟩ := none_ne hq; obtain ⟨q3, hq⟩ := none_ne hq; obtain ⟨q4, -⟩ := none_ne hq; have q0' := Ne.symm q0; have q1' := Ne.symm q1; have q2' := Ne.symm q2; have q3' := Ne.symm q3; have q4' := Ne.symm q4)) | (with_reducible first | (refine wN fun _ hnl => ?_; revert hnl; (repeat refine wS fun _ _ => ?_); intro hnl) | refine wE ?_ | (refine wK ?_ ?_ <;> intro h) | (refine wB ?_ ?_ <;> intro h <;> simp only [h])) | simp (maxSteps := 4000000) (disch := first | decide | assumption | omega | (simp only [wL]; omega)) only [go_sem, simprocAttr, Tryz.f5])
 exact ⟨q, rfl, by first | exact set_hit _ _ _ | simp [St.set, List.replicate, *]⟩
end Go.Proofs.YtjljgahfkcdhfaaGreatDoor
end

section
namespace Go.Proofs.YtjljgahfkcdhfaaGreatDoor
set_option maxRecDepth 100000
set_option maxHeartbeats 4000000
abbrev SA.v (s : SA) (q : Nat) : List MV := s.bk.c ++ [.lst 7 (s.subs.map SU.c) false, .vec 12 q 0 s.rows.length]
abbrev SA.o (s : SA) : MObj := .row 41 12 (s.rows.map RW.c)
theorem oview_z : OView St.none rw6 (SA.o saZ) := by
 refine .inr ⟨_, _, _, _, rfl, rfl, rfl, fun i x x1 h1 h2 => ?_⟩
 have e1 : x = rw0z := by
  have := List.mem_of_getElem? h1
  exact List.eq_of_mem_replicate this
 have e2 : x1 = rwZ.c := by
  have := List.mem_of_getElem? h2
  rw [show saZ.rows.map RW.c = List.replicate 6 rwZ.c from rfl] at this
  exact List.eq_of_mem_replicate this
 subst e1 e2
 refine ⟨rfl, fun j m m1 hm hm1 => ?_⟩
 by_cases hj : j = 10
 ·subst hj
  have a : m = .nils := by simpa using hm.symm
  have b : m1 = .lst 5 [] false := by
   have : rwZ.c[10]? = some (.lst 5 [] false) := rfl
   rw [this] at hm1
   exact (Option.some.inj hm1).symm
  subst a b
  exact .inr ⟨rfl, .nil 5 false⟩
 ·left
  have h12 : j < 12 := (List.getElem?_eq_some_iff.1 hm).1
  have key : ∀ j : Nat, j < 12 → j ≠ 10 → rwZ.c[j]? = rw0z[j]? := by
   intro j h h'
   obtain rfl | rfl | rfl | rfl | rfl | rfl | rfl | rfl | rfl | rfl | rfl : j = 0 ∨ j = 1 ∨ j = 2 ∨ j = 3 ∨ j = 4 ∨ j = 5 ∨ j = 6 ∨ j = 7 ∨ j = 8 ∨ j = 9 ∨ j = 11 := by omega
   all_goals rfl
  rw [key j h12 hj, hm] at hm1
  exact (Option.some.inj hm1).symm
theorem stnewZ_call : MCalls Tryz.prog 5 [] St.none (fun v σ' => ∃ q, v = .agg (saZ.v q) ∧ σ' = St.none.set q saZ.o) := by
 refine MCalls.ghost (stnew_call.mono fun v σ' h => ?_)
 obtain ⟨q, rfl, rfl⟩ := h
 refine ⟨.agg (saZ.v q), St.none.set q saZ.o, Ghost.freezeIn St.none (St.none_le _) (fun k o1 h => ?_) (fun _ _ _ => rfl) (fun p hp => ?_), q, rfl, rfl⟩
 ·have hk : k = q := by
   apply Classical.byContradiction
   intro e
   simp [St.set, e, St.none] at h
  subst hk
  rw [set_hit] at h
  cases h
  exact ⟨_, set_hit _ _ _, oview_z⟩
 ·simp at hp
  subst hp
  simp only [lget, if_true]
  exact .aggL ⟨.same _, .same _, .same _, .nil 3 false, .nil 2 false, .nil 7 false, .same _, trivial⟩ rfl
end Go.Proofs.YtjljgahfkcdhfaaGreatDoor
end

section
namespace Go.Proofs.YtjljgahfkcdhfaaGreatDoor
set_option maxRecDepth 100000
set_option maxHeartbeats 4000000
theorem shloadZ_call : MCalls Tryz.prog 50 [.int .i64 1, .lst 27 [] false, .lst 3 [] false] St.none (fun v σ' => ∃ m l, l ≠ m ∧ v = .tup [.ptr l 0 0, .bool true] ∧ σ' = (St.none.set m (.mp [])).set l (shO 1 m .nils)) := by
 refine (MCalls.body 128 [.tmp 6, .tmp 7] Tryz.func50 rfl rfl rfl rfl ?_)
 repeat' (first | (refine use_new2 shnew_call ?_; (intro m l hm hl hlm; have hml := Ne.symm hlm)) | (with_reducible first | (refine wN fun _ hnl => ?_; revert hnl; (repeat refine wS fun _ _ => ?_); intro hnl) | refine wE ?_ | (refine wK ?_ ?_ <;> intro h) | (refine wB ?_ ?_ <;> intro h <;> simp only [h])) | simp (maxSteps := 4000000) (disch := first | decide | assumption | omega | (simp only [wL]; omega)) only [go_sem, simprocAttr, Tryz.f50])
 refine mloop_intro (α := Unit) (fun _ => ⟨128, [(40, .int .i64 0), (39, .int .i64 0), (8, .ptr l 0 0), (2, .lst 3 [] false), (0, .int .i64 1)], []⟩)
  (fun _ => (St.none.set m (.mp [])).set l (shO 1 m .nils)) (fun _ => True) (fun _ => 0) ?_ ?_
 ·refine .of (.less ?_ (St.le_refl _)) ⟨(), rfl, rfl, trivial⟩
  simp (maxSteps := 4000000) (disch := first | decide | assumption | omega | (simp only [wL]; omega)) only [go_sem, simprocAttr, weak_int, weak_same]
  all_goals first | rfl | (simp; done)
 ·rintro ⟨⟩ -
  repeat' (first | (with_reducible first | (refine wN fun _ hnl => ?_; revert hnl; (repeat refine wS fun _ _ => ?_); intro hnl) | refine wE ?_ | (refine wK ?_ ?_ <;> intro h) | (refine wB ?_ ?_ <;> intro h <;> simp only [h])) | simp (maxSteps := 4000000) (disch := first | decide | assumption | omega | (simp only [wL]; omega)) only [go_sem, simprocAttr])
  refine mloop_intro (α := Unit) (fun _ => ⟨128, [(71, .int .i64 0), (70, .int .i64 0), (8, .ptr l 0 0)], []⟩)
   (fun _ => (St.none.set m (.mp [])).set l (shO 1 m .nils)) (fun _ => True) (fun _ => 0) ?_ ?_
  ·refine .of (.less ?_ (St.le_refl _)) ⟨(), rfl, rfl, trivial⟩
   simp (maxSteps := 4000000) (disch := first | decide | assumption | omega | (simp only [wL]; omega)) only [go_sem, simprocAttr, weak_int, weak_same]
   all_goals first | rfl | (simp; done)
  ·rintro ⟨⟩ -
   repeat' (first | (with_reducible first | (refine wN fun _ hnl => ?_; revert hnl; (repeat refine wS fun _ _ => ?_); intro hnl) | refine wE ?_ | (refine wK ?_ ?_ <;> intro h) | (refine wB ?_ ?_ <;> intro h <;> simp only [h])) | simp (maxSteps := 4000000) (disch := first | decide | assumption | omega | (simp only [wL]; omega)) only [go_sem, simprocAttr])
   all_goals exact ⟨m, l, hlm, rfl, rfl⟩
theorem gcheckZ_call : MCalls Tryz.prog 51 [.lst 2 [] false] St.none (fun r _ => r = .bool true) := by
 refine (MCalls.body 30 [.tmp 2] Tryz.func51 rfl rfl rfl rfl ?_)
 repeat' (first | (with_reducible first | (refine wN fun _ hnl => ?_; revert hnl; (repeat refine wS fun _ _ => ?_); intro hnl) | refine wE ?_ | (refine wK ?_ ?_ <;> intro h) | (refine wB ?_ ?_ <;> intro h <;> simp only [h])) | simp (maxSteps := 4000000) (disch := first | decide | assumption | omega | (simp only [wL]; omega)) only [go_sem, simprocAttr, Tryz.f51])
 refine mloop_intro (α := Unit) (fun _ => ⟨30, [(8, .int .i64 0), (7, .int .i64 0)], []⟩)
  (fun _ => St.none) (fun _ => True) (fun _ => 0) ?_ ?_
 ·refine .of (.less ?_ (St.le_refl _)) ⟨(), rfl, rfl, trivial⟩
  simp (maxSteps := 4000000) (disch := first | decide | assumption | omega | (simp only [wL]; omega)) only [go_sem, simprocAttr, weak_int, weak_same]
  all_goals first | rfl | (simp; done)
 ·rintro ⟨⟩ -
  repeat' (first | (with_reducible first | (refine wN fun _ hnl => ?_; revert hnl; (repeat refine wS fun _ _ => ?_); intro hnl) | refine wE ?_ | (refine wK ?_ ?_ <;> intro h) | (refine wB ?_ ?_ <;> intro h <;> simp only [h])) | simp (maxSteps := 4000000) (disch := first | decide | assumption | omega | (simp only [wL]; omega)) only [go_sem, simprocAttr])
theorem bkloadZ_call : MCalls Tryz.prog 20 [.agg bkZ.c] St.none (fun v σ' => ∃ m l b, l ≠ m ∧ b ≠ m ∧ b ≠ l ∧ v = .tup [.ptr b 0 0, .bool true] ∧ σ' = ((St.none.set m (.mp [])).set l (shO 1 m .nils)).set b (bkO 0 l .nils)) := by
 refine MCalls.less (Q' := fun v σ' => ∃ m l b, l ≠ m ∧ b ≠ m ∧ b ≠ l ∧ v = .tup [.ptr b 0 0, .bool true] ∧ σ' m = some (.mp []) ∧ σ' l = some (shO 1 m .nils) ∧ σ' b = some (bkO 0 l .nils)) (MCalls.body 106 [.tmp 2, .tmp 3] Tryz.func20 rfl rfl rfl rfl ?_) fun v σ' h => ?_
 rotate_left
 ·obtain ⟨m, l, b, h1, h2, h3, rfl, h4, h5, h6⟩ := h
  exact ⟨_, St.set_le (St.set_le (St.set_le (St.none_le _) h4) h5) h6, m, l, b, h1, h2, h3, rfl, rfl⟩
 have hg := gcheckZ_call
 repeat' (first | (refine use_new2 shloadZ_call ?_; (intro m l hm hl hlm; have hml := Ne.symm hlm; have m1 := (none_ne hm).1; have l1 := (none_ne hl).1; have m2 := Ne.symm m1; have l2 := Ne.symm l1)) | (with_reducible first | refine up hg ?_) | (with_reducible first | (refine wT ?_; (first | ((fail_if_success (have := nl1)); refine wN fun nl1 hnl => ?_) | ((fail_if_success (have := nl2)); refine wN fun nl2 hnl => ?_) | refine wN fun _ hnl => ?_); revert hnl; (repeat refine wS fun _ _ => ?_); intro hnl) | refine wE ?_ | (refine wK ?_ ?_ <;> intro h) | (refine wB ?_ ?_ <;> intro h <;> simp only [h])) | simp (maxSteps := 4000000) (disch := first | decide | assumption | omega | (simp only [wL]; omega)) only [go_sem, simprocAttr, Tryz.f20, bkZ, List.map_nil])
 have b1 : nl2 ≠ m := by assumption
 have b2 : nl2 ≠ l := by assumption
 refine mloop_intro (α := Unit) (fun _ => ⟨106, [(66, .int .i64 0), (65, .int .i64 0), (8, .nils), (7, .ptr nl2 0 0), (1, .ptr nl1 0 0)], []⟩)
  (fun _ => (((St.none.set nl1 (.row 26 5 [bkZ.c])).set m (.mp [])).set l (shO 1 m .nils)).set nl2 (bkO 0 l .nils)) (fun _ => True) (fun _ => 0) ?_ ?_
 ·refine .of (.less ?_ (St.le_refl _)) ⟨(), rfl, rfl, trivial⟩
  simp (maxSteps := 4000000) (disch := first | decide | assumption | omega | (simp only [wL]; omega)) only [go_sem, simprocAttr, weak_int, weak_same]
  all_goals first | rfl | (simp; done)
 ·rintro ⟨⟩ -
  repeat' (first | (with_reducible first | (refine wT ?_; (first | ((fail_if_success (have := nl1)); refine wN fun nl1 hnl => ?_) | ((fail_if_success (have := nl2)); refine wN fun nl2 hnl => ?_) | refine wN fun _ hnl => ?_); revert hnl; (repeat refine wS fun _ _ => ?_); intro hnl) | refine wE ?_ | (refine wK ?_ ?_ <;> intro h) | (refine wB ?_ ?_ <;> intro h <;> simp only [h])) | simp (maxSteps := 4000000) (disch := first | decide | assumption | omega | (simp only [wL]; omega)) only [go_sem, simprocAttr, bkZ, List.map_nil])
  refine mloop_intro (α := Unit) (fun _ => ⟨106, [(79, .int .i64 0), (78, .int .i64 0), (7, .ptr nl2 0 0)], []⟩)
   (fun _ => (((St.none.set nl1 (.row 26 5 [bkZ.c])).set m (.mp [])).set l (shO 1 m .nils)).set nl2 (bkO 0 l .nils)) (fun _ => True) (fun _ => 0) ?_ ?_
  ·refine .of (.less ?_ (St.le_refl _)) ⟨(), rfl, rfl, trivial⟩
   simp (maxSteps := 4000000) (disch := first | decide | assumption | omega | (simp only [wL]; omega)) only [go_sem, simprocAttr, weak_int, weak_same]
   all_goals first | rfl | (simp; done)
  ·rintro ⟨⟩ -
   repeat' (first | (with_reducible first | (refine wT ?_; (first | ((fail_if_success (have := nl1)); refine wN fun nl1 hnl => ?_) | ((fail_if_success (have := nl2)); refine wN fun nl2 hnl => ?_) | refine wN fun _ hnl => ?_); revert hnl; (repeat refine wS fun _ _ => ?_); intro hnl) | refine wE ?_ | (refine wK ?_ ?_ <;> intro h) | (refine wB ?_ ?_ <;> intro h <;> simp only [h])) | simp (maxSteps := 4000000) (disch := first | decide | assumption | omega | (simp only [wL]; omega)) only [go_sem, simprocAttr])
   exact ⟨m, l, nl2, hlm, b1, b2, rfl, by simp [St.set, *], by simp [St.set, *], by simp [St.set, *]⟩
theorem sbnew_call : MCalls Tryz.prog 53 [] St.none (fun v σ' => ∃ m l, l ≠ m ∧ v = .ptr l 0 0 ∧ σ' = (St.none.set m (.mp [])).set l (.row 122 1 [[.mapv m]])) := by
 refine (MCalls.body 4 [.tmp 0] Tryz.func53 rfl rfl rfl rfl ?_)
 repeat' (first | (with_reducible first | (refine wN fun _ hnl => ?_; revert hnl; (repeat refine wS fun _ _ => ?_); intro hnl) | refine wE ?_ | (refine wK ?_ ?_ <;> intro h) | (refine wB ?_ ?_ <;> intro h <;> simp only [h])) | simp (maxSteps := 4000000) (disch := first | decide | assumption | omega | (simp only [wL]; omega)) only [go_sem, simprocAttr, Tryz.f53])
 all_goals exact ⟨_, _, by assumption, rfl, rfl⟩
theorem sbloadZ_call (b : Nat) : MCalls Tryz.prog 23 [.ptr b 0 0, .lst 7 [] false] St.none (fun v _ => v = .tup [.junk, .bool true]) := by
 refine MCalls.seen (MCalls.body 78 [.tmp 4, .tmp 5] Tryz.func23 rfl rfl rfl rfl ?_)
 repeat' (first | (refine use_new2 sbnew_call ?_; (intro m l hm hl hlm; have hml := Ne.symm hlm)) | (with_reducible first | (refine wN fun _ hnl => ?_; revert hnl; (repeat refine wS fun _ _ => ?_); intro hnl) | refine wE ?_ | (refine wK ?_ ?_ <;> intro h) | (refine wB ?_ ?_ <;> intro h <;> simp only [h])) | simp (maxSteps := 4000000) (disch := first | decide | assumption | omega | (simp only [wL]; omega)) only [go_sem, simprocAttr, Tryz.f23])
 refine mloop_intro (α := Unit) (fun _ => ⟨78, [(18, .int .i64 0), (17, .int .i64 0), (6, .ptr l 0 0)], []⟩)
  (fun _ => (St.none.set m (.mp [])).set l (.row 122 1 [[.mapv m]])) (fun _ => True) (fun _ => 0) ?_ ?_
 ·refine .of (.less ?_ (St.le_refl _)) ⟨(), rfl, rfl, trivial⟩
  simp (maxSteps := 4000000) (disch := first | decide | assumption | omega | (simp only [wL]; omega)) only [go_sem, simprocAttr, weak_int, weak_same]
  all_goals first | rfl | (simp; done)
 ·rintro ⟨⟩ -
  repeat' (first | (with_reducible first | (refine wN fun _ hnl => ?_; revert hnl; (repeat refine wS fun _ _ => ?_); intro hnl) | refine wE ?_ | (refine wK ?_ ?_ <;> intro h) | (refine wB ?_ ?_ <;> intro h <;> simp only [h])) | simp (maxSteps := 4000000) (disch := first | decide | assumption | omega | (simp only [wL]; omega)) only [go_sem, simprocAttr])
  exact .two (.junk _) (.same _)
end Go.Proofs.YtjljgahfkcdhfaaGreatDoor
end

section
namespace Go.Proofs.YtjljgahfkcdhfaaGreatDoor
open Go.Shelf Go.RowKit Go.Lib
set_option maxRecDepth 100000
set_option maxHeartbeats 4000000
theorem clone_empty {P : Program} {K e : Nat} {el : TypeId} {t : Bool} (hn : MCalls P K [.nils] St.none fun r _ => r = .nils)
  (hr : ∀ (a : Addr) (c : Nat) (w : World), Calls P K #[.slice (some a) 0 c] w fun e w' => e = .returned (.slice (some ⟨w.heap.size, 0, none⟩) 0 0) ∧ w' = w.alloc (.cells #[] el)) : MCalls P K [.lst e [] t] St.none fun r _ => r = .lst e [] false := by
 refine ⟨hn.1, fun Φ w vs hi hv => ?_⟩
 have h0 := hv.2 0 _ rfl
 have h1 : vs = #[vs.getD 0 undef] := by
  have hz := hv.1
  refine Array.ext (by simpa using hz) fun i q1 q2 => ?_
  have : i = 0 := by simp at q2; omega
  subst this
  simp [Array.getD, q1]
 generalize vs.getD 0 undef = v at h0 h1
 subst h1
 cases h0 with
 | lstn =>
  refine (hn.2 Φ w _ hi ⟨rfl, fun i m hm => ?_⟩).mono ?_
  ·match i with
   | 0 => simp at hm; subst hm; exact .nils
   | i + 1 => simp at hm
  ·rintro x w' ⟨v, mv, σ', Φ', rfl, r1, i1, s1, rfl⟩
   refine ⟨v, _, σ', Φ', rfl, ?_, i1, s1, rfl⟩
   cases r1
   exact .lstn _ _
 | lst0 a e c t ht hm =>
  refine (hr a c w).mono ?_
  rintro x w' ⟨rfl, rfl⟩
  obtain ⟨i1, s1⟩ := hi.grow (w' := w.alloc (.cells #[] el)) rfl rfl rfl (Nat.le_refl _) (by simp) (fun k hk => by
   show (w.heap.push _)[k]? = _
   rw [Array.getElem?_push, if_neg (by omega)])
  exact ⟨_, _, _, Φ, rfl, .lst0 _ _ 0 _ (fun h => rfl) (Nat.zero_le _), i1, s1, rfl⟩
 | lst hl h0 => simp at hl; omega
theorem cloneN_run (a : Addr) (c : Nat) (w : World) : Calls Tryz.prog 62 #[.slice (some a) 0 c] w fun e w' => e = .returned (.slice (some ⟨w.heap.size, 0, none⟩) 0 0) ∧ w' = w.alloc (.cells #[] 132) := by
 have q22 : ∀ (w : World) (a : Option Addr) (n c n' c' : Nat), (binOp .eql 36 (.slice a n c) (.slice none n' c')).run Tryz.prog w = .ok (.bool a.isNone) w := fun w a n c n' c' => Lib.run_eql_slice_nil w _ _ a n c n' c' Tryz.underlying36
 have u22 : ∀ w, Sem.run Tryz.prog (underlying 36) w = .ok (TypeDesc.slice 132) w := run_underlying Tryz.underlying36
 go_enter Tryz.func62, Tryz.ntmps62
 go_wp2
 go_ret
 exact ⟨rfl, rfl⟩
theorem cloneN_nils : MCalls Tryz.prog 62 [.nils] St.none (fun r _ => r = .nils) := by
 refine (MCalls.body 8 [.tmp 2] Tryz.func62 rfl rfl rfl rfl ?_)
 repeat' (first | (with_reducible first | (refine wN fun _ hnl => ?_; revert hnl; (repeat refine wS fun _ _ => ?_); intro hnl) | refine wE ?_ | (refine wK ?_ ?_ <;> intro h) | (refine wB ?_ ?_ <;> intro h <;> simp only [h])) | simp (maxSteps := 4000000) (disch := first | decide | assumption | omega | (simp only [wL]; omega)) only [go_sem, simprocAttr, Tryz.f62])
theorem cloneN_empty (e : Nat) (t : Bool) : MCalls Tryz.prog 62 [.lst e [] t] St.none (fun r _ => r = .lst e [] false) := clone_empty cloneN_nils cloneN_run
end Go.Proofs.YtjljgahfkcdhfaaGreatDoor
end

section
namespace Go.Proofs.YtjljgahfkcdhfaaGreatDoor
set_option maxRecDepth 100000
set_option maxHeartbeats 4000000
theorem cloneN_call (l : List ND) (hl : l.length ≤ 1000000) (t : Bool) : MCalls Tryz.prog 62 [.lst 5 (l.map ND.c) t] St.none (fun r _ => r = .lst 5 (l.map ND.c) false) := by
 cases l with
 | nil => exact cloneN_empty 5 t
 | cons x m =>
  refine MCalls.seen (MCalls.body 8 [.tmp 2] Tryz.func62 rfl rfl rfl rfl ?_)
  simp only [List.length_cons] at hl
  repeat' (first | (with_reducible first | (refine wN fun _ hnl => ?_; revert hnl; (repeat refine wS fun _ _ => ?_); intro hnl) | refine wE ?_ | (refine wK ?_ ?_ <;> intro h) | (refine wB ?_ ?_ <;> intro h <;> simp only [h])) | simp (maxSteps := 4000000) (disch := first | decide | assumption | omega | (simp only [wL]; omega)) only [go_sem, simprocAttr, Tryz.f62])
  exact .vecAll (set_hit _ _ _) (by simp only [List.length_map, List.length_cons])
theorem own_call (a : RE) (hl : a.fl.length ≤ 1000000) : MCalls Tryz.prog 49 [.agg a.c] St.none (fun r _ => r = .agg a.c) := by
 refine MCalls.drops (MCalls.body 8 [.cell 2 39] Tryz.func49 rfl rfl rfl rfl ?_)
 have h := cloneN_call a.fl hl false
 repeat' (first | (with_reducible first | refine up h ?_) | (with_reducible first | (refine wN fun _ hnl => ?_; revert hnl; (repeat refine wS fun _ _ => ?_); intro hnl) | refine wE ?_ | (refine wK ?_ ?_ <;> intro h) | (refine wB ?_ ?_ <;> intro h <;> simp only [h])) | simp (maxSteps := 4000000) (disch := first | decide | assumption | omega | (simp only [wL]; omega)) only [go_sem, simprocAttr, Tryz.f49])
 all_goals first | exact ⟨_, St.le_refl _, rfl⟩ | exact ⟨_, St.le_refl _⟩
end Go.Proofs.YtjljgahfkcdhfaaGreatDoor
end
