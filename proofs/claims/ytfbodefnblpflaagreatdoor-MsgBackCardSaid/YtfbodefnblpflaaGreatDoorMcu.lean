/- Parts of the proof, joined. Each part says what it proves, and under which conditions it does: those that its theorems name. -/
import Derived.Test.YtfbodefnblpflaaGreatDoorMcs
set_option linter.unusedVariables false
set_option linter.unusedSimpArgs false
set_option maxHeartbeats 4000000
section
namespace Go.Proofs.YtfbodefnblpflaaGreatDoor
set_option maxRecDepth 100000
set_option maxHeartbeats 4000000
abbrev natL (L : List Nat) : List (List MV) := L.map fun (i : Nat) => [.int .i64 (i : Int)]
theorem nat_get {s : List Nat} {k : Nat} {ex : List (List MV)} : (natL ((k :: s).reverse) ++ ex).getD s.length [] = [.int .i64 (k : Int)] := by
 simp [natL, List.getD]
theorem nat_set {s : List Nat} {k j : Nat} {ex : List (List MV)} : (natL ((k :: s).reverse) ++ ex).set s.length [.int .i64 (j : Int)] = natL ((j :: s).reverse) ++ ex := by
 simp [natL]
theorem nat_push {s : List Nat} {k : Nat} {ex : List (List MV)} : natL s.reverse ++ ([.int .i64 (k : Int)] :: ex) = natL ((k :: s).reverse) ++ ex := by
 simp [natL]
theorem shut_pop {s : List Nat} : shut (0 :: s) = shut (match s with | [] => [] | k :: r => (k - 1) :: r) := by
 cases s with
 | nil => rw [shut]; simp [shut]
 | cons k r => rw [shut]
theorem pdepth_call (l : List ND) (hl : l.length ≤ 1000000) (tt : Bool) : MCalls Tryz.prog 156 [.lst 5 (l.map ND.c) tt] St.none (fun r _ => r = .int .i64 (depthS l : Int)) := by
 refine MCalls.drops (MCalls.body 64 [.tmp 2] Tryz.func156 rfl rfl rfl rfl ?_)
 have hend := pend_call l hl tt 0
 by_cases h : l = [] ∨ endS l 0 ≠ l.length
 ·have e : depthS l = 0 := by unfold depthS; rw [if_pos h]
  rw [e]
  rcases h with rfl | h
  ·repeat' (first | (with_reducible first | refine up hend ?_) | (with_reducible first | (refine wT ?_; (first | ((fail_if_success (have := nl1)); refine wN fun nl1 hnl => ?_) | ((fail_if_success (have := nl2)); refine wN fun nl2 hnl => ?_) | ((fail_if_success (have := nl3)); refine wN fun nl3 hnl => ?_) | refine wN fun _ hnl => ?_); revert hnl; (repeat refine wS fun _ _ => ?_); intro hnl) | refine wE ?_ | (refine wK ?_ ?_ <;> intro h) | (refine wB ?_ ?_ <;> intro h <;> simp only [h])) | simp (maxSteps := 4000000) (disch := first | decide | assumption | omega | (simp only [wL]; omega)) only [go_sem, simprocAttr, Tryz.f156])
   all_goals first | exact ⟨_, St.le_refl _, rfl⟩ | exact ⟨_, St.le_refl _⟩
  ·repeat' (first | (with_reducible first | refine up hend ?_) | (with_reducible first | (refine wT ?_; (first | ((fail_if_success (have := nl1)); refine wN fun nl1 hnl => ?_) | ((fail_if_success (have := nl2)); refine wN fun nl2 hnl => ?_) | ((fail_if_success (have := nl3)); refine wN fun nl3 hnl => ?_) | refine wN fun _ hnl => ?_); revert hnl; (repeat refine wS fun _ _ => ?_); intro hnl) | refine wE ?_ | (refine wK ?_ ?_ <;> intro h) | (refine wB ?_ ?_ <;> intro h <;> simp only [h])) | simp (maxSteps := 4000000) (disch := first | decide | assumption | omega | (simp only [wL]; omega)) only [go_sem, simprocAttr, Tryz.f156])
   all_goals first | exact ⟨_, St.le_refl _, rfl⟩ | exact ⟨_, St.le_refl _⟩
 ·have e : depthS l = dp 0 [] l := by unfold depthS; rw [if_neg h]
  rw [e]
  have h2 : endS l 0 = l.length := Classical.not_not.1 fun h3 => h (.inr h3)
  have h0 : 0 < l.length := by
   cases l with
   | nil => exact absurd (.inl rfl) h
   | cons x l => simp
  rw [h2] at hend
  clear e h
  repeat' (first | (with_reducible first | refine up hend ?_) | (with_reducible first | (refine wT ?_; (first | ((fail_if_success (have := nl1)); refine wN fun nl1 hnl => ?_) | ((fail_if_success (have := nl2)); refine wN fun nl2 hnl => ?_) | ((fail_if_success (have := nl3)); refine wN fun nl3 hnl => ?_) | refine wN fun _ hnl => ?_); revert hnl; (repeat refine wS fun _ _ => ?_); intro hnl) | refine wE ?_ | (refine wK ?_ ?_ <;> intro h) | (refine wB ?_ ?_ <;> intro h <;> simp only [h])) | simp (maxSteps := 4000000) (disch := first | decide | assumption | omega | (simp only [wL]; omega)) only [go_sem, simprocAttr, Tryz.f156])
  refine mloop_intro (α := Nat × Nat × List Nat × Nat × List (List MV)) (fun a => ⟨64, [(19, .int .i64 (a.1 : Int)), (18, .int .i64 (l.length : Int)), (17, .lst 5 (l.map ND.c) tt), (4, .int .i64 (a.2.1 : Int)), (3, .vec 1 a.2.2.2.1 0 a.2.2.1.length)], []⟩)
   (fun a => St.none.set a.2.2.2.1 (.row 3 1 (natL a.2.2.1.reverse ++ a.2.2.2.2))) (fun a => a.1 ≤ l.length ∧ dp 0 [] l = dp a.2.1 a.2.2.1 (l.drop a.1) ∧ a.2.1 ≤ 1 + a.1 ∧ a.2.2.1.length ≤ a.1 ∧ ∀ x, x ∈ a.2.2.1 → 1 ≤ x ∧ x ≤ 2) (fun a => l.length - a.1) ?_ ?_
  ·refine Gh.rowNew 3 1 (fun q => [(19, .int .i64 0), (18, .int .i64 (l.length : Int)), (17, .lst 5 (l.map ND.c) tt), (4, .int .i64 0), (3, .vec 1 q 0 0)]) (fun k => by (repeat' (refine And.intro ?_ ?_)) <;> first | exact trivial | exact .inl rfl | exact .inr ⟨rfl, .inl rfl⟩ | exact .inr ⟨rfl, .inr rfl⟩) fun q hq => ?_
   exact .done ⟨(0, 0, [], q, []), rfl, rfl, Nat.zero_le _, rfl, Nat.zero_le _, Nat.le_refl _, fun x hx => by cases hx⟩
  ·rintro ⟨i, d, s, q, ex⟩ ⟨hi, hq, hd, hsl, hs⟩
   simp only at hi hq hd hsl hs ⊢
   by_cases hlt : i < l.length
   ·rw [drop_getD nd0 hlt, dp] at hq
    obtain ⟨x, hx⟩ : ∃ x, l.getD i nd0 = x := ⟨_, rfl⟩
    rw [hx] at hq
    have hp := parts_call x.op
    have hpc := parts_cases x.op
    obtain ⟨p, hpe⟩ : ∃ p, parts x.op = p := ⟨_, rfl⟩
    rw [hpe] at hq hp hpc
    have htk : (natL s.reverse ++ ex).take s.length = natL s.reverse := by have := tk_app (f := fun (i : Nat) => [MV.int .i64 (i : Int)]) (l := s.reverse) (ex := ex); rwa [List.length_reverse] at this
    have hdr : (natL s.reverse ++ ex).drop (s.length + 1) = ex.drop 1 := by have := dr_app (f := fun (i : Nat) => [MV.int .i64 (i : Int)]) (l := s.reverse) (ex := ex); rwa [List.length_reverse] at this
    repeat' (first | (with_reducible first | refine up hp ?_) | (with_reducible first | (refine wT ?_; (first | ((fail_if_success (have := nl1)); refine wN fun nl1 hnl => ?_) | ((fail_if_success (have := nl2)); refine wN fun nl2 hnl => ?_) | ((fail_if_success (have := nl3)); refine wN fun nl3 hnl => ?_) | refine wN fun _ hnl => ?_); revert hnl; (repeat refine wS fun _ _ => ?_); intro hnl) | refine wE ?_ | (refine wK ?_ ?_ <;> intro h) | (refine wB ?_ ?_ <;> intro h <;> simp only [h])) | simp (maxSteps := 4000000) (disch := first | decide | assumption | omega | (simp only [wL]; omega)) only [go_sem, simprocAttr, getD_mapd nd0, hx, htk, hdr, List.length_reverse])
    case' refine_1 =>
     have hex : ex = [] := List.eq_nil_of_length_eq_zero (by omega)
     subst hex
     clear h
     have erow : natL s.reverse ++ [] ++ [[MV.int .i64 (p : Int)]] = natL ((p :: s).reverse) ++ [] := by simp [natL]
     obtain ⟨ex1, hex1⟩ : ∃ e, ([] : List (List MV)) = e := ⟨_, rfl⟩
    case' refine_2 =>
     have erow : natL s.reverse ++ [[MV.int .i64 (p : Int)]] ++ ex.drop 1 = natL ((p :: s).reverse) ++ ex.drop 1 := by simp [natL]
     obtain ⟨ex1, hex1⟩ : ∃ e, ex.drop 1 = e := ⟨_, rfl⟩
    all_goals
     rw [erow]
     obtain ⟨D, hD⟩ : ∃ D, max d (s.length + 1) = D := ⟨_, rfl⟩
     rw [hD] at hq
     refine mloop_intro (α := List Nat × List (List MV)) (fun b => ⟨64, [(19, .int .i64 (i : Int)), (18, .int .i64 (l.length : Int)), (17, .lst 5 (l.map ND.c) tt), (4, .int .i64 (D : Int)), (3, .vec 1 nl3 0 b.1.length)], []⟩)
      (fun b => St.none.set nl3 (.row 3 1 (natL b.1.reverse ++ b.2))) (fun b => shut b.1 = shut (p :: s) ∧ b.1.length ≤ i + 1 ∧ (∀ x, x ∈ b.1.tail → 1 ≤ x) ∧ ∀ x, x ∈ b.1 → x ≤ 2) (fun b => b.1.length) (.of (.less ?_ (St.set_le (St.none_le _) (set_hit _ _ _))) ⟨(p :: s, _), rfl, rfl, rfl, by simp only [List.length_cons]; omega, fun x hx => (hs x hx).1, fun x hx => ?_⟩) ?_
     ·simp (maxSteps := 4000000) (disch := first | decide | assumption | omega | (simp only [wL]; omega)) only [go_sem, simprocAttr, weak_int, weak_same, List.length_cons]
      all_goals (split <;> omega)
     ·rcases List.mem_cons.1 hx with rfl | hx
      ·omega
      ·exact (hs x hx).2
     ·rintro ⟨b, ex2⟩ ⟨hb, hbl, hb1, hb2⟩
      simp only at hb hbl hb1 hb2 ⊢
      cases b with
      | nil =>
       rw [shut] at hb
       rw [← hb] at hq
       repeat' (first | (with_reducible first | (refine wT ?_; (first | ((fail_if_success (have := nl1)); refine wN fun nl1 hnl => ?_) | ((fail_if_success (have := nl2)); refine wN fun nl2 hnl => ?_) | ((fail_if_success (have := nl3)); refine wN fun nl3 hnl => ?_) | refine wN fun _ hnl => ?_); revert hnl; (repeat refine wS fun _ _ => ?_); intro hnl) | refine wE ?_ | (refine wK ?_ ?_ <;> intro h) | (refine wB ?_ ?_ <;> intro h <;> simp only [h])) | simp (maxSteps := 4000000) (disch := first | decide | assumption | omega | (simp only [wL]; omega)) only [go_sem, simprocAttr])
       refine .of (.less ?_ (St.le_refl _)) ⟨(i + 1, D, [], nl3, ex2), rfl, rfl, ⟨by simp only; omega, hq, by simp only; omega, Nat.zero_le _, fun x hx => by cases hx⟩, by simp only; omega⟩
       simp (maxSteps := 4000000) (disch := first | decide | assumption | omega | (simp only [wL]; omega)) only [go_sem, simprocAttr, weak_int, weak_same]
       all_goals first | rfl | exact .same _
      | cons k r =>
       have hk2 := hb2 k (by simp)
       have hge := nat_get (s := r) (k := k) (ex := ex2)
       have hWl : (natL (k :: r).reverse).length = r.length + 1 := by simp [natL]
       simp only [List.length_cons] at hbl ⊢
       cases k with
       | zero =>
        rw [shut_pop] at hb
        cases r with
        | nil =>
         have hrow : natL [0].reverse ++ ex2 = natL [] ++ ([.int .i64 0] :: ex2) := rfl
         obtain ⟨W, hW⟩ : ∃ W, natL [0].reverse ++ ex2 = W := ⟨_, rfl⟩
         have hl1 : W.length = 1 + ex2.length := by rw [← hW]; simp [natL]; omega
         rw [hW] at hge hrow ⊢
         simp only [List.length_nil] at hge ⊢
         repeat' (first | (with_reducible first | (refine wT ?_; (first | ((fail_if_success (have := nl1)); refine wN fun nl1 hnl => ?_) | ((fail_if_success (have := nl2)); refine wN fun nl2 hnl => ?_) | ((fail_if_success (have := nl3)); refine wN fun nl3 hnl => ?_) | refine wN fun _ hnl => ?_); revert hnl; (repeat refine wS fun _ _ => ?_); intro hnl) | refine wE ?_ | (refine wK ?_ ?_ <;> intro h) | (refine wB ?_ ?_ <;> intro h <;> simp only [h])) | simp (maxSteps := 4000000) (disch := first | decide | assumption | omega | (simp only [wL]; omega)) only [go_sem, simprocAttr, hge])
         refine .of (.less ?_ (St.le_refl _)) ⟨([], [.int .i64 0] :: ex2), rfl, by rw [hrow]; rfl, ⟨hb, Nat.zero_le _, (fun x hx => by cases hx), (fun x hx => by cases hx)⟩, by simp⟩
         simp (maxSteps := 4000000) (disch := first | decide | assumption | omega | (simp only [wL]; omega)) only [go_sem, simprocAttr, weak_int, weak_same]
         all_goals first | rfl | exact .same _
        | cons k2 r =>
         have h12 := hb1 k2 (by simp)
         have h22 := hb2 k2 (by simp)
         have hrow : natL (0 :: k2 :: r).reverse ++ ex2 = natL (k2 :: r).reverse ++ ([.int .i64 0] :: ex2) := nat_push.symm
         have hge2 := nat_get (s := r) (k := k2) (ex := [.int .i64 0] :: ex2)
         have hst := nat_set (s := r) (k := k2) (j := k2 - 1) (ex := [.int .i64 0] :: ex2)
         rw [← hrow] at hge2 hst
         rw [show ((k2 - 1 : Nat) : Int) = (k2 : Int) - 1 by omega] at hst
         simp only [List.length_cons] at hge hWl hbl ⊢
         obtain ⟨W, hW⟩ : ∃ W, natL (0 :: k2 :: r).reverse ++ ex2 = W := ⟨_, rfl⟩
         have hl1 : W.length = r.length + 1 + 1 + ex2.length := by rw [← hW, List.length_append, hWl]
         rw [hW] at hge hge2 hst ⊢
         obtain ⟨n, hn⟩ : ∃ n, r.length = n := ⟨_, rfl⟩
         rw [hn] at hge hge2 hst hl1 hbl ⊢
         have hto1 : (((n + 1 + 1 : Nat) : Int) - 1).toNat = n + 1 := by omega
         have hto2 : (((n + 1 : Nat) : Int) - 1).toNat = n := by omega
         repeat' (first | (with_reducible first | (refine wT ?_; (first | ((fail_if_success (have := nl1)); refine wN fun nl1 hnl => ?_) | ((fail_if_success (have := nl2)); refine wN fun nl2 hnl => ?_) | ((fail_if_success (have := nl3)); refine wN fun nl3 hnl => ?_) | refine wN fun _ hnl => ?_); revert hnl; (repeat refine wS fun _ _ => ?_); intro hnl) | refine wE ?_ | (refine wK ?_ ?_ <;> intro h) | (refine wB ?_ ?_ <;> intro h <;> simp only [h])) | simp (maxSteps := 4000000) (disch := first | decide | assumption | omega | (simp only [wL]; omega)) only [go_sem, simprocAttr, hge, hge2, hst, hto1, hto2])
         refine .of (.less ?_ (St.le_refl _)) ⟨((k2 - 1) :: r, [.int .i64 0] :: ex2), rfl, rfl, ⟨hb, by simp only [List.length_cons]; omega, fun x hx => hb1 x (by simp at hx ⊢; exact .inr hx), fun x hx => ?_⟩, by simp only [List.length_cons]; omega⟩
         ·simp only [List.length_cons, hn]
          simp (maxSteps := 4000000) (disch := first | decide | assumption | omega | (simp only [wL]; omega)) only [go_sem, simprocAttr, weak_int, weak_same]
          all_goals first | rfl | exact .same _
         ·rcases List.mem_cons.1 hx with rfl | hx
          ·omega
          ·exact hb2 x (by simp [hx])
       | succ k =>
        rw [shut] at hb
        rw [← hb] at hq
        obtain ⟨W, hW⟩ : ∃ W, natL ((k + 1) :: r).reverse ++ ex2 = W := ⟨_, rfl⟩
        have hl1 : W.length = r.length + 1 + ex2.length := by rw [← hW, List.length_append, hWl]
        rw [hW] at hge ⊢
        obtain ⟨n, hn⟩ : ∃ n, r.length = n := ⟨_, rfl⟩
        rw [hn] at hge hl1 hbl ⊢
        have hkc : ((k + 1 : Nat) : Int) = (k : Int) + 1 := by omega
        rw [hkc] at hge
        have hto2 : (((n + 1 : Nat) : Int) - 1).toNat = n := by omega
        repeat' (first | (with_reducible first | (refine wT ?_; (first | ((fail_if_success (have := nl1)); refine wN fun nl1 hnl => ?_) | ((fail_if_success (have := nl2)); refine wN fun nl2 hnl => ?_) | ((fail_if_success (have := nl3)); refine wN fun nl3 hnl => ?_) | refine wN fun _ hnl => ?_); revert hnl; (repeat refine wS fun _ _ => ?_); intro hnl) | refine wE ?_ | (refine wK ?_ ?_ <;> intro h) | (refine wB ?_ ?_ <;> intro h <;> simp only [h])) | simp (maxSteps := 4000000) (disch := first | decide | assumption | omega | (simp only [wL]; omega)) only [go_sem, simprocAttr, hge, hto2])
        refine .of (.less ?_ (St.le_refl _)) ⟨(i + 1, D, (k + 1) :: r, nl3, ex2), rfl, by rw [← hW], ⟨by simp only; omega, hq, by simp only; omega, by simp only [List.length_cons]; omega, fun x hx => ?_⟩, by simp only; omega⟩
        ·simp only [List.length_cons, hn]
         simp (maxSteps := 4000000) (disch := first | decide | assumption | omega | (simp only [wL]; omega)) only [go_sem, simprocAttr, weak_int, weak_same]
         all_goals first | rfl | exact .same _
        ·refine ⟨?_, hb2 x hx⟩
         rcases List.mem_cons.1 hx with rfl | hx
         ·omega
         ·exact hb1 x hx
   ·have : i = l.length := by omega
    subst this
    rw [List.drop_length, dp] at hq
    rw [hq]
    repeat' (first | (with_reducible first | (refine wT ?_; (first | ((fail_if_success (have := nl1)); refine wN fun nl1 hnl => ?_) | ((fail_if_success (have := nl2)); refine wN fun nl2 hnl => ?_) | ((fail_if_success (have := nl3)); refine wN fun nl3 hnl => ?_) | refine wN fun _ hnl => ?_); revert hnl; (repeat refine wS fun _ _ => ?_); intro hnl) | refine wE ?_ | (refine wK ?_ ?_ <;> intro h) | (refine wB ?_ ?_ <;> intro h <;> simp only [h])) | simp (maxSteps := 4000000) (disch := first | decide | assumption | omega | (simp only [wL]; omega)) only [go_sem, simprocAttr])
    all_goals first | exact ⟨_, St.le_refl _, rfl⟩ | exact ⟨_, St.le_refl _⟩
end Go.Proofs.YtfbodefnblpflaaGreatDoor
end

section
namespace Go.Proofs.YtfbodefnblpflaaGreatDoor
set_option maxRecDepth 100000
set_option maxHeartbeats 4000000
theorem ppcheck1_call (x : ND) : MCalls Tryz.prog 154 [.agg x.c] St.none (fun r _ => r = .bool (!ndOk x)) := by
 refine MCalls.drops (MCalls.body 6 [.tmp 2] Tryz.func154 rfl rfl rfl rfl ?_)
 have h := pnode_call x
 repeat' (first | (with_reducible first | refine up h ?_) | (with_reducible first | (refine wN fun _ hnl => ?_; revert hnl; (repeat refine wS fun _ _ => ?_); intro hnl) | refine wE ?_ | (refine wK ?_ ?_ <;> intro h) | (refine wB ?_ ?_ <;> intro h <;> simp only [h])) | simp (maxSteps := 4000000) (disch := first | decide | assumption | omega | (simp only [wL]; omega)) only [go_sem, simprocAttr, Tryz.f154])
 all_goals first | exact ⟨_, St.le_refl _, rfl⟩ | exact ⟨_, St.le_refl _⟩
theorem ppcheck_call (l : List ND) (hl : l.length ≤ 1000000) (t : Bool) : MCalls Tryz.prog 101 [.lst 5 (l.map ND.c) t] St.none (fun r _ => r = .int .i64 (predErr l)) := by
 refine (MCalls.body 25 [.tmp 2] Tryz.func101 rfl rfl rfl rfl ?_)
 have hc := contains_call (fun x => !ndOk x) 154 l hl t (fun x _ => ppcheck1_call x)
 have hd := pdepth_call l hl t
 have he := pend_call l hl t 0
 have hall : (l.any fun x => !ndOk x) = !l.all ndOk := by
  rw [Bool.eq_iff_iff]
  simp
 rw [hall] at hc
 have hlen : l.length = 0 ↔ l = [] := List.length_eq_zero_iff
 obtain ⟨al, hal⟩ : ∃ b, l.all ndOk = b := ⟨_, rfl⟩
 obtain ⟨dd, hdd⟩ : ∃ d, depthS l = d := ⟨_, rfl⟩
 obtain ⟨ee, hee⟩ : ∃ d, endS l 0 = d := ⟨_, rfl⟩
 have e : predErr l = if 31 < l.length then 4 else if l.length = 0 ∨ ee ≠ l.length ∨ al = false then 1 else if 8 < dd then 5 else 0 := by
  unfold predErr; rw [hal, hdd, hee]; simp only [hlen]
 rw [e]
 rw [hal] at hc
 rw [hdd] at hd
 rw [hee] at he
 clear e hlen hall hal hdd hee
 by_cases h31 : 31 < l.length
 ·rw [if_pos h31]
  repeat' (first | (with_reducible first | (refine wN fun _ hnl => ?_; revert hnl; (repeat refine wS fun _ _ => ?_); intro hnl) | refine wE ?_ | (refine wK ?_ ?_ <;> intro h) | (refine wB ?_ ?_ <;> intro h <;> simp only [h])) | simp (maxSteps := 4000000) (disch := first | decide | assumption | omega | (simp only [wL]; omega)) only [go_sem, simprocAttr, Tryz.f101])
 ·rw [if_neg h31]
  by_cases h0 : l.length = 0
  ·rw [if_pos (.inl h0)]
   repeat' (first | (with_reducible first | refine up he ?_) | (with_reducible first | (refine wN fun _ hnl => ?_; revert hnl; (repeat refine wS fun _ _ => ?_); intro hnl) | refine wE ?_ | (refine wK ?_ ?_ <;> intro h) | (refine wB ?_ ?_ <;> intro h <;> simp only [h])) | simp (maxSteps := 4000000) (disch := first | decide | assumption | omega | (simp only [wL]; omega)) only [go_sem, simprocAttr, Tryz.f101])
  ·by_cases h1 : ee = l.length
   ·subst h1
    cases al
    ·rw [if_pos (.inr (.inr rfl))]
     repeat' (first | (with_reducible first | refine up he ?_ | refine up hc ?_) | (with_reducible first | (refine wN fun _ hnl => ?_; revert hnl; (repeat refine wS fun _ _ => ?_); intro hnl) | refine wE ?_ | (refine wK ?_ ?_ <;> intro h) | (refine wB ?_ ?_ <;> intro h <;> simp only [h])) | simp (maxSteps := 4000000) (disch := first | decide | assumption | omega | (simp only [wL]; omega)) only [go_sem, simprocAttr, Tryz.f101])
    ·rw [if_neg (by simp [h0])]
     by_cases h8 : 8 < dd
     ·rw [if_pos h8]
      repeat' (first | (with_reducible first | refine up he ?_ | refine up hc ?_ | refine up hd ?_) | (with_reducible first | (refine wN fun _ hnl => ?_; revert hnl; (repeat refine wS fun _ _ => ?_); intro hnl) | refine wE ?_ | (refine wK ?_ ?_ <;> intro h) | (refine wB ?_ ?_ <;> intro h <;> simp only [h])) | simp (maxSteps := 4000000) (disch := first | decide | assumption | omega | (simp only [wL]; omega)) only [go_sem, simprocAttr, Tryz.f101])
     ·rw [if_neg h8]
      repeat' (first | (with_reducible first | refine up he ?_ | refine up hc ?_ | refine up hd ?_) | (with_reducible first | (refine wN fun _ hnl => ?_; revert hnl; (repeat refine wS fun _ _ => ?_); intro hnl) | refine wE ?_ | (refine wK ?_ ?_ <;> intro h) | (refine wB ?_ ?_ <;> intro h <;> simp only [h])) | simp (maxSteps := 4000000) (disch := first | decide | assumption | omega | (simp only [wL]; omega)) only [go_sem, simprocAttr, Tryz.f101])
   ·rw [if_pos (.inr (.inl h1))]
    repeat' (first | (with_reducible first | refine up he ?_) | (with_reducible first | (refine wN fun _ hnl => ?_; revert hnl; (repeat refine wS fun _ _ => ?_); intro hnl) | refine wE ?_ | (refine wK ?_ ?_ <;> intro h) | (refine wB ?_ ?_ <;> intro h <;> simp only [h])) | simp (maxSteps := 4000000) (disch := first | decide | assumption | omega | (simp only [wL]; omega)) only [go_sem, simprocAttr, Tryz.f101])
theorem pnamed_call (op : Int) : MCalls Tryz.prog 160 [.int .i64 op] St.none (fun r _ => r = .bool (opN op)) := by
 refine (MCalls.body 9 [.tmp 2] Tryz.func160 rfl rfl rfl rfl ?_)
 unfold opN
 repeat' (first | (with_reducible first | (refine wN fun _ hnl => ?_; revert hnl; (repeat refine wS fun _ _ => ?_); intro hnl) | refine wE ?_ | (refine wK ?_ ?_ <;> intro h) | (refine wB ?_ ?_ <;> intro h <;> simp only [h])) | simp (maxSteps := 4000000) (disch := first | decide | assumption | omega | (simp only [wL]; omega)) only [go_sem, simprocAttr, Tryz.f160])
 all_goals first | exact decide_eq_false (by omega) | exact (decide_eq_false (by omega)).symm | (rw [eq_comm, decide_eq_decide]; omega) | (rw [decide_eq_decide]; omega)
theorem pvalued_call (op : Int) : MCalls Tryz.prog 161 [.int .i64 op] St.none (fun r _ => r = .bool (opV op)) := by
 refine (MCalls.body 9 [.tmp 2] Tryz.func161 rfl rfl rfl rfl ?_)
 unfold opV
 repeat' (first | (with_reducible first | (refine wN fun _ hnl => ?_; revert hnl; (repeat refine wS fun _ _ => ?_); intro hnl) | refine wE ?_ | (refine wK ?_ ?_ <;> intro h) | (refine wB ?_ ?_ <;> intro h <;> simp only [h])) | simp (maxSteps := 4000000) (disch := first | decide | assumption | omega | (simp only [wL]; omega)) only [go_sem, simprocAttr, Tryz.f161])
 all_goals first | exact decide_eq_false (by omega) | exact (decide_eq_false (by omega)).symm | (rw [eq_comm, decide_eq_decide]; omega) | (rw [decide_eq_decide]; omega)
theorem pbelow_call (op : Int) : MCalls Tryz.prog 163 [.int .i64 op] St.none (fun r _ => r = .int .i64 (mostN op + 1)) := by
 refine (MCalls.body 8 [.tmp 2] Tryz.func163 rfl rfl rfl rfl ?_)
 unfold mostN
 repeat' (first | (with_reducible first | (refine wN fun _ hnl => ?_; revert hnl; (repeat refine wS fun _ _ => ?_); intro hnl) | refine wE ?_ | (refine wK ?_ ?_ <;> intro h) | (refine wB ?_ ?_ <;> intro h <;> simp only [h])) | simp (maxSteps := 4000000) (disch := first | decide | assumption | omega | (simp only [wL]; omega)) only [go_sem, simprocAttr, Tryz.f163])
 all_goals (first | rfl | (simp [*]; done))
theorem predErr_31 {l : List ND} (h : predErr l = 0) : l.length ≤ 31 ∧ l.all ndOk = true := by
 unfold predErr at h
 by_cases h31 : 31 < l.length
 ·rw [if_pos h31] at h; cases h
 ·rw [if_neg h31] at h
  by_cases h1 : l = [] ∨ endS l 0 ≠ l.length ∨ l.all ndOk = false
  ·rw [if_pos h1] at h; cases h
  ·refine ⟨by omega, ?_⟩
   cases ha : l.all ndOk
   ·exact absurd (.inr (.inr ha)) h1
   ·rfl
theorem pnodes_snoc {l : List ND} {i : Nat} (h : i < l.length) : ((l.take (i + 1)).map nodeB).flatten = ((l.take i).map nodeB).flatten ++ nodeB (l.getD i nd0) := by
 rw [List.take_succ_eq_append_getElem h, List.map_append, List.flatten_append, ← getD_of_lt nd0 h]; simp
theorem nodeB_len (x : ND) : (nodeB x).length ≤ 60 := by
 have h1 := numB_len x.op
 have h2 := numB_len x.n
 have h3 := (inferInstance : LB (valB x.v) 36).h
 unfold nodeB
 simp only [List.length_append]
 split <;> split <;> (try simp only [List.length_nil]) <;> omega
theorem pnodes_len : ∀ (l : List ND), ((l.map nodeB).flatten).length ≤ 60 * l.length
 | [] => by simp
 | x :: l => by
  have := pnodes_len l
  have h := nodeB_len x
  simp only [List.map_cons, List.flatten_cons, List.length_append, List.length_cons]
  omega
theorem ndOk_val {x : ND} (h : ndOk x = true) (hv : opV x.op = true) : vaOk x.v = true := by
 unfold opV at hv
 rw [decide_eq_true_eq] at hv
 unfold ndOk at h
 rw [if_neg (by omega), if_neg (by omega), if_neg (by omega)] at h
 by_cases h9 : x.op = 9
 ·rw [if_neg (by omega), if_pos h9, decide_eq_true_eq] at h
  exact h.2.2.1
 ·rw [if_pos (by omega), decide_eq_true_eq] at h
  exact h.2.2.1
theorem pputpred_call (bs : BL) (hb : bs.length ≤ 400000) (t : Bool) (l : List ND) (tt : Bool) (hok : predErr l = 0) : MCalls Tryz.prog 106 [.lst 1 (bs.map bc) t, .lst 5 (l.map ND.c) tt] St.none (fun r _ => r = .lst 1 ((bs ++ predB l).map bc) false) := by
 refine MCalls.drops (MCalls.body 42 [.tmp 4] Tryz.func106 rfl rfl rfl rfl ?_)
 have hl31 := predErr_31 hok
 obtain ⟨hl31, hall⟩ := hl31
 have hc := ppcheck_call l (by omega) tt
 rw [hok] at hc
 have hn := pnum_call bs t (l.length : Int) (by omega)
 have hnl' := numB_len (l.length : Int)
 unfold predB
 rw [if_pos hok]
 repeat' (first | (with_reducible first | refine up hc ?_ | refine up hn ?_) | (with_reducible first | (refine wN fun _ hnl => ?_; revert hnl; (repeat refine wS fun _ _ => ?_); intro hnl) | refine wE ?_ | (refine wK ?_ ?_ <;> intro h) | (refine wB ?_ ?_ <;> intro h <;> simp only [h])) | simp (maxSteps := 4000000) (disch := first | decide | assumption | omega | (simp only [wL]; omega)) only [go_sem, simprocAttr, Tryz.f106])
 refine mloop_intro (α := Nat) (fun i => ⟨42, [(18, .int .i64 (i : Int)), (17, .int .i64 (l.length : Int)), (16, .lst 5 (l.map ND.c) tt), (0, .lst 1 ((bs ++ (numB (l.length : Int) ++ ((l.take i).map nodeB).flatten)).map bc) false)], []⟩) (fun _ => St.none) (fun i => i ≤ l.length) (fun i => l.length - i) (.of (.less ?_ (St.le_refl _)) ⟨0, rfl, rfl, Nat.zero_le _⟩) ?_
 ·rw [List.take_zero, List.map_nil, List.flatten_nil, List.append_nil]
  simp (maxSteps := 4000000) (disch := first | decide | assumption | omega | (simp only [wL]; omega)) only [go_sem, simprocAttr, weak_int, weak_same]
  all_goals rfl
 ·intro i hi
  have hi : i ≤ l.length := hi
  by_cases hlt : i < l.length
  ·have hsn := pnodes_snoc hlt
   have hpl := pnodes_len (l.take i)
   have hxo := List.all_eq_true.1 hall _ (getD_mem nd0 hlt)
   rw [List.length_take, Nat.min_eq_left hi] at hpl
   obtain ⟨x, hx⟩ : ∃ x, l.getD i nd0 = x := ⟨_, rfl⟩
   rw [hx] at hsn hxo
   obtain ⟨pre, hpre⟩ : ∃ pre, bs ++ (numB (l.length : Int) ++ ((l.take i).map nodeB).flatten) = pre := ⟨_, rfl⟩
   have hprl : pre.length ≤ 405000 := by rw [← hpre, List.length_append, List.length_append]; omega
   have h1 := numB_len x.op
   have h2 := numB_len x.n
   rw [hpre]
   have e : bs ++ (numB (l.length : Int) ++ ((l.take (i + 1)).map nodeB).flatten) = pre ++ numB x.op ++ (if opN x.op = true then numB x.n else []) ++ (if opV x.op = true then valB x.v else []) := by
    rw [hsn, ← hpre, nodeB]; simp only [List.append_assoc]
   have hn1 := pnum_call pre false x.op (by omega)
   have hn2 := pnum_call (pre ++ numB x.op) false x.n (by rw [List.length_append]; omega)
   have hpn := pnamed_call x.op
   have hpv := pvalued_call x.op
   have hnv : opV x.op = true → opN x.op = true := by unfold opV opN; simp only [decide_eq_true_eq]; omega
   have hvo := ndOk_val hxo
   obtain ⟨bN, hbN⟩ : ∃ b, opN x.op = b := ⟨_, rfl⟩
   obtain ⟨bV, hbV⟩ : ∃ b, opV x.op = b := ⟨_, rfl⟩
   rw [hbN] at hpn e hnv
   rw [hbV] at hpv e hnv hvo
   clear hpre hsn hpl hbN hbV hall hok hxo
   cases bN
   ·cases bV
    ·simp only [Bool.false_eq_true, if_false, List.append_nil] at e
     repeat' (first | (with_reducible first | refine up hn1 ?_ | refine up hpn ?_ | refine up hpv ?_) | (with_reducible first | (refine wN fun _ hnl => ?_; revert hnl; (repeat refine wS fun _ _ => ?_); intro hnl) | refine wE ?_ | (refine wK ?_ ?_ <;> intro h) | (refine wB ?_ ?_ <;> intro h <;> simp only [h])) | simp (maxSteps := 4000000) (disch := first | decide | assumption | omega | (simp only [wL]; omega)) only [go_sem, simprocAttr, getD_mapd nd0, hx])
     refine .of (.less (l1 := [(18, .int .i64 ((i + 1 : Nat) : Int)), (17, .int .i64 (l.length : Int)), (16, .lst 5 (l.map ND.c) tt), (0, .lst 1 ((bs ++ (numB (l.length : Int) ++ ((l.take (i + 1)).map nodeB).flatten)).map bc) false)]) ?_ (St.none_le _)) ⟨i + 1, rfl, rfl, by omega, by omega⟩
     rw [e]
     simp (maxSteps := 4000000) (disch := first | decide | assumption | omega | (simp only [wL]; omega)) only [go_sem, simprocAttr, weak_int, weak_same]
     all_goals rfl
    ·exact absurd (hnv rfl) (by decide)
   ·cases bV
    ·simp only [Bool.false_eq_true, if_false, if_true, List.append_nil] at e
     repeat' (first | (with_reducible first | refine up hn1 ?_ | refine up hn2 ?_ | refine up hpn ?_ | refine up hpv ?_) | (with_reducible first | (refine wN fun _ hnl => ?_; revert hnl; (repeat refine wS fun _ _ => ?_); intro hnl) | refine wE ?_ | (refine wK ?_ ?_ <;> intro h) | (refine wB ?_ ?_ <;> intro h <;> simp only [h])) | simp (maxSteps := 4000000) (disch := first | decide | assumption | omega | (simp only [wL]; omega)) only [go_sem, simprocAttr, getD_mapd nd0, hx])
     refine .of (.less (l1 := [(18, .int .i64 ((i + 1 : Nat) : Int)), (17, .int .i64 (l.length : Int)), (16, .lst 5 (l.map ND.c) tt), (0, .lst 1 ((bs ++ (numB (l.length : Int) ++ ((l.take (i + 1)).map nodeB).flatten)).map bc) false)]) ?_ (St.none_le _)) ⟨i + 1, rfl, rfl, by omega, by omega⟩
     rw [e]
     simp (maxSteps := 4000000) (disch := first | decide | assumption | omega | (simp only [wL]; omega)) only [go_sem, simprocAttr, weak_int, weak_same]
     all_goals rfl
    ·have hv := pputval_call (pre ++ numB x.op ++ numB x.n) (by rw [List.length_append, List.length_append]; omega) false x.v (hvo rfl)
     simp only [if_true] at e
     repeat' (first | (with_reducible first | refine up hn1 ?_ | refine up hn2 ?_ | refine up hpn ?_ | refine up hpv ?_ | refine up hv ?_) | (with_reducible first | (refine wN fun _ hnl => ?_; revert hnl; (repeat refine wS fun _ _ => ?_); intro hnl) | refine wE ?_ | (refine wK ?_ ?_ <;> intro h) | (refine wB ?_ ?_ <;> intro h <;> simp only [h])) | simp (maxSteps := 4000000) (disch := first | decide | assumption | omega | (simp only [wL]; omega)) only [go_sem, simprocAttr, getD_mapd nd0, hx])
     refine .of (.less (l1 := [(18, .int .i64 ((i + 1 : Nat) : Int)), (17, .int .i64 (l.length : Int)), (16, .lst 5 (l.map ND.c) tt), (0, .lst 1 ((bs ++ (numB (l.length : Int) ++ ((l.take (i + 1)).map nodeB).flatten)).map bc) false)]) ?_ (St.none_le _)) ⟨i + 1, rfl, rfl, by omega, by omega⟩
     rw [e]
     simp (maxSteps := 4000000) (disch := first | decide | assumption | omega | (simp only [wL]; omega)) only [go_sem, simprocAttr, weak_int, weak_same]
     all_goals rfl
  ·have : i = l.length := by omega
   subst this
   rw [List.take_length]
   repeat' (first | (with_reducible first | (refine wN fun _ hnl => ?_; revert hnl; (repeat refine wS fun _ _ => ?_); intro hnl) | refine wE ?_ | (refine wK ?_ ?_ <;> intro h) | (refine wB ?_ ?_ <;> intro h <;> simp only [h])) | simp (maxSteps := 4000000) (disch := first | decide | assumption | omega | (simp only [wL]; omega)) only [go_sem, simprocAttr])
   all_goals first | exact ⟨_, St.le_refl _, rfl⟩ | exact ⟨_, St.le_refl _⟩
end Go.Proofs.YtfbodefnblpflaaGreatDoor
end
