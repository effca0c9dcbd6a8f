/- Parts of the proof, joined. Each part says what it proves, and under which conditions it does: those that its theorems name. -/
import Derived.Test.YtjljgahfkcdhfaaGreatDoorSnu
set_option linter.unusedVariables false
set_option linter.unusedSimpArgs false
set_option maxHeartbeats 4000000
namespace Go.Proofs.YtjljgahfkcdhfaaGreatDoor
def cmpIntV : List MV → MV
 | [.int _ a, .int _ b] => .int .i64 (ordI (cmpL [a] [b]))
 | _ => .junk
theorem or_at (l : Nat) (a b c : Int) : MCalls Tryz.prog 128 [.vec 1 l 0 3] (St.ofList [l] [.row 3 1 [[.int .i64 a], [.int .i64 b], [.int .i64 c]]]) (fun r σ' => r = .int .i64 (if a ≠ 0 then a else if b ≠ 0 then b else c) ∧ σ' = St.ofList [l] [.row 3 1 [[.int .i64 a], [.int .i64 b], [.int .i64 c]]]) :=
 MCalls.lend (or_call a b c) (fun r hr => by rw [hr]; exact .int _ _) rfl (fun i m m' h1 h2 => by
  match i, h1, h2 with
  | 0, h1, h2 =>
   simp only [List.getElem?_cons_zero, Option.some.injEq] at h1 h2
   subst h1 h2
   exact .vecAll (set_hit _ _ _) rfl)
theorem key_or (x y : ND) : (if ordI (cmpL [x.op] [y.op]) ≠ 0 then ordI (cmpL [x.op] [y.op]) else if ordI (cmpL [x.n] [y.n]) ≠ 0 then ordI (cmpL [x.n] [y.n]) else ordI (cmpL x.v.key y.v.key)) = ordI (cmpL x.key y.key) := by
 have z : ∀ a b : Int, ordI (cmpL [a] [b]) = 0 ↔ a = b := fun a b => by rw [ordI_zero, cmpL_eq]; simp
 by_cases h1 : x.op = y.op
 ·rw [if_neg (by simp [(z _ _).2 h1])]
  have e1 : cmpL x.key y.key = cmpL (x.n :: x.v.key) (y.n :: y.v.key) := by rw [ND.key, ND.key, h1, cmpL_same]
  by_cases h2 : x.n = y.n
  ·rw [if_neg (by simp [(z _ _).2 h2]), e1, h2, cmpL_same]
  ·rw [if_pos (by rw [ne_eq, z]; exact h2), e1, cmpL_ne (x := x.v.key) (y := y.v.key) h2]
 ·rw [if_pos (by rw [ne_eq, z]; exact h1), ND.key, ND.key, cmpL_ne (x := x.n :: x.v.key) (y := y.n :: y.v.key) h1]
def orC (x y : ND) : Know := fun g ms => if g = 129 then some ⟨[], fun v => v = cmpIntV ms, none⟩ else if g = 130 then some ⟨[], fun v => v = .int .i64 (ordI (cmpL x.v.key y.v.key)), none⟩ else if g = 128 then (match ms with
  | [.vec _ l _ _] => some ⟨[l], fun v => v = .int .i64 (ordI (cmpL x.key y.key)), none⟩
  | _ => none) else none
theorem pcmp1_call (x y : ND) : MCalls Tryz.prog 127 [.agg x.c, .agg y.c] St.none (fun r _ => r = .int .i64 (ordI (cmpL x.key y.key))) := by
 refine (MCalls.body 22 [.tmp 4] Tryz.func127 rfl rfl rfl rfl ?_)
 have hv := vcompare_call x.v y.v
 have ho := fun l => or_at l (ordI (cmpL [x.op] [y.op])) (ordI (cmpL [x.n] [y.n])) (ordI (cmpL x.v.key y.v.key))
 simp only [key_or] at ho
 repeat' (first | (with_reducible refine mdraw_know mixed (by decide +kernel) (orC x y) ?_) | (with_reducible refine know_pure rfl (cmpint_call _ _) ?_) | (with_reducible refine know_pure rfl hv ?_) | (with_reducible first | (refine wN fun nl hnl => ?_; revert hnl; (repeat refine wS fun _ _ => ?_); intro hnl) | refine wD (by decide +kernel) ?_ | refine wI (fun h => ?_) fun h => ?_ | refine wF (fun h => ?_) fun h => ?_ | refine wG (fun h => ?_) fun h => ?_ | refine wH (fun h => ?_) fun h => ?_ | ((first | refine mfork_bool (fun h => ?_) fun h => ?_ | refine mgfork_bool (fun h => ?_) fun h => ?_) <;> simp only [h])) | simp (maxSteps := 4000000) (disch := first | decide | assumption | omega | (simp only [wL]; omega)) only [go_sem, simprocAttr, Tryz.f127])
 refine know_at [nl] [.row 3 1 [[.int .i64 (ordI (cmpL [x.op] [y.op]))], [.int .i64 (ordI (cmpL [x.n] [y.n]))], [.int .i64 (ordI (cmpL x.v.key y.v.key))]]] rfl ?_ (ho nl) ⟨_, rfl⟩ (fun v hv => ?_)
 ·simp (maxSteps := 4000000) (disch := first | decide | assumption | omega | (simp only [wL]; omega)) only [go_sem, simprocAttr]
 subst hv
 repeat' (first | (with_reducible first | (refine wN fun nl hnl => ?_; revert hnl; (repeat refine wS fun _ _ => ?_); intro hnl) | refine wD (by decide +kernel) ?_ | refine wI (fun h => ?_) fun h => ?_ | refine wF (fun h => ?_) fun h => ?_ | refine wG (fun h => ?_) fun h => ?_ | refine wH (fun h => ?_) fun h => ?_ | ((first | refine mfork_bool (fun h => ?_) fun h => ?_ | refine mgfork_bool (fun h => ?_) fun h => ?_) <;> simp only [h])) | simp (maxSteps := 4000000) (disch := first | decide | assumption | omega | (simp only [wL]; omega)) only [go_sem, simprocAttr])
theorem vaOk_kd {v : VA} (h : vaOk v = true) : v.kd = 0 ∨ v.kd = 1 ∨ v.kd = 2 := by
 unfold vaOk at h
 split at h
 ·exact .inl ‹_›
 ·split at h
  ·exact .inr (.inl ‹_›)
  ·split at h
   ·exact .inr (.inr ‹_›)
   ·cases h
set_option maxHeartbeats 4000000 in
theorem pnode_call (x : ND) : MCalls Tryz.prog 112 [.agg x.c] St.none (fun r _ => r = .bool (ndOk x)) := by
 refine (MCalls.body 49 [.tmp 2] Tryz.func112 rfl rfl rfl rfl ?_)
 obtain ⟨op, n, kd, vn, s⟩ := x
 have hvc := vcheck_call kd vn s
 cases hv : vaOk ⟨kd, vn, s⟩
 ·rw [hv] at hvc
  have h0 : (⟨kd, vn, s⟩ : VA) ≠ va0 := fun e => by rw [e] at hv; simp [vaOk, va0] at hv
  have hn : ndOk ⟨op, n, kd, vn, s⟩ = false := by simp [ndOk, h0, hv]
  rw [hn]
  repeat' (first | (with_reducible refine use_pure hvc ?_) | (with_reducible first | (refine wN fun nl hnl => ?_; revert hnl; (repeat refine wS fun _ _ => ?_); intro hnl) | refine wD (by decide +kernel) ?_ | refine wI (fun h => ?_) fun h => ?_ | refine wF (fun h => ?_) fun h => ?_ | refine wG (fun h => ?_) fun h => ?_ | refine wH (fun h => ?_) fun h => ?_ | ((first | refine mfork_bool (fun h => ?_) fun h => ?_ | refine mgfork_bool (fun h => ?_) fun h => ?_) <;> simp only [h])) | simp (maxSteps := 4000000) (disch := first | decide | assumption | omega | (simp only [wL]; omega)) only [go_sem, simprocAttr, Tryz.f112])
 ·rw [hv] at hvc
  rcases vaOk_kd hv with h | h | h
  ·simp only at h
   subst h
   have hz : (⟨0, vn, s⟩ : VA) = va0 := by simpa [vaOk] using hv
   simp only [va0, VA.mk.injEq, true_and] at hz
   obtain ⟨rfl, rfl⟩ := hz
   repeat' (first | (with_reducible refine use_pure hvc ?_) | (with_reducible first | (refine wN fun nl hnl => ?_; revert hnl; (repeat refine wS fun _ _ => ?_); intro hnl) | refine wD (by decide +kernel) ?_ | refine wI (fun h => ?_) fun h => ?_ | refine wF (fun h => ?_) fun h => ?_ | refine wG (fun h => ?_) fun h => ?_ | refine wH (fun h => ?_) fun h => ?_ | ((first | refine mfork_bool (fun h => ?_) fun h => ?_ | refine mgfork_bool (fun h => ?_) fun h => ?_) <;> simp only [h])) | simp (maxSteps := 4000000) (disch := first | decide | assumption | omega | (simp only [wL]; omega)) only [go_sem, simprocAttr, Tryz.f112])
   all_goals first
    | (simp [ndOk, va0, vaOk, andK, IntKind.wrap, IntKind.bits, IntKind.signed, *]; done)
    | (simp [ndOk, va0, vaOk, andK, IntKind.wrap, IntKind.bits, IntKind.signed, *]; omega)
    | (simp [ndOk, va0, vaOk, andK, IntKind.wrap, IntKind.bits, IntKind.signed, *]; decide)
  ·simp only at h
   subst h
   have hz : (⟨1, vn, s⟩ : VA) ≠ va0 := by simp [va0]
   repeat' (first | (with_reducible refine use_pure hvc ?_) | (with_reducible first | (refine wN fun nl hnl => ?_; revert hnl; (repeat refine wS fun _ _ => ?_); intro hnl) | refine wD (by decide +kernel) ?_ | refine wI (fun h => ?_) fun h => ?_ | refine wF (fun h => ?_) fun h => ?_ | refine wG (fun h => ?_) fun h => ?_ | refine wH (fun h => ?_) fun h => ?_ | ((first | refine mfork_bool (fun h => ?_) fun h => ?_ | refine mgfork_bool (fun h => ?_) fun h => ?_) <;> simp only [h])) | simp (maxSteps := 4000000) (disch := first | decide | assumption | omega | (simp only [wL]; omega)) only [go_sem, simprocAttr, Tryz.f112])
   all_goals first
    | (simp [ndOk, hz, hv, andK, IntKind.wrap, IntKind.bits, IntKind.signed, *]; done)
    | (simp [ndOk, hz, hv, andK, IntKind.wrap, IntKind.bits, IntKind.signed, *]; omega)
    | (simp [ndOk, hz, hv, andK, IntKind.wrap, IntKind.bits, IntKind.signed, *]; decide)
  ·simp only at h
   subst h
   have hz : (⟨2, vn, s⟩ : VA) ≠ va0 := by simp [va0]
   repeat' (first | (with_reducible refine use_pure hvc ?_) | (with_reducible first | (refine wN fun nl hnl => ?_; revert hnl; (repeat refine wS fun _ _ => ?_); intro hnl) | refine wD (by decide +kernel) ?_ | refine wI (fun h => ?_) fun h => ?_ | refine wF (fun h => ?_) fun h => ?_ | refine wG (fun h => ?_) fun h => ?_ | refine wH (fun h => ?_) fun h => ?_ | ((first | refine mfork_bool (fun h => ?_) fun h => ?_ | refine mgfork_bool (fun h => ?_) fun h => ?_) <;> simp only [h])) | simp (maxSteps := 4000000) (disch := first | decide | assumption | omega | (simp only [wL]; omega)) only [go_sem, simprocAttr, Tryz.f112])
   all_goals first
    | (simp [ndOk, hz, hv, andK, IntKind.wrap, IntKind.bits, IntKind.signed, *]; done)
    | (simp [ndOk, hz, hv, andK, IntKind.wrap, IntKind.bits, IntKind.signed, *]; omega)
    | (simp [ndOk, hz, hv, andK, IntKind.wrap, IntKind.bits, IntKind.signed, *]; decide)
end Go.Proofs.YtjljgahfkcdhfaaGreatDoor
