/- Contract of the reference's Atoms (UNDER WAY): the conditions that the theorem names. -/
import Derived.Test.YtielcgplbnlgbaaQ11
set_option linter.unusedVariables false
set_option linter.unusedSimpArgs false
namespace Go.Proofs.Ytielcgplbnlgbaa

theorem insN_at {acc : List ND} {x : ND} {i : Nat} (hi : i ≤ acc.length) (hq : ∀ q, q < i → lessK (acc.getD q nd0).key x.key) (h1 : i < acc.length → ¬ lessK (acc.getD i nd0).key x.key ∧ acc.getD i nd0 ≠ x) : insN x acc = acc.take i ++ [x] ++ acc.drop i := by
  rw [insN_pos x acc i hi hq, List.append_assoc]
  congr 1
  by_cases h : i < acc.length
  · obtain ⟨h2, h3⟩ := h1 h
    rw [drop_getD nd0 h]
    simp only [insN]
    rw [if_neg h2, if_neg h3]
    rfl
  · rw [List.drop_eq_nil_of_le (by omega)]
    rfl
theorem insN_there {acc : List ND} {x : ND} {i : Nat} (hi : i < acc.length) (hq : ∀ q, q < i → lessK (acc.getD q nd0).key x.key) (h1 : acc.getD i nd0 = x) : insN x acc = acc := by
  rw [insN_pos x acc i (Nat.le_of_lt hi) hq, drop_getD nd0 hi, h1]
  simp only [insN]
  rw [if_neg lessK_irrefl, if_pos trivial, ← h1, ← drop_getD nd0 hi, List.take_append_drop]
theorem ord_less {x y : ND} : ordI (cmpF [x] [y]) < 0 ↔ lessK x.key y.key := by
  rw [cmpF_one]; unfold lessK; cases cmpL x.key y.key <;> simp [ordI]
theorem fold_succ {l : List ND} {k : Nat} (h : k < l.length) (hat : atomR (l.getD k nd0) = true) : ((l.take (k + 1)).filter atomR).foldl (fun acc x => insN x acc) [] = insN (l.getD k nd0) (((l.take k).filter atomR).foldl (fun acc x => insN x acc) []) := by
  rw [getD_of_lt nd0 h] at hat ⊢
  rw [List.take_succ_eq_append_getElem h, List.filter_append, List.foldl_append]
  simp [hat]

set_option maxHeartbeats 4000000 in
theorem ratoms_call (a b : List ND) (ta tb : Bool) (la : a.length ≤ 100000) (lb : b.length ≤ 100000) (ha : ∀ x, x ∈ a → x.v.s.size ≤ 1000000) (hb : ∀ x, x ∈ b → x.v.s.size ≤ 1000000) :
    MCalls Try.prog 14 [.lst 5 (a.map ND.c) ta, .lst 5 (b.map ND.c) tb] St.none (fun r _ => r = .lst 5 ((((a ++ b).filter atomR).foldl (fun acc x => insN x acc) []).map ND.c) false) := by
  refine MCalls.seen (MCalls.body 82 [.tmp 4] Try.func14 rfl rfl rfl rfl ?_)
  repeat' (first | ((with_reducible refine mnew_intro fun nl hnl => ?_); revert hnl; (repeat (with_reducible refine set_none_intro fun _ _ => ?_)); intro hnl) | with_reducible refine mdraw_plain mixed (by decide +kernel) ?_ | with_reducible refine mif_go (fun h => ?_) (fun h => ?_) | with_reducible refine mfork_dec (fun h => ?_) (fun h => ?_) | with_reducible refine mgfork_dec (fun h => ?_) (fun h => ?_) | with_reducible refine mgfork_dec' (fun h => ?_) (fun h => ?_) | (with_reducible refine mfork_bool (fun h => ?_) (fun h => ?_) <;> simp only [h]) | (with_reducible refine mgfork_bool (fun h => ?_) (fun h => ?_) <;> simp only [h]) | (simp (config := { maxSteps := 4000000 }) (disch := first | decide | assumption | omega | (simp only [List.length_append, List.length_take, List.length_drop, List.length_cons, List.length_nil, List.length_map, List.length_set, List.length_replicate]; omega)) only [go_sem, Nat.reduceAdd, Nat.reduceSub, Nat.reduceMul, Nat.reduceDiv, Nat.reduceMod, Nat.reduceLT, Nat.reduceLeDiff, Nat.reduceEqDiff, Nat.reduceSucc, Nat.reduceGT, Int.reduceAdd, Int.reduceSub, Int.reduceMul, Int.reduceNeg, Int.reduceLT, Int.reduceLE, Int.reduceEq, Int.reduceToNat, reduceIte, Try.f14]))
  refine mloop_intro (α := Nat × List ND) (fun a1 => ⟨82, [(7, .int .i64 (a1.1 : Int)), (6, .lst 5 (a1.2.map ND.c) false), (5, .lst 5 ((a ++ b).map ND.c) false)], []⟩)
    (fun _ => St.none) (fun a1 => a1.1 ≤ a.length + b.length ∧ a1.2 = (((a ++ b).take a1.1).filter atomR).foldl (fun acc x => insN x acc) []) (fun a1 => a.length + b.length - a1.1) ?_ ?_
  · refine .step (Ghost.freeze (l1 := [(7, .int .i64 0), (6, .lst 5 [] false), (5, .lst 5 ((a ++ b).map ND.c) false)]) _ (St.le_refl _) (σ1 := St.none) (St.none_le _) (fun k o hk => by cases hk) ?_) (.done ⟨(0, []), rfl, rfl, Nat.zero_le _, rfl⟩)
    simp (config := { maxSteps := 4000000 }) (disch := first | decide | assumption | omega | (simp only [List.length_append, List.length_take, List.length_drop, List.length_cons, List.length_nil, List.length_map, List.length_set, List.length_replicate]; omega)) only [go_sem, Nat.reduceAdd, Nat.reduceSub, Nat.reduceMul, Nat.reduceDiv, Nat.reduceMod, Nat.reduceLT, Nat.reduceLeDiff, Nat.reduceEqDiff, Nat.reduceSucc, Nat.reduceGT, Int.reduceAdd, Int.reduceSub, Int.reduceMul, Int.reduceNeg, Int.reduceLT, Int.reduceLE, Int.reduceEq, Int.reduceToNat, reduceIte, weak_same]
    exact ⟨.same _, .vecAll (set_hit _ _ _) rfl, .vecAll ((set_miss _ _ _ _ (by assumption)).trans (set_hit _ _ _)) (by simp)⟩
  · rintro ⟨k, acc⟩ ⟨hk, hacc⟩
    simp only at hk hacc ⊢
    by_cases hlt : k < a.length + b.length
    · have hm : (a ++ b).length = a.length + b.length := List.length_append ..
      cases hat : atomR ((a ++ b).getD k nd0)
      · repeat' (first | (with_reducible refine use_pure (ratom_call _) ?_) | ((with_reducible refine mnew_intro fun nl hnl => ?_); revert hnl; (repeat (with_reducible refine set_none_intro fun _ _ => ?_)); intro hnl) | with_reducible refine mdraw_plain mixed (by decide +kernel) ?_ | with_reducible refine mif_go (fun h => ?_) (fun h => ?_) | with_reducible refine mfork_dec (fun h => ?_) (fun h => ?_) | with_reducible refine mgfork_dec (fun h => ?_) (fun h => ?_) | with_reducible refine mgfork_dec' (fun h => ?_) (fun h => ?_) | (with_reducible refine mfork_bool (fun h => ?_) (fun h => ?_) <;> simp only [h]) | (with_reducible refine mgfork_bool (fun h => ?_) (fun h => ?_) <;> simp only [h]) | (simp (config := { maxSteps := 4000000 }) (disch := first | decide | assumption | omega | (simp only [List.length_append, List.length_take, List.length_drop, List.length_cons, List.length_nil, List.length_map, List.length_set, List.length_replicate]; omega)) only [go_sem, Nat.reduceAdd, Nat.reduceSub, Nat.reduceMul, Nat.reduceDiv, Nat.reduceMod, Nat.reduceLT, Nat.reduceLeDiff, Nat.reduceEqDiff, Nat.reduceSucc, Nat.reduceGT, Int.reduceAdd, Int.reduceSub, Int.reduceMul, Int.reduceNeg, Int.reduceLT, Int.reduceLE, Int.reduceEq, Int.reduceToNat, reduceIte, getD_mapd nd0, hat, hm, hlt]))
        refine .of (.less (l1 := [(7, .int .i64 ((k + 1 : Nat) : Int)), (6, .lst 5 (acc.map ND.c) false), (5, .lst 5 ((a ++ b).map ND.c) false)]) ?_ (St.le_refl _)) ⟨(k + 1, acc), rfl, rfl, ⟨by simp only; omega, ?_⟩, by simp only; omega⟩
        · simp (config := { maxSteps := 4000000 }) (disch := first | decide | assumption | omega | (simp only [List.length_append, List.length_take, List.length_drop, List.length_cons, List.length_nil, List.length_map, List.length_set, List.length_replicate]; omega)) only [go_sem, Nat.reduceAdd, Nat.reduceSub, Nat.reduceMul, Nat.reduceDiv, Nat.reduceMod, Nat.reduceLT, Nat.reduceLeDiff, Nat.reduceEqDiff, Nat.reduceSucc, Nat.reduceGT, Int.reduceAdd, Int.reduceSub, Int.reduceMul, Int.reduceNeg, Int.reduceLT, Int.reduceLE, Int.reduceEq, Int.reduceToNat, reduceIte, weak_int, weak_same]
          rfl
        · simp only
          rw [List.take_succ_eq_append_getElem (by omega), List.filter_append, List.foldl_append, ← hacc]
          rw [getD_of_lt nd0 (by omega)] at hat
          simp [hat]
      · repeat' (first | (with_reducible refine use_pure (ratom_call _) ?_) | ((with_reducible refine mnew_intro fun nl hnl => ?_); revert hnl; (repeat (with_reducible refine set_none_intro fun _ _ => ?_)); intro hnl) | with_reducible refine mdraw_plain mixed (by decide +kernel) ?_ | with_reducible refine mif_go (fun h => ?_) (fun h => ?_) | with_reducible refine mfork_dec (fun h => ?_) (fun h => ?_) | with_reducible refine mgfork_dec (fun h => ?_) (fun h => ?_) | with_reducible refine mgfork_dec' (fun h => ?_) (fun h => ?_) | (with_reducible refine mfork_bool (fun h => ?_) (fun h => ?_) <;> simp only [h]) | (with_reducible refine mgfork_bool (fun h => ?_) (fun h => ?_) <;> simp only [h]) | (simp (config := { maxSteps := 4000000 }) (disch := first | decide | assumption | omega | (simp only [List.length_append, List.length_take, List.length_drop, List.length_cons, List.length_nil, List.length_map, List.length_set, List.length_replicate]; omega)) only [go_sem, Nat.reduceAdd, Nat.reduceSub, Nat.reduceMul, Nat.reduceDiv, Nat.reduceMod, Nat.reduceLT, Nat.reduceLeDiff, Nat.reduceEqDiff, Nat.reduceSucc, Nat.reduceGT, Int.reduceAdd, Int.reduceSub, Int.reduceMul, Int.reduceNeg, Int.reduceLT, Int.reduceLE, Int.reduceEq, Int.reduceToNat, reduceIte, getD_mapd nd0, hat, hm, hlt]))
        refine mloop_intro (α := Nat) (fun i => ⟨82, [(8, .int .i64 (i : Int)), (7, .int .i64 (k : Int)), (6, .lst 5 (acc.map ND.c) false), (5, .lst 5 ((a ++ b).map ND.c) false)], []⟩)
          (fun _ => St.none) (fun i => i ≤ acc.length ∧ ∀ q, q < i → lessK (acc.getD q nd0).key ((a ++ b).getD k nd0).key) (fun i => acc.length - i) (.of (.less ?_ (St.le_refl _)) ⟨0, rfl, rfl, Nat.zero_le _, by omega⟩) ?_
        · simp (config := { maxSteps := 4000000 }) (disch := first | decide | assumption | omega | (simp only [List.length_append, List.length_take, List.length_drop, List.length_cons, List.length_nil, List.length_map, List.length_set, List.length_replicate]; omega)) only [go_sem, Nat.reduceAdd, Nat.reduceSub, Nat.reduceMul, Nat.reduceDiv, Nat.reduceMod, Nat.reduceLT, Nat.reduceLeDiff, Nat.reduceEqDiff, Nat.reduceSucc, Nat.reduceGT, Int.reduceAdd, Int.reduceSub, Int.reduceMul, Int.reduceNeg, Int.reduceLT, Int.reduceLE, Int.reduceEq, Int.reduceToNat, reduceIte, weak_int, weak_same]
          rfl
        · rintro i ⟨hi, hq⟩
          have hkl : k < (a ++ b).length := by omega
          have hal : acc.length ≤ 200000 := by
            have h1 := foldl_len (((a ++ b).take k).filter atomR) []
            have h2 := List.length_filter_le atomR ((a ++ b).take k)
            have h3 : ((a ++ b).take k).length ≤ k := by rw [List.length_take]; omega
            rw [← hacc] at h1
            simp only [List.length_nil] at h1
            omega
          by_cases hia : i < acc.length
          · have hsz : ∀ x, x ∈ a ++ b → x.v.s.size ≤ 1000000 := fun x hx => (List.mem_append.1 hx).elim (ha x) (hb x)
            have hin : ∀ x, x ∈ acc → x ∈ a ++ b := fun x hx => by
              rw [hacc] at hx
              rcases mem_foldl hx with h | h
              · cases h
              · exact List.mem_of_mem_take (List.mem_filter.1 h).1
            have hrc := rcompare_call [acc.getD i nd0] [(a ++ b).getD k nd0] (by simp) (by simp) (fun x hx => by rw [List.mem_singleton.1 hx]; exact hsz _ (hin _ (by rw [getD_of_lt nd0 hia]; exact List.getElem_mem hia))) (fun x hx => by rw [List.mem_singleton.1 hx]; exact hsz _ (by rw [getD_of_lt nd0 (by omega)]; exact List.getElem_mem _)) (false && decide (i + 1 = acc.length)) (false && decide (k + 1 = a.length + b.length))
            simp only [List.map_cons, List.map_nil] at hrc
            have one : ∀ (l : List ND) (q : Nat), q < l.length → (l.take (q + 1)).drop q = [l.getD q nd0] := fun l q h => by
              rw [List.take_succ_eq_append_getElem h, List.drop_append_of_le_length (by simp; omega), List.drop_of_length_le (by simp; omega), getD_of_lt nd0 h]; rfl
            have hd1 := one acc i hia
            have hd2 := one (a ++ b) k hkl
            repeat' (first | ((with_reducible refine mnew_intro fun nl hnl => ?_); revert hnl; (repeat (with_reducible refine set_none_intro fun _ _ => ?_)); intro hnl) | with_reducible refine mdraw_plain mixed (by decide +kernel) ?_ | with_reducible refine mif_go (fun h => ?_) (fun h => ?_) | with_reducible refine mfork_dec (fun h => ?_) (fun h => ?_) | with_reducible refine mgfork_dec (fun h => ?_) (fun h => ?_) | with_reducible refine mgfork_dec' (fun h => ?_) (fun h => ?_) | (with_reducible refine mfork_bool (fun h => ?_) (fun h => ?_) <;> simp only [h]) | (with_reducible refine mgfork_bool (fun h => ?_) (fun h => ?_) <;> simp only [h]) | (simp (config := { maxSteps := 4000000 }) (disch := first | decide | assumption | omega | (simp only [List.length_append, List.length_take, List.length_drop, List.length_cons, List.length_nil, List.length_map, List.length_set, List.length_replicate]; omega)) only [go_sem, Nat.reduceAdd, Nat.reduceSub, Nat.reduceMul, Nat.reduceDiv, Nat.reduceMod, Nat.reduceLT, Nat.reduceLeDiff, Nat.reduceEqDiff, Nat.reduceSucc, Nat.reduceGT, Int.reduceAdd, Int.reduceSub, Int.reduceMul, Int.reduceNeg, Int.reduceLT, Int.reduceLE, Int.reduceEq, Int.reduceToNat, reduceIte, getD_mapd nd0, hm]))
            refine mdraw_know mixed (by decide +kernel) (fun g ms => if g = 36 then some ([], fun v => v = .int .i64 (ordI (cmpF [acc.getD i nd0] [(a ++ b).getD k nd0]))) else none) ?_
            repeat' (first | (with_reducible refine know_pure rfl hrc ?_) | ((with_reducible refine mnew_intro fun nl hnl => ?_); revert hnl; (repeat (with_reducible refine set_none_intro fun _ _ => ?_)); intro hnl) | with_reducible refine mdraw_plain mixed (by decide +kernel) ?_ | with_reducible refine mif_go (fun h => ?_) (fun h => ?_) | with_reducible refine mfork_dec (fun h => ?_) (fun h => ?_) | with_reducible refine mgfork_dec (fun h => ?_) (fun h => ?_) | with_reducible refine mgfork_dec' (fun h => ?_) (fun h => ?_) | (with_reducible refine mfork_bool (fun h => ?_) (fun h => ?_) <;> simp only [h]) | (with_reducible refine mgfork_bool (fun h => ?_) (fun h => ?_) <;> simp only [h]) | (simp (config := { maxSteps := 4000000 }) (disch := first | decide | assumption | omega | (simp only [List.length_append, List.length_take, List.length_drop, List.length_cons, List.length_nil, List.length_map, List.length_set, List.length_replicate]; omega)) only [go_sem, Nat.reduceAdd, Nat.reduceSub, Nat.reduceMul, Nat.reduceDiv, Nat.reduceMod, Nat.reduceLT, Nat.reduceLeDiff, Nat.reduceEqDiff, Nat.reduceSucc, Nat.reduceGT, Int.reduceAdd, Int.reduceSub, Int.reduceMul, Int.reduceNeg, Int.reduceLT, Int.reduceLE, Int.reduceEq, Int.reduceToNat, reduceIte, getD_mapd nd0, hm, hd1, hd2]))
            · refine .of (.less ?_ (St.le_refl _)) ⟨i + 1, rfl, rfl, ⟨by omega, fun q hq' => ?_⟩, by omega⟩
              · simp (config := { maxSteps := 4000000 }) (disch := first | decide | assumption | omega | (simp only [List.length_append, List.length_take, List.length_drop, List.length_cons, List.length_nil, List.length_map, List.length_set, List.length_replicate]; omega)) only [go_sem, Nat.reduceAdd, Nat.reduceSub, Nat.reduceMul, Nat.reduceDiv, Nat.reduceMod, Nat.reduceLT, Nat.reduceLeDiff, Nat.reduceEqDiff, Nat.reduceSucc, Nat.reduceGT, Int.reduceAdd, Int.reduceSub, Int.reduceMul, Int.reduceNeg, Int.reduceLT, Int.reduceLE, Int.reduceEq, Int.reduceToNat, reduceIte, weak_int, weak_same]
                all_goals rfl
              · rcases Nat.lt_or_ge q i with hlt' | hge
                · exact hq q hlt'
                · have : q = i := by omega
                  subst this
                  exact ord_less.1 h
            · refine .of (.less ?_ (St.le_refl _)) ⟨(k + 1, acc), rfl, rfl, ⟨by simp only; omega, ?_⟩, by simp only; omega⟩
              · simp (config := { maxSteps := 4000000 }) (disch := first | decide | assumption | omega | (simp only [List.length_append, List.length_take, List.length_drop, List.length_cons, List.length_nil, List.length_map, List.length_set, List.length_replicate]; omega)) only [go_sem, Nat.reduceAdd, Nat.reduceSub, Nat.reduceMul, Nat.reduceDiv, Nat.reduceMod, Nat.reduceLT, Nat.reduceLeDiff, Nat.reduceEqDiff, Nat.reduceSucc, Nat.reduceGT, Int.reduceAdd, Int.reduceSub, Int.reduceMul, Int.reduceNeg, Int.reduceLT, Int.reduceLE, Int.reduceEq, Int.reduceToNat, reduceIte, weak_int, weak_same]
                all_goals rfl
              · simp only
                rw [fold_succ hkl hat, ← hacc, insN_there hia hq (nd_ext h)]
            · have hnl : ¬ ordI (cmpF [acc.getD i nd0] [(a ++ b).getD k nd0]) < 0 := by assumption
              have hins := insN_at hi hq (fun _ => ⟨fun hl => hnl (ord_less.2 hl), fun e => h (by rw [e]; exact ⟨rfl, rfl, rfl, rfl, rfl⟩)⟩)
              refine .of (Ghost.freeze _ (St.le_refl _) (St.none_le _) (fun k o hk => by cases hk) ?_) ⟨(k + 1, insN ((a ++ b).getD k nd0) acc), rfl, rfl, ⟨by simp only; omega, ?_⟩, by simp only; omega⟩
              · have e : (insN ((a ++ b).getD k nd0) acc).map ND.c = List.map ND.c (List.take i acc) ++ [((a ++ b).getD k nd0).c] ++ List.map ND.c (List.drop i acc) := by
                  rw [hins, List.map_append, List.map_append]; rfl
                simp only [e]
                intro p hp
                simp only [List.mem_cons, List.not_mem_nil, or_false] at hp
                rcases hp with rfl | rfl | rfl
                · exact .same _
                · exact .vecAll (set_hit _ _ _) (by simp only [List.length_append, List.length_map, List.length_take, List.length_drop, List.length_cons, List.length_nil])
                · exact .same _
              · simp only
                rw [fold_succ hkl hat, ← hacc]
          · have hia' : i = acc.length := by omega
            subst hia'
            have hins := insN_at hi hq (fun h => absurd h hia)
            repeat' (first | ((with_reducible refine mnew_intro fun nl hnl => ?_); revert hnl; (repeat (with_reducible refine set_none_intro fun _ _ => ?_)); intro hnl) | with_reducible refine mdraw_plain mixed (by decide +kernel) ?_ | with_reducible refine mif_go (fun h => ?_) (fun h => ?_) | with_reducible refine mfork_dec (fun h => ?_) (fun h => ?_) | with_reducible refine mgfork_dec (fun h => ?_) (fun h => ?_) | with_reducible refine mgfork_dec' (fun h => ?_) (fun h => ?_) | (with_reducible refine mfork_bool (fun h => ?_) (fun h => ?_) <;> simp only [h]) | (with_reducible refine mgfork_bool (fun h => ?_) (fun h => ?_) <;> simp only [h]) | (simp (config := { maxSteps := 4000000 }) (disch := first | decide | assumption | omega | (simp only [List.length_append, List.length_take, List.length_drop, List.length_cons, List.length_nil, List.length_map, List.length_set, List.length_replicate]; omega)) only [go_sem, Nat.reduceAdd, Nat.reduceSub, Nat.reduceMul, Nat.reduceDiv, Nat.reduceMod, Nat.reduceLT, Nat.reduceLeDiff, Nat.reduceEqDiff, Nat.reduceSucc, Nat.reduceGT, Int.reduceAdd, Int.reduceSub, Int.reduceMul, Int.reduceNeg, Int.reduceLT, Int.reduceLE, Int.reduceEq, Int.reduceToNat, reduceIte, getD_mapd nd0, hm]))
            refine mdraw_know mixed (by decide +kernel) (fun g ms => none) ?_
            repeat' (first | ((with_reducible refine mnew_intro fun nl hnl => ?_); revert hnl; (repeat (with_reducible refine set_none_intro fun _ _ => ?_)); intro hnl) | with_reducible refine mdraw_plain mixed (by decide +kernel) ?_ | with_reducible refine mif_go (fun h => ?_) (fun h => ?_) | with_reducible refine mfork_dec (fun h => ?_) (fun h => ?_) | with_reducible refine mgfork_dec (fun h => ?_) (fun h => ?_) | with_reducible refine mgfork_dec' (fun h => ?_) (fun h => ?_) | (with_reducible refine mfork_bool (fun h => ?_) (fun h => ?_) <;> simp only [h]) | (with_reducible refine mgfork_bool (fun h => ?_) (fun h => ?_) <;> simp only [h]) | (simp (config := { maxSteps := 4000000 }) (disch := first | decide | assumption | omega | (simp only [List.length_append, List.length_take, List.length_drop, List.length_cons, List.length_nil, List.length_map, List.length_set, List.length_replicate]; omega)) only [go_sem, Nat.reduceAdd, Nat.reduceSub, Nat.reduceMul, Nat.reduceDiv, Nat.reduceMod, Nat.reduceLT, Nat.reduceLeDiff, Nat.reduceEqDiff, Nat.reduceSucc, Nat.reduceGT, Int.reduceAdd, Int.reduceSub, Int.reduceMul, Int.reduceNeg, Int.reduceLT, Int.reduceLE, Int.reduceEq, Int.reduceToNat, reduceIte, getD_mapd nd0, hm, List.take_length, List.drop_length, Nat.min_self]))
            refine .of (Ghost.freeze _ (St.le_refl _) (St.none_le _) (fun k o hk => by cases hk) ?_) ⟨(k + 1, insN ((a ++ b).getD k nd0) acc), rfl, rfl, ⟨by simp only; omega, ?_⟩, by simp only; omega⟩
            · have e : (insN ((a ++ b).getD k nd0) acc).map ND.c = List.map ND.c acc ++ [((a ++ b).getD k nd0).c] := by
                rw [hins, List.take_length, List.drop_length, List.append_nil, List.map_append]; rfl
              simp only [e]
              intro p hp
              simp only [List.mem_cons, List.not_mem_nil, or_false] at hp
              rcases hp with rfl | rfl | rfl
              · exact .same _
              · exact .vecAll ((set_hit _ _ _).trans (by first | rfl | (rw [List.append_nil]; rfl))) (by simp only [List.length_append, List.length_map, List.length_cons, List.length_nil])
              · exact .same _
            · simp only
              rw [fold_succ hkl (by assumption), ← hacc]
    · have : k = (a ++ b).length := by rw [List.length_append]; omega
      repeat' (first | ((with_reducible refine mnew_intro fun nl hnl => ?_); revert hnl; (repeat (with_reducible refine set_none_intro fun _ _ => ?_)); intro hnl) | with_reducible refine mdraw_plain mixed (by decide +kernel) ?_ | with_reducible refine mif_go (fun h => ?_) (fun h => ?_) | with_reducible refine mfork_dec (fun h => ?_) (fun h => ?_) | with_reducible refine mgfork_dec (fun h => ?_) (fun h => ?_) | with_reducible refine mgfork_dec' (fun h => ?_) (fun h => ?_) | (with_reducible refine mfork_bool (fun h => ?_) (fun h => ?_) <;> simp only [h]) | (with_reducible refine mgfork_bool (fun h => ?_) (fun h => ?_) <;> simp only [h]) | (simp (config := { maxSteps := 4000000 }) (disch := first | decide | assumption | omega | (simp only [List.length_append, List.length_take, List.length_drop, List.length_cons, List.length_nil, List.length_map, List.length_set, List.length_replicate]; omega)) only [go_sem, Nat.reduceAdd, Nat.reduceSub, Nat.reduceMul, Nat.reduceDiv, Nat.reduceMod, Nat.reduceLT, Nat.reduceLeDiff, Nat.reduceEqDiff, Nat.reduceSucc, Nat.reduceGT, Int.reduceAdd, Int.reduceSub, Int.reduceMul, Int.reduceNeg, Int.reduceLT, Int.reduceLE, Int.reduceEq, Int.reduceToNat, reduceIte, List.take_length, List.length_append]))
      rw [hacc, this, List.take_length]
      exact .same _
end Go.Proofs.Ytielcgplbnlgbaa
