/- Parts of the proof, joined. Each part says what it proves, and under which conditions it does: those that its theorems name. -/
import Derived.Test.YtfbodefnblpflaaGreatDoorMcq
import Derived.Test.YtfbodefnblpflaaGreatDoorMcu
set_option linter.unusedVariables false
set_option linter.unusedSimpArgs false
set_option maxHeartbeats 4000000
namespace Go.Proofs.YtfbodefnblpflaaGreatDoor
set_option maxRecDepth 100000
set_option maxHeartbeats 4000000
theorem pnodeR_eq (r : RD) (n : Int × RD) (hn : numR 12 r = n) : nodeR r =
  if n.1 = 0 then (nd0, failR 3 n.2)
  else if 6 ≤ n.1 ∧ n.1 ≤ 9 then (⟨n.1, (numR (mostN n.1) n.2).1, (valR (numR (mostN n.1) n.2).2).1⟩, if ndOk ⟨n.1, (numR (mostN n.1) n.2).1, (valR (numR (mostN n.1) n.2).2).1⟩ = false then failR 3 (valR (numR (mostN n.1) n.2).2).2 else (valR (numR (mostN n.1) n.2).2).2)
  else if 3 ≤ n.1 ∧ n.1 ≤ 5 then (⟨n.1, (numR (mostN n.1) n.2).1, va0⟩, (numR (mostN n.1) n.2).2)
  else (⟨n.1, 0, va0⟩, n.2) := by
 have hr := (numR_rng 12 r).1
 unfold nodeR fromR
 rw [hn] at hr ⊢
 simp only [opN, opV, decide_eq_true_eq]
 by_cases h0 : n.1 = 0
 ·rw [if_pos h0]
  simp [h0, nd0, va0]
 ·rw [if_neg h0]
  have h1 : (if n.1 < 1 then failR 3 n.2 else n.2) = n.2 := if_neg (by omega)
  rw [h1]
  by_cases hV : 6 ≤ n.1 ∧ n.1 ≤ 9
  ·rw [if_pos hV, if_pos (by omega), if_pos hV]
   simp only [hV, and_self, true_and]
  ·rw [if_neg hV]
   by_cases hN : 3 ≤ n.1 ∧ n.1 ≤ 5
   ·rw [if_pos hN, if_pos (by omega), if_neg hV, if_neg (by omega)]
   ·rw [if_neg hN, if_neg (by omega), if_neg hV, if_neg (by omega)]
theorem pfromR_0 (r : RD) (k : Int) (s0 : RD) (hn : numR 31 r = (k, s0)) : fromR 1 31 r = (k, if k = 0 then failR 3 s0 else s0) := by
 have hr := (numR_rng 31 r).1
 unfold fromR
 rw [hn] at hr ⊢
 simp only at hr ⊢
 by_cases h0 : k = 0
 ·rw [if_pos h0, if_pos (by omega)]
 ·rw [if_neg h0, if_neg (by omega)]
theorem predErr_31' {l : List ND} (h : l.length ≤ 31) : predErr l ≠ 4 := by
 unfold predErr
 rw [if_neg (by omega)]
 split
 ·decide
 ·split <;> decide
theorem ppredR_call {bs : BL} [hb : Few bs] (r : RD) [hs : Sfx bs r] (l : Nat) : MCalls Tryz.prog 119 [.ptr l 0 0] (St.none.set l (rP bs r)) (fun v σ' => v = .lst 5 ((predR r).1.map ND.c) false ∧ σ' = St.none.set l (rP bs (predR r).2)) := by
 refine MCalls.seenO (MCalls.body 65 [.tmp 2] Tryz.func119 rfl rfl rfl rfl ?_)
 have hr := numR_rng 31 r
 have hm := numR_most (most := 31) (by decide) r
 have h1 := pRNum_call 31 (bs := bs) r l
 haveI hns : Sfx bs (numR 31 r).2 := inferInstance
 obtain ⟨⟨k, s0⟩, hn⟩ : ∃ n, numR 31 r = n := ⟨_, rfl⟩
 have hpe := pfromR_0 r k s0 hn
 rw [hn] at h1 hr hm hns
 simp only at h1 hr hm hns
 obtain ⟨K, rfl⟩ : ∃ K : Nat, k = K := ⟨k.toNat, by omega⟩
 have hK : K ≤ 31 := by omega
 obtain ⟨s, hse⟩ : ∃ s, (if (K : Int) = 0 then failR 3 s0 else s0) = s := ⟨_, rfl⟩
 rw [hse] at hpe
 haveI hss : Sfx bs s := by rw [← hse]; split <;> infer_instance
 obtain ⟨T, hT⟩ : ∃ T, listR nodeR K ([], s) = T := ⟨_, rfl⟩
 have e : predR r = if T.2.e = 0 then (if predErr T.1 = 0 then T else ([], failR (if predErr T.1 = 5 then 5 else if predErr T.1 = 1 then 3 else predErr T.1) T.2)) else ([], T.2) := by
  unfold predR; simp only [hpe, Int.toNat_natCast, hT]
 obtain ⟨res, hres⟩ : ∃ p, predR r = p := ⟨_, rfl⟩
 rw [hres] at e ⊢
 clear hpe hn hres hr hm
 by_cases h0 : (K : Int) = 0
 case' pos =>
  have h2 := pRFail_call 3 (bs := bs) s0 l
  rw [if_pos h0] at hse
  rw [hse] at h2
  repeat' (first | (with_reducible (refine wQ ?_; first | refine uR (h1 ..) ?_ | refine uR (h2 ..) ?_)) | (with_reducible first | (refine wT ?_; (first | ((fail_if_success (have := nl1)); refine wN fun nl1 hnl => ?_) | ((fail_if_success (have := nl2)); refine wN fun nl2 hnl => ?_) | ((fail_if_success (have := nl3)); refine wN fun nl3 hnl => ?_) | refine wN fun _ hnl => ?_); revert hnl; (repeat refine wS fun _ _ => ?_); intro hnl) | refine wE ?_ | (refine wK ?_ ?_ <;> intro h) | (refine wB ?_ ?_ <;> intro h <;> simp only [h])) | simp (maxSteps := 4000000) (disch := first | decide | assumption | omega | (simp only [wL]; omega)) only [go_sem, simprocAttr, Tryz.f119])
 case' neg =>
  rw [if_neg h0] at hse
  rw [hse] at h1
  repeat' (first | (with_reducible (refine wQ ?_; first | refine uR (h1 ..) ?_)) | (with_reducible first | (refine wT ?_; (first | ((fail_if_success (have := nl1)); refine wN fun nl1 hnl => ?_) | ((fail_if_success (have := nl2)); refine wN fun nl2 hnl => ?_) | ((fail_if_success (have := nl3)); refine wN fun nl3 hnl => ?_) | refine wN fun _ hnl => ?_); revert hnl; (repeat refine wS fun _ _ => ?_); intro hnl) | refine wE ?_ | (refine wK ?_ ?_ <;> intro h) | (refine wB ?_ ?_ <;> intro h <;> simp only [h])) | simp (maxSteps := 4000000) (disch := first | decide | assumption | omega | (simp only [wL]; omega)) only [go_sem, simprocAttr, Tryz.f119])
 all_goals
  clear h1
  revert hT hK
  generalize K = K
  intro hK hT
  refine mloop_intro (α := Nat × List ND × RD × Nat × List (List MV)) (fun a => ⟨65, [(13, .int .i64 (a.1 : Int)), (12, .int .i64 (K : Int)), (4, .vec 5 a.2.2.2.1 0 a.2.1.length), (0, .ptr l 0 0)], []⟩)
   (fun a => (St.none.set l (rP bs a.2.2.1)).set a.2.2.2.1 (.row 115 5 (a.2.1.map ND.c ++ a.2.2.2.2)))
   (fun a => a.1 ≤ K ∧ a.2.2.2.1 ≠ l ∧ Sfx bs a.2.2.1 ∧ a.2.1.length ≤ a.1 ∧ (a.2.2.1.e = 0 → listR nodeR (K - a.1) (a.2.1, a.2.2.1) = T) ∧ (a.2.2.1.e ≠ 0 → T.2 = a.2.2.1)) (fun a => K - a.1) ?_ ?_
  ·refine Gh.rowNew 115 5 (fun q => [(13, .int .i64 0), (12, .int .i64 (K : Int)), (4, .vec 5 q 0 0), (0, .ptr l 0 0)]) (fun k => by (repeat' (refine And.intro ?_ ?_)) <;> first | exact trivial | exact .inl rfl | exact .inr ⟨rfl, .inl rfl⟩ | exact .inr ⟨rfl, .inr rfl⟩) fun q hq => ?_
   exact .done ⟨(0, [], s, q, []), rfl, rfl, Nat.zero_le _, (by rintro rfl; simp [St.set] at hq), hss, Nat.le_refl _, fun _ => hT, fun h => by rw [← hT, listR_stk _ _ h]⟩
  ·rintro ⟨i, acc, x, q, ex⟩ ⟨hi, hql, hsx, hal, hq1, hq2⟩
   simp only at hi hql hsx hal hq1 hq2 ⊢
   have hql' : l ≠ q := Ne.symm hql
   have h6 := pRErr_call (bs := bs) x l
   by_cases hx : i < K
   ·have hr1 := numR_rng 12 x
    have hr2 := numR_most (most := 12) (by decide) x
    have hye := pnodeR_eq x _ rfl
    have h1 := pRNum_call 12 (bs := bs) x l
    haveI hns : Sfx bs (numR 12 x).2 := inferInstance
    have hst : x.e ≠ 0 → (numR 12 x).1 = 0 ∧ (numR 12 x).2 = x := fun h => by simp [numR, h]
    obtain ⟨n, hn⟩ : ∃ n, numR 12 x = n := ⟨_, rfl⟩
    rw [hn] at hr1 hr2 hye h1 hns hst
    by_cases h0 : n.1 = 0
    ·have h2 := pRFail_call 3 (bs := bs) n.2 l
     have hf := failR_ne (e := 3) (by decide) n.2
     rw [if_pos h0] at hye
     obtain ⟨f, hfe⟩ : ∃ f, failR 3 n.2 = f := ⟨_, rfl⟩
     haveI hsf : Sfx bs f := by rw [← hfe]; infer_instance
     rw [hfe] at h2 hf hye
     have hT2 : T.2 = f := by
      by_cases hxe : x.e = 0
      ·rw [← hq1 hxe, show K - i = (K - (i + 1)) + 1 by omega, listR, if_pos hxe, listR_stk _ _ (by rw [hye]; exact hf), hye]
      ·rw [hq2 hxe, ← hfe, (hst hxe).2, failR_stk hxe]
     rw [if_neg (by rw [hT2]; exact hf), hT2] at e
     have h3 := pRErr_call (bs := bs) f l
     subst e
     clear hT hq1 hq2 hye hn hst hss hfe h6
     repeat' (first | (with_reducible (refine wQ ?_; first | refine uR (h1 ..) ?_ | refine uR (h2 ..) ?_ | refine uR (h3 ..) ?_)) | (with_reducible first | (refine wT ?_; (first | ((fail_if_success (have := nl1)); refine wN fun nl1 hnl => ?_) | ((fail_if_success (have := nl2)); refine wN fun nl2 hnl => ?_) | ((fail_if_success (have := nl3)); refine wN fun nl3 hnl => ?_) | refine wN fun _ hnl => ?_); revert hnl; (repeat refine wS fun _ _ => ?_); intro hnl) | refine wE ?_ | (refine wK ?_ ?_ <;> intro h) | (refine wB ?_ ?_ <;> intro h <;> simp only [h])) | simp (maxSteps := 4000000) (disch := first | decide | assumption | omega | (simp only [wL]; omega)) only [go_sem, simprocAttr, tk_app, dr_app])
     all_goals first | exact .nil _ _ | skip
    ·have hxe : x.e = 0 := Classical.byContradiction fun h => h0 (hst h).1
     have hstep : listR nodeR (K - (i + 1)) (acc ++ [(nodeR x).1], (nodeR x).2) = T := by
      rw [← hq1 hxe, show K - i = (K - (i + 1)) + 1 by omega, listR, if_pos hxe]
     rw [if_neg h0] at hye
     have hpn := pnamed_call n.1
     have hpv := pvalued_call n.1
     have hm := pbelow_call n.1
     have hwr : IntKind.i64.wrap (mostN n.1 + 1 - 1) = mostN n.1 := by unfold mostN; split <;> (try split) <;> rfl
     have h2 := pRNum_call (mostN n.1) (bs := bs) n.2 l
     haveI hms : Sfx bs (numR (mostN n.1) n.2).2 := inferInstance
     obtain ⟨m, hme⟩ : ∃ m, numR (mostN n.1) n.2 = m := ⟨_, rfl⟩
     rw [hme] at h2 hms hye
     have h3 := pvalR_call (bs := bs) m.2 l
     haveI hvs : Sfx bs (valR m.2).2 := inferInstance
     obtain ⟨v, hve⟩ : ∃ v, valR m.2 = v := ⟨_, rfl⟩
     rw [hve] at h3 hvs hye
     have hc := pnode_call ⟨n.1, m.1, v.1⟩
     clear hq1 hq2 hst hn hme hve hT hss
     by_cases hV : 6 ≤ n.1 ∧ n.1 ≤ 9
     ·rw [show opN n.1 = true from decide_eq_true (by omega)] at hpn
      rw [show opV n.1 = true from decide_eq_true (by omega)] at hpv
      rw [if_pos hV] at hye
      cases hok : ndOk ⟨n.1, m.1, v.1⟩
      ·rw [hok] at hc hye
       rw [if_pos rfl] at hye
       have h4 := pRFail_call 3 (bs := bs) v.2 l
       have hf := failR_ne (e := 3) (by decide) v.2
       obtain ⟨f, hfe⟩ : ∃ f, failR 3 v.2 = f := ⟨_, rfl⟩
       haveI hsf : Sfx bs f := by rw [← hfe]; infer_instance
       rw [hfe] at h4 hf hye
       have h5 := pRErr_call (bs := bs) f l
       have hT2 : T.2 = f := by rw [← hstep, listR_stk _ _ (by rw [hye]; exact hf), hye]
       rw [if_neg (by rw [hT2]; exact hf), hT2] at e
       subst e
       clear hstep hye hfe h6 hok
       repeat' (first | (with_reducible (refine wQ ?_; first | refine uR (h1 ..) ?_ | refine uR (h2 ..) ?_ | refine uR (h3 ..) ?_ | refine uR (h4 ..) ?_ | refine uR (h5 ..) ?_)) | (with_reducible first | refine up hpn ?_ | refine up hpv ?_ | refine up hm ?_ | refine up hc ?_) | (with_reducible first | (refine wT ?_; (first | ((fail_if_success (have := nl1)); refine wN fun nl1 hnl => ?_) | ((fail_if_success (have := nl2)); refine wN fun nl2 hnl => ?_) | ((fail_if_success (have := nl3)); refine wN fun nl3 hnl => ?_) | refine wN fun _ hnl => ?_); revert hnl; (repeat refine wS fun _ _ => ?_); intro hnl) | refine wE ?_ | (refine wK ?_ ?_ <;> intro h) | (refine wB ?_ ?_ <;> intro h <;> simp only [h])) | simp (maxSteps := 4000000) (disch := first | decide | assumption | omega | (simp only [wL]; omega)) only [go_sem, simprocAttr, tk_app, dr_app, hwr])
       all_goals first | exact .nil _ _ | skip
      ·rw [hok] at hc hye
       rw [if_neg (by decide)] at hye
       have hn1 : v.2.e = 0 → listR nodeR (K - (i + 1)) (acc ++ [(⟨n.1, m.1, v.1⟩ : ND)], v.2) = T := fun _ => by have := hstep; rw [hye] at this; exact this
       have hn1' : listR nodeR (K - (i + 1)) (acc ++ [(⟨n.1, m.1, v.1⟩ : ND)], v.2) = T := by have := hstep; rw [hye] at this; exact this
       have hn2 : v.2.e ≠ 0 → T.2 = v.2 := fun h => by rw [← hn1', listR_stk _ _ h]
       have hsY : Sfx bs v.2 := hvs
       clear hstep hye h6 e hn1' hok
       repeat' (first | (with_reducible (refine wQ ?_; first | refine uR (h1 ..) ?_ | refine uR (h2 ..) ?_ | refine uR (h3 ..) ?_)) | (with_reducible first | refine up hpn ?_ | refine up hpv ?_ | refine up hm ?_ | refine up hc ?_) | (with_reducible first | (refine wT ?_; (first | ((fail_if_success (have := nl1)); refine wN fun nl1 hnl => ?_) | ((fail_if_success (have := nl2)); refine wN fun nl2 hnl => ?_) | ((fail_if_success (have := nl3)); refine wN fun nl3 hnl => ?_) | refine wN fun _ hnl => ?_); revert hnl; (repeat refine wS fun _ _ => ?_); intro hnl) | refine wE ?_ | (refine wK ?_ ?_ <;> intro h) | (refine wB ?_ ?_ <;> intro h <;> simp only [h])) | simp (maxSteps := 4000000) (disch := first | decide | assumption | omega | (simp only [wL]; omega)) only [go_sem, simprocAttr, tk_app, dr_app, hwr])
       ·have hex : ex = [] := List.eq_nil_of_length_eq_zero (by omega)
        subst hex
        refine .of (.less ?_ (σ1 := (St.none.set l (rP bs v.2)).set nl3 (.row 115 5 ((acc ++ [(⟨n.1, m.1, v.1⟩ : ND)]).map ND.c ++ []))) (le2 (by simp [St.set, *]) (by simp [St.set, va0, *]))) ⟨(i + 1, acc ++ [(⟨n.1, m.1, v.1⟩ : ND)], v.2, nl3, []), rfl, rfl, ⟨by simp only; omega, by assumption, hsY, by simp only [List.length_append, List.length_cons, List.length_nil]; omega, hn1, hn2⟩, by simp only; omega⟩
        simp (maxSteps := 4000000) (disch := first | decide | assumption | omega | (simp only [wL]; omega)) only [go_sem, simprocAttr, weak_int, weak_same]
        all_goals first | (simp; done) | (simp [va0]; done) | (simp; exact ⟨rfl, rfl, rfl⟩)
       ·refine .of (.less ?_ (σ1 := (St.none.set l (rP bs v.2)).set nl3 (.row 115 5 ((acc ++ [(⟨n.1, m.1, v.1⟩ : ND)]).map ND.c ++ ex.drop 1))) (le2 (by simp [St.set, *]) (by simp [St.set, va0, *]))) ⟨(i + 1, acc ++ [(⟨n.1, m.1, v.1⟩ : ND)], v.2, nl3, ex.drop 1), rfl, rfl, ⟨by simp only; omega, by assumption, hsY, by simp only [List.length_append, List.length_cons, List.length_nil]; omega, hn1, hn2⟩, by simp only; omega⟩
        simp (maxSteps := 4000000) (disch := first | decide | assumption | omega | (simp only [wL]; omega)) only [go_sem, simprocAttr, weak_int, weak_same]
        all_goals first | (simp; done) | (simp [va0]; done) | (simp; exact ⟨rfl, rfl, rfl⟩)
     ·rw [show opV n.1 = false from decide_eq_false hV] at hpv
      rw [if_neg hV] at hye
      clear h3 hvs hc
      by_cases hN : 3 ≤ n.1 ∧ n.1 ≤ 5
      ·rw [show opN n.1 = true from decide_eq_true (by omega)] at hpn
       rw [if_pos hN] at hye
       have hn1 : m.2.e = 0 → listR nodeR (K - (i + 1)) (acc ++ [(⟨n.1, m.1, va0⟩ : ND)], m.2) = T := fun _ => by have := hstep; rw [hye] at this; exact this
       have hn1' : listR nodeR (K - (i + 1)) (acc ++ [(⟨n.1, m.1, va0⟩ : ND)], m.2) = T := by have := hstep; rw [hye] at this; exact this
       have hn2 : m.2.e ≠ 0 → T.2 = m.2 := fun h => by rw [← hn1', listR_stk _ _ h]
       have hsY : Sfx bs m.2 := hms
       clear hstep hye h6 e hn1'
       repeat' (first | (with_reducible (refine wQ ?_; first | refine uR (h1 ..) ?_ | refine uR (h2 ..) ?_)) | (with_reducible first | refine up hpn ?_ | refine up hpv ?_ | refine up hm ?_) | (with_reducible first | (refine wT ?_; (first | ((fail_if_success (have := nl1)); refine wN fun nl1 hnl => ?_) | ((fail_if_success (have := nl2)); refine wN fun nl2 hnl => ?_) | ((fail_if_success (have := nl3)); refine wN fun nl3 hnl => ?_) | refine wN fun _ hnl => ?_); revert hnl; (repeat refine wS fun _ _ => ?_); intro hnl) | refine wE ?_ | (refine wK ?_ ?_ <;> intro h) | (refine wB ?_ ?_ <;> intro h <;> simp only [h])) | simp (maxSteps := 4000000) (disch := first | decide | assumption | omega | (simp only [wL]; omega)) only [go_sem, simprocAttr, tk_app, dr_app, hwr])
       ·have hex : ex = [] := List.eq_nil_of_length_eq_zero (by omega)
        subst hex
        refine .of (.less ?_ (σ1 := (St.none.set l (rP bs m.2)).set nl3 (.row 115 5 ((acc ++ [(⟨n.1, m.1, va0⟩ : ND)]).map ND.c ++ []))) (le2 (by simp [St.set, *]) (by simp [St.set, va0, *]))) ⟨(i + 1, acc ++ [(⟨n.1, m.1, va0⟩ : ND)], m.2, nl3, []), rfl, rfl, ⟨by simp only; omega, by assumption, hsY, by simp only [List.length_append, List.length_cons, List.length_nil]; omega, hn1, hn2⟩, by simp only; omega⟩
        simp (maxSteps := 4000000) (disch := first | decide | assumption | omega | (simp only [wL]; omega)) only [go_sem, simprocAttr, weak_int, weak_same]
        all_goals first | (simp; done) | (simp [va0]; done) | (simp; exact ⟨rfl, rfl, rfl⟩)
       ·refine .of (.less ?_ (σ1 := (St.none.set l (rP bs m.2)).set nl3 (.row 115 5 ((acc ++ [(⟨n.1, m.1, va0⟩ : ND)]).map ND.c ++ ex.drop 1))) (le2 (by simp [St.set, *]) (by simp [St.set, va0, *]))) ⟨(i + 1, acc ++ [(⟨n.1, m.1, va0⟩ : ND)], m.2, nl3, ex.drop 1), rfl, rfl, ⟨by simp only; omega, by assumption, hsY, by simp only [List.length_append, List.length_cons, List.length_nil]; omega, hn1, hn2⟩, by simp only; omega⟩
        simp (maxSteps := 4000000) (disch := first | decide | assumption | omega | (simp only [wL]; omega)) only [go_sem, simprocAttr, weak_int, weak_same]
        all_goals first | (simp; done) | (simp [va0]; done) | (simp; exact ⟨rfl, rfl, rfl⟩)
      ·rw [show opN n.1 = false from decide_eq_false (by omega)] at hpn
       rw [if_neg hN] at hye
       clear h2 hms
       have hn1 : n.2.e = 0 → listR nodeR (K - (i + 1)) (acc ++ [(⟨n.1, 0, va0⟩ : ND)], n.2) = T := fun _ => by have := hstep; rw [hye] at this; exact this
       have hn1' : listR nodeR (K - (i + 1)) (acc ++ [(⟨n.1, 0, va0⟩ : ND)], n.2) = T := by have := hstep; rw [hye] at this; exact this
       have hn2 : n.2.e ≠ 0 → T.2 = n.2 := fun h => by rw [← hn1', listR_stk _ _ h]
       have hsY : Sfx bs n.2 := hns
       clear hstep hye h6 e hn1'
       repeat' (first | (with_reducible (refine wQ ?_; first | refine uR (h1 ..) ?_)) | (with_reducible first | refine up hpn ?_ | refine up hpv ?_ | refine up hm ?_) | (with_reducible first | (refine wT ?_; (first | ((fail_if_success (have := nl1)); refine wN fun nl1 hnl => ?_) | ((fail_if_success (have := nl2)); refine wN fun nl2 hnl => ?_) | ((fail_if_success (have := nl3)); refine wN fun nl3 hnl => ?_) | refine wN fun _ hnl => ?_); revert hnl; (repeat refine wS fun _ _ => ?_); intro hnl) | refine wE ?_ | (refine wK ?_ ?_ <;> intro h) | (refine wB ?_ ?_ <;> intro h <;> simp only [h])) | simp (maxSteps := 4000000) (disch := first | decide | assumption | omega | (simp only [wL]; omega)) only [go_sem, simprocAttr, tk_app, dr_app, hwr])
       ·have hex : ex = [] := List.eq_nil_of_length_eq_zero (by omega)
        subst hex
        refine .of (.less ?_ (σ1 := (St.none.set l (rP bs n.2)).set nl3 (.row 115 5 ((acc ++ [(⟨n.1, 0, va0⟩ : ND)]).map ND.c ++ []))) (le2 (by simp [St.set, *]) (by simp [St.set, va0, *]))) ⟨(i + 1, acc ++ [(⟨n.1, 0, va0⟩ : ND)], n.2, nl3, []), rfl, rfl, ⟨by simp only; omega, by assumption, hsY, by simp only [List.length_append, List.length_cons, List.length_nil]; omega, hn1, hn2⟩, by simp only; omega⟩
        simp (maxSteps := 4000000) (disch := first | decide | assumption | omega | (simp only [wL]; omega)) only [go_sem, simprocAttr, weak_int, weak_same]
        all_goals first | (simp; done) | (simp [va0]; done) | (simp; exact ⟨rfl, rfl, rfl⟩)
       ·refine .of (.less ?_ (σ1 := (St.none.set l (rP bs n.2)).set nl3 (.row 115 5 ((acc ++ [(⟨n.1, 0, va0⟩ : ND)]).map ND.c ++ ex.drop 1))) (le2 (by simp [St.set, *]) (by simp [St.set, va0, *]))) ⟨(i + 1, acc ++ [(⟨n.1, 0, va0⟩ : ND)], n.2, nl3, ex.drop 1), rfl, rfl, ⟨by simp only; omega, by assumption, hsY, by simp only [List.length_append, List.length_cons, List.length_nil]; omega, hn1, hn2⟩, by simp only; omega⟩
        simp (maxSteps := 4000000) (disch := first | decide | assumption | omega | (simp only [wL]; omega)) only [go_sem, simprocAttr, weak_int, weak_same]
        all_goals first | (simp; done) | (simp [va0]; done) | (simp; exact ⟨rfl, rfl, rfl⟩)
   ·by_cases he : x.e = 0
    ·have hiK : i = K := by omega
     subst hiK
     have hTa : T = (acc, x) := by rw [← hq1 he, Nat.sub_self, listR]
     rw [hTa] at e
     simp only at e
     rw [if_pos he] at e
     have hp := ppcheck_call acc (by omega) false
     have hcases := predErr_cases acc
     have h31 := predErr_31' (l := acc) (by omega)
     have hf := fun k => pRFail_call k (bs := bs) x l
     clear hT hq1 hq2 hTa hss
     by_cases hok : predErr acc = 0
     ·rw [if_pos hok] at e
      rw [hok] at hp
      subst e
      repeat' (first | (with_reducible refine use_lend [.lst 5 (acc.map ND.c) false] hp (.int _ _) rfl (views_one (viewR (set_hit _ _ _))) ?_) | (with_reducible (refine wQ ?_; first | refine uR (h6 ..) ?_)) | (with_reducible first | (refine wT ?_; (first | ((fail_if_success (have := nl1)); refine wN fun nl1 hnl => ?_) | ((fail_if_success (have := nl2)); refine wN fun nl2 hnl => ?_) | ((fail_if_success (have := nl3)); refine wN fun nl3 hnl => ?_) | refine wN fun _ hnl => ?_); revert hnl; (repeat refine wS fun _ _ => ?_); intro hnl) | refine wE ?_ | (refine wK ?_ ?_ <;> intro h) | (refine wB ?_ ?_ <;> intro h <;> simp only [h])) | simp (maxSteps := 4000000) (disch := first | decide | assumption | omega | (simp only [wL]; omega)) only [go_sem, simprocAttr, tk_app, dr_app])
      all_goals exact viewR (set_hit _ _ _)
     ·rw [if_neg hok] at e
      subst e
      by_cases h5 : predErr acc = 5
      ·rw [h5] at hp
       rw [if_pos h5]
       repeat' (first | (with_reducible refine use_lend [.lst 5 (acc.map ND.c) false] hp (.int _ _) rfl (views_one (viewR (set_hit _ _ _))) ?_) | (with_reducible (refine wQ ?_; first | refine uR (h6 ..) ?_ | refine uR (hf ..) ?_)) | (with_reducible first | (refine wT ?_; (first | ((fail_if_success (have := nl1)); refine wN fun nl1 hnl => ?_) | ((fail_if_success (have := nl2)); refine wN fun nl2 hnl => ?_) | ((fail_if_success (have := nl3)); refine wN fun nl3 hnl => ?_) | refine wN fun _ hnl => ?_); revert hnl; (repeat refine wS fun _ _ => ?_); intro hnl) | refine wE ?_ | (refine wK ?_ ?_ <;> intro h) | (refine wB ?_ ?_ <;> intro h <;> simp only [h])) | simp (maxSteps := 4000000) (disch := first | decide | assumption | omega | (simp only [wL]; omega)) only [go_sem, simprocAttr, tk_app, dr_app])
       all_goals exact .nil _ _
      ·have h1 : predErr acc = 1 := by omega
       rw [h1] at hp
       rw [if_neg h5, if_pos h1]
       repeat' (first | (with_reducible refine use_lend [.lst 5 (acc.map ND.c) false] hp (.int _ _) rfl (views_one (viewR (set_hit _ _ _))) ?_) | (with_reducible (refine wQ ?_; first | refine uR (h6 ..) ?_ | refine uR (hf ..) ?_)) | (with_reducible first | (refine wT ?_; (first | ((fail_if_success (have := nl1)); refine wN fun nl1 hnl => ?_) | ((fail_if_success (have := nl2)); refine wN fun nl2 hnl => ?_) | ((fail_if_success (have := nl3)); refine wN fun nl3 hnl => ?_) | refine wN fun _ hnl => ?_); revert hnl; (repeat refine wS fun _ _ => ?_); intro hnl) | refine wE ?_ | (refine wK ?_ ?_ <;> intro h) | (refine wB ?_ ?_ <;> intro h <;> simp only [h])) | simp (maxSteps := 4000000) (disch := first | decide | assumption | omega | (simp only [wL]; omega)) only [go_sem, simprocAttr, tk_app, dr_app])
       all_goals exact .nil _ _
    ·have hT2 := hq2 he
     rw [if_neg (by rw [hT2]; exact he), hT2] at e
     subst e
     clear hT hq1 hq2 hss hT2
     repeat' (first | (with_reducible (refine wQ ?_; first | refine uR (h6 ..) ?_)) | (with_reducible first | (refine wT ?_; (first | ((fail_if_success (have := nl1)); refine wN fun nl1 hnl => ?_) | ((fail_if_success (have := nl2)); refine wN fun nl2 hnl => ?_) | ((fail_if_success (have := nl3)); refine wN fun nl3 hnl => ?_) | refine wN fun _ hnl => ?_); revert hnl; (repeat refine wS fun _ _ => ?_); intro hnl) | refine wE ?_ | (refine wK ?_ ?_ <;> intro h) | (refine wB ?_ ?_ <;> intro h <;> simp only [h])) | simp (maxSteps := 4000000) (disch := first | decide | assumption | omega | (simp only [wL]; omega)) only [go_sem, simprocAttr, tk_app, dr_app])
     all_goals exact .nil _ _
end Go.Proofs.YtfbodefnblpflaaGreatDoor
