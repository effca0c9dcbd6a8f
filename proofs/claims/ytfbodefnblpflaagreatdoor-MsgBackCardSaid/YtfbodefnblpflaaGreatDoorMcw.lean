/- Parts of the proof, joined. Each part says what it proves, and under which conditions it does: those that its theorems name. -/
import Derived.Test.YtfbodefnblpflaaGreatDoorMct
import Derived.Test.YtfbodefnblpflaaGreatDoorMcv
set_option linter.unusedVariables false
set_option linter.unusedSimpArgs false
set_option maxHeartbeats 4000000
namespace Go.Proofs.YtfbodefnblpflaaGreatDoor
set_option maxRecDepth 100000
set_option maxHeartbeats 4000000
abbrev In64 (a : Int) : Prop := -9223372036854775808 ≤ a ∧ a ≤ 9223372036854775807
abbrev Rg (c : CM) : Prop := In64 c.dev ∧ In64 c.req ∧ In64 c.id ∧ In64 c.base ∧ In64 c.keep
theorem or64v (a b : Int) : ∃ x y : Nat, x < 18446744073709551616 ∧ y < 18446744073709551616 ∧ (x : Int) = a % 18446744073709551616 ∧ (y : Int) = b % 18446744073709551616 ∧ x ||| y < 18446744073709551616 ∧ orK .i64 a b = IntKind.i64.wrap ((x ||| y : Nat) : Int) := by
 refine ⟨(a % 18446744073709551616).toNat, (b % 18446744073709551616).toNat, by omega, by omega, by omega, by omega, ?_, ?_⟩
 ·exact Nat.or_lt_two_pow (n := 64) (by omega) (by omega)
 ·unfold orK
  congr 2
theorem in0 : In64 0 := by decide
theorem wrapI (n : Int) : IntKind.i64.wrap n = (n + 9223372036854775808) % 18446744073709551616 - 9223372036854775808 := by
 simp [IntKind.wrap, IntKind.bits, IntKind.signed]
 split <;> omega
theorem wrap_zero {x : Nat} (h : x < 18446744073709551616) : IntKind.i64.wrap (x : Int) = 0 ↔ x = 0 := by
 rw [wrapI]
 omega
theorem wrap_in (x : Int) : In64 (IntKind.i64.wrap x) := by
 rw [wrapI]
 simp only [In64]
 omega
theorem or_in (a b : Int) : In64 (orK .i64 a b) := by
 obtain ⟨x, y, _, _, _, _, _, e⟩ := or64v a b
 rw [e]
 exact wrap_in _
theorem or_zero {a b : Int} (ha : In64 a) (hb : In64 b) : orK .i64 a b = 0 ↔ a = 0 ∧ b = 0 := by
 obtain ⟨x, y, hx, hy, ex, ey, hxy, e⟩ := or64v a b
 rw [e, wrap_zero hxy, Nat.or_eq_zero_iff]
 simp only [In64] at ha hb
 omega
theorem or5 {a b c d e : Int} (ha : In64 a) (hb : In64 b) (hc : In64 c) (hd : In64 d) (he : In64 e) : orK .i64 (orK .i64 (orK .i64 (orK .i64 a b) c) d) e = 0 ↔ a = 0 ∧ b = 0 ∧ c = 0 ∧ d = 0 ∧ e = 0 := by
 rw [or_zero (or_in _ _) he, or_zero (or_in _ _) hd, or_zero (or_in _ _) hc, or_zero ha hb]
 simp only [and_assoc]
theorem pbare_call (c : CM) (hg : Rg c) : MCalls Tryz.prog 98 [.agg c.c] St.none (fun r _ => r = .bool (decide (c = { cm0 with kd := c.kd }))) := by
 refine MCalls.drops (MCalls.body 43 [.tmp 2] Tryz.func98 rfl rfl rfl rfl ?_)
 have hE : mbin Tryz.prog 29 .eql (.agg c.e.c) (.agg (.int .i64 0 :: .int .i64 0 :: .int .i64 0 :: .int .u32 0 :: .int .u32 0 :: fc f80)) = some (True, .bool (decide (c.e = ed0))) := mbe_edit c.e ed0
 have hP : mbin Tryz.prog 27 .eql (.agg c.p.c) (.agg (.int .u32 0 :: .int .u32 0 :: fc f80)) = some (True, .bool (decide (c.p = pa0))) := mbe_patch c.p pa0
 obtain ⟨bE, hbE⟩ : ∃ x, decide (c.e = ed0) = x := ⟨_, rfl⟩
 obtain ⟨bP, hbP⟩ : ∃ x, decide (c.p = pa0) = x := ⟨_, rfl⟩
 obtain ⟨res, hres⟩ : ∃ r, decide (c = { cm0 with kd := c.kd }) = r := ⟨_, rfl⟩
 have hm : c.mask = 0 ↔ (c.mask.toNat : Int) = 0 := by rw [u32_zero]; omega
 obtain ⟨g1, g2, g3, g4, g5⟩ := hg
 have ho := or5 g1 g2 g3 g4 g5
 obtain ⟨v, hv⟩ : ∃ v, orK .i64 (orK .i64 (orK .i64 (orK .i64 c.dev c.req) c.id) c.base) c.keep = v := ⟨_, rfl⟩
 rw [hv] at ho
 have e : Unit → decide (v = 0 ∧ bE = true ∧ bP = true ∧ (c.fl.length : Int) = 0 ∧ (c.mask.toNat : Int) = 0) = res := fun _ => by
  rw [← hres, ← hbE, ← hbP]
  refine decide_eq_decide.mpr ?_
  rw [cm_iff, decide_eq_true_iff, decide_eq_true_iff, fl_empty, ← hm]
  rw [ho]
  simp only [cm0, true_and]
  constructor
  ·rintro ⟨⟨a1, a2, a3, a4, a5⟩, a6, a7, a8, a9⟩
   exact ⟨a6, a1, a2, a3, a4, a5, a7, a8, a9⟩
  ·rintro ⟨a6, a1, a2, a3, a4, a5, a7, a8, a9⟩
   exact ⟨⟨a1, a2, a3, a4, a5⟩, a6, a7, a8, a9⟩
 rw [hbE] at hE
 rw [hbP] at hP
 rw [hres]
 clear hres hbE hbP hm ho g1 g2 g3 g4 g5
 cases bE <;> cases bP
 all_goals
  repeat' (first | (with_reducible first | (refine wN fun _ hnl => ?_; revert hnl; (repeat refine wS fun _ _ => ?_); intro hnl) | refine wE ?_ | (refine wK ?_ ?_ <;> intro h) | (refine wB ?_ ?_ <;> intro h <;> simp only [h])) | simp (maxSteps := 4000000) (disch := first | decide | assumption | omega | (simp only [wL]; omega)) only [go_sem, simprocAttr, Tryz.f98, FYs, hE, hP, hv])
 all_goals first | refine ⟨_, St.le_refl _, ?_⟩ | skip
 all_goals rw [← e ()]
 all_goals clear e
 all_goals (first | (simp [*]; done) | (simp only [*, not_false_eq_true, decide_false, decide_true, true_and, and_true, and_false, false_and]; done) | skip)
theorem pcmsame_call (a b : CM) (ha : a.fl.length ≤ 1000000) (hb : b.fl.length ≤ 1000000) : MCalls Tryz.prog 36 [.agg a.c, .agg b.c] St.none (fun r _ => r = .bool (decide (a = b))) := by
 refine MCalls.drops (MCalls.body 72 [.tmp 4] Tryz.func36 rfl rfl rfl rfl ?_)
 have hs := pcompare_call a.fl b.fl ha hb false false
 have hz : ordI (cmpF a.fl b.fl) = 0 ↔ a.fl = b.fl := by rw [← cmpF_eq]; cases cmpF a.fl b.fl <;> simp [ordI]
 obtain ⟨z, hzz⟩ : ∃ z, ordI (cmpF a.fl b.fl) = z := ⟨_, rfl⟩
 rw [hzz] at hs hz
 have hE := mbn_edit a.e b.e
 have hP := mbn_patch a.p b.p
 obtain ⟨bE, hbE⟩ : ∃ x, decide (a.e = b.e) = x := ⟨_, rfl⟩
 obtain ⟨bP, hbP⟩ : ∃ x, decide (a.p = b.p) = x := ⟨_, rfl⟩
 have hu := u32_int (a := a.mask) (b := b.mask)
 obtain ⟨res, hres⟩ : ∃ r, decide (a = b) = r := ⟨_, rfl⟩
 have e : Unit → decide (a.kd = b.kd ∧ bE = true ∧ a.dev = b.dev ∧ a.req = b.req ∧ a.id = b.id ∧ a.base = b.base ∧ a.keep = b.keep ∧ bP = true ∧ z = 0 ∧ (a.mask.toNat : Int) = (b.mask.toNat : Int)) = res := fun _ => by
  rw [← hres, ← hbE, ← hbP]
  refine decide_eq_decide.mpr ?_
  rw [cm_iff, hu, hz, decide_eq_true_iff, decide_eq_true_iff]
 rw [hbE] at hE
 rw [hbP] at hP
 rw [hres]
 clear hres hu hbE hbP hz hzz
 by_cases z0 : z = 0 <;> cases bE <;> cases bP
 all_goals
  repeat' (first | (with_reducible first | refine up hs ?_) | (with_reducible first | (refine wN fun _ hnl => ?_; revert hnl; (repeat refine wS fun _ _ => ?_); intro hnl) | refine wE ?_ | (refine wK ?_ ?_ <;> intro h) | (refine wB ?_ ?_ <;> intro h <;> simp only [h])) | simp (maxSteps := 4000000) (disch := first | decide | assumption | omega | (simp only [wL]; omega)) only [go_sem, simprocAttr, Tryz.f36, FYs, hE, hP])
 all_goals first | refine ⟨_, St.le_refl _, ?_⟩ | skip
 all_goals rw [← e ()]
 all_goals clear e
 all_goals (first | (simp [*]; done) | exact decide_eq_decide.mpr (by omega) | skip)
theorem pcmcheck_call (c : CM) (hg : Rg c) (hl : c.fl.length ≤ 1000000) : MCalls Tryz.prog 58 [.agg c.c] St.none (fun r _ => r = .bool (cmdOk c)) := by
 refine MCalls.drops (MCalls.body 114 [.tmp 2] Tryz.func58 rfl rfl rfl rfl ?_)
 obtain ⟨res, hres⟩ : ∃ b, cmdOk c = b := ⟨_, rfl⟩
 rw [hres]
 by_cases k1 : c.kd = 1
 ·rw [cmdOk_1 k1] at hres
  have hz := pbare_call { c with e := ed0 } (by first | exact ⟨hg.1, hg.2.1, hg.2.2.1, hg.2.2.2.1, hg.2.2.2.2⟩ | (obtain ⟨g1, g2, g3, g4, g5⟩ := hg; refine ⟨?_, ?_, ?_, ?_, ?_⟩ <;> first | assumption | exact in0))
  have he := pecheck_call c.e
  obtain ⟨b, hb⟩ : ∃ b, decide (({ c with e := ed0 } : CM) = { cm0 with kd := c.kd }) = b := ⟨_, rfl⟩
  rw [hb] at hres
  have hz : MCalls Tryz.prog 98 _ St.none fun r _ => r = .bool b := hb ▸ hz
  simp only [CM.c, CM.k, ed0, pa0, u32z] at hz
  have e := fun (_ : Unit) => hres
  clear hres hb
  cases b
  all_goals
   repeat' (first | (with_reducible first | refine up hz ?_ | refine up he ?_) | (with_reducible first | (refine wN fun _ hnl => ?_; revert hnl; (repeat refine wS fun _ _ => ?_); intro hnl) | refine wE ?_ | (refine wK ?_ ?_ <;> intro h) | (refine wB ?_ ?_ <;> intro h <;> simp only [h])) | simp (maxSteps := 4000000) (disch := first | decide | assumption | omega | (simp only [wL]; omega)) only [go_sem, simprocAttr, Tryz.f58, FYs])
   all_goals first | refine ⟨_, St.le_refl _, ?_⟩ | refine ⟨_, St.le_refl _⟩ | skip
   all_goals rw [← e ()]
   all_goals (first | (simp [*]; done) | (simp; omega) | skip)
 ·by_cases k5 : c.kd = 5
  ·rw [cmdOk_5 k5] at hres
   have hz := pbare_call { c with keep := 0 } (by first | exact ⟨hg.1, hg.2.1, hg.2.2.1, hg.2.2.2.1, hg.2.2.2.2⟩ | (obtain ⟨g1, g2, g3, g4, g5⟩ := hg; refine ⟨?_, ?_, ?_, ?_, ?_⟩ <;> first | assumption | exact in0))
   obtain ⟨b, hb⟩ : ∃ b, decide (({ c with keep := 0 } : CM) = { cm0 with kd := c.kd }) = b := ⟨_, rfl⟩
   rw [hb] at hres
   have hz : MCalls Tryz.prog 98 _ St.none fun r _ => r = .bool b := hb ▸ hz
   simp only [CM.c, CM.k, ed0, pa0, u32z] at hz
   have e := fun (_ : Unit) => hres
   clear hres hb
   cases b
   all_goals
    repeat' (first | (with_reducible first | refine up hz ?_) | (with_reducible first | (refine wN fun _ hnl => ?_; revert hnl; (repeat refine wS fun _ _ => ?_); intro hnl) | refine wE ?_ | (refine wK ?_ ?_ <;> intro h) | (refine wB ?_ ?_ <;> intro h <;> simp only [h])) | simp (maxSteps := 4000000) (disch := first | decide | assumption | omega | (simp only [wL]; omega)) only [go_sem, simprocAttr, Tryz.f58, FYs])
    all_goals first | refine ⟨_, St.le_refl _, ?_⟩ | refine ⟨_, St.le_refl _⟩ | skip
    all_goals rw [← e ()]
    all_goals (first | (simp [*]; done) | (simp; omega) | skip)
  ·by_cases hr : c.dev < 0 ∨ 6 ≤ c.dev ∨ c.req < 1 ∨ 1099511627776 < c.req
   ·rw [cmdOk_r k1 k5 hr] at hres
    subst hres
    repeat' (first | (with_reducible first | (refine wN fun _ hnl => ?_; revert hnl; (repeat refine wS fun _ _ => ?_); intro hnl) | refine wE ?_ | (refine wK ?_ ?_ <;> intro h) | (refine wB ?_ ?_ <;> intro h <;> simp only [h])) | simp (maxSteps := 4000000) (disch := first | decide | assumption | omega | (simp only [wL]; omega)) only [go_sem, simprocAttr, Tryz.f58, FYs])
    all_goals first | exact ⟨_, St.le_refl _, rfl⟩ | exact ⟨_, St.le_refl _⟩ | (exfalso; omega)
   ·by_cases k2 : c.kd = 2
    ·rw [cmdOk_2 k2 hr] at hres
     have hz := pbare_call { c with dev := 0, req := 0, id := 0, base := 0, p := pa0 } (by first | exact ⟨hg.1, hg.2.1, hg.2.2.1, hg.2.2.2.1, hg.2.2.2.2⟩ | (obtain ⟨g1, g2, g3, g4, g5⟩ := hg; refine ⟨?_, ?_, ?_, ?_, ?_⟩ <;> first | assumption | exact in0))
     have hp := pcpatch_call c.p
     obtain ⟨b, hb⟩ : ∃ b, decide (({ c with dev := 0, req := 0, id := 0, base := 0, p := pa0 } : CM) = { cm0 with kd := c.kd }) = b := ⟨_, rfl⟩
     rw [hb] at hres
     have hz : MCalls Tryz.prog 98 _ St.none fun r _ => r = .bool b := hb ▸ hz
     simp only [CM.c, CM.k, ed0, pa0, u32z] at hz
     have e := fun (_ : Unit) => hres
     clear hres hb
     cases b
     all_goals
      repeat' (first | (with_reducible first | refine up hz ?_ | refine up hp ?_) | (with_reducible first | (refine wN fun _ hnl => ?_; revert hnl; (repeat refine wS fun _ _ => ?_); intro hnl) | refine wE ?_ | (refine wK ?_ ?_ <;> intro h) | (refine wB ?_ ?_ <;> intro h <;> simp only [h])) | simp (maxSteps := 4000000) (disch := first | decide | assumption | omega | (simp only [wL]; omega)) only [go_sem, simprocAttr, Tryz.f58, FYs])
      all_goals first | refine ⟨_, St.le_refl _, ?_⟩ | refine ⟨_, St.le_refl _⟩ | skip
      all_goals rw [← e ()]
      all_goals (first | (simp [*]; done) | (simp; omega) | skip)
    ·by_cases k3 : c.kd = 3
     ·rw [cmdOk_3 k3 hr] at hres
      have hz := pbare_call { c with dev := 0, req := 0, fl := [], mask := 0 } (by first | exact ⟨hg.1, hg.2.1, hg.2.2.1, hg.2.2.2.1, hg.2.2.2.2⟩ | (obtain ⟨g1, g2, g3, g4, g5⟩ := hg; refine ⟨?_, ?_, ?_, ?_, ?_⟩ <;> first | assumption | exact in0))
      have hp := ppcheck_call c.fl hl false
      have hm := pmcheck_call c.mask
      obtain ⟨b, hb⟩ : ∃ b, decide (({ c with dev := 0, req := 0, fl := [], mask := 0 } : CM) = { cm0 with kd := c.kd }) = b := ⟨_, rfl⟩
      rw [hb] at hres
      have hz : MCalls Tryz.prog 98 _ St.none fun r _ => r = .bool b := hb ▸ hz
      simp only [CM.c, CM.k, ed0, pa0, u32z] at hz
      have e := fun (_ : Unit) => hres
      clear hres hb
      cases b
      all_goals
       repeat' (first | (with_reducible refine use_lend _ hz (.bool _) rfl (views_one (vcm (c := { c with dev := 0, req := 0, fl := [], mask := 0 }) (.nil _ _))) ?_) | (with_reducible first | refine up hp ?_ | refine up hm ?_) | (with_reducible first | (refine wN fun _ hnl => ?_; revert hnl; (repeat refine wS fun _ _ => ?_); intro hnl) | refine wE ?_ | (refine wK ?_ ?_ <;> intro h) | (refine wB ?_ ?_ <;> intro h <;> simp only [h])) | simp (maxSteps := 4000000) (disch := first | decide | assumption | omega | (simp only [wL]; omega)) only [go_sem, simprocAttr, Tryz.f58, FYs])
       all_goals first | refine ⟨_, St.le_refl _, ?_⟩ | refine ⟨_, St.le_refl _⟩ | skip
       all_goals rw [← e ()]
       all_goals (first | (simp [*]; done) | (simp; omega) | skip)
     ·by_cases k4 : c.kd = 4
      ·rw [cmdOk_4 k4 hr] at hres
       have hz := pbare_call { c with dev := 0, req := 0 } (by first | exact ⟨hg.1, hg.2.1, hg.2.2.1, hg.2.2.2.1, hg.2.2.2.2⟩ | (obtain ⟨g1, g2, g3, g4, g5⟩ := hg; refine ⟨?_, ?_, ?_, ?_, ?_⟩ <;> first | assumption | exact in0))
       obtain ⟨b, hb⟩ : ∃ b, decide (({ c with dev := 0, req := 0 } : CM) = { cm0 with kd := c.kd }) = b := ⟨_, rfl⟩
       rw [hb] at hres
       have hz : MCalls Tryz.prog 98 _ St.none fun r _ => r = .bool b := hb ▸ hz
       simp only [CM.c, CM.k, ed0, pa0, u32z] at hz
       have e := fun (_ : Unit) => hres
       clear hres hb
       cases b
       all_goals
        repeat' (first | (with_reducible first | refine up hz ?_) | (with_reducible first | (refine wN fun _ hnl => ?_; revert hnl; (repeat refine wS fun _ _ => ?_); intro hnl) | refine wE ?_ | (refine wK ?_ ?_ <;> intro h) | (refine wB ?_ ?_ <;> intro h <;> simp only [h])) | simp (maxSteps := 4000000) (disch := first | decide | assumption | omega | (simp only [wL]; omega)) only [go_sem, simprocAttr, Tryz.f58, FYs])
        all_goals first | refine ⟨_, St.le_refl _, ?_⟩ | refine ⟨_, St.le_refl _⟩ | skip
        all_goals rw [← e ()]
        all_goals (first | (simp [*]; done) | (simp; omega) | skip)
      ·rw [cmdOk_o k1 k5 k2 k3 k4] at hres
       subst hres
       repeat' (first | (with_reducible first | (refine wN fun _ hnl => ?_; revert hnl; (repeat refine wS fun _ _ => ?_); intro hnl) | refine wE ?_ | (refine wK ?_ ?_ <;> intro h) | (refine wB ?_ ?_ <;> intro h <;> simp only [h])) | simp (maxSteps := 4000000) (disch := first | decide | assumption | omega | (simp only [wL]; omega)) only [go_sem, simprocAttr, Tryz.f58, FYs])
       all_goals first | exact ⟨_, St.le_refl _, rfl⟩ | exact ⟨_, St.le_refl _⟩ | (exfalso; omega)
end Go.Proofs.YtfbodefnblpflaaGreatDoor
