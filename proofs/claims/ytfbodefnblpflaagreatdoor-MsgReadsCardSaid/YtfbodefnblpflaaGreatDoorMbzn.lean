/- Parts of the proof, joined. Each part says what it proves, and under which conditions it does: those that its theorems name. -/
import Derived.Test.YtfbodefnblpflaaGreatDoorMbzh
import Derived.Test.YtfbodefnblpflaaGreatDoorMbzm
import Derived.Test.YtfbodefnblpflaaGreatDoorRows
import Derived.LaidMore
import Derived.MakeChecks
set_option linter.unusedVariables false
set_option linter.unusedSimpArgs false
set_option maxHeartbeats 4000000
section
namespace Go.Proofs.YtfbodefnblpflaaGreatDoor
set_option maxRecDepth 100000
set_option maxHeartbeats 4000000
theorem msgOk_sm {m : MS} (hok : msgOk m = true) : Sm m ∧ Rg m.cmd := by
 have z : Rg cm0 := ⟨in0, in0, in0, in0, in0⟩
 by_cases k1 : m.kd = 1
 ·rw [msgOk_1 k1] at hok
  simp only [Bool.and_eq_true, decide_eq_true_eq, ms_iff, ms0] at hok
  obtain ⟨⟨h1, _⟩, _, _, _, _, h2, h3, _⟩ := hok
  have := cmdOk_rg h1
  refine ⟨⟨this.2, ?_, ?_⟩, this.1⟩
  ·rw [← h2]; simp [re0]
  ·rw [← h3]; simp [pg0]
 by_cases k2 : m.kd = 2
 ·rw [msgOk_2 k2] at hok
  simp only [Bool.and_eq_true, decide_eq_true_eq, ms_iff, ms0] at hok
  obtain ⟨_, _, _, h1, _, h2, h3, _⟩ := hok
  rw [← h1]
  refine ⟨⟨?_, ?_, ?_⟩, z⟩
  ·rw [← h1]; simp [cm0]
  ·rw [← h2]; simp [re0]
  ·rw [← h3]; simp [pg0]
 by_cases k3 : m.kd = 3
 ·rw [msgOk_3 k3] at hok
  simp only [Bool.and_eq_true, decide_eq_true_eq, ms_iff, ms0] at hok
  obtain ⟨h0, _, _, h1, _, h2, h3, _⟩ := hok
  rw [← h1]
  refine ⟨⟨?_, repOk_len h0, ?_⟩, z⟩
  ·rw [← h1]; simp [cm0]
  ·rw [← h3]; simp [pg0]
 by_cases k4 : m.kd = 4
 ·rw [msgOk_4 k4] at hok
  simp only [Bool.and_eq_true, decide_eq_true_eq, ms_iff, ms0] at hok
  obtain ⟨h0, _, _, h1, _, h2, h3, _⟩ := hok
  rw [← h1]
  refine ⟨⟨?_, ?_, pageOk_len h0⟩, z⟩
  ·rw [← h1]; simp [cm0]
  ·rw [← h2]; simp [re0]
 by_cases k5 : m.kd = 5
 ·rw [msgOk_5 k5] at hok
  simp only [Bool.and_eq_true, decide_eq_true_eq, ms_iff, ms0] at hok
  obtain ⟨_, _, _, h1, _, h2, h3, _⟩ := hok
  rw [← h1]
  refine ⟨⟨?_, ?_, ?_⟩, z⟩
  ·rw [← h1]; simp [cm0]
  ·rw [← h2]; simp [re0]
  ·rw [← h3]; simp [pg0]
 ·rw [msgOk_o k1 k2 k3 k4 k5] at hok
  cases hok
theorem ms0_sm : Sm ms0 ∧ Rg ms0.cmd := ⟨⟨by simp [ms0, cm0], by simp [ms0, re0], by simp [ms0, pg0]⟩, in0, in0, in0, in0, in0⟩
theorem msgD_sm (s : BL) : Sm (msgD s).1 ∧ Rg (msgD s).1.cmd := by
 by_cases h : (msgD s).2 = 0
 ·exact msgOk_sm (msgD_E h).1
 ·have : (msgD s).1 = ms0 := by
   unfold msgD at h ⊢
   split
   ·rfl
   ·split
    ·rename_i h1 h2
     rw [if_neg h1, if_pos h2] at h
     exact absurd rfl h
    ·rfl
  rw [this]
  exact ms0_sm
theorem pawake_call : MCalls Tryz.prog 7 [] St.none (fun r _ => r = .bool true) := by
 refine (MCalls.body 14 [.tmp 0] Tryz.func7 rfl rfl rfl rfl ?_)
 have h := pxenc5 { ms0 with kd := 5, code := 3 } ⟨by simp [ms0, cm0], by simp [ms0, re0], by simp [ms0, pg0]⟩ ⟨in0, in0, in0, in0, in0⟩ rfl (by decide +kernel)
 have e : msgE { ms0 with kd := 5, code := 3 } = ([5, 3], 0) := by decide +kernel
 rw [e] at h
 simp only [MS.c, MS.k, ms0, cm0, ed0, pa0, tk0, re0, pg0, u32z] at h
 have hv := fun (σ : St) (f g i : MV) => vms (σ := σ) (m := { ms0 with kd := 5, code := 3 }) (f := f) (g := g) (i := i)
 simp only [MS.c, MS.k, ms0, cm0, ed0, pa0, tk0, re0, pg0, u32z] at hv
 repeat' (first | (with_reducible refine use_weak _ h rfl (views_one (hv _ _ _ _ (.nil _ _) (.nil _ _) (.nil _ _))) ?_) | (with_reducible first | (refine wN fun _ hnl => ?_; revert hnl; (repeat refine wS fun _ _ => ?_); intro hnl) | refine wE ?_ | (refine wK ?_ ?_ <;> intro h) | (refine wB ?_ ?_ <;> intro h <;> simp only [h])) | simp (maxSteps := 4000000) (disch := first | decide | assumption | omega | (simp only [wL]; omega)) only [go_sem, simprocAttr, Tryz.f7, FYs])
 all_goals first | rfl | exact decide_eq_true rfl | (congr 1; exact decide_eq_true rfl)
theorem pfrom_call (m : MS) : MCalls Tryz.prog 17 [.agg m.c] St.none (fun r _ => r = .agg m.c) := by
 refine MCalls.drops (MCalls.body 18 [.cell 2 42] Tryz.func17 rfl rfl rfl rfl ?_)
 repeat' (first | (with_reducible first | (refine wN fun _ hnl => ?_; revert hnl; (repeat refine wS fun _ _ => ?_); intro hnl) | refine wE ?_ | (refine wK ?_ ?_ <;> intro h) | (refine wB ?_ ?_ <;> intro h <;> simp only [h])) | simp (maxSteps := 4000000) (disch := first | decide | assumption | omega | (simp only [wL]; omega)) only [go_sem, simprocAttr, Tryz.f17, FYs])
 refine owes_intro (fun c hc => List.all_eq_true.1 (by simp only [List.all_append, List.all_cons, fc_cell]; rfl) c hc) ?_
 repeat' (first | (with_reducible first | (refine wN fun _ hnl => ?_; revert hnl; (repeat refine wS fun _ _ => ?_); intro hnl) | refine wE ?_ | (refine wK ?_ ?_ <;> intro h) | (refine wB ?_ ?_ <;> intro h <;> simp only [h])) | simp (maxSteps := 4000000) (disch := first | decide | assumption | omega | (simp only [wL]; omega)) only [go_sem, simprocAttr, FYs])
 all_goals first | exact ⟨_, St.le_refl _, rfl⟩ | exact ⟨_, St.le_refl _⟩
end Go.Proofs.YtfbodefnblpflaaGreatDoor
end

section
namespace Go.Proofs.YtfbodefnblpflaaGreatDoor
set_option maxRecDepth 100000
set_option maxHeartbeats 8000000
def fnK : List (FuncId × (List MV → MV)) → Know
 | [] => fun _ _ => none
 | p :: r => fun g ms => if p.1 = g then some ⟨[], fun v => v = p.2 ms, none⟩ else fnK r g ms
theorem fnK_hit {g : FuncId} {u : List MV → MV} {r : List (FuncId × (List MV → MV))} {ms : List MV} {x : MV} (h : u ms = x) : fnK ((g, u) :: r) g ms = some ⟨[], fun v => v = x, none⟩ := by
 subst h
 exact if_pos rfl
theorem fnK_skip {g g' : FuncId} {u : List MV → MV} {r : List (FuncId × (List MV → MV))} {ms : List MV} {F : Fact} (h : (g' == g) = false) (k : fnK r g ms = some F) : fnK ((g', u) :: r) g ms = some F := by
 unfold fnK
 rw [if_neg (by simpa using h)]
 exact k
theorem msgReads_call (s : BL) : MCalls Tryz.prog 4 [.str (bsS s)] St.none (fun r _ => r = .bool true) := by
 refine MCalls.drops (MCalls.body 33 [.tmp 2] Tryz.func4 rfl rfl rfl rfl ?_)
 have h9 := pawake_call
 by_cases hl : 6000 < s.length
 ·repeat' (first | (with_reducible first | refine up h9 ?_) | (with_reducible first | (refine wN fun _ hnl => ?_; revert hnl; (repeat refine wS fun _ _ => ?_); intro hnl) | refine wE ?_ | (refine wK ?_ ?_ <;> intro h) | (refine wB ?_ ?_ <;> intro h <;> simp only [h])) | simp (maxSteps := 4000000) (disch := first | decide | assumption | omega | (simp only [wL]; omega)) only [go_sem, simprocAttr, Tryz.f4, FYs, bsS_size])
  all_goals exact ⟨_, St.le_refl _⟩
 ·have h1 := pxdec_call s (by omega)
  have h2 := rxdec_call s (by omega)
  obtain ⟨hs, hg⟩ := msgD_sm s
  obtain ⟨⟨m, e⟩, hm⟩ : ∃ x, msgD s = x := ⟨_, rfl⟩
  rw [hm] at h1 h2 hs
  simp only at h1 h2 hs
  have h3 := pfrom_call m
  have h4 := rxsame_call m m hs
  rw [decide_eq_true rfl] at h4
  clear hm hg hs
  obtain ⟨C, c3, c4, c9⟩ : ∃ C : Know, (∀ ms, C 17 ms = some ⟨[], fun v => v = .agg m.c, none⟩) ∧ (∀ ms, C 14 ms = some ⟨[], fun v => v = .bool true, none⟩) ∧ (∀ ms, C 7 ms = some ⟨[], fun v => v = .bool true, none⟩) :=
   ⟨fnK [(17, fun _ => .agg m.c), (14, fun _ => .bool true), (7, fun _ => .bool true)], fun _ => fnK_hit rfl, fun _ => fnK_skip rfl (fnK_hit rfl), fun _ => fnK_skip rfl (fnK_skip rfl (fnK_hit rfl))⟩
  repeat' (first | ((with_reducible refine mdraw_know mixed ?chk C ?_); (case chk => decide +kernel)) | (with_reducible refine know_pure (c3 _) h3 ?_) | (with_reducible refine know_pure (c4 _) h4 ?_) | (with_reducible refine know_pure (c9 _) h9 ?_) | (with_reducible first | refine up h1 ?_ | refine up h2 ?_ | refine up h9 ?_) | (with_reducible first | (refine wN fun _ hnl => ?_; revert hnl; (repeat refine wS fun _ _ => ?_); intro hnl) | refine wE ?_ | (refine wK ?_ ?_ <;> intro h) | (refine wB ?_ ?_ <;> intro h <;> simp only [h])) | simp (maxSteps := 4000000) (disch := first | decide | assumption | omega | (simp only [wL]; omega)) only [go_sem, simprocAttr, Tryz.f4, FYs, bsS_size])
  all_goals exact ⟨_, St.le_refl _⟩
end Go.Proofs.YtfbodefnblpflaaGreatDoor
end

section
namespace Go.Proofs.YtfbodefnblpflaaGreatDoor
open Go.ChangeShapes Go.WideShapes Go.RowKit
set_option maxRecDepth 100000
theorem i64_in {v : Int} (h0 : IntKind.i64.min ≤ v) (h1 : v ≤ IntKind.i64.max) : In64 v := by
 have e0 : IntKind.i64.min = -9223372036854775808 := by decide
 have e1 : IntKind.i64.max = 9223372036854775807 := by decide
 rw [e0] at h0
 rw [e1] at h1
 exact ⟨h0, h1⟩
theorem abytes {m : MV} (h : AT Tryz.prog 8 9 m) : ∃ s : BL, m = .str (bsS s) := by
 obtain ⟨s, hs, _⟩ := ct_str (by rw [td9]) (at_cell (by rw [td9]; rfl) h)
 exact ⟨s.data.toList, by rw [cell_eq hs]; simp [bsS]⟩
theorem own_ : ownKnob Tryz.prog.godebug = none := by kernel_rfl
end Go.Proofs.YtfbodefnblpflaaGreatDoor
end

section
namespace Go.Proofs.YtfbodefnblpflaaGreatDoor
open Go.ChangeShapes Go.WideShapes Go.RowKit
set_option maxRecDepth 100000
abbrev laidT : List (String × DataW Unit) := [("math/bits.deBruijn32tab", Rows.laid_math_bits_deBruijn32tab)]
theorem gTab : Tryz.prog.globalNamed "math/bits.deBruijn32tab" = some 0 := by kernel_rfl
theorem tTab : (Tryz.prog.globals[0]?).map (·.type) = some 211 := by kernel_rfl
theorem uTab : Tryz.prog.underlying 211 = some (.array 32 5) := by kernel_rfl
theorem uU8 : Tryz.prog.underlying 5 = some (.int .u8) := by kernel_rfl
theorem cU8 : Tryz.prog.cellsOf 5 = 1 := by kernel_rfl
theorem cTab : Tryz.prog.cellsOf 211 = 32 := by kernel_rfl
theorem gt_of_laid : ∀ W, laidMetH Tryz.prog laidT W → GTok W := fun W h => by
 rw [MakeChecks.laidMetH_plain _ _ _ (by kernel_rfl)] at h
 have ht : Go.Lib.TabIs Tryz.prog W "math/bits.deBruijn32tab" .u8 dbT := Go.Lib.tabIs_of_head gTab tTab uTab uU8 cU8 cTab h
 intro g i v hv
 by_cases hg : g = 0
 ·subst hg
  rw [GT_tz, Option.map_eq_some_iff] at hv
  obtain ⟨n, hn, rfl⟩ := hv
  have hi := (List.getElem?_eq_some_iff.1 hn).1
  rw [ht.cell gTab i hi]
  simp [List.getD, hn]
 ·unfold GT at hv
  rw [if_neg hg] at hv
  cases hv
theorem door_met (os : Os) (args : Array Value) : laidMetH Tryz.prog laidT ((World.doorLaid Tryz.prog 40 os).forCall (fun _ _ => 0) ⟨#[], args, []⟩).memory :=
 laidMetH_of_parts3 (fuel := 8) (laidMet_of_run' 8 (by kernel_rfl) (by kernel_rfl)) (by kernel_rfl) (by kernel_rfl)
end Go.Proofs.YtfbodefnblpflaaGreatDoor
end
