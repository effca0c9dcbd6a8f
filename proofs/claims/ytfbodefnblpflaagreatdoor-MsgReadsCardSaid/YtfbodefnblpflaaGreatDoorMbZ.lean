/- It is proved that the law MsgReads returns true for every input, and that each argument reads behind the call as before, the listed table laid as the program's text lays it: no condition. -/
import Derived.Test.YtfbodefnblpflaaGreatDoorMbzn
import Derived.Test.YtfbodefnblpflaaGreatDoorCards
import Derived.Test.YtfbodefnblpflaaGreatDoorTie
set_option linter.unusedVariables false
set_option linter.unusedSimpArgs false
namespace Go.Proofs.YtfbodefnblpflaaGreatDoor
open Go.ChangeShapes Go.WideShapes Go.RowKit
set_option maxRecDepth 100000
theorem msgReads_lifted (os : Os) (started : os.Started) (H : Type) (enc : TypeId × Value → H) :
  ReturnsInHanded {} Tryz.checked os 4 .any (fun w args => (Rows.msgReadsSpec.pre enc Tryz.prog Tryz.f4 Rows.msgReadsRow.domain Rows.msgReadsRow.apart w args ∧ laidMetH Tryz.prog laidT w) ∧ sizedMet enc Tryz.prog Tryz.f4 (OpenSpec.ofChange Rows.msgReadsSpec) Rows.msgReadsRow.apart w args) (Rows.msgReadsSpec.post enc Tryz.prog Tryz.f4 Rows.msgReadsRow.apart Rows.msgReadsRow.fresh Rows.msgReadsRow.handsOn Rows.msgReadsRow.again) :=
 law_lift_laid (C := Tryz.checked) (fn := Tryz.f4) (n := 8) (laid := laidT) rfl (fun H ds h => match ds, h with | [_], _ => rfl) rfl (by kernel_rfl) (by kernel_rfl) (by decide +kernel) (by decide +kernel) gt_of_laid own_ started (by kernel_rfl) Tryz.func4
  (ChangeSpec.witness_shaped (enc := enc) (C := Tryz.checked) (os := os) (X := fun w _ => laidMetH Tryz.prog laidT w) false (World.doorLaid Tryz.prog 40 os) #[.string ⟨#[]⟩] 12 rfl (World.shaped_of_RefB (by kernel_rfl) (by kernel_rfl)) (by kernel_rfl) (by kernel_rfl) (by kernel_rfl) (door_met os _)) fun ms h => by
   match ms, h with
   | [a], ⟨ha, _⟩ =>
    obtain ⟨s, rfl⟩ := abytes ha
    exact msgReads_call s
theorem msgReads_row : Rows.MsgReadsSaid :=
 OpenClaim.holds_of_wide 4 Tryz.f4 rfl rfl rfl rfl rfl rfl rfl ⟨rfl, rfl, rfl, rfl, rfl⟩ rfl rfl rfl rfl rfl (by kernel_rfl) Tryz.func4 (by kernel_rfl)
  (of_decide_eq_true (by kernel_rfl)) (by unfold Func.isWrapper; first | (rw [if_pos (by decide +kernel)]; kernel_rfl) | (rw [if_neg (by decide +kernel)]; exact ⟨rfl, rfl⟩))
  (fun os started H enc _ => msgReads_lifted os started H enc)
theorem msgReads_holds : Rows.MsgReadsCardSaid :=
 Claim7.holds_tied_plain_at .later [] [.data] true Rows.msgReadsCard.stood.harness Rows.msgReadsCard.stood.looks
  msgReads_row (fun _ h => by cases h) (by kernel_rfl) (fun _ h => by cases h) msgReads_row_tie rfl ⟨rfl, rfl⟩ (by kernel_rfl) rfl
  (fun f fn hf hfn => by
   obtain rfl : f = 4 := Option.some.inj ((show Tryz.prog.funcNamed "offprint/offprintlaw41.MsgReads" = some 4 by kernel_rfl).symm.trans hf) |>.symm
   obtain rfl : fn = Tryz.f4 := (Option.some.inj (Tryz.func4.symm.trans hfn)).symm
   exact ⟨by kernel_rfl, fun j t ht => by
    have hall : Tryz.f4.params.toList.all (fun t => Tryz.prog.wantsStandIn t == false) = true := by kernel_rfl
    have hm : t ∈ Tryz.f4.params.toList := by
     rw [Array.mem_toList_iff]
     exact Array.mem_of_getElem? ht
    exact beq_iff_eq.1 (List.all_eq_true.1 hall t hm)⟩)
  (by kernel_rfl)
end Go.Proofs.YtfbodefnblpflaaGreatDoor
