/- It is proved that the law StateNew returns true for every input, and that each argument reads behind the call as before, the listed table laid as the program's text lays it: no condition. -/
import Derived.Test.YtjljgahfkcdhfaaGreatDoorSnze
import Derived.Test.YtjljgahfkcdhfaaGreatDoorSnzn
import Derived.Test.YtjljgahfkcdhfaaGreatDoorCards
import Derived.Test.YtjljgahfkcdhfaaGreatDoorTie
set_option linter.unusedVariables false
set_option linter.unusedSimpArgs false
namespace Go.Proofs.YtjljgahfkcdhfaaGreatDoor
open Go.ChangeShapes Go.WideShapes Go.RowKit
set_option maxRecDepth 100000
theorem stateNew_at {a b : MV} (ha : AT Tryz.prog 8 3 a) (hb : AT Tryz.prog 8 5 b) : MCalls Tryz.prog 3 [a, b] St.none (fun r _ => r = .bool true) := by
 obtain ⟨n, hn, _⟩ := ct_int (by rw [td3]) (at_cell (by rw [td3]; rfl) ha)
 obtain ⟨c, hc, h0, h1⟩ := ct_int (by rw [td5]) (at_cell (by rw [td5]; rfl) hb)
 simp only [IntKind.min, IntKind.max, IntKind.signed, IntKind.bits, Bool.false_eq_true, if_false] at h0 h1
 obtain ⟨k, rfl⟩ := Int.eq_ofNat_of_zero_le h0
 rw [cell_eq hn, cell_eq hc]
 refine stateNew_call n ?_
 omega
theorem ats_two {P : Program} {n : Nat} {t u : TypeId} : ∀ {ms : List MV}, ATs P n [t, u] ms → ∃ a b, ms = [a, b] ∧ AT P n t a ∧ AT P n u b
 | [a, b], ⟨ha, hb, _⟩ => ⟨a, b, rfl, ha, hb⟩
theorem stateNew_params : Tryz.f3.params.toList = [3, 5] := by kernel_rfl
theorem stateNew_lifted (os : Os) (started : os.Started) (H : Type) (enc : TypeId × Value → H) :
  ReturnsInHanded {} Tryz.checked os 3 .any (fun w args => (Rows.stateNewSpec.pre enc Tryz.prog Tryz.f3 Rows.stateNewRow.domain Rows.stateNewRow.apart w args ∧ laidMetH Tryz.prog laidT w) ∧ sizedMet enc Tryz.prog Tryz.f3 (OpenSpec.ofChange Rows.stateNewSpec) Rows.stateNewRow.apart w args) (Rows.stateNewSpec.post enc Tryz.prog Tryz.f3 Rows.stateNewRow.apart Rows.stateNewRow.fresh Rows.stateNewRow.handsOn Rows.stateNewRow.again) :=
 law_lift_laid (C := Tryz.checked) (fn := Tryz.f3) (n := 8) (laid := laidT) rfl (fun H ds h => match ds, h with | [_, _], _ => rfl) rfl (by kernel_rfl) (by kernel_rfl) (by decide +kernel) (by decide +kernel) gt_of_laid own_ started (by kernel_rfl) Tryz.func3
  (ChangeSpec.witness_shaped (enc := enc) (C := Tryz.checked) (os := os) (X := fun w _ => laidMetH Tryz.prog laidT w) false (World.doorLaid Tryz.prog 40 os) #[.int .i64 0, .int .u8 0] 12 rfl (World.shaped_of_RefB (by kernel_rfl) (by kernel_rfl)) (by kernel_rfl) (by kernel_rfl) (by kernel_rfl) (door_met os _)) fun ms h => by
   obtain ⟨a, b, rfl, ha, hb⟩ := ats_two (stateNew_params ▸ h)
   exact stateNew_at ha hb
theorem stateNew_row : Rows.StateNewSaid :=
 OpenClaim.holds_of_wide 3 Tryz.f3 rfl rfl rfl rfl rfl rfl rfl ⟨rfl, rfl, rfl, rfl, rfl⟩ rfl rfl rfl rfl rfl (by kernel_rfl) Tryz.func3 (by kernel_rfl)
  (of_decide_eq_true (by kernel_rfl)) (by unfold Func.isWrapper; first | (rw [if_pos (by decide +kernel)]; kernel_rfl) | (rw [if_neg (by decide +kernel)]; exact ⟨rfl, rfl⟩))
  (fun os started H enc _ => stateNew_lifted os started H enc)
theorem stateNew_holds : Rows.StateNewCardSaid :=
 Claim7.holds_tied_plain_at .later [] [.data] true Rows.stateNewCard.stood.harness Rows.stateNewCard.stood.looks
  stateNew_row (fun _ h => by cases h) (by kernel_rfl) (fun _ h => by cases h) stateNew_row_tie rfl ⟨rfl, rfl⟩ (by kernel_rfl) rfl
  (fun f fn hf hfn => by
   obtain rfl : f = 3 := Option.some.inj ((show Tryz.prog.funcNamed "offprint/offprintlaw31.StateNew" = some 3 by kernel_rfl).symm.trans hf) |>.symm
   obtain rfl : fn = Tryz.f3 := (Option.some.inj (Tryz.func3.symm.trans hfn)).symm
   exact ⟨by kernel_rfl, fun j t ht => by
    have hall : Tryz.f3.params.toList.all (fun t => Tryz.prog.wantsStandIn t == false) = true := by kernel_rfl
    have hm : t ∈ Tryz.f3.params.toList := by
     rw [Array.mem_toList_iff]
     exact Array.mem_of_getElem? ht
    exact beq_iff_eq.1 (List.all_eq_true.1 hall t hm)⟩)
  (by kernel_rfl)
end Go.Proofs.YtjljgahfkcdhfaaGreatDoor
