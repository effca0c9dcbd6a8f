/- It is proved that the law FillEnds returns true for every input, and that each argument reads behind the call as before, the listed table laid as the program's text lays it: no condition. -/
import Derived.Test.YtaojijkdamfbnaaGreatDoorMdzl
import Derived.Test.YtaojijkdamfbnaaGreatDoorMdzn
import Derived.Test.YtaojijkdamfbnaaGreatDoorCards
import Derived.Test.YtaojijkdamfbnaaGreatDoorTie
set_option linter.unusedVariables false
set_option linter.unusedSimpArgs false
namespace Go.Proofs.YtaojijkdamfbnaaGreatDoor
open Go.ChangeShapes Go.WideShapes Go.RowKit
set_option maxRecDepth 100000
theorem fillEnds_at {a b : MV} (ha : AT Tryz.prog 10 30 a) (hb : AT Tryz.prog 10 5 b) : aA Tryz.prog 8 [a, b] St.none (fun r _ => r = .bool true) := by
 obtain ⟨xa, rfl⟩ := N6 ha
 obtain ⟨xb, rfl⟩ := au8 hb
 exact u9 xa xb
theorem fillEnds_ats {P : Program} {n : Nat} {t u : TypeId} : ∀ {ms : List MV}, ATs P n [t, u] ms → ∃ a b, ms = [a, b] ∧ AT P n t a ∧ AT P n u b
 | [a, b], ⟨ha, hb, _⟩ => ⟨a, b, rfl, ha, hb⟩
theorem fillEnds_params : Tryz.f8.params.toList = [30, 5] := by kernel_rfl
theorem fillEnds_lifted (os : Os) (started : os.Started) (H : Type) (enc : TypeId × Value → H) :
  ReturnsInHanded {} Tryz.checked os 8 .any (fun w args => (Rows.fillEndsSpec.pre enc Tryz.prog Tryz.f8 Rows.fillEndsRow.domain Rows.fillEndsRow.apart w args ∧ laidMetH Tryz.prog AR w) ∧ sizedMet enc Tryz.prog Tryz.f8 (OpenSpec.ofChange Rows.fillEndsSpec) Rows.fillEndsRow.apart w args) (Rows.fillEndsSpec.post enc Tryz.prog Tryz.f8 Rows.fillEndsRow.apart Rows.fillEndsRow.fresh Rows.fillEndsRow.handsOn Rows.fillEndsRow.again) :=
 vB (C := Tryz.checked) (fn := Tryz.f8) (n := 10) (laid := AR) rfl (fun H ds h => match ds, h with | [_, _], _ => rfl) rfl (by kernel_rfl) (by kernel_rfl) (by decide +kernel) (by decide +kernel) CW Od started (by kernel_rfl) Tryz.func8
  (ChangeSpec.witness_shaped (enc := enc) (C := Tryz.checked) (os := os) (X := fun w _ => laidMetH Tryz.prog AR w) false (World.doorLaid Tryz.prog 40 os) #[.agg #[.int .i64 0, .int .i64 0, .slice none 0 0, .slice none 0 0, .slice none 0 0, .slice none 0 0, .int .u32 0, .int .i64 0], .int .u8 0] 12 rfl (World.shaped_of_RefB (by kernel_rfl) (by kernel_rfl)) (by kernel_rfl) (by kernel_rfl) (by kernel_rfl) (H5 os _)) fun ms h => by
   obtain ⟨a, b, rfl, ha, hb⟩ := fillEnds_ats (fillEnds_params ▸ h)
   exact fillEnds_at ha hb
theorem fillEnds_joined : joinedFacts PC 8 Tryz.f8 Rows.fillEndsSpec Rows.fillEndsRow = true :=
 yL (by kernel_rfl) KN KQ (by kernel_rfl) (by kernel_rfl) (by kernel_rfl) Iz (by kernel_rfl) Iw F5 sU yO F4 (by kernel_rfl) (by kernel_rfl) (by kernel_rfl) (by kernel_rfl) (by kernel_rfl) (by kernel_rfl) (by kernel_rfl) (by kernel_rfl) (by kernel_rfl) KM (by kernel_rfl) Iv Iu Ix KP rfl (by kernel_rfl) (by kernel_rfl) (by kernel_rfl) (by kernel_rfl)
theorem fillEnds_row : Rows.FillEndsSaid :=
 OpenClaim.holds_of_wide 8 Tryz.f8 rfl rfl rfl rfl rfl rfl rfl ⟨rfl, rfl, rfl, rfl, rfl⟩ rfl rfl rfl rfl rfl AX Tryz.func8 fillEnds_joined
  (of_decide_eq_true (by kernel_rfl)) (by unfold Func.isWrapper; first | (rw [if_pos (by decide +kernel)]; kernel_rfl) | (rw [if_neg (by decide +kernel)]; exact ⟨rfl, rfl⟩))
  (fun os started H enc _ => fillEnds_lifted os started H enc)
theorem fillEnds_stand : ∀ (j : Nat) t, Tryz.f8.params[j]? = some t → PC.wantsStandIn t = false := fun j t ht => by
 have hall : Tryz.f8.params.toList.all (fun t => PC.wantsStandIn t == false) = true := by kernel_rfl
 have hm : t ∈ Tryz.f8.params.toList := by
  rw [Array.mem_toList_iff]
  exact Array.mem_of_getElem? ht
 exact beq_iff_eq.1 (List.all_eq_true.1 hall t hm)
theorem fillEnds_goes : false = Rows.fillEndsRow.goesBy PC := by kernel_rfl
theorem fillEnds_text : Rows.fillEndsRow.wfByText (OpenSpec.ofChange Rows.fillEndsSpec) = true := by kernel_rfl
theorem fillEnds_holds : Rows.FillEndsCardSaid :=
 Claim7.holds_tied_plain_at .later [] [.data] true Rows.fillEndsCard.stood.harness Rows.fillEndsCard.stood.looks
  fillEnds_row (fun _ h => by cases h) fillEnds_text (fun _ h => by cases h) fillEnds_row_tie rfl ⟨rfl, rfl⟩ KO rfl
  (fun f fn hf hfn => by
   obtain rfl : f = 8 := Option.some.inj (AX.symm.trans hf) |>.symm
   obtain rfl : fn = Tryz.f8 := (Option.some.inj (Tryz.func8.symm.trans hfn)).symm
   exact ⟨Iy, fillEnds_stand⟩)
  fillEnds_goes
end Go.Proofs.YtaojijkdamfbnaaGreatDoor
