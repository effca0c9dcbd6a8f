/- It is proved that the law FillTells returns true for every input, and that each argument reads behind the call as before, the listed table laid as the program's text lays it: no condition. -/
import Derived.Test.YtaojijkdamfbnaaGreatDoorMbzn
import Derived.Test.YtaojijkdamfbnaaGreatDoorCards
import Derived.Test.YtaojijkdamfbnaaGreatDoorTie
set_option linter.unusedVariables false
set_option linter.unusedSimpArgs false
namespace Go.Proofs.YtaojijkdamfbnaaGreatDoor
open Go.ChangeShapes Go.WideShapes Go.RowKit
set_option maxRecDepth 100000
theorem fillTells_at {a b : MV} (ha : AT Tryz.prog 10 30 a) (hb : AT Tryz.prog 10 3 b) : aA Tryz.prog 7 [a, b] St.none (fun r _ => r = .bool true) := by
 obtain ⟨xa, rfl⟩ := N8 ha
 obtain ⟨xb, rfl⟩ := N7 hb
 exact sO xa xb
theorem fillTells_ats {P : Program} {n : Nat} {t u : TypeId} : ∀ {ms : List MV}, ATs P n [t, u] ms → ∃ a b, ms = [a, b] ∧ AT P n t a ∧ AT P n u b
 | [a, b], ⟨ha, hb, _⟩ => ⟨a, b, rfl, ha, hb⟩
theorem fillTells_params : Tryz.f7.params.toList = [30, 3] := by kernel_rfl
theorem fillTells_lifted (os : Os) (started : os.Started) (H : Type) (enc : TypeId × Value → H) :
  ReturnsInHanded {} Tryz.checked os 7 .any (fun w args => (Rows.fillTellsSpec.pre enc Tryz.prog Tryz.f7 Rows.fillTellsRow.domain Rows.fillTellsRow.apart w args ∧ laidMetH Tryz.prog AM w) ∧ sizedMet enc Tryz.prog Tryz.f7 (OpenSpec.ofChange Rows.fillTellsSpec) Rows.fillTellsRow.apart w args) (Rows.fillTellsSpec.post enc Tryz.prog Tryz.f7 Rows.fillTellsRow.apart Rows.fillTellsRow.fresh Rows.fillTellsRow.handsOn Rows.fillTellsRow.again) :=
 vC (C := Tryz.checked) (fn := Tryz.f7) (n := 10) (laid := AM) rfl (fun H ds h => match ds, h with | [_, _], _ => rfl) rfl (by kernel_rfl) (by kernel_rfl) (by decide +kernel) (by decide +kernel) CO Of started (by kernel_rfl) Tryz.func7
  (ChangeSpec.witness_shaped (enc := enc) (C := Tryz.checked) (os := os) (X := fun w _ => laidMetH Tryz.prog AM w) false (World.doorLaid Tryz.prog 40 os) #[.agg #[.int .i64 0, .int .i64 0, .slice none 0 0, .slice none 0 0, .slice none 0 0, .slice none 0 0, .int .u32 0, .int .i64 0], .int .i64 0] 12 rfl (World.shaped_of_RefB (by kernel_rfl) (by kernel_rfl)) (by kernel_rfl) (by kernel_rfl) (by kernel_rfl) (H2 os _)) fun ms h => by
   obtain ⟨a, b, rfl, ha, hb⟩ := fillTells_ats (fillTells_params ▸ h)
   exact fillTells_at ha hb
theorem fillTells_joined : joinedFacts PC 7 Tryz.f7 Rows.fillTellsSpec Rows.fillTellsRow = true :=
 yK (by kernel_rfl) KL KO (by kernel_rfl) (by kernel_rfl) (by kernel_rfl) Ix (by kernel_rfl) Iu F4 sX yM F3 (by kernel_rfl) (by kernel_rfl) (by kernel_rfl) (by kernel_rfl) (by kernel_rfl) (by kernel_rfl) (by kernel_rfl) (by kernel_rfl) (by kernel_rfl) KK (by kernel_rfl) Is Ir Iv KN rfl (by kernel_rfl) (by kernel_rfl) (by kernel_rfl) (by kernel_rfl)
theorem fillTells_row : Rows.FillTellsSaid :=
 OpenClaim.holds_of_wide 7 Tryz.f7 rfl rfl rfl rfl rfl rfl rfl ⟨rfl, rfl, rfl, rfl, rfl⟩ rfl rfl rfl rfl rfl AR Tryz.func7 fillTells_joined
  (of_decide_eq_true (by kernel_rfl)) (by unfold Func.isWrapper; first | (rw [if_pos (by decide +kernel)]; kernel_rfl) | (rw [if_neg (by decide +kernel)]; exact ⟨rfl, rfl⟩))
  (fun os started H enc _ => fillTells_lifted os started H enc)
theorem fillTells_stand : ∀ (j : Nat) t, Tryz.f7.params[j]? = some t → PC.wantsStandIn t = false := fun j t ht => by
 have hall : Tryz.f7.params.toList.all (fun t => PC.wantsStandIn t == false) = true := by kernel_rfl
 have hm : t ∈ Tryz.f7.params.toList := by
  rw [Array.mem_toList_iff]
  exact Array.mem_of_getElem? ht
 exact beq_iff_eq.1 (List.all_eq_true.1 hall t hm)
theorem fillTells_goes : false = Rows.fillTellsRow.goesBy PC := by kernel_rfl
theorem fillTells_text : Rows.fillTellsRow.wfByText (OpenSpec.ofChange Rows.fillTellsSpec) = true := by kernel_rfl
theorem fillTells_holds : Rows.FillTellsCardSaid :=
 Claim7.holds_tied_plain_at .later [] [.data] true Rows.fillTellsCard.stood.harness Rows.fillTellsCard.stood.looks
  fillTells_row (fun _ h => by cases h) fillTells_text (fun _ h => by cases h) fillTells_row_tie rfl ⟨rfl, rfl⟩ KM rfl
  (fun f fn hf hfn => by
   obtain rfl : f = 7 := Option.some.inj (AR.symm.trans hf) |>.symm
   obtain rfl : fn = Tryz.f7 := (Option.some.inj (Tryz.func7.symm.trans hfn)).symm
   exact ⟨Iw, fillTells_stand⟩)
  fillTells_goes
end Go.Proofs.YtaojijkdamfbnaaGreatDoor
