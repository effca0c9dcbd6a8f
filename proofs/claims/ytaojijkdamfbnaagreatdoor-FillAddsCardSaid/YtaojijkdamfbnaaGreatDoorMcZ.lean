/- It is proved that the law FillAdds returns true for every input, and that each argument reads behind the call as before, the listed table laid as the program's text lays it: no condition. -/
import Derived.Test.YtaojijkdamfbnaaGreatDoorMczm
import Derived.Test.YtaojijkdamfbnaaGreatDoorMczn
import Derived.Test.YtaojijkdamfbnaaGreatDoorCards
import Derived.Test.YtaojijkdamfbnaaGreatDoorTie
set_option linter.unusedVariables false
set_option linter.unusedSimpArgs false
namespace Go.Proofs.YtaojijkdamfbnaaGreatDoor
open Go.ChangeShapes Go.WideShapes Go.RowKit
set_option maxRecDepth 100000
theorem fillAdds_at {a b : MV} (ha : AT Tryz.prog 10 30 a) (hb : AT Tryz.prog 10 3 b) : aA Tryz.prog 6 [a, b] St.none (fun r _ => r = .bool true) := by
 obtain ⟨xa, rfl⟩ := N5 ha
 obtain ⟨xb, rfl⟩ := N4 hb
 exact u7 xa xb
theorem fillAdds_ats {P : Program} {n : Nat} {t u : TypeId} : ∀ {ms : List MV}, ATs P n [t, u] ms → ∃ a b, ms = [a, b] ∧ AT P n t a ∧ AT P n u b
 | [a, b], ⟨ha, hb, _⟩ => ⟨a, b, rfl, ha, hb⟩
theorem fillAdds_params : Tryz.f6.params.toList = [30, 3] := by kernel_rfl
theorem fillAdds_lifted (os : Os) (started : os.Started) (H : Type) (enc : TypeId × Value → H) :
  ReturnsInHanded {} Tryz.checked os 6 .any (fun w args => (Rows.fillAddsSpec.pre enc Tryz.prog Tryz.f6 Rows.fillAddsRow.domain Rows.fillAddsRow.apart w args ∧ laidMetH Tryz.prog AO w) ∧ sizedMet enc Tryz.prog Tryz.f6 (OpenSpec.ofChange Rows.fillAddsSpec) Rows.fillAddsRow.apart w args) (Rows.fillAddsSpec.post enc Tryz.prog Tryz.f6 Rows.fillAddsRow.apart Rows.fillAddsRow.fresh Rows.fillAddsRow.handsOn Rows.fillAddsRow.again) :=
 vA (C := Tryz.checked) (fn := Tryz.f6) (n := 10) (laid := AO) rfl (fun H ds h => match ds, h with | [_, _], _ => rfl) rfl (by kernel_rfl) (by kernel_rfl) (by decide +kernel) (by decide +kernel) CR Oc started (by kernel_rfl) Tryz.func6
  (ChangeSpec.witness_shaped (enc := enc) (C := Tryz.checked) (os := os) (X := fun w _ => laidMetH Tryz.prog AO w) false (World.doorLaid Tryz.prog 40 os) #[.agg #[.int .i64 0, .int .i64 0, .slice none 0 0, .slice none 0 0, .slice none 0 0, .slice none 0 0, .int .u32 0, .int .i64 0], .int .i64 0] 12 rfl (World.shaped_of_RefB (by kernel_rfl) (by kernel_rfl)) (by kernel_rfl) (by kernel_rfl) (by kernel_rfl) (H0 os _)) fun ms h => by
   obtain ⟨a, b, rfl, ha, hb⟩ := fillAdds_ats (fillAdds_params ▸ h)
   exact fillAdds_at ha hb
theorem fillAdds_joined : joinedFacts PC 6 Tryz.f6 Rows.fillAddsSpec Rows.fillAddsRow = true :=
 yJ (by kernel_rfl) KL KO (by kernel_rfl) (by kernel_rfl) (by kernel_rfl) Ix (by kernel_rfl) Iu F2 sT yM F1 (by kernel_rfl) (by kernel_rfl) (by kernel_rfl) (by kernel_rfl) (by kernel_rfl) (by kernel_rfl) (by kernel_rfl) (by kernel_rfl) (by kernel_rfl) KK (by kernel_rfl) Is Ir Iv KN rfl (by kernel_rfl) (by kernel_rfl) (by kernel_rfl) (by kernel_rfl)
theorem fillAdds_row : Rows.FillAddsSaid :=
 OpenClaim.holds_of_wide 6 Tryz.f6 rfl rfl rfl rfl rfl rfl rfl ⟨rfl, rfl, rfl, rfl, rfl⟩ rfl rfl rfl rfl rfl AU Tryz.func6 fillAdds_joined
  (of_decide_eq_true (by kernel_rfl)) (by unfold Func.isWrapper; first | (rw [if_pos (by decide +kernel)]; kernel_rfl) | (rw [if_neg (by decide +kernel)]; exact ⟨rfl, rfl⟩))
  (fun os started H enc _ => fillAdds_lifted os started H enc)
theorem fillAdds_stand : ∀ (j : Nat) t, Tryz.f6.params[j]? = some t → PC.wantsStandIn t = false := fun j t ht => by
 have hall : Tryz.f6.params.toList.all (fun t => PC.wantsStandIn t == false) = true := by kernel_rfl
 have hm : t ∈ Tryz.f6.params.toList := by
  rw [Array.mem_toList_iff]
  exact Array.mem_of_getElem? ht
 exact beq_iff_eq.1 (List.all_eq_true.1 hall t hm)
theorem fillAdds_goes : false = Rows.fillAddsRow.goesBy PC := by kernel_rfl
theorem fillAdds_text : Rows.fillAddsRow.wfByText (OpenSpec.ofChange Rows.fillAddsSpec) = true := by kernel_rfl
theorem fillAdds_holds : Rows.FillAddsCardSaid :=
 Claim7.holds_tied_plain_at .later [] [.data] true Rows.fillAddsCard.stood.harness Rows.fillAddsCard.stood.looks
  fillAdds_row (fun _ h => by cases h) fillAdds_text (fun _ h => by cases h) fillAdds_row_tie rfl ⟨rfl, rfl⟩ KM rfl
  (fun f fn hf hfn => by
   obtain rfl : f = 6 := Option.some.inj (AU.symm.trans hf) |>.symm
   obtain rfl : fn = Tryz.f6 := (Option.some.inj (Tryz.func6.symm.trans hfn)).symm
   exact ⟨Iw, fillAdds_stand⟩)
  fillAdds_goes
end Go.Proofs.YtaojijkdamfbnaaGreatDoor
