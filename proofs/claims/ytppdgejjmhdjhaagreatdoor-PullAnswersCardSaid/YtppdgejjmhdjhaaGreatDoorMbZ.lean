/- It is proved that the law PullAnswers returns true for every input, and that each argument reads behind the call as before, the listed table laid as the program's text lays it: no condition. -/
import Derived.Test.YtppdgejjmhdjhaaGreatDoorMbj
import Derived.Test.YtppdgejjmhdjhaaGreatDoorCards
import Derived.Test.YtppdgejjmhdjhaaGreatDoorTie
set_option linter.unusedVariables false
set_option linter.unusedSimpArgs false
namespace Go.Proofs.YtppdgejjmhdjhaaGreatDoor
open Go.ChangeShapes Go.WideShapes Go.RowKit
set_option maxRecDepth 100000
theorem vr {a b c : MV} (ha : AT Tryz.prog 10 26 a) (hb : AT Tryz.prog 10 103 b) (hc : AT Tryz.prog 10 104 c) : aA Tryz.prog 7 [a, b, c] St.none (fun r _ => r = .bool true) := by obtain ⟨xa, rfl⟩ := YD ha;obtain ⟨xb, rfl⟩ := YE hb;obtain ⟨xc, rfl⟩ := Xs hc;exact yM xa xb xc
theorem tv {P : Program} {n : Nat} {t u v : TypeId} : ∀ {ms : List MV}, ATs P n [t, u, v] ms → ∃ a b c, ms = [a, b, c] ∧ AT P n t a ∧ AT P n u b ∧ AT P n v c
 | [a, b, c], ⟨ha, hb, hc, _⟩ => ⟨a, b, c, rfl, ha, hb, hc⟩
theorem qn : Tryz.f7.params.toList = [26, 103, 104] := by kernel_rfl
theorem qk (os : Os) (started : os.Started) (H : Type) (enc : TypeId × Value → H) :
  ReturnsInHanded {} Tryz.checked os 7 .any (fun w args => (Rows.pullAnswersSpec.pre enc Tryz.prog Tryz.f7 Rows.pullAnswersRow.domain Rows.pullAnswersRow.apart w args ∧ laidMetH Tryz.prog Hd w) ∧ sizedMet enc Tryz.prog Tryz.f7 (OpenSpec.ofChange Rows.pullAnswersSpec) Rows.pullAnswersRow.apart w args) (Rows.pullAnswersSpec.post enc Tryz.prog Tryz.f7 Rows.pullAnswersRow.apart Rows.pullAnswersRow.fresh Rows.pullAnswersRow.handsOn Rows.pullAnswersRow.again) :=
 Cj (C := Tryz.checked) (fn := Tryz.f7) (n := 10) (laid := Hd) rfl (fun H ds h => match ds, h with | [_, _, _], _ => rfl) rfl (by kernel_rfl) (by kernel_rfl) (by decide +kernel) (by decide +kernel) J3 YP started (by kernel_rfl) Tryz.func7
  (ChangeSpec.witness_shaped (enc := enc) (C := Tryz.checked) (os := os) (X := fun w _ => laidMetH Tryz.prog Hd w) false (World.doorLaid Tryz.prog 40 os) #[.agg #[.slice none 0 0, .int .u32 0, .slice none 0 0, .slice none 0 0], .agg #[.int .i64 0, .int .i64 0, .int .i64 0, .int .i64 0], .agg #[.int .i64 0, .int .i64 0]] 12 rfl (World.shaped_of_RefB (by kernel_rfl) (by kernel_rfl)) (by kernel_rfl) (by kernel_rfl) (by kernel_rfl) (QM os _)) fun ms h => by obtain ⟨a, b, c, rfl, ha, hb, hc⟩ := tv (qn ▸ h);exact vr ha hb hc
theorem qj : joinedFacts PC 7 Tryz.f7 Rows.pullAnswersSpec Rows.pullAnswersRow = true :=
 EC (by kernel_rfl) UG UJ (by kernel_rfl) (by kernel_rfl) (by kernel_rfl) Rn (by kernel_rfl) Ri Oa A0 EI N9 (by kernel_rfl) (by kernel_rfl) (by kernel_rfl) (by kernel_rfl) (by kernel_rfl) (by kernel_rfl) (by kernel_rfl) (by kernel_rfl) (by kernel_rfl) UF (by kernel_rfl) Rh Rg Rj UI rfl (by kernel_rfl) (by kernel_rfl) (by kernel_rfl) (by kernel_rfl)
theorem tx : Rows.PullAnswersSaid :=
 OpenClaim.holds_of_wide 7 Tryz.f7 rfl rfl rfl rfl rfl rfl rfl ⟨rfl, rfl, rfl, rfl, rfl⟩ rfl rfl rfl rfl rfl Hh Tryz.func7 qj
  (of_decide_eq_true (by kernel_rfl)) (by unfold Func.isWrapper; first | (rw [if_pos (by decide +kernel)]; kernel_rfl) | (rw [if_neg (by decide +kernel)]; exact ⟨rfl, rfl⟩))
  (fun os started H enc _ => qk os started H enc)
theorem re : ∀ (j : Nat) t, Tryz.f7.params[j]? = some t → PC.wantsStandIn t = false := fun j t ht => by
 have ef : Tryz.f7.params.toList.all (fun t => PC.wantsStandIn t == false) = true := by kernel_rfl
 have hm : t ∈ Tryz.f7.params.toList := by rw [Array.mem_toList_iff];exact Array.mem_of_getElem? ht
 exact beq_iff_eq.1 (List.all_eq_true.1 ef t hm)
theorem sv : false = Rows.pullAnswersRow.goesBy PC := by kernel_rfl
theorem sw : Rows.pullAnswersRow.wfByText (OpenSpec.ofChange Rows.pullAnswersSpec) = true := by kernel_rfl
theorem pullAnswers_holds : Rows.PullAnswersCardSaid :=
 Claim7.holds_tied_plain_at .later [] [.data] true Rows.pullAnswersCard.stood.harness Rows.pullAnswersCard.stood.looks
  tx (fun _ h => by cases h) sw (fun _ h => by cases h) pullAnswers_row_tie rfl ⟨rfl, rfl⟩ UH rfl
  (fun f fn hf mm => by
   obtain rfl : f = 7 := Option.some.inj (Hh.symm.trans hf) |>.symm;obtain rfl : fn = Tryz.f7 := (Option.some.inj (Tryz.func7.symm.trans mm)).symm;exact ⟨Rk, re⟩)
  sv
end Go.Proofs.YtppdgejjmhdjhaaGreatDoor
