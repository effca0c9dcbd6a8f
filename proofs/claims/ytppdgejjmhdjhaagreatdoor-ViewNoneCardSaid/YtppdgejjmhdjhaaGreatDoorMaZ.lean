/- It is proved that the law ViewNone returns true for every input, and that each argument reads behind the call as before, the listed table laid as the program's text lays it: no condition. -/
import Derived.Test.YtppdgejjmhdjhaaGreatDoorMazn
import Derived.Test.YtppdgejjmhdjhaaGreatDoorCards
import Derived.Test.YtppdgejjmhdjhaaGreatDoorTie
set_option linter.unusedVariables false
set_option linter.unusedSimpArgs false
namespace Go.Proofs.YtppdgejjmhdjhaaGreatDoor
open Go.ChangeShapes Go.WideShapes Go.RowKit
set_option maxRecDepth 100000
theorem viewNone_at {a : MV} (ha : AT Tryz.prog 10 28 a) : aA Tryz.prog 4 [a] St.none (fun r _ => r = .bool true) := by
 obtain ⟨xa, rfl⟩ := Li ha
 exact sK xa
theorem viewNone_ats {P : Program} {n : Nat} {t : TypeId} : ∀ {ms : List MV}, ATs P n [t] ms → ∃ a, ms = [a] ∧ AT P n t a
 | [a], ⟨ha, _⟩ => ⟨a, rfl, ha⟩
theorem viewNone_params : Tryz.f4.params.toList = [28] := by kernel_rfl
theorem viewNone_lifted (os : Os) (started : os.Started) (H : Type) (enc : TypeId × Value → H) :
  ReturnsInHanded {} Tryz.checked os 4 .any (fun w args => (Rows.viewNoneSpec.pre enc Tryz.prog Tryz.f4 Rows.viewNoneRow.domain Rows.viewNoneRow.apart w args ∧ laidMetH Tryz.prog xR w) ∧ sizedMet enc Tryz.prog Tryz.f4 (OpenSpec.ofChange Rows.viewNoneSpec) Rows.viewNoneRow.apart w args) (Rows.viewNoneSpec.post enc Tryz.prog Tryz.f4 Rows.viewNoneRow.apart Rows.viewNoneRow.fresh Rows.viewNoneRow.handsOn Rows.viewNoneRow.again) :=
 rT (C := Tryz.checked) (fn := Tryz.f4) (n := 10) (laid := xR) rfl (fun H ds h => match ds, h with | [_], _ => rfl) rfl (by kernel_rfl) (by kernel_rfl) (by decide +kernel) (by decide +kernel) AM Lt started (by kernel_rfl) Tryz.func4
  (ChangeSpec.witness_shaped (enc := enc) (C := Tryz.checked) (os := os) (X := fun w _ => laidMetH Tryz.prog xR w) false (World.doorLaid Tryz.prog 40 os) #[.agg #[.int .i64 0, .int .i64 0, .int .i64 0, .int .i64 0]] 12 rfl (World.shaped_of_RefB (by kernel_rfl) (by kernel_rfl)) (by kernel_rfl) (by kernel_rfl) (by kernel_rfl) (Fq os _)) fun ms h => by
   obtain ⟨a, rfl, ha⟩ := viewNone_ats (viewNone_params ▸ h)
   exact viewNone_at ha
theorem viewNone_joined : joinedFacts PC 4 Tryz.f4 Rows.viewNoneSpec Rows.viewNoneRow = true :=
 uB (by kernel_rfl) Io Ir (by kernel_rfl) (by kernel_rfl) (by kernel_rfl) FP (by kernel_rfl) FM DB pU uC DA (by kernel_rfl) (by kernel_rfl) (by kernel_rfl) (by kernel_rfl) (by kernel_rfl) (by kernel_rfl) (by kernel_rfl) (by kernel_rfl) (by kernel_rfl) Im (by kernel_rfl) FL FK FN Iq rfl (by kernel_rfl) (by kernel_rfl) (by kernel_rfl) (by kernel_rfl)
theorem viewNone_row : Rows.ViewNoneSaid :=
 OpenClaim.holds_of_wide 4 Tryz.f4 rfl rfl rfl rfl rfl rfl rfl ⟨rfl, rfl, rfl, rfl, rfl⟩ rfl rfl rfl rfl rfl xX Tryz.func4 viewNone_joined
  (of_decide_eq_true (by kernel_rfl)) (by unfold Func.isWrapper; first | (rw [if_pos (by decide +kernel)]; kernel_rfl) | (rw [if_neg (by decide +kernel)]; exact ⟨rfl, rfl⟩))
  (fun os started H enc _ => viewNone_lifted os started H enc)
theorem viewNone_stand : ∀ (j : Nat) t, Tryz.f4.params[j]? = some t → PC.wantsStandIn t = false := fun j t ht => by
 have hall : Tryz.f4.params.toList.all (fun t => PC.wantsStandIn t == false) = true := by kernel_rfl
 have hm : t ∈ Tryz.f4.params.toList := by
  rw [Array.mem_toList_iff]
  exact Array.mem_of_getElem? ht
 exact beq_iff_eq.1 (List.all_eq_true.1 hall t hm)
theorem viewNone_goes : false = Rows.viewNoneRow.goesBy PC := by kernel_rfl
theorem viewNone_text : Rows.viewNoneRow.wfByText (OpenSpec.ofChange Rows.viewNoneSpec) = true := by kernel_rfl
theorem viewNone_holds : Rows.ViewNoneCardSaid :=
 Claim7.holds_tied_plain_at .later [] [.data] true Rows.viewNoneCard.stood.harness Rows.viewNoneCard.stood.looks
  viewNone_row (fun _ h => by cases h) viewNone_text (fun _ h => by cases h) viewNone_row_tie rfl ⟨rfl, rfl⟩ Ip rfl
  (fun f fn hf hfn => by
   obtain rfl : f = 4 := Option.some.inj (xX.symm.trans hf) |>.symm
   obtain rfl : fn = Tryz.f4 := (Option.some.inj (Tryz.func4.symm.trans hfn)).symm
   exact ⟨FO, viewNone_stand⟩)
  viewNone_goes
end Go.Proofs.YtppdgejjmhdjhaaGreatDoor
