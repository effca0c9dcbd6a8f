/- It is proved that the law ViewLoads returns true for every input, and that each argument reads behind the call as before, the listed table laid as the program's text lays it: no condition. -/
import Derived.Test.YtppdgejjmhdjhaaGreatDoorMbzn
import Derived.Test.YtppdgejjmhdjhaaGreatDoorCards
import Derived.Test.YtppdgejjmhdjhaaGreatDoorTie
set_option linter.unusedVariables false
set_option linter.unusedSimpArgs false
namespace Go.Proofs.YtppdgejjmhdjhaaGreatDoor
open Go.ChangeShapes Go.WideShapes Go.RowKit
set_option maxRecDepth 100000
theorem viewLoads_at {a b c : MV} (ha : AT Tryz.prog 10 92 a) (hb : AT Tryz.prog 10 3 b) (hc : AT Tryz.prog 10 77 c) : aA Tryz.prog 6 [a, b, c] St.none (fun r _ => r = .bool true) := by
 obtain ⟨xa, rfl⟩ := as2 ha
 obtain ⟨xb, rfl⟩ := Pf hb
 obtain ⟨xc, rfl⟩ := Og hc
 exact xA xa xb xc
theorem viewLoads_ats {P : Program} {n : Nat} {t u v : TypeId} : ∀ {ms : List MV}, ATs P n [t, u, v] ms → ∃ a b c, ms = [a, b, c] ∧ AT P n t a ∧ AT P n u b ∧ AT P n v c
 | [a, b, c], ⟨ha, hb, hc, _⟩ => ⟨a, b, c, rfl, ha, hb, hc⟩
theorem viewLoads_params : Tryz.f6.params.toList = [92, 3, 77] := by kernel_rfl
theorem viewLoads_lifted (os : Os) (started : os.Started) (H : Type) (enc : TypeId × Value → H) :
  ReturnsInHanded {} Tryz.checked os 6 .any (fun w args => (Rows.viewLoadsSpec.pre enc Tryz.prog Tryz.f6 Rows.viewLoadsRow.domain Rows.viewLoadsRow.apart w args ∧ laidMetH Tryz.prog B4 w) ∧ sizedMet enc Tryz.prog Tryz.f6 (OpenSpec.ofChange Rows.viewLoadsSpec) Rows.viewLoadsRow.apart w args) (Rows.viewLoadsSpec.post enc Tryz.prog Tryz.f6 Rows.viewLoadsRow.apart Rows.viewLoadsRow.fresh Rows.viewLoadsRow.handsOn Rows.viewLoadsRow.again) :=
 xL (C := Tryz.checked) (fn := Tryz.f6) (n := 10) (laid := B4) rfl (fun H ds h => match ds, h with | [_, _, _], _ => rfl) rfl (by kernel_rfl) (by kernel_rfl) (by decide +kernel) (by decide +kernel) Er Qq started (by kernel_rfl) Tryz.func6
  (ChangeSpec.witness_shaped (enc := enc) (C := Tryz.checked) (os := os) (X := fun w _ => laidMetH Tryz.prog B4 w) false (World.doorLaid Tryz.prog 40 os) #[.agg #[.int .i64 0, .int .i64 0, .slice none 0 0, .slice none 0 0, .slice none 0 0, .slice none 0 0, .int .u32 0], .int .i64 0, .slice none 0 0] 12 rfl (World.shaped_of_RefB (by kernel_rfl) (by kernel_rfl)) (by kernel_rfl) (by kernel_rfl) (by kernel_rfl) (JW os _)) fun ms h => by
   obtain ⟨a, b, c, rfl, ha, hb, hc⟩ := viewLoads_ats (viewLoads_params ▸ h)
   exact viewLoads_at ha hb hc
theorem viewLoads_joined : joinedFacts PC 6 Tryz.f6 Rows.viewLoadsSpec Rows.viewLoadsRow = true :=
 Ap (by kernel_rfl) MT MX (by kernel_rfl) (by kernel_rfl) (by kernel_rfl) Kk (by kernel_rfl) Kh HR uG Aq HQ (by kernel_rfl) (by kernel_rfl) (by kernel_rfl) (by kernel_rfl) (by kernel_rfl) (by kernel_rfl) (by kernel_rfl) (by kernel_rfl) (by kernel_rfl) MR (by kernel_rfl) Kg Kf Ki MW rfl (by kernel_rfl) (by kernel_rfl) (by kernel_rfl) (by kernel_rfl)
theorem viewLoads_row : Rows.ViewLoadsSaid :=
 OpenClaim.holds_of_wide 6 Tryz.f6 rfl rfl rfl rfl rfl rfl rfl ⟨rfl, rfl, rfl, rfl, rfl⟩ rfl rfl rfl rfl rfl B9 Tryz.func6 viewLoads_joined
  (of_decide_eq_true (by kernel_rfl)) (by unfold Func.isWrapper; first | (rw [if_pos (by decide +kernel)]; kernel_rfl) | (rw [if_neg (by decide +kernel)]; exact ⟨rfl, rfl⟩))
  (fun os started H enc _ => viewLoads_lifted os started H enc)
theorem viewLoads_stand : ∀ (j : Nat) t, Tryz.f6.params[j]? = some t → PC.wantsStandIn t = false := fun j t ht => by
 have hall : Tryz.f6.params.toList.all (fun t => PC.wantsStandIn t == false) = true := by kernel_rfl
 have hm : t ∈ Tryz.f6.params.toList := by
  rw [Array.mem_toList_iff]
  exact Array.mem_of_getElem? ht
 exact beq_iff_eq.1 (List.all_eq_true.1 hall t hm)
theorem viewLoads_goes : false = Rows.viewLoadsRow.goesBy PC := by kernel_rfl
theorem viewLoads_text : Rows.viewLoadsRow.wfByText (OpenSpec.ofChange Rows.viewLoadsSpec) = true := by kernel_rfl
theorem viewLoads_holds : Rows.ViewLoadsCardSaid :=
 Claim7.holds_tied_plain_at .later [] [.data] true Rows.viewLoadsCard.stood.harness Rows.viewLoadsCard.stood.looks
  viewLoads_row (fun _ h => by cases h) viewLoads_text (fun _ h => by cases h) viewLoads_row_tie rfl ⟨rfl, rfl⟩ MU rfl
  (fun f fn hf hfn => by
   obtain rfl : f = 6 := Option.some.inj (B9.symm.trans hf) |>.symm
   obtain rfl : fn = Tryz.f6 := (Option.some.inj (Tryz.func6.symm.trans hfn)).symm
   exact ⟨Kj, viewLoads_stand⟩)
  viewLoads_goes
end Go.Proofs.YtppdgejjmhdjhaaGreatDoor
