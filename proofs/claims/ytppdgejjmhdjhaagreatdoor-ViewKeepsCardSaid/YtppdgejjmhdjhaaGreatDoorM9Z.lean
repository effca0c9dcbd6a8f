/- It is proved that the law ViewKeeps returns true for every input, and that each argument reads behind the call as before, the listed table laid as the program's text lays it: no condition. -/
import Derived.Test.YtppdgejjmhdjhaaGreatDoorM9zm
import Derived.Test.YtppdgejjmhdjhaaGreatDoorM9zn
import Derived.Test.YtppdgejjmhdjhaaGreatDoorCards
import Derived.Test.YtppdgejjmhdjhaaGreatDoorTie
set_option linter.unusedVariables false
set_option linter.unusedSimpArgs false
namespace Go.Proofs.YtppdgejjmhdjhaaGreatDoor
open Go.ChangeShapes Go.WideShapes Go.RowKit
set_option maxRecDepth 100000
theorem viewKeeps_at {a b : MV} (ha : AT Tryz.prog 10 26 a) (hb : AT Tryz.prog 10 28 b) : aA Tryz.prog 5 [a, b] St.none (fun r _ => r = .bool true) := by
 obtain ⟨xa, rfl⟩ := W6 ha
 obtain ⟨xb, rfl⟩ := W4 hb
 exact Bb xa xb
theorem viewKeeps_ats {P : Program} {n : Nat} {t u : TypeId} : ∀ {ms : List MV}, ATs P n [t, u] ms → ∃ a b, ms = [a, b] ∧ AT P n t a ∧ AT P n u b
 | [a, b], ⟨ha, hb, _⟩ => ⟨a, b, rfl, ha, hb⟩
theorem viewKeeps_params : Tryz.f5.params.toList = [26, 28] := by kernel_rfl
theorem viewKeeps_lifted (os : Os) (started : os.Started) (H : Type) (enc : TypeId × Value → H) :
  ReturnsInHanded {} Tryz.checked os 5 .any (fun w args => (Rows.viewKeepsSpec.pre enc Tryz.prog Tryz.f5 Rows.viewKeepsRow.domain Rows.viewKeepsRow.apart w args ∧ laidMetH Tryz.prog FA w) ∧ sizedMet enc Tryz.prog Tryz.f5 (OpenSpec.ofChange Rows.viewKeepsSpec) Rows.viewKeepsRow.apart w args) (Rows.viewKeepsSpec.post enc Tryz.prog Tryz.f5 Rows.viewKeepsRow.apart Rows.viewKeepsRow.fresh Rows.viewKeepsRow.handsOn Rows.viewKeepsRow.again) :=
 Bp (C := Tryz.checked) (fn := Tryz.f5) (n := 10) (laid := FA) rfl (fun H ds h => match ds, h with | [_, _], _ => rfl) rfl (by kernel_rfl) (by kernel_rfl) (by decide +kernel) (by decide +kernel) IK Xg started (by kernel_rfl) Tryz.func5
  (ChangeSpec.witness_shaped (enc := enc) (C := Tryz.checked) (os := os) (X := fun w _ => laidMetH Tryz.prog FA w) false (World.doorLaid Tryz.prog 40 os) #[.agg #[.slice none 0 0, .int .u32 0, .slice none 0 0, .slice none 0 0], .agg #[.int .i64 0, .int .i64 0, .int .i64 0, .int .i64 0]] 12 rfl (World.shaped_of_RefB (by kernel_rfl) (by kernel_rfl)) (by kernel_rfl) (by kernel_rfl) (by kernel_rfl) (Pn os _)) fun ms h => by
   obtain ⟨a, b, rfl, ha, hb⟩ := viewKeeps_ats (viewKeeps_params ▸ h)
   exact viewKeeps_at ha hb
theorem viewKeeps_joined : joinedFacts PC 5 Tryz.f5 Rows.viewKeepsSpec Rows.viewKeepsRow = true :=
 Dr (by kernel_rfl) Ti Tl (by kernel_rfl) (by kernel_rfl) (by kernel_rfl) PW (by kernel_rfl) PS MW z8 Dt MU (by kernel_rfl) (by kernel_rfl) (by kernel_rfl) (by kernel_rfl) (by kernel_rfl) (by kernel_rfl) (by kernel_rfl) (by kernel_rfl) (by kernel_rfl) Th (by kernel_rfl) PR PQ PT Tk rfl (by kernel_rfl) (by kernel_rfl) (by kernel_rfl) (by kernel_rfl)
theorem viewKeeps_row : Rows.ViewKeepsSaid :=
 OpenClaim.holds_of_wide 5 Tryz.f5 rfl rfl rfl rfl rfl rfl rfl ⟨rfl, rfl, rfl, rfl, rfl⟩ rfl rfl rfl rfl rfl FF Tryz.func5 viewKeeps_joined
  (of_decide_eq_true (by kernel_rfl)) (by unfold Func.isWrapper; first | (rw [if_pos (by decide +kernel)]; kernel_rfl) | (rw [if_neg (by decide +kernel)]; exact ⟨rfl, rfl⟩))
  (fun os started H enc _ => viewKeeps_lifted os started H enc)
theorem viewKeeps_stand : ∀ (j : Nat) t, Tryz.f5.params[j]? = some t → PC.wantsStandIn t = false := fun j t ht => by
 have hall : Tryz.f5.params.toList.all (fun t => PC.wantsStandIn t == false) = true := by kernel_rfl
 have hm : t ∈ Tryz.f5.params.toList := by
  rw [Array.mem_toList_iff]
  exact Array.mem_of_getElem? ht
 exact beq_iff_eq.1 (List.all_eq_true.1 hall t hm)
theorem viewKeeps_goes : false = Rows.viewKeepsRow.goesBy PC := by kernel_rfl
theorem viewKeeps_text : Rows.viewKeepsRow.wfByText (OpenSpec.ofChange Rows.viewKeepsSpec) = true := by kernel_rfl
theorem viewKeeps_holds : Rows.ViewKeepsCardSaid :=
 Claim7.holds_tied_plain_at .later [] [.data] true Rows.viewKeepsCard.stood.harness Rows.viewKeepsCard.stood.looks
  viewKeeps_row (fun _ h => by cases h) viewKeeps_text (fun _ h => by cases h) viewKeeps_row_tie rfl ⟨rfl, rfl⟩ Tj rfl
  (fun f fn hf hfn => by
   obtain rfl : f = 5 := Option.some.inj (FF.symm.trans hf) |>.symm
   obtain rfl : fn = Tryz.f5 := (Option.some.inj (Tryz.func5.symm.trans hfn)).symm
   exact ⟨PU, viewKeeps_stand⟩)
  viewKeeps_goes
end Go.Proofs.YtppdgejjmhdjhaaGreatDoor
