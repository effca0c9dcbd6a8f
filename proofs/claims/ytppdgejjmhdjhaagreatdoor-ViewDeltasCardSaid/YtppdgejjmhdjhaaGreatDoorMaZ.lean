/- It is proved that the law ViewDeltas returns true for every input, and that each argument reads behind the call as before, the listed table laid as the program's text lays it: no condition. -/
import Derived.Test.YtppdgejjmhdjhaaGreatDoorMazl
import Derived.Test.YtppdgejjmhdjhaaGreatDoorMazn
import Derived.Test.YtppdgejjmhdjhaaGreatDoorCards
import Derived.Test.YtppdgejjmhdjhaaGreatDoorTie
set_option linter.unusedVariables false
set_option linter.unusedSimpArgs false
namespace Go.Proofs.YtppdgejjmhdjhaaGreatDoor
open Go.ChangeShapes Go.WideShapes Go.RowKit
set_option maxRecDepth 100000
theorem viewDeltas_at {a b : MV} (ha : AT Tryz.prog 10 26 a) (hb : AT Tryz.prog 10 28 b) : aA Tryz.prog 3 [a, b] St.none (fun r _ => r = .bool true) := by
 obtain ⟨xa, rfl⟩ := Xk ha
 obtain ⟨xb, rfl⟩ := Xi hb
 exact yL xa xb
theorem viewDeltas_ats {P : Program} {n : Nat} {t u : TypeId} : ∀ {ms : List MV}, ATs P n [t, u] ms → ∃ a b, ms = [a, b] ∧ AT P n t a ∧ AT P n u b
 | [a, b], ⟨ha, hb, _⟩ => ⟨a, b, rfl, ha, hb⟩
theorem viewDeltas_params : Tryz.f3.params.toList = [26, 28] := by kernel_rfl
theorem viewDeltas_lifted (os : Os) (started : os.Started) (H : Type) (enc : TypeId × Value → H) :
  ReturnsInHanded {} Tryz.checked os 3 .any (fun w args => (Rows.viewDeltasSpec.pre enc Tryz.prog Tryz.f3 Rows.viewDeltasRow.domain Rows.viewDeltasRow.apart w args ∧ laidMetH Tryz.prog F0 w) ∧ sizedMet enc Tryz.prog Tryz.f3 (OpenSpec.ofChange Rows.viewDeltasSpec) Rows.viewDeltasRow.apart w args) (Rows.viewDeltasSpec.post enc Tryz.prog Tryz.f3 Rows.viewDeltasRow.apart Rows.viewDeltasRow.fresh Rows.viewDeltasRow.handsOn Rows.viewDeltasRow.again) :=
 Br (C := Tryz.checked) (fn := Tryz.f3) (n := 10) (laid := F0) rfl (fun H ds h => match ds, h with | [_, _], _ => rfl) rfl (by kernel_rfl) (by kernel_rfl) (by decide +kernel) (by decide +kernel) IP Xu started (by kernel_rfl) Tryz.func3
  (ChangeSpec.witness_shaped (enc := enc) (C := Tryz.checked) (os := os) (X := fun w _ => laidMetH Tryz.prog F0 w) false (World.doorLaid Tryz.prog 40 os) #[.agg #[.slice none 0 0, .int .u32 0, .slice none 0 0, .slice none 0 0], .agg #[.int .i64 0, .int .i64 0, .int .i64 0, .int .i64 0]] 12 rfl (World.shaped_of_RefB (by kernel_rfl) (by kernel_rfl)) (by kernel_rfl) (by kernel_rfl) (by kernel_rfl) (Pp os _)) fun ms h => by
   obtain ⟨a, b, rfl, ha, hb⟩ := viewDeltas_ats (viewDeltas_params ▸ h)
   exact viewDeltas_at ha hb
theorem viewDeltas_joined : joinedFacts PC 3 Tryz.f3 Rows.viewDeltasSpec Rows.viewDeltasRow = true :=
 DL (by kernel_rfl) To Tr (by kernel_rfl) (by kernel_rfl) (by kernel_rfl) PY (by kernel_rfl) PU M4 Ad DO M3 (by kernel_rfl) (by kernel_rfl) (by kernel_rfl) (by kernel_rfl) (by kernel_rfl) (by kernel_rfl) (by kernel_rfl) (by kernel_rfl) (by kernel_rfl) Tn (by kernel_rfl) PT PS PW Tq rfl (by kernel_rfl) (by kernel_rfl) (by kernel_rfl) (by kernel_rfl)
theorem viewDeltas_row : Rows.ViewDeltasSaid :=
 OpenClaim.holds_of_wide 3 Tryz.f3 rfl rfl rfl rfl rfl rfl rfl ⟨rfl, rfl, rfl, rfl, rfl⟩ rfl rfl rfl rfl rfl F6 Tryz.func3 viewDeltas_joined
  (of_decide_eq_true (by kernel_rfl)) (by unfold Func.isWrapper; first | (rw [if_pos (by decide +kernel)]; kernel_rfl) | (rw [if_neg (by decide +kernel)]; exact ⟨rfl, rfl⟩))
  (fun os started H enc _ => viewDeltas_lifted os started H enc)
theorem viewDeltas_stand : ∀ (j : Nat) t, Tryz.f3.params[j]? = some t → PC.wantsStandIn t = false := fun j t ht => by
 have hall : Tryz.f3.params.toList.all (fun t => PC.wantsStandIn t == false) = true := by kernel_rfl
 have hm : t ∈ Tryz.f3.params.toList := by
  rw [Array.mem_toList_iff]
  exact Array.mem_of_getElem? ht
 exact beq_iff_eq.1 (List.all_eq_true.1 hall t hm)
theorem viewDeltas_goes : false = Rows.viewDeltasRow.goesBy PC := by kernel_rfl
theorem viewDeltas_text : Rows.viewDeltasRow.wfByText (OpenSpec.ofChange Rows.viewDeltasSpec) = true := by kernel_rfl
theorem viewDeltas_holds : Rows.ViewDeltasCardSaid :=
 Claim7.holds_tied_plain_at .later [] [.data] true Rows.viewDeltasCard.stood.harness Rows.viewDeltasCard.stood.looks
  viewDeltas_row (fun _ h => by cases h) viewDeltas_text (fun _ h => by cases h) viewDeltas_row_tie rfl ⟨rfl, rfl⟩ Tp rfl
  (fun f fn hf hfn => by
   obtain rfl : f = 3 := Option.some.inj (F6.symm.trans hf) |>.symm
   obtain rfl : fn = Tryz.f3 := (Option.some.inj (Tryz.func3.symm.trans hfn)).symm
   exact ⟨PX, viewDeltas_stand⟩)
  viewDeltas_goes
end Go.Proofs.YtppdgejjmhdjhaaGreatDoor
