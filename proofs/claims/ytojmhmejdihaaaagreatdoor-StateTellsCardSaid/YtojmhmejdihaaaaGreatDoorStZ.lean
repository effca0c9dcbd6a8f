/- It is proved that the law StateTells returns true for every input, and that each argument reads behind the call as before, the listed table laid as the program's text lays it: no condition. -/
import Derived.Test.YtojmhmejdihaaaaGreatDoorStzm
import Derived.Test.YtojmhmejdihaaaaGreatDoorStzn
import Derived.Test.YtojmhmejdihaaaaGreatDoorCards
import Derived.Test.YtojmhmejdihaaaaGreatDoorTie
set_option linter.unusedVariables false
set_option linter.unusedSimpArgs false
namespace Go.Proofs.YtojmhmejdihaaaaGreatDoor
open Go.ChangeShapes Go.WideShapes Go.RowKit
set_option maxRecDepth 100000
theorem stateTells_at {a b c : MV} (ha : AT Tryz.prog 10 30 a) (hb : AT Tryz.prog 10 30 b) (hc : AT Tryz.prog 10 3 c) : aA Tryz.prog 3 [a, b, c] St.none (fun r _ => r = .bool true) := by
 obtain ⟨x, rfl⟩ := JK ha
 obtain ⟨y, rfl⟩ := JK hb
 obtain ⟨n, hn, _⟩ := Ak (by rw [td3]) (Mz (by rw [td3]; rfl) hc)
 rw [MD hn]
 exact tJ x y n
theorem ats_three {P : Program} {n : Nat} {t u v : TypeId} : ∀ {ms : List MV}, ATs P n [t, u, v] ms → ∃ a b c, ms = [a, b, c] ∧ AT P n t a ∧ AT P n u b ∧ AT P n v c
 | [a, b, c], ⟨ha, hb, hc, _⟩ => ⟨a, b, c, rfl, ha, hb, hc⟩
theorem stateTells_params : Tryz.f3.params.toList = [30, 30, 3] := by kernel_rfl
theorem stateTells_lifted (os : Os) (started : os.Started) (H : Type) (enc : TypeId × Value → H) :
  ReturnsInHanded {} Tryz.checked os 3 .any (fun w args => (Rows.stateTellsSpec.pre enc Tryz.prog Tryz.f3 Rows.stateTellsRow.domain Rows.stateTellsRow.apart w args ∧ laidMetH Tryz.prog B9 w) ∧ sizedMet enc Tryz.prog Tryz.f3 (OpenSpec.ofChange Rows.stateTellsSpec) Rows.stateTellsRow.apart w args) (Rows.stateTellsSpec.post enc Tryz.prog Tryz.f3 Rows.stateTellsRow.apart Rows.stateTellsRow.fresh Rows.stateTellsRow.handsOn Rows.stateTellsRow.again) :=
 xS (C := Tryz.checked) (fn := Tryz.f3) (n := 10) (laid := B9) rfl (fun H ds h => match ds, h with | [_, _, _], _ => rfl) rfl (by kernel_rfl) (by kernel_rfl) (by decide +kernel) (by decide +kernel) El QW started (by kernel_rfl) Tryz.func3
  (ChangeSpec.witness_shaped (enc := enc) (C := Tryz.checked) (os := os) (X := fun w _ => laidMetH Tryz.prog B9 w) false (World.doorLaid Tryz.prog 40 os) #[.agg #[.int .i64 0, .int .i64 0, .slice none 0 0, .slice none 0 0, .slice none 0 0, .slice none 0 0, .slice none 0 0], .agg #[.int .i64 0, .int .i64 0, .slice none 0 0, .slice none 0 0, .slice none 0 0, .slice none 0 0, .slice none 0 0], .int .i64 0] 12 rfl (World.shaped_of_RefB (by kernel_rfl) (by kernel_rfl)) (by kernel_rfl) (by kernel_rfl) (by kernel_rfl) (J0 os _)) fun ms h => by
   obtain ⟨a, b, c, rfl, ha, hb, hc⟩ := ats_three (stateTells_params ▸ h)
   exact stateTells_at ha hb hc
theorem stateTells_joined : joinedFacts PC 3 Tryz.f3 Rows.stateTellsSpec Rows.stateTellsRow = true :=
 AD (by kernel_rfl) M4 M7 (by kernel_rfl) (by kernel_rfl) (by kernel_rfl) Kn (by kernel_rfl) Kk Kr xU Ce Kq (by kernel_rfl) (by kernel_rfl) (by kernel_rfl) (by kernel_rfl) (by kernel_rfl) (by kernel_rfl) (by kernel_rfl) (by kernel_rfl) (by kernel_rfl) M3 (by kernel_rfl) Kj Ki Kl M6 rfl (by kernel_rfl) (by kernel_rfl) (by kernel_rfl) (by kernel_rfl)
theorem stateTells_row : Rows.StateTellsSaid :=
 OpenClaim.holds_of_wide 3 Tryz.f3 rfl rfl rfl rfl rfl rfl rfl ⟨rfl, rfl, rfl, rfl, rfl⟩ rfl rfl rfl rfl rfl Gw Tryz.func3 stateTells_joined
  (of_decide_eq_true (by kernel_rfl)) (by unfold Func.isWrapper; first | (rw [if_pos (by decide +kernel)]; kernel_rfl) | (rw [if_neg (by decide +kernel)]; exact ⟨rfl, rfl⟩))
  (fun os started H enc _ => stateTells_lifted os started H enc)
theorem stateTells_stand : ∀ (j : Nat) t, Tryz.f3.params[j]? = some t → PC.wantsStandIn t = false := fun j t ht => by
 have hall : Tryz.f3.params.toList.all (fun t => PC.wantsStandIn t == false) = true := by kernel_rfl
 have hm : t ∈ Tryz.f3.params.toList := by
  rw [Array.mem_toList_iff]
  exact Array.mem_of_getElem? ht
 exact beq_iff_eq.1 (List.all_eq_true.1 hall t hm)
theorem stateTells_goes : false = Rows.stateTellsRow.goesBy PC := by kernel_rfl
theorem stateTells_text : Rows.stateTellsRow.wfByText (OpenSpec.ofChange Rows.stateTellsSpec) = true := by kernel_rfl
theorem stateTells_holds : Rows.StateTellsCardSaid :=
 Claim7.holds_tied_plain_at .later [] [.data] true Rows.stateTellsCard.stood.harness Rows.stateTellsCard.stood.looks
  stateTells_row (fun _ h => by cases h) stateTells_text (fun _ h => by cases h) stateTells_row_tie rfl ⟨rfl, rfl⟩ M5 rfl
  (fun f fn hf hfn => by
   obtain rfl : f = 3 := Option.some.inj (Gw.symm.trans hf) |>.symm
   obtain rfl : fn = Tryz.f3 := (Option.some.inj (Tryz.func3.symm.trans hfn)).symm
   exact ⟨Km, stateTells_stand⟩)
  stateTells_goes
end Go.Proofs.YtojmhmejdihaaaaGreatDoor
