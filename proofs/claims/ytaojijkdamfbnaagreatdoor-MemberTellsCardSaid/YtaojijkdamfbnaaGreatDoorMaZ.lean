/- It is proved that the law MemberTells returns true for every input, and that each argument reads behind the call as before, the listed table laid as the program's text lays it: no condition. -/
import Derived.Test.YtaojijkdamfbnaaGreatDoorMazl
import Derived.Test.YtaojijkdamfbnaaGreatDoorMazn
import Derived.Test.YtaojijkdamfbnaaGreatDoorCards
import Derived.Test.YtaojijkdamfbnaaGreatDoorTie
set_option linter.unusedVariables false
set_option linter.unusedSimpArgs false
namespace Go.Proofs.YtaojijkdamfbnaaGreatDoor
open Go.ChangeShapes Go.WideShapes Go.RowKit
set_option maxRecDepth 100000
theorem memberTells_at {a b : MV} (ha : AT Tryz.prog 10 30 a) (hb : AT Tryz.prog 10 3 b) : aA Tryz.prog 3 [a, b] St.none (fun r _ => r = .bool true) := by
 obtain ⟨xa, rfl⟩ := OU ha
 obtain ⟨xb, rfl⟩ := OT hb
 exact qW xa xb
theorem memberTells_ats {P : Program} {n : Nat} {t u : TypeId} : ∀ {ms : List MV}, ATs P n [t, u] ms → ∃ a b, ms = [a, b] ∧ AT P n t a ∧ AT P n u b
 | [a, b], ⟨ha, hb, _⟩ => ⟨a, b, rfl, ha, hb⟩
theorem memberTells_params : Tryz.f3.params.toList = [30, 3] := by kernel_rfl
theorem memberTells_lifted (os : Os) (started : os.Started) (H : Type) (enc : TypeId × Value → H) :
  ReturnsInHanded {} Tryz.checked os 3 .any (fun w args => (Rows.memberTellsSpec.pre enc Tryz.prog Tryz.f3 Rows.memberTellsRow.domain Rows.memberTellsRow.apart w args ∧ laidMetH Tryz.prog Bn w) ∧ sizedMet enc Tryz.prog Tryz.f3 (OpenSpec.ofChange Rows.memberTellsSpec) Rows.memberTellsRow.apart w args) (Rows.memberTellsSpec.post enc Tryz.prog Tryz.f3 Rows.memberTellsRow.apart Rows.memberTellsRow.fresh Rows.memberTellsRow.handsOn Rows.memberTellsRow.again) :=
 v7 (C := Tryz.checked) (fn := Tryz.f3) (n := 10) (laid := Bn) rfl (fun H ds h => match ds, h with | [_, _], _ => rfl) rfl (by kernel_rfl) (by kernel_rfl) (by decide +kernel) (by decide +kernel) Dt O2 started (by kernel_rfl) Tryz.func3
  (ChangeSpec.witness_shaped (enc := enc) (C := Tryz.checked) (os := os) (X := fun w _ => laidMetH Tryz.prog Bn w) false (World.doorLaid Tryz.prog 40 os) #[.agg #[.int .i64 0, .int .i64 0, .slice none 0 0, .slice none 0 0, .slice none 0 0, .slice none 0 0, .int .u32 0, .int .i64 0], .int .i64 0] 12 rfl (World.shaped_of_RefB (by kernel_rfl) (by kernel_rfl)) (by kernel_rfl) (by kernel_rfl) (by kernel_rfl) (IL os _)) fun ms h => by
   obtain ⟨a, b, rfl, ha, hb⟩ := memberTells_ats (memberTells_params ▸ h)
   exact memberTells_at ha hb
theorem memberTells_joined : joinedFacts PC 3 Tryz.f3 Rows.memberTellsSpec Rows.memberTellsRow = true :=
 zM (by kernel_rfl) Lu Lx (by kernel_rfl) (by kernel_rfl) (by kernel_rfl) Jd (by kernel_rfl) Ja GM tQ zN GL (by kernel_rfl) (by kernel_rfl) (by kernel_rfl) (by kernel_rfl) (by kernel_rfl) (by kernel_rfl) (by kernel_rfl) (by kernel_rfl) (by kernel_rfl) Lt (by kernel_rfl) I9 I8 Jb Lw rfl (by kernel_rfl) (by kernel_rfl) (by kernel_rfl) (by kernel_rfl)
theorem memberTells_row : Rows.MemberTellsSaid :=
 OpenClaim.holds_of_wide 3 Tryz.f3 rfl rfl rfl rfl rfl rfl rfl ⟨rfl, rfl, rfl, rfl, rfl⟩ rfl rfl rfl rfl rfl Bs Tryz.func3 memberTells_joined
  (of_decide_eq_true (by kernel_rfl)) (by unfold Func.isWrapper; first | (rw [if_pos (by decide +kernel)]; kernel_rfl) | (rw [if_neg (by decide +kernel)]; exact ⟨rfl, rfl⟩))
  (fun os started H enc _ => memberTells_lifted os started H enc)
theorem memberTells_stand : ∀ (j : Nat) t, Tryz.f3.params[j]? = some t → PC.wantsStandIn t = false := fun j t ht => by
 have hall : Tryz.f3.params.toList.all (fun t => PC.wantsStandIn t == false) = true := by kernel_rfl
 have hm : t ∈ Tryz.f3.params.toList := by
  rw [Array.mem_toList_iff]
  exact Array.mem_of_getElem? ht
 exact beq_iff_eq.1 (List.all_eq_true.1 hall t hm)
theorem memberTells_goes : false = Rows.memberTellsRow.goesBy PC := by kernel_rfl
theorem memberTells_text : Rows.memberTellsRow.wfByText (OpenSpec.ofChange Rows.memberTellsSpec) = true := by kernel_rfl
theorem memberTells_holds : Rows.MemberTellsCardSaid :=
 Claim7.holds_tied_plain_at .later [] [.data] true Rows.memberTellsCard.stood.harness Rows.memberTellsCard.stood.looks
  memberTells_row (fun _ h => by cases h) memberTells_text (fun _ h => by cases h) memberTells_row_tie rfl ⟨rfl, rfl⟩ Lv rfl
  (fun f fn hf hfn => by
   obtain rfl : f = 3 := Option.some.inj (Bs.symm.trans hf) |>.symm
   obtain rfl : fn = Tryz.f3 := (Option.some.inj (Tryz.func3.symm.trans hfn)).symm
   exact ⟨Jc, memberTells_stand⟩)
  memberTells_goes
end Go.Proofs.YtaojijkdamfbnaaGreatDoor
