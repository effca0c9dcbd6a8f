/- It is proved that the law NormTells returns true for every input, and that each argument reads behind the call as before: no condition. -/
import Derived.Test.YtielcgplbnlgbaaNte
set_option linter.unusedVariables false
set_option linter.unusedSimpArgs false
namespace Go.Proofs.Ytielcgplbnlgbaa
open Go.ChangeShapes Go.WideShapes Go.RowKit

theorem normTells_lifted (os : Os) (started : os.Started) (H : Type) (enc : TypeId × Value → H) :
    ReturnsInHanded {} Try.checked os 9 .any (Rows.normTellsSpec.pre6 enc Try.prog Try.f9 Rows.normTellsRow.domain Rows.normTellsRow.apart) (Rows.normTellsSpec.post enc Try.prog Try.f9 Rows.normTellsRow.apart Rows.normTellsRow.fresh Rows.normTellsRow.handsOn Rows.normTellsRow.again) :=
  law_lift (C := Try.checked) (fn := Try.f9) (n := 6) rfl (fun H ds h => match ds, h with | [_, _], _ => rfl) rfl (by kernel_rfl) (by kernel_rfl) (by decide +kernel) (by decide +kernel) own_ started (by kernel_rfl) Try.func9
    (ChangeSpec.witness6 (enc := enc) (C := Try.checked) false ⟨#[], #[.slice none 0 0, .slice none 0 0], []⟩ 8 (by kernel_rfl) (by kernel_rfl) (by kernel_rfl) (by kernel_rfl)) fun ms h => by
      obtain ⟨a, b, rfl⟩ := nodes2_open h
      exact normTells_call a b

theorem normTells_holds : Rows.NormTellsSaid :=
  OpenClaim.holds_of_wide 9 Try.f9 rfl rfl rfl rfl rfl rfl rfl ⟨rfl, rfl, rfl, rfl, rfl⟩ rfl rfl rfl rfl rfl (by kernel_rfl) Try.func9 (by kernel_rfl)
    (of_decide_eq_true (by kernel_rfl)) (by unfold Func.isWrapper; first | (rw [if_pos (by decide +kernel)]; kernel_rfl) | (rw [if_neg (by decide +kernel)]; exact ⟨rfl, rfl⟩))
    (fun os started H enc _ => normTells_lifted os started H enc)
end Go.Proofs.Ytielcgplbnlgbaa
