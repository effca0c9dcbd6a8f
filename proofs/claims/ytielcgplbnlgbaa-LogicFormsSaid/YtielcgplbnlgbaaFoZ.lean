/- It is proved that the law LogicForms returns true for every input, and that each argument reads behind the call as before: no condition. -/
import Derived.Test.YtielcgplbnlgbaaFoe
set_option linter.unusedVariables false
set_option linter.unusedSimpArgs false
namespace Go.Proofs.Ytielcgplbnlgbaa
open Go.ChangeShapes Go.WideShapes Go.RowKit

theorem logicForms_lifted (os : Os) (started : os.Started) (H : Type) (enc : TypeId × Value → H) :
    ReturnsInHanded {} Try.checked os 5 .any (Rows.logicFormsSpec.pre6 enc Try.prog Try.f5 Rows.logicFormsRow.domain Rows.logicFormsRow.apart) (Rows.logicFormsSpec.post enc Try.prog Try.f5 Rows.logicFormsRow.apart Rows.logicFormsRow.fresh Rows.logicFormsRow.handsOn Rows.logicFormsRow.again) :=
  law_lift (C := Try.checked) (fn := Try.f5) (n := 6) rfl (fun H ds h => match ds, h with | [_, _], _ => rfl) rfl (by kernel_rfl) (by kernel_rfl) (by decide +kernel) (by decide +kernel) own_ started (by kernel_rfl) Try.func5
    (ChangeSpec.witness6 (enc := enc) (C := Try.checked) false ⟨#[], #[.slice none 0 0, .slice none 0 0], []⟩ 8 (by kernel_rfl) (by kernel_rfl) (by kernel_rfl) (by kernel_rfl)) fun ms h => by
      obtain ⟨a, b, rfl⟩ := nodes2_open h
      exact logForms_call a b

theorem logicForms_holds : Rows.LogicFormsSaid :=
  OpenClaim.holds_of_wide 5 Try.f5 rfl rfl rfl rfl rfl rfl rfl ⟨rfl, rfl, rfl, rfl, rfl⟩ rfl rfl rfl rfl rfl (by kernel_rfl) Try.func5 (by kernel_rfl)
    (of_decide_eq_true (by kernel_rfl)) (by unfold Func.isWrapper; first | (rw [if_pos (by decide +kernel)]; kernel_rfl) | (rw [if_neg (by decide +kernel)]; exact ⟨rfl, rfl⟩))
    (fun os started H enc _ => logicForms_lifted os started H enc)
end Go.Proofs.Ytielcgplbnlgbaa
