/- It is proved that the law LogicTells returns true for every input, and that each argument reads behind the call as before: no condition. -/
import Derived.Test.YtielcgplbnlgbaaQ20
import Derived.Test.YtielcgplbnlgbaaQ21
set_option linter.unusedVariables false
set_option linter.unusedSimpArgs false
namespace Go.Proofs.Ytielcgplbnlgbaa
open Go.ChangeShapes Go.WideShapes Go.RowKit

theorem logicTells_lifted (os : Os) (started : os.Started) (H : Type) (enc : TypeId × Value → H) :
    ReturnsInHanded {} Try.checked os 3 .any (Rows.logicTellsSpec.pre6 enc Try.prog Try.f3 Rows.logicTellsRow.domain Rows.logicTellsRow.apart) (Rows.logicTellsSpec.post enc Try.prog Try.f3 Rows.logicTellsRow.apart Rows.logicTellsRow.fresh Rows.logicTellsRow.handsOn Rows.logicTellsRow.again) :=
  law_lift (C := Try.checked) (fn := Try.f3) (n := 6) rfl (fun H ds h => match ds, h with | [_, _], _ => rfl) rfl (by kernel_rfl) (by kernel_rfl) (by decide +kernel) (by decide +kernel) own_ started (by kernel_rfl) Try.func3
    (ChangeSpec.witness6 (enc := enc) (C := Try.checked) false ⟨#[], #[.slice none 0 0, .slice none 0 0], []⟩ 8 (by kernel_rfl) (by kernel_rfl) (by kernel_rfl) (by kernel_rfl)) fun ms h => by
      obtain ⟨a, b, rfl⟩ := nodes2_open h
      exact logTells_call a b

theorem logicTells_holds : Rows.LogicTellsSaid :=
  OpenClaim.holds_of_wide 3 Try.f3 rfl rfl rfl rfl rfl rfl rfl ⟨rfl, rfl, rfl, rfl, rfl⟩ rfl rfl rfl rfl rfl (by kernel_rfl) Try.func3 (by kernel_rfl)
    (of_decide_eq_true (by kernel_rfl)) (by unfold Func.isWrapper; first | (rw [if_pos (by decide +kernel)]; kernel_rfl) | (rw [if_neg (by decide +kernel)]; exact ⟨rfl, rfl⟩))
    (fun os started H enc _ => logicTells_lifted os started H enc)
end Go.Proofs.Ytielcgplbnlgbaa
