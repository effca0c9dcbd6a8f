/- It is proved that the law LogicSays returns true for every input, and that each argument reads behind the call as before: no condition. -/
import Derived.Test.YtielcgplbnlgbaaQ22
import Derived.Test.YtielcgplbnlgbaaQ21
set_option linter.unusedVariables false
set_option linter.unusedSimpArgs false
namespace Go.Proofs.Ytielcgplbnlgbaa
open Go.ChangeShapes Go.WideShapes Go.RowKit

theorem logicSays_lifted (os : Os) (started : os.Started) (H : Type) (enc : TypeId × Value → H) :
    ReturnsInHanded {} Try.checked os 6 .any (Rows.logicSaysSpec.pre6 enc Try.prog Try.f6 Rows.logicSaysRow.domain Rows.logicSaysRow.apart) (Rows.logicSaysSpec.post enc Try.prog Try.f6 Rows.logicSaysRow.apart Rows.logicSaysRow.fresh Rows.logicSaysRow.handsOn Rows.logicSaysRow.again) :=
  law_lift (C := Try.checked) (fn := Try.f6) (n := 6) rfl (fun H ds h => match ds, h with | [_, _, _], _ => rfl) rfl (by kernel_rfl) (by kernel_rfl) (by decide +kernel) (by decide +kernel) own_ started (by kernel_rfl) Try.func6
    (ChangeSpec.witness6 (enc := enc) (C := Try.checked) false ⟨#[], #[.slice none 0 0, .slice none 0 0, .int .u32 0], []⟩ 8 (by kernel_rfl) (by kernel_rfl) (by kernel_rfl) (by kernel_rfl)) fun ms h => by
      obtain ⟨a, b, on, hon, rfl⟩ := nodes2on_open h
      exact logSays_call a b on hon

theorem logicSays_holds : Rows.LogicSaysSaid :=
  OpenClaim.holds_of_wide 6 Try.f6 rfl rfl rfl rfl rfl rfl rfl ⟨rfl, rfl, rfl, rfl, rfl⟩ rfl rfl rfl rfl rfl (by kernel_rfl) Try.func6 (by kernel_rfl)
    (of_decide_eq_true (by kernel_rfl)) (by unfold Func.isWrapper; first | (rw [if_pos (by decide +kernel)]; kernel_rfl) | (rw [if_neg (by decide +kernel)]; exact ⟨rfl, rfl⟩))
    (fun os started H enc _ => logicSays_lifted os started H enc)
end Go.Proofs.Ytielcgplbnlgbaa
