/- It is proved that the law LogicCards returns true for every input, and that each argument reads behind the call as before: no condition. -/
import Derived.Test.YtielcgplbnlgbaaCae
set_option linter.unusedVariables false
set_option linter.unusedSimpArgs false
namespace Go.Proofs.Ytielcgplbnlgbaa
open Go.ChangeShapes Go.WideShapes Go.RowKit

theorem logicCards_lifted (os : Os) (started : os.Started) (H : Type) (enc : TypeId × Value → H) :
    ReturnsInHanded {} Try.checked os 4 .any (Rows.logicCardsSpec.pre6 enc Try.prog Try.f4 Rows.logicCardsRow.domain Rows.logicCardsRow.apart) (Rows.logicCardsSpec.post enc Try.prog Try.f4 Rows.logicCardsRow.apart Rows.logicCardsRow.fresh Rows.logicCardsRow.handsOn Rows.logicCardsRow.again) :=
  law_lift (C := Try.checked) (fn := Try.f4) (n := 6) rfl (fun H ds h => match ds, h with | [_, _, _], _ => rfl) rfl (by kernel_rfl) (by kernel_rfl) (by decide +kernel) (by decide +kernel) own_ started (by kernel_rfl) Try.func4
    (ChangeSpec.witness6 (enc := enc) (C := Try.checked) false ⟨#[], #[.slice none 0 0, .slice none 0 0, .agg #[.int .i64 0, .int .i64 0, .int .u32 0, .int .i64 0, .int .i64 0, .string ⟨#[]⟩, .int .i64 0, .int .i64 0, .string ⟨#[]⟩, .int .i64 0, .int .i64 0, .string ⟨#[]⟩, .int .i64 0, .int .i64 0, .string ⟨#[]⟩, .int .i64 0, .int .i64 0, .string ⟨#[]⟩, .int .i64 0, .int .i64 0, .string ⟨#[]⟩, .int .i64 0, .int .i64 0, .string ⟨#[]⟩, .int .i64 0, .int .i64 0, .string ⟨#[]⟩, .int .u32 0]], []⟩ 8 (by kernel_rfl) (by kernel_rfl) (by kernel_rfl) (by kernel_rfl)) fun ms h => by
      obtain ⟨a, b, c, g, h8, hl, hg, rfl⟩ := cards_open h
      exact logCards_call a b c g h8 hl hg

theorem logicCards_holds : Rows.LogicCardsSaid :=
  OpenClaim.holds_of_wide 4 Try.f4 rfl rfl rfl rfl rfl rfl rfl ⟨rfl, rfl, rfl, rfl, rfl⟩ rfl rfl rfl rfl rfl (by kernel_rfl) Try.func4 (by kernel_rfl)
    (of_decide_eq_true (by kernel_rfl)) (by unfold Func.isWrapper; first | (rw [if_pos (by decide +kernel)]; kernel_rfl) | (rw [if_neg (by decide +kernel)]; exact ⟨rfl, rfl⟩))
    (fun os started H enc _ => logicCards_lifted os started H enc)
end Go.Proofs.Ytielcgplbnlgbaa
