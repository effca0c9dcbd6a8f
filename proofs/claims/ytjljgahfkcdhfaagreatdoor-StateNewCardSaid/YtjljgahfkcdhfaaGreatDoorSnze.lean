/- Parts of the proof, joined. Each part says what it proves, and under which conditions it does: those that its theorems name. -/
import Derived.Test.YtjljgahfkcdhfaaGreatDoorSnzd
import Derived.Test.YtjljgahfkcdhfaaGreatDoorRows
import Derived.LaidMore
import Derived.MakeChecks
set_option linter.unusedVariables false
set_option linter.unusedSimpArgs false
set_option maxHeartbeats 4000000
namespace Go.Proofs.YtjljgahfkcdhfaaGreatDoor
open Go.ChangeShapes Go.WideShapes Go.RowKit
set_option maxRecDepth 100000
abbrev laidT : List (String × DataW Unit) := [("math/bits.deBruijn32tab", Rows.laid_math_bits_deBruijn32tab)]
theorem gTab : Tryz.prog.globalNamed "math/bits.deBruijn32tab" = some 0 := by kernel_rfl
theorem tTab : (Tryz.prog.globals[0]?).map (·.type) = some 264 := by kernel_rfl
theorem uTab : Tryz.prog.underlying 264 = some (.array 32 5) := by kernel_rfl
theorem uU8 : Tryz.prog.underlying 5 = some (.int .u8) := by kernel_rfl
theorem cU8 : Tryz.prog.cellsOf 5 = 1 := by kernel_rfl
theorem cTab : Tryz.prog.cellsOf 264 = 32 := by kernel_rfl
theorem gt_of_laid : ∀ W, laidMetH Tryz.prog laidT W → GTok W := fun W h => by
 rw [MakeChecks.laidMetH_plain _ _ _ (by kernel_rfl)] at h
 have ht : Go.Lib.TabIs Tryz.prog W "math/bits.deBruijn32tab" .u8 dbT := Go.Lib.tabIs_of_head gTab tTab uTab uU8 cU8 cTab h
 intro g i v hv
 by_cases hg : g = 0
 ·subst hg
  rw [GT_tz, Option.map_eq_some_iff] at hv
  obtain ⟨n, hn, rfl⟩ := hv
  have hi := (List.getElem?_eq_some_iff.1 hn).1
  rw [ht.cell gTab i hi]
  simp [List.getD, hn]
 ·unfold GT at hv
  rw [if_neg hg] at hv
  cases hv
theorem door_met (os : Os) (args : Array Value) : laidMetH Tryz.prog laidT ((World.doorLaid Tryz.prog 40 os).forCall (fun _ _ => 0) ⟨#[], args, []⟩).memory :=
 laidMetH_of_parts3 (fuel := 8) (laidMet_of_run' 8 (by kernel_rfl) (by kernel_rfl)) (by kernel_rfl) (by kernel_rfl)
end Go.Proofs.YtjljgahfkcdhfaaGreatDoor
