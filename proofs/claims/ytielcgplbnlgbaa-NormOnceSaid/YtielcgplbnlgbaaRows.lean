/-
  No cell of these rows narrows 'for every input' (looked for: loops, veiled, ifaces, maps, wideKeys, modest, calm, conditions, laid).
  DERIVED. THE GIVEN ROWS OF THIS SEAT. 7 by the template 'for every input the law returns true; each argument reads behind the call as it read before'; 0 by the template 'total and deterministic' (their statements: YtielcgplbnlgbaaTotals.lean).
  GIVEN WITH THE SEED: the statements are not yours to turn. If you find one false, say at which input.
  Laid BY PROGRAM, IN A SANDBOX (cutbox-rows.mjs): the forced cells as the released guide's own fill.sh prints them over the translation c494ec4b2b0f8149… (all of the seat's roots in one cut). By AI agents, Wed Nov 11 2026. No macro, syntax, notation, axiom, sorry.
-/
import Derived.Test.YtielcgplbnlgbaaChecked
import GoSem.Claim
import GoSem.ClaimJoined
import GoSem.ClaimMapViews
import Derived.JoinedTies
import Derived.KernelRfl
namespace Go.Proofs.Ytielcgplbnlgbaa
/- THE CELL 'sum', in the pinned program and in every row, IS THE sha256 OF THE DUMP (.gsa) THAT YtielcgplbnlgbaaProg.lean LOADS. Nothing in Lean hashes anything: it is a label: what it is worth is what the hold of that sum in a sandbox is worth. -/
noncomputable def Try.pinned : Pinned := { name := "ytielcgplbnlgbaa", sum := "c494ec4b2b0f8149f0292b81564c97dfbe42926807d9878b2be1353f81a42a3b", checked := Try.checked }
namespace Rows
def none {H : Type} : Left H := { results := [], args := [] }

/-- 'offprintlaw15.LogicTells': WHATEVER THE INPUT: true; the input reads as it did. -/
def logicTellsSpec : ChangeSpec := { name := "logicTells", fn := fun _ => fun
  | [d1, d2] => { results := [.lit (.bool true)], args := [d1, d2] }
  | _ => none }
def logicTellsRow : OpenClaim := { program := "ytielcgplbnlgbaa", sum := "c494ec4b2b0f8149f0292b81564c97dfbe42926807d9878b2be1353f81a42a3b", func := "offprint/offprintlaw15.LogicTells", spec := "logicTells", unfollowed := true, recurses := true, apart := false }
def LogicTellsSaid : Prop := logicTellsRow.holds Try.pinned (OpenSpec.ofChange logicTellsSpec)

/-- ITS FALSE NEIGHBOUR: 'it returns false'. Refute it at one input. -/
def logicTellsWrong : ChangeSpec := { name := "logicTells", fn := fun _ => fun
  | [d1, d2] => { results := [.lit (.bool false)], args := [d1, d2] }
  | _ => none }
def LogicTellsWrongFalsely : Prop := logicTellsRow.holds Try.pinned (OpenSpec.ofChange logicTellsWrong)

/-- 'offprintlaw15.LogicCards': WHATEVER THE INPUT: true; the input reads as it did. -/
def logicCardsSpec : ChangeSpec := { name := "logicCards", fn := fun _ => fun
  | [d1, d2, d3] => { results := [.lit (.bool true)], args := [d1, d2, d3] }
  | _ => none }
def logicCardsRow : OpenClaim := { program := "ytielcgplbnlgbaa", sum := "c494ec4b2b0f8149f0292b81564c97dfbe42926807d9878b2be1353f81a42a3b", func := "offprint/offprintlaw15.LogicCards", spec := "logicCards", unfollowed := true, recurses := true, apart := false }
def LogicCardsSaid : Prop := logicCardsRow.holds Try.pinned (OpenSpec.ofChange logicCardsSpec)

/-- ITS FALSE NEIGHBOUR: 'it returns false'. Refute it at one input. -/
def logicCardsWrong : ChangeSpec := { name := "logicCards", fn := fun _ => fun
  | [d1, d2, d3] => { results := [.lit (.bool false)], args := [d1, d2, d3] }
  | _ => none }
def LogicCardsWrongFalsely : Prop := logicCardsRow.holds Try.pinned (OpenSpec.ofChange logicCardsWrong)

/-- 'offprintlaw15.LogicForms': WHATEVER THE INPUT: true; the input reads as it did. -/
def logicFormsSpec : ChangeSpec := { name := "logicForms", fn := fun _ => fun
  | [d1, d2] => { results := [.lit (.bool true)], args := [d1, d2] }
  | _ => none }
def logicFormsRow : OpenClaim := { program := "ytielcgplbnlgbaa", sum := "c494ec4b2b0f8149f0292b81564c97dfbe42926807d9878b2be1353f81a42a3b", func := "offprint/offprintlaw15.LogicForms", spec := "logicForms", unfollowed := true, recurses := true, apart := false }
def LogicFormsSaid : Prop := logicFormsRow.holds Try.pinned (OpenSpec.ofChange logicFormsSpec)

/-- ITS FALSE NEIGHBOUR: 'it returns false'. Refute it at one input. -/
def logicFormsWrong : ChangeSpec := { name := "logicForms", fn := fun _ => fun
  | [d1, d2] => { results := [.lit (.bool false)], args := [d1, d2] }
  | _ => none }
def LogicFormsWrongFalsely : Prop := logicFormsRow.holds Try.pinned (OpenSpec.ofChange logicFormsWrong)

/-- 'offprintlaw15.LogicSays': WHATEVER THE INPUT: true; the input reads as it did. -/
def logicSaysSpec : ChangeSpec := { name := "logicSays", fn := fun _ => fun
  | [d1, d2, d3] => { results := [.lit (.bool true)], args := [d1, d2, d3] }
  | _ => none }
def logicSaysRow : OpenClaim := { program := "ytielcgplbnlgbaa", sum := "c494ec4b2b0f8149f0292b81564c97dfbe42926807d9878b2be1353f81a42a3b", func := "offprint/offprintlaw15.LogicSays", spec := "logicSays", unfollowed := true, recurses := true, apart := false }
def LogicSaysSaid : Prop := logicSaysRow.holds Try.pinned (OpenSpec.ofChange logicSaysSpec)

/-- ITS FALSE NEIGHBOUR: 'it returns false'. Refute it at one input. -/
def logicSaysWrong : ChangeSpec := { name := "logicSays", fn := fun _ => fun
  | [d1, d2, d3] => { results := [.lit (.bool false)], args := [d1, d2, d3] }
  | _ => none }
def LogicSaysWrongFalsely : Prop := logicSaysRow.holds Try.pinned (OpenSpec.ofChange logicSaysWrong)

/-- 'offprintlaw14.NormOnce': WHATEVER THE INPUT: true; the input reads as it did. -/
def normOnceSpec : ChangeSpec := { name := "normOnce", fn := fun _ => fun
  | [d1, d2] => { results := [.lit (.bool true)], args := [d1, d2] }
  | _ => none }
def normOnceRow : OpenClaim := { program := "ytielcgplbnlgbaa", sum := "c494ec4b2b0f8149f0292b81564c97dfbe42926807d9878b2be1353f81a42a3b", func := "offprint/offprintlaw14.NormOnce", spec := "normOnce", unfollowed := true, recurses := true, apart := false }
def NormOnceSaid : Prop := normOnceRow.holds Try.pinned (OpenSpec.ofChange normOnceSpec)

/-- ITS FALSE NEIGHBOUR: 'it returns false'. Refute it at one input. -/
def normOnceWrong : ChangeSpec := { name := "normOnce", fn := fun _ => fun
  | [d1, d2] => { results := [.lit (.bool false)], args := [d1, d2] }
  | _ => none }
def NormOnceWrongFalsely : Prop := normOnceRow.holds Try.pinned (OpenSpec.ofChange normOnceWrong)

/-- 'offprintlaw14.NormTakes': WHATEVER THE INPUT: true; the input reads as it did. -/
def normTakesSpec : ChangeSpec := { name := "normTakes", fn := fun _ => fun
  | [d1, d2] => { results := [.lit (.bool true)], args := [d1, d2] }
  | _ => none }
def normTakesRow : OpenClaim := { program := "ytielcgplbnlgbaa", sum := "c494ec4b2b0f8149f0292b81564c97dfbe42926807d9878b2be1353f81a42a3b", func := "offprint/offprintlaw14.NormTakes", spec := "normTakes", unfollowed := true, recurses := true, apart := false }
def NormTakesSaid : Prop := normTakesRow.holds Try.pinned (OpenSpec.ofChange normTakesSpec)

/-- ITS FALSE NEIGHBOUR: 'it returns false'. Refute it at one input. -/
def normTakesWrong : ChangeSpec := { name := "normTakes", fn := fun _ => fun
  | [d1, d2] => { results := [.lit (.bool false)], args := [d1, d2] }
  | _ => none }
def NormTakesWrongFalsely : Prop := normTakesRow.holds Try.pinned (OpenSpec.ofChange normTakesWrong)

/-- 'offprintlaw14.NormTells': WHATEVER THE INPUT: true; the input reads as it did. -/
def normTellsSpec : ChangeSpec := { name := "normTells", fn := fun _ => fun
  | [d1, d2] => { results := [.lit (.bool true)], args := [d1, d2] }
  | _ => none }
def normTellsRow : OpenClaim := { program := "ytielcgplbnlgbaa", sum := "c494ec4b2b0f8149f0292b81564c97dfbe42926807d9878b2be1353f81a42a3b", func := "offprint/offprintlaw14.NormTells", spec := "normTells", unfollowed := true, recurses := true, apart := false }
def NormTellsSaid : Prop := normTellsRow.holds Try.pinned (OpenSpec.ofChange normTellsSpec)

/-- ITS FALSE NEIGHBOUR: 'it returns false'. Refute it at one input. -/
def normTellsWrong : ChangeSpec := { name := "normTells", fn := fun _ => fun
  | [d1, d2] => { results := [.lit (.bool false)], args := [d1, d2] }
  | _ => none }
def NormTellsWrongFalsely : Prop := normTellsRow.holds Try.pinned (OpenSpec.ofChange normTellsWrong)

/- THE SECOND FORM. 'bulk': how many values and letters a reading holds, each counted each time it is reached (what is shared counts as often as it is met; a slice's spare places count too). A statement '..UptoSaid' is the law's where the arguments, and the package variables that the reading takes, are together of bulk at most 1048576: NARROWER than '..Said'. Prove '..Said' where nothing that the law and all that it calls make is longer than what came in: it says more and counts as full. Else prove '..UptoSaid'. A law counts once. -/
mutual
def uptoBulk {H : Type} : DataW H → Nat
  | .lit (.string bytes) => bytes.length + 1
  | .lit _ => 1
  | .nil => 1
  | .ptr d => uptoBulk d + 1
  | .slice elems spare => uptoBulkAll elems + uptoBulkAll spare + 1
  | .agg parts => uptoBulkAll parts + 1
  | .iface _ d => uptoBulk d + 1
  | .map entries => uptoBulkEntries entries + 1
  | .held _ => 1
def uptoBulkAll {H : Type} : List (DataW H) → Nat
  | [] => 0
  | d :: r => uptoBulk d + uptoBulkAll r
def uptoBulkEntries {H : Type} : List (Lit × DataW H) → Nat
  | [] => 0
  | x :: r => uptoBulkEntry x + uptoBulkEntries r
def uptoBulkEntry {H : Type} : Lit × DataW H → Nat
  | (.string bytes, d) => bytes.length + uptoBulk d + 1
  | (_, d) => uptoBulk d + 1
 end
def uptoSmall : (H : Type) → List (DataW H) → Bool := fun _ ds => decide (uptoBulkAll ds ≤ 1048576)
def OpenSpec.upto (s : _root_.Go.ChangeSpec) : _root_.Go.OpenSpec := { _root_.Go.OpenSpec.ofChange s with cond := some uptoSmall }

/-- 'offprintlaw15.LogicTells', WHERE WHAT IT READS IS OF BULK AT MOST 1048576: true; the input reads as it did. -/
def logicTellsUptoRow : OpenClaim := { program := "ytielcgplbnlgbaa", sum := "c494ec4b2b0f8149f0292b81564c97dfbe42926807d9878b2be1353f81a42a3b", func := "offprint/offprintlaw15.LogicTells", spec := "logicTells", unfollowed := true, recurses := true, apart := false, narrowed := true }
def LogicTellsUptoSaid : Prop := logicTellsUptoRow.holds Try.pinned (OpenSpec.upto logicTellsSpec)

/-- 'offprintlaw15.LogicCards', WHERE WHAT IT READS IS OF BULK AT MOST 1048576: true; the input reads as it did. -/
def logicCardsUptoRow : OpenClaim := { program := "ytielcgplbnlgbaa", sum := "c494ec4b2b0f8149f0292b81564c97dfbe42926807d9878b2be1353f81a42a3b", func := "offprint/offprintlaw15.LogicCards", spec := "logicCards", unfollowed := true, recurses := true, apart := false, narrowed := true }
def LogicCardsUptoSaid : Prop := logicCardsUptoRow.holds Try.pinned (OpenSpec.upto logicCardsSpec)

/-- 'offprintlaw15.LogicForms', WHERE WHAT IT READS IS OF BULK AT MOST 1048576: true; the input reads as it did. -/
def logicFormsUptoRow : OpenClaim := { program := "ytielcgplbnlgbaa", sum := "c494ec4b2b0f8149f0292b81564c97dfbe42926807d9878b2be1353f81a42a3b", func := "offprint/offprintlaw15.LogicForms", spec := "logicForms", unfollowed := true, recurses := true, apart := false, narrowed := true }
def LogicFormsUptoSaid : Prop := logicFormsUptoRow.holds Try.pinned (OpenSpec.upto logicFormsSpec)

/-- 'offprintlaw15.LogicSays', WHERE WHAT IT READS IS OF BULK AT MOST 1048576: true; the input reads as it did. -/
def logicSaysUptoRow : OpenClaim := { program := "ytielcgplbnlgbaa", sum := "c494ec4b2b0f8149f0292b81564c97dfbe42926807d9878b2be1353f81a42a3b", func := "offprint/offprintlaw15.LogicSays", spec := "logicSays", unfollowed := true, recurses := true, apart := false, narrowed := true }
def LogicSaysUptoSaid : Prop := logicSaysUptoRow.holds Try.pinned (OpenSpec.upto logicSaysSpec)

/-- 'offprintlaw14.NormOnce', WHERE WHAT IT READS IS OF BULK AT MOST 1048576: true; the input reads as it did. -/
def normOnceUptoRow : OpenClaim := { program := "ytielcgplbnlgbaa", sum := "c494ec4b2b0f8149f0292b81564c97dfbe42926807d9878b2be1353f81a42a3b", func := "offprint/offprintlaw14.NormOnce", spec := "normOnce", unfollowed := true, recurses := true, apart := false, narrowed := true }
def NormOnceUptoSaid : Prop := normOnceUptoRow.holds Try.pinned (OpenSpec.upto normOnceSpec)

/-- 'offprintlaw14.NormTakes', WHERE WHAT IT READS IS OF BULK AT MOST 1048576: true; the input reads as it did. -/
def normTakesUptoRow : OpenClaim := { program := "ytielcgplbnlgbaa", sum := "c494ec4b2b0f8149f0292b81564c97dfbe42926807d9878b2be1353f81a42a3b", func := "offprint/offprintlaw14.NormTakes", spec := "normTakes", unfollowed := true, recurses := true, apart := false, narrowed := true }
def NormTakesUptoSaid : Prop := normTakesUptoRow.holds Try.pinned (OpenSpec.upto normTakesSpec)

/-- 'offprintlaw14.NormTells', WHERE WHAT IT READS IS OF BULK AT MOST 1048576: true; the input reads as it did. -/
def normTellsUptoRow : OpenClaim := { program := "ytielcgplbnlgbaa", sum := "c494ec4b2b0f8149f0292b81564c97dfbe42926807d9878b2be1353f81a42a3b", func := "offprint/offprintlaw14.NormTells", spec := "normTells", unfollowed := true, recurses := true, apart := false, narrowed := true }
def NormTellsUptoSaid : Prop := normTellsUptoRow.holds Try.pinned (OpenSpec.upto normTellsSpec)

end Rows
end Go.Proofs.Ytielcgplbnlgbaa
