/- Parts of the proof, joined. Each part says what it proves, and under which conditions it does: those that its theorems name. -/
import Derived.Test.YtfbodefnblpflaaGreatDoorMcn
import Derived.Lib.LaidTab
import Derived.LaidLaws
import Derived.LaidHandle
import Derived.Stop.Joined
set_option linter.unusedVariables false
set_option linter.unusedSimpArgs false
set_option maxHeartbeats 4000000
namespace Go.Proofs.YtfbodefnblpflaaGreatDoor
open Go.ChangeShapes Go.WideShapes Go.RowKit
section
variable {H : Type} {enc : TypeId × Value → H}
theorem law_lift_laid {C : Checked} {os : Os} {g : FuncId} {fn : Func} {s : ChangeSpec} {conds : List PathCond} {apart fresh handsOn again : Bool} {tb : TypeId} {n : Nat} {laid : List (String × DataW Unit)}
  (hvars : s.vars = []) (hs : ∀ (H : Type) (ds : List (DataW H)), ds.length = fn.params.size → s.fn H ds = { results := [.lit (.bool true)], args := ds })
  (hres : fn.resultTypes = #[tb]) (htb : C.prog.underlying tb = some .bool) (hl : laidOutB C.prog = true) (hr : ∀ t, t ∈ fn.params.toList → C.prog.readableRec t = true ∧ t < C.prog.types.size)
  (hshp : ∀ t, t ∈ fn.params.toList → shp C.prog n t = true) (hG : ∀ W, laidMetH C.prog laid W → GTok W)
  (own : ownKnob C.prog.godebug = none) (started : os.Started) (noInit : C.prog.inits.idxOf? g = none) (hfn : C.prog.funcs[g]? = some fn)
  (witness : ∃ (w : World) (tape : Tape) (i : Input), w.os = os ∧ (w.forCall tape i).Shaped C.prog ∧ i.vars = [] ∧ Input.okWide C.prog (w.forCall tape i) .any w.heap.size g i ∧
   ((s.pre enc C.prog fn conds apart (w.forCall tape i).memory i.args ∧ laidMetH C.prog laid (w.forCall tape i).memory) ∧ sizedMet enc C.prog fn (OpenSpec.ofChange s) apart (w.forCall tape i).memory i.args) ∧ ({} : Assume).holds C.prog (lone (Frame.enter C.prog g i.args .normal) [] (w.forCall tape i)))
  (h : ∀ ms, ATs C.prog n fn.params.toList ms → MCalls C.prog g ms St.none fun r _ => r = .bool true) :
  ReturnsInHanded {} C os g .any (fun w args => (s.pre enc C.prog fn conds apart w args ∧ laidMetH C.prog laid w) ∧ sizedMet enc C.prog fn (OpenSpec.ofChange s) apart w args) (s.post enc C.prog fn apart fresh handsOn again) := by
 refine returnsInHanded_of_change_and (X := fun w _ => laidMetH C.prog laid w) (fun _ _ _ hh h => h.of_heap hh) own started noInit hfn witness ?_
 intro W base args ds gs before hval hW _ _ hX _
 obtain ⟨p, q, hA, _⟩ := id hW
 obtain ⟨ms, e, hrel, hat⟩ := args_open (n := n) (base := base) hshp (fun j t v p q => hval j t v (by simpa using p) (by simpa using q)) hA
 have hrels : Rels (phi0 W) args ms := ⟨by simpa using e, fun i m hm => by
  have hi : i < args.size := by
   have := (List.getElem?_eq_some_iff.1 hm).1
   simp at e; omega
  exact hrel i _ m (by simp [Array.getD, hi]) hm⟩
 refine ((h ms hat).2 (phi0 W) W args (inv0 W (hG W hX)) hrels).mono fun e' W' ⟨v, mv, σ', Φ', he, hv, hi, hst, hq⟩ => ?_
 subst hq
 cases hv
 refine ⟨_, he, law_post hvars hs hres htb hl hr hW hst.os hst.output fun k hk => hst.block k hk ?_⟩
 rintro ⟨l, o, p, h1, _⟩
 simp [St.none] at h1
end
end Go.Proofs.YtfbodefnblpflaaGreatDoor
