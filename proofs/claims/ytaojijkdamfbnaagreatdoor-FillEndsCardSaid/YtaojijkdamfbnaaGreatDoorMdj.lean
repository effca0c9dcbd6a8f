/- Parts of the proof, joined; conditions: those that its theorems name. -/
import Derived.Test.YtaojijkdamfbnaaGreatDoorMdh
set_option linter.unusedVariables false
set_option linter.unusedSimpArgs false
set_option maxHeartbeats 4000000
namespace Go.Proofs.YtaojijkdamfbnaaGreatDoor
section
def bF(m:Nat):List Nat:=(List.range 8).filter fun i=>bit m i
theorem r9{m i:Nat}(h:i∈bF m):i<8:=List.mem_range.1 (List.mem_filter.1 h).1
theorem pO(m:Nat):(bF m).length≤8:=by
 have:=List.length_filter_le (fun i=>bit m i) (List.range 8)
 rwa [List.length_range] at this
theorem Fm(m:Nat):bF (m &&& 255)=bF m:=by
 unfold bF
 apply List.filter_congr
 intro i hi
 have hi:=List.mem_range.1 hi
 unfold bit
 rw[Nat.testBit_and]
 have:(255:Nat).testBit i=true:=by
  have h:∀i,i<8→(255:Nat).testBit i=true:=by decide
  exact h i hi
 rw[this,Bool.and_true]
theorem sA:∀s:Nat,s<256→s≠0→bF s=(bF s).headD 0::bF (s &&& (s - 1)):=by decide +kernel
theorem Fo:bF 0=[]:=by decide
end

section
def val:BL→Nat
 | []=>0
 | c::l=>c.toNat % 128+128 * val l
end
end Go.Proofs.YtaojijkdamfbnaaGreatDoor
