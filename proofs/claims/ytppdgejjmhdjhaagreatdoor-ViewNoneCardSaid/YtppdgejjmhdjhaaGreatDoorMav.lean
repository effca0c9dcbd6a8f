/- Parts of the proof, joined; conditions: those that its theorems name. -/
import Derived.Test.YtppdgejjmhdjhaaGreatDoorMat
set_option linter.unusedVariables false
set_option linter.unusedSimpArgs false
set_option maxHeartbeats 4000000
namespace Go.Proofs.YtppdgejjmhdjhaaGreatDoor
set_option maxRecDepth 100000
set_option maxHeartbeats 4000000
theorem rI{σ:St}{q:Nat}{t:TypeId}{e n:Nat}{xs ex:List (List MV)}(hq:σ q=some (.row t e (xs++ex)))(hn:n=xs.length):View σ (.vec e q 0 n) (.lst e xs false):=by
 subst hn
 have:=View.vec (σ:=σ) (lo:=0) (n:=xs.length) hq (by rw[List.length_append];omega)
 rw[List.drop_zero,List.take_left] at this
 exact this
end Go.Proofs.YtppdgejjmhdjhaaGreatDoor
