/- Parts of the proof, joined; conditions: those that its theorems name. -/
import Derived.Test.YtppdgejjmhdjhaaGreatDoorMam
set_option linter.unusedVariables false
set_option linter.unusedSimpArgs false
set_option maxHeartbeats 4000000
namespace Go.Proofs.YtppdgejjmhdjhaaGreatDoor
section
set_option maxRecDepth 100000
set_option maxHeartbeats 8000000
def JN(g:FuncId)(v:MV):bJ:=fun g' _=>if g'=g then some ⟨[],fun w=>w=v,none⟩ else none
theorem Fw{g:FuncId}{v:MV}{ms:List MV}:JN g v g ms=some ⟨[],fun w=>w=v,none⟩:=by simp[JN]
instance:Inhabited DE:=⟨⟨0,0,0⟩⟩
end

section
theorem half(i j:Nat):Int.fdiv ((i:Int)+j) (2 ^ (min 1 64:Nat))=(((i+j) / 2:Nat):Int):=by
 rw[show((2:Int) ^ (min 1 64:Nat))=2 by decide,Int.fdiv_eq_ediv_of_nonneg _ (by omega)]
 omega
end

section
theorem l6{v:VA}(h:fF v=true):v.s.size≤1000000:=by
 unfold fF at h
 split at h
 ·simp only[decide_eq_true_eq] at h
  rw[h];decide
 ·split at h
  ·simp only[decide_eq_true_eq] at h
   rw[h.2.2];decide
  ·split at h
   ·simp only[decide_eq_true_eq] at h
    omega
   ·cases h
theorem Ey{x:ND}(h:eH x=true):x.v.s.size≤1000000:=by
 have h0:va0.s.size≤1000000:=by decide
 unfold eH at h
 split at h
 ·simp only[decide_eq_true_eq] at h;rw[h.2];exact h0
 ·split at h
  ·simp only[decide_eq_true_eq] at h;rw[h.2.2];exact h0
  ·split at h
   ·simp only[decide_eq_true_eq] at h;rw[h.2.2];exact h0
   ·split at h
    ·simp only[decide_eq_true_eq] at h;exact l6 h.2.2.1
    ·split at h
     ·simp only[decide_eq_true_eq] at h;exact l6 h.2.2.1
     ·cases h
end
end Go.Proofs.YtppdgejjmhdjhaaGreatDoor
