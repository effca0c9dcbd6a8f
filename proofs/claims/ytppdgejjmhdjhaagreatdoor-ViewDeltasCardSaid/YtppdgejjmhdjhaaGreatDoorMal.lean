/- Parts of the proof; conditions: as its theorems name them. -/
import Derived.Test.YtppdgejjmhdjhaaGreatDoorMak
set_option linter.unusedVariables false
set_option linter.unusedSimpArgs false
set_option maxHeartbeats 8000000
set_option maxRecDepth 100000
namespace Go.Proofs.YtppdgejjmhdjhaaGreatDoor
def edW(w k:Int):Bool:=if w=1 then edG k else if w=2 then edI k else edP k
theorem vZ(k w:Int)(h0:0≤k)(h7:k≤7)(hw:w=1∨w=2∨w=4):aA Tryz.prog 140 [.int .i64 k,.int .i64 w] St.none (fun r _=>r=.bool (edW w k)):=by
 refine(mB 12 [.tmp 4] Tryz.func140 ?_)
 have hk:k=0∨k=1∨k=2∨k=3∨k=4∨k=5∨k=6∨k=7:=by omega
 rcases hk with rfl|rfl|rfl|rfl|rfl|rfl|rfl|rfl<;>rcases hw with rfl|rfl|rfl
 all_goals
  repeat' first|refine wZ1 @Tryz.f140.eq_1 ?_|fail
  try decide
theorem dE(e:ED):aA Tryz.prog 68 [.agg e.c] St.none (fun r _=>r=.int .i64 (aQ e)):=by
 refine aA.bS (mB 69 [.tmp 2] Tryz.func68 ?_)
 have hq:cH Tryz.prog 57 .neq (.agg (.int .u32 (e.p.mask.toNat:Int)::.int .u32 (e.p.lab.toNat:Int)::fc e.p.f)) (.agg (.int .u32 0::.int .u32 0::fc f80))=some (True,.bool (!decide (e.p=pa0))):=CE e.p pa0
 by_cases h:e.kd<1∨7<e.kd
 ·have e1:aQ e=1:=by unfold aQ;rw[if_pos h]
  rw[e1]
  repeat' first|(refine wO ?_;intros)|(refine wY ?_ ?_<;>intro h)|refine wZ2 @Tryz.f68.eq_1 @FXs ?_|fail
  all_goals first|exact⟨_,St.le_refl _,rfl⟩|exact⟨_,St.le_refl _⟩|skip
  all_goals (exfalso;omega)
 ·have hg:=vZ e.kd 1 oM oM (.inl rfl)
  have hi:=vZ e.kd 2 oM oM (.inr (.inl rfl))
  have hp:=vZ e.kd 4 oM oM (.inr (.inr rfl))
  have hc:=jD e.p
  rw[show edW 1 e.kd=edG e.kd from rfl] at hg
  rw[show edW 2 e.kd=edI e.kd from rfl] at hi
  rw[show edW 4 e.kd=edP e.kd from rfl] at hp
  obtain⟨res,hres⟩:∃x,aQ e=x:=⟨_,rfl⟩
  rw[hres]
  unfold aQ at hres
  rw[if_neg h] at hres
  obtain⟨bg,hbg⟩:∃b,edG e.kd=b:=⟨_,rfl⟩
  obtain⟨bi,hbi⟩:∃b,edI e.kd=b:=⟨_,rfl⟩
  obtain⟨bp,hbp⟩:∃b,edP e.kd=b:=⟨_,rfl⟩
  obtain⟨qp,hqp⟩:∃b,decide (e.p=pa0)=b:=⟨_,rfl⟩
  have hqq:e.p=pa0↔qp=true:=by rw[←hqp];simp
  obtain⟨pe,hpe⟩:∃x,bI e.p=x:=⟨_,rfl⟩
  rw[hbg] at hg hres
  rw[hbi] at hi hres
  rw[hbp] at hp hres
  rw[hqp] at hq
  rw[hpe] at hc hres
  simp only[hqq,ne_eq,mM] at hres
  clear hbg hbi hbp hqp hpe hqq
  cases bg<;>cases bi<;>cases bp<;>cases qp
  all_goals
   simp only[true_and,false_and,or_false,false_or,Bool.false_eq_true,Bool.true_eq_false,not_true_eq_false,not_false_eq_true,and_false,and_true,if_true,if_false,reduceCtorEq] at hres
   repeat' first|(with_reducible first|refine up hg ?_|refine up hi ?_|refine up hp ?_|refine up hc ?_)|(refine wO ?_;intros)|(refine wY ?_ ?_<;>intro h)|refine wZ3 @Tryz.f68.eq_1 @FXs @hq ?_|fail
   all_goals first|refine⟨_,St.le_refl _,?_⟩|refine⟨_,St.le_refl _⟩|skip
   all_goals (subst hres)
   all_goals first|rfl|(rw[if_pos oM];done)|(rw[if_neg oM];done)|(exfalso;omega)|((repeat' split)<;>first|rfl|omega|(simp_all;done)|(simp_all;omega)|skip)
end Go.Proofs.YtppdgejjmhdjhaaGreatDoor
