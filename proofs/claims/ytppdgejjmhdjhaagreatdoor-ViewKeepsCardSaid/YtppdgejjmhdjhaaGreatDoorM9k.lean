/- Parts of the proof; conditions: as its theorems name them. -/
import Derived.Test.YtppdgejjmhdjhaaGreatDoorM9f
set_option linter.unusedVariables false
set_option linter.unusedSimpArgs false
set_option maxHeartbeats 8000000
set_option maxRecDepth 100000
namespace Go.Proofs.YtppdgejjmhdjhaaGreatDoor
theorem Hv(k:Int):aA Tryz.prog 161 [.int .i64 k] St.none (fun r _=>r=.bool (edG k)):=by
 refine(mB 17 [.tmp 2] Tryz.func161 ?_)
 repeat' first|(refine wY ?_ ?_<;>intro h)|refine wZ1 @Tryz.f161.eq_1 ?_|fail
 all_goals (try simp only[Classical.not_not] at *)
 all_goals (first|(simp[edG, *];done)|(simp only[edG];(repeat' split)<;>(first|(simp_all;done)|omega|(exfalso;omega)))|skip)
theorem Ru(k:Int):aA Tryz.prog 162 [.int .i64 k] St.none (fun r _=>r=.bool (edI k)):=by
 refine(mB 17 [.tmp 2] Tryz.func162 ?_)
 repeat' first|(refine wY ?_ ?_<;>intro h)|refine wZ1 @Tryz.f162.eq_1 ?_|fail
 all_goals (try simp only[Classical.not_not] at *)
 all_goals (first|(simp[edI, *];done)|(simp only[edI];(repeat' split)<;>(first|(simp_all;done)|omega|(exfalso;omega)))|skip)
theorem BS(k:Int):aA Tryz.prog 163 [.int .i64 k] St.none (fun r _=>r=.bool (edP k)):=by
 refine(mB 9 [.tmp 2] Tryz.func163 ?_)
 repeat' first|(refine wY ?_ ?_<;>intro h)|refine wZ1 @Tryz.f163.eq_1 ?_|fail
 all_goals (try simp only[Classical.not_not] at *)
 all_goals (first|(simp[edP, *];done)|(simp only[edP];(repeat' split)<;>(first|(simp_all;done)|omega|(exfalso;omega)))|skip)
set_option maxHeartbeats 4000000 in
theorem eO (e:ED):aA Tryz.prog 81 [.agg e.c] St.none (fun r _=>r=.int .i64 (aR e)):=by
 refine aA.bR (mB 74 [.tmp 2] Tryz.func81 ?_)
 have hg:=Hv e.kd
 have hi:=Ru e.kd
 have hp:=BS e.kd
 have hc:=k0 e.p
 have hq:cJ Tryz.prog 57 .neq (.agg (.int .u32 (e.p.mask.toNat:Int)::.int .u32 (e.p.lab.toNat:Int)::fc e.p.f)) (.agg (.int .u32 0::.int .u32 0::fc f80))=some (True,.bool (!decide (e.p=pa0))):=Ct e.p pa0
 by_cases hk:e.kd<1∨7<e.kd
 ·have e1:aR e=1:=by unfold aR;rw[if_pos hk]
  rw[e1]
  repeat' first|(refine wO ?_;intros)|(refine wY ?_ ?_<;>intro h)|refine wZ2 @Tryz.f81.eq_1 @FXs ?_|fail
  all_goals exact lE
 ·have hk1:1≤e.kd:=by omega
  have hk2:e.kd≤7:=by omega
  obtain⟨bg,hbg⟩:∃b,edG e.kd=b:=⟨_,rfl⟩
  obtain⟨bi,hbi⟩:∃b,edI e.kd=b:=⟨_,rfl⟩
  obtain⟨bp,hbp⟩:∃b,edP e.kd=b:=⟨_,rfl⟩
  obtain⟨bz,hbz⟩:∃b,decide (e.p=pa0)=b:=⟨_,rfl⟩
  have e0:Unit→aR e=if bg=false∧e.gr≠0∨bi=false∧e.id≠0∨bp=false∧bz=false then 1 else if e.gr<0∨16≤e.gr∨bi=true∧(e.id<1∨1073741824≤e.id) then 1 else if bp=true then bH e.p else 0:=by
   intro _
   unfold aR mG
   rw[if_neg hk,hbg,hbi,hbp,←hbz]
   simp only[decide_eq_false_iff_not,ne_eq]
  rw[hbg] at hg
  rw[hbi] at hi
  rw[hbp] at hp
  rw[hbz] at hq
  obtain⟨res,hres⟩:∃r,aR e=r:=⟨_,rfl⟩
  rw[hres] at e0 ⊢
  clear hbg hbi hbp hbz hres hk
  cases bg<;>cases bi<;>cases bp<;>cases bz
  all_goals
   repeat' first|(with_reducible first|refine up hg ?_|refine up hi ?_|refine up hp ?_|refine up hc ?_)|(refine wO ?_;intros)|(refine wY ?_ ?_<;>intro h)|refine wZ3 @Tryz.f81.eq_1 @FXs @hq ?_|fail
   all_goals (first|refine⟨_,St.le_refl _,?_⟩|skip)
   all_goals rw[e0 ()]
   all_goals (try simp only[Classical.not_not] at *)
   all_goals (first|(simp[*];done)|(simp only[];(repeat' split)<;>(first|(simp_all;done)|omega|(exfalso;omega)))|skip)
end Go.Proofs.YtppdgejjmhdjhaaGreatDoor
