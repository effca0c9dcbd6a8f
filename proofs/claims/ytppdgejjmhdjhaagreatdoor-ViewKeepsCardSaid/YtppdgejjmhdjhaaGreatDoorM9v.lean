/- Parts of the proof; conditions: as its theorems name them. -/
import Derived.Test.YtppdgejjmhdjhaaGreatDoorM9t
import Derived.Test.YtppdgejjmhdjhaaGreatDoorM9u
set_option linter.unusedVariables false
set_option linter.unusedSimpArgs false
set_option maxHeartbeats 8000000
set_option maxRecDepth 100000
namespace Go.Proofs.YtppdgejjmhdjhaaGreatDoor
section
theorem Ir(a:Addr)(c:Nat)(w:World):Calls Tryz.prog 98 #[.slice (some a) 0 c] w fun e w'=>e=.returned (.slice (some ⟨w.heap.size,0,none⟩) 0 0)∧w'=w.alloc (.cells #[] 128):=by
 have q22:∀(w:World) (a:Option Addr) (n c n' c':Nat),(binOp .eql 77 (.slice a n c) (.slice none n' c')).run Tryz.prog w=.ok (.bool a.isNone) w:=fun w a n c n' c'=>Lib.run_eql_slice_nil w _ _ a n c n' c' Tryz.underlying77
 have u22:∀w,Sem.run Tryz.prog (underlying 77) w=.ok (TypeDesc.slice 128) w:=run_underlying Tryz.underlying77
 go_enter Tryz.func98,Tryz.ntmps98
 go_wp2
 go_ret
 exact⟨rfl,rfl⟩
theorem EZ:aA Tryz.prog 98 [.aN] St.none (fun r _=>r=.aN):=by
 refine(mB 8 [.tmp 2] Tryz.func98 ?_)
 repeat' first|refine wZ1 @Tryz.f98.eq_1 ?_|exact wC1 @Tryz.f98.eq_1|fail
end

section
theorem Od{B:BK}(b:Nat){fl:List ND}(hl:fl.length≤1000000)(tt:Bool){mk:UInt32}(h:¬(bS fl=0∧mk.toNat≤511)) :
  aA Tryz.prog 15 [.ptr b 0 0,.lst 5 (fl.map ND.c) tt,.int .u32 (mk.toNat:Int)] St.none (fun r _=>r=.nilp):=by
 refine aA.bR (mB 60 [.tmp 6] Tryz.func15 ?_)
 have hmc:=oN mk
 by_cases hp:bS fl=0
 ·have hpn:=sR fl hl tt hp
  rw[decide_eq_false fun hm=>h ⟨hp,hm⟩] at hmc
  repeat' first|(refine fQ hpn ?_;intro f hf)|(with_reducible first|refine up hmc ?_)|refine wZ1 @Tryz.f15.eq_1 ?_|fail
  all_goals exact lE
 ·have hpn:=CN fl hl tt hp
  repeat' first|(with_reducible first|refine up hpn ?_)|refine wZ1 @Tryz.f15.eq_1 ?_|fail
  all_goals exact lE
end
end Go.Proofs.YtppdgejjmhdjhaaGreatDoor
