/- Parts of the proof, joined; conditions: those that its theorems name. -/
import Derived.Test.YtppdgejjmhdjhaaGreatDoorMazh
set_option linter.unusedVariables false
set_option linter.unusedSimpArgs false
set_option maxHeartbeats 4000000
namespace Go.Proofs.YtppdgejjmhdjhaaGreatDoor
section
set_option maxRecDepth 100000
set_option maxHeartbeats 8000000
theorem HF{P:Program}{g:FuncId}{ms:List MV}{σ τ:St}{m l b:Nat}{om ol ob:aO}{r:MV}{k:MV→St→Prop}(h:aA P g ms τ fun v σ'=>v=r∧σ'=((τ.set m om).set l ol).set b ob)(hle:τ.le σ)(hk:R (bF r (((σ.set m om).set l ol).set b ob) k)):R (cN P g ms σ k) :=
 bM h hle fun v σ' hv _=>by
  obtain⟨rfl,rfl⟩:=hv
  rw[aW,aW,aW,lR hle];exact hk
abbrev mlb(m l b:Nat)(om ol ob:aO):St:=((St.none.set m om).set l ol).set b ob
theorem JY{m l b:Nat}{om ol ob om' ol' ob':aO}:mlb m l b om' ol' ob'=(((mlb m l b om ol ob).set m om').set l ol').set b ob':=by
 funext j
 by_cases h1:j=b
 ·simp[St.set,h1]
 ·by_cases h2:j=l
  ·simp[St.set,h1,h2]
  ·by_cases h3:j=m<;>simp[St.set,h1,h2,h3]
theorem JZ{σ:St}{m l b:Nat}{om ol ob:aO}(hm:σ m=some om)(hl:σ l=some ol)(hb:σ b=some ob):(mlb m l b om ol ob).le σ:=St.aC (St.aC (St.aC (St.none_le _) hm) hl) hb
end

section
set_option maxRecDepth 100000
set_option maxHeartbeats 8000000
theorem BG(b l:MV):aA Tryz.prog 18 [.nilp,b,l] St.none (fun _ _=>True):=by
 refine aA.dF (aA.body 81 [] Tryz.func18 rfl rfl rfl rfl ?_)
 repeat' (first|(with_reducible first|(refine wN fun _ hnl=>?_;revert hnl;(repeat refine wS fun _ _=>?_);intro hnl)|refine wE ?_|(refine wK ?_ ?_<;>intro h)|(refine wB ?_ ?_<;>intro h<;>simp only[h]))|simp(maxSteps:=4000000) (disch:=first|exact ddL|fail) only[go_sem,simprocAttr,Tryz.f18])
 all_goals first|exact⟨_,St.le_refl _,trivial⟩|exact⟨_,St.le_refl _⟩
theorem BH(n:Int):aA Tryz.prog 27 [.nilp,.int .i64 n] St.none (fun _ _=>True):=by
 refine aA.dF (aA.body 29 [] Tryz.func27 rfl rfl rfl rfl ?_)
 repeat' (first|(with_reducible first|(refine wN fun _ hnl=>?_;revert hnl;(repeat refine wS fun _ _=>?_);intro hnl)|refine wE ?_|(refine wK ?_ ?_<;>intro h)|(refine wB ?_ ?_<;>intro h<;>simp only[h]))|simp(maxSteps:=4000000) (disch:=first|exact ddL|fail) only[go_sem,simprocAttr,Tryz.f27])
 all_goals first|exact⟨_,St.le_refl _,trivial⟩|exact⟨_,St.le_refl _⟩|exact⟨_,St.none_le _,trivial⟩|exact⟨_,St.none_le _⟩
theorem zG(a b c:MV):aA Tryz.prog 21 [.nilp,a,b,c] St.none (fun r _=>r=.tup [.aZ,.int .i64 0,.bool false]):=by
 refine aA.dF (aA.body 48 [.tmp 8,.tmp 9,.tmp 10] Tryz.func21 rfl rfl rfl rfl ?_)
 repeat' (first|(with_reducible first|(refine wN fun _ hnl=>?_;revert hnl;(repeat refine wS fun _ _=>?_);intro hnl)|refine wE ?_|(refine wK ?_ ?_<;>intro h)|(refine wB ?_ ?_<;>intro h<;>simp only[h]))|simp(maxSteps:=4000000) (disch:=first|exact ddL|fail) only[go_sem,simprocAttr,Tryz.f21])
 all_goals first|exact⟨_,St.le_refl _,rfl⟩|exact⟨_,St.le_refl _⟩
theorem sE:aA Tryz.prog 28 [.nilp] St.none (fun r _=>r=.aZ):=by
 refine aA.dF (aA.body 11 [.tmp 2] Tryz.func28 rfl rfl rfl rfl ?_)
 repeat' (first|(with_reducible first|(refine wN fun _ hnl=>?_;revert hnl;(repeat refine wS fun _ _=>?_);intro hnl)|refine wE ?_|(refine wK ?_ ?_<;>intro h)|(refine wB ?_ ?_<;>intro h<;>simp only[h]))|simp(maxSteps:=4000000) (disch:=first|exact ddL|fail) only[go_sem,simprocAttr,Tryz.f28])
 all_goals first|exact⟨_,St.le_refl _,rfl⟩|exact⟨_,St.le_refl _⟩
theorem EK:aA Tryz.prog 29 [.nilp] St.none (fun r _=>r=.aZ):=by
 refine aA.dF (aA.body 10 [.tmp 2] Tryz.func29 rfl rfl rfl rfl ?_)
 repeat' (first|(with_reducible first|(refine wN fun _ hnl=>?_;revert hnl;(repeat refine wS fun _ _=>?_);intro hnl)|refine wE ?_|(refine wK ?_ ?_<;>intro h)|(refine wB ?_ ?_<;>intro h<;>simp only[h]))|simp(maxSteps:=4000000) (disch:=first|exact ddL|fail) only[go_sem,simprocAttr,Tryz.f29])
 all_goals first|exact⟨_,St.le_refl _,rfl⟩|exact⟨_,St.le_refl _⟩
theorem zH:aA Tryz.prog 22 [.nilp] St.none (fun r _=>r=.int .i64 0):=by
 refine aA.dF (aA.body 9 [.tmp 2] Tryz.func22 rfl rfl rfl rfl ?_)
 repeat' (first|(with_reducible first|(refine wN fun _ hnl=>?_;revert hnl;(repeat refine wS fun _ _=>?_);intro hnl)|refine wE ?_|(refine wK ?_ ?_<;>intro h)|(refine wB ?_ ?_<;>intro h<;>simp only[h]))|simp(maxSteps:=4000000) (disch:=first|exact ddL|fail) only[go_sem,simprocAttr,Tryz.f22])
 all_goals first|exact⟨_,St.le_refl _,rfl⟩|exact⟨_,St.le_refl _⟩
theorem EL:aA Tryz.prog 30 [.nilp] St.none (fun r _=>r=.int .i64 0):=by
 refine aA.dF (aA.body 9 [.tmp 2] Tryz.func30 rfl rfl rfl rfl ?_)
 repeat' (first|(with_reducible first|(refine wN fun _ hnl=>?_;revert hnl;(repeat refine wS fun _ _=>?_);intro hnl)|refine wE ?_|(refine wK ?_ ?_<;>intro h)|(refine wB ?_ ?_<;>intro h<;>simp only[h]))|simp(maxSteps:=4000000) (disch:=first|exact ddL|fail) only[go_sem,simprocAttr,Tryz.f30])
 all_goals first|exact⟨_,St.le_refl _,rfl⟩|exact⟨_,St.le_refl _⟩
theorem BC:aA Tryz.prog 31 [.nilp] St.none (fun r _=>r=.nilp):=by
 refine aA.dF (aA.body 9 [.tmp 2] Tryz.func31 rfl rfl rfl rfl ?_)
 repeat' (first|(with_reducible first|(refine wN fun _ hnl=>?_;revert hnl;(repeat refine wS fun _ _=>?_);intro hnl)|refine wE ?_|(refine wK ?_ ?_<;>intro h)|(refine wB ?_ ?_<;>intro h<;>simp only[h]))|simp(maxSteps:=4000000) (disch:=first|exact ddL|fail) only[go_sem,simprocAttr,Tryz.f31])
 all_goals first|exact⟨_,St.le_refl _,rfl⟩|exact⟨_,St.le_refl _⟩
theorem BE:aA Tryz.prog 32 [.nilp] St.none (fun r _=>r=.int .u32 0):=by
 refine aA.dF (aA.body 9 [.tmp 2] Tryz.func32 rfl rfl rfl rfl ?_)
 repeat' (first|(with_reducible first|(refine wN fun _ hnl=>?_;revert hnl;(repeat refine wS fun _ _=>?_);intro hnl)|refine wE ?_|(refine wK ?_ ?_<;>intro h)|(refine wB ?_ ?_<;>intro h<;>simp only[h]))|simp(maxSteps:=4000000) (disch:=first|exact ddL|fail) only[go_sem,simprocAttr,Tryz.f32])
 all_goals first|exact⟨_,St.le_refl _,rfl⟩|exact⟨_,St.le_refl _⟩
end
end Go.Proofs.YtppdgejjmhdjhaaGreatDoor
