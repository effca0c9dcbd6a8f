/- Parts of the proof; conditions: as its theorems name them. -/
import Derived.Test.YtppdgejjmhdjhaaGreatDoorMaf
set_option linter.unusedVariables false
set_option linter.unusedSimpArgs false
set_option maxHeartbeats 8000000
set_option maxRecDepth 100000
namespace Go.Proofs.YtppdgejjmhdjhaaGreatDoor
theorem Uw{v:VA}(h:fF v=true):v.kd=0∨v.kd=1∨v.kd=2:=by
 unfold fF at h
 split at h
 ·exact .inl ‹_›
 ·split at h
  ·exact .inr (.inl ‹_›)
  ·split at h
   ·exact .inr (.inr ‹_›)
   ·cases h
set_option maxHeartbeats 4000000 in
theorem Kb (x:ND):aA Tryz.prog 199 [.agg x.c] St.none (fun r _=>r=.bool (fM x)):=by
 refine(mB 49 [.tmp 2] Tryz.func199 ?_)
 obtain⟨op,n,kd,vn,s⟩:=x
 have hvc:=yD kd vn s
 cases hv:fF ⟨kd,vn,s⟩
 ·rw[hv] at hvc
  have h0:(⟨kd,vn,s⟩:VA)≠va0:=fun e=>by rw[e] at hv;simp[fF,va0] at hv
  have hn:fM ⟨op,n,kd,vn,s⟩=false:=by simp[fM,h0,hv]
  rw[hn]
  repeat' first|(with_reducible refine aC hvc ?_)|(refine wM ?_;intro nl;intros)|(refine wY ?_ ?_<;>intro h)|refine wZ1 @Tryz.f199.eq_1 ?_|exact wC1 @Tryz.f199.eq_1|fail
 ·rw[hv] at hvc
  rcases Uw hv with h|h|h
  ·simp only at h
   subst h
   have hz:(⟨0,vn,s⟩:VA)=va0:=by simpa[fF] using hv
   simp only[va0,VA.mk.injEq,true_and] at hz
   obtain⟨rfl,rfl⟩:=hz
   repeat' first|(with_reducible refine aC hvc ?_)|(refine wM ?_;intro nl;intros)|(refine wY ?_ ?_<;>intro h)|refine wZ1 @Tryz.f199.eq_1 ?_|fail
   all_goals first
    | (simp[fM,va0,fF,nX,IntKind.wrap,IntKind.bits,IntKind.signed, *];done)
    | (simp[fM,va0,fF,nX,IntKind.wrap,IntKind.bits,IntKind.signed, *];omega)
    | (simp[fM,va0,fF,nX,IntKind.wrap,IntKind.bits,IntKind.signed, *];decide)
  ·simp only at h
   subst h
   have hz:(⟨1,vn,s⟩:VA)≠va0:=by simp[va0]
   repeat' first|(with_reducible refine aC hvc ?_)|(refine wM ?_;intro nl;intros)|(refine wY ?_ ?_<;>intro h)|refine wZ1 @Tryz.f199.eq_1 ?_|fail
   all_goals first
    | (simp[fM,hz,hv,nX,IntKind.wrap,IntKind.bits,IntKind.signed, *];done)
    | (simp[fM,hz,hv,nX,IntKind.wrap,IntKind.bits,IntKind.signed, *];omega)
    | (simp[fM,hz,hv,nX,IntKind.wrap,IntKind.bits,IntKind.signed, *];decide)
  ·simp only at h
   subst h
   have hz:(⟨2,vn,s⟩:VA)≠va0:=by simp[va0]
   repeat' first|(with_reducible refine aC hvc ?_)|(refine wM ?_;intro nl;intros)|(refine wY ?_ ?_<;>intro h)|refine wZ1 @Tryz.f199.eq_1 ?_|fail
   all_goals first
    | (simp[fM,hz,hv,nX,IntKind.wrap,IntKind.bits,IntKind.signed, *];done)
    | (simp[fM,hz,hv,nX,IntKind.wrap,IntKind.bits,IntKind.signed, *];omega)
    | (simp[fM,hz,hv,nX,IntKind.wrap,IntKind.bits,IntKind.signed, *];decide)
end Go.Proofs.YtppdgejjmhdjhaaGreatDoor
