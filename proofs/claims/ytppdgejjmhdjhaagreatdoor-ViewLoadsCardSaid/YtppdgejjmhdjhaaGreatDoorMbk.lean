/- Parts of the proof, joined; conditions: those that its theorems name. -/
import Derived.Test.YtppdgejjmhdjhaaGreatDoorMbf
set_option linter.unusedVariables false
set_option linter.unusedSimpArgs false
set_option maxHeartbeats 4000000
namespace Go.Proofs.YtppdgejjmhdjhaaGreatDoor
theorem NR{v:VA}(h:eC v=true):v.kd=0∨v.kd=1∨v.kd=2:=by
 unfold eC at h
 split at h
 ·exact .inl ‹_›
 ·split at h
  ·exact .inr (.inl ‹_›)
  ·split at h
   ·exact .inr (.inr ‹_›)
   ·cases h
set_option maxHeartbeats 4000000 in
theorem Fj (x:ND):aA Tryz.prog 199 [.agg x.c] St.none (fun r _=>r=.bool (eG x)):=by
 refine(aA.body 49 [.tmp 2] Tryz.func199 rfl rfl rfl rfl ?_)
 obtain⟨op,n,kd,vn,s⟩:=x
 have hvc:=nD kd vn s
 cases hv:eC ⟨kd,vn,s⟩
 ·rw[hv] at hvc
  have h0:(⟨kd,vn,s⟩:VA)≠va0:=fun e=>by rw[e] at hv;simp[eC,va0] at hv
  have hn:eG ⟨op,n,kd,vn,s⟩=false:=by simp[eG,h0,hv]
  rw[hn]
  repeat' (first|(with_reducible refine aQ hvc ?_)|(with_reducible first|(refine wN fun nl hnl=>?_;revert hnl;(repeat refine wS fun _ _=>?_);intro hnl)|refine wD (by decide +kernel) ?_|refine wI (fun h=>?_) fun h=>?_|refine wF (fun h=>?_) fun h=>?_|refine wG (fun h=>?_) fun h=>?_|refine wH (fun h=>?_) fun h=>?_|((first|refine aG (fun h=>?_) fun h=>?_|refine aE (fun h=>?_) fun h=>?_)<;>simp only[h]))|simp(maxSteps:=4000000) (disch:=first|decide|assumption|omega|(simp only[wL];omega)) only[go_sem,simprocAttr,Tryz.f199])
 ·rw[hv] at hvc
  rcases NR hv with h|h|h
  ·simp only at h
   subst h
   have hz:(⟨0,vn,s⟩:VA)=va0:=by simpa[eC] using hv
   simp only[va0,VA.mk.injEq,true_and] at hz
   obtain⟨rfl,rfl⟩:=hz
   repeat' (first|(with_reducible refine aQ hvc ?_)|(with_reducible first|(refine wN fun nl hnl=>?_;revert hnl;(repeat refine wS fun _ _=>?_);intro hnl)|refine wD (by decide +kernel) ?_|refine wI (fun h=>?_) fun h=>?_|refine wF (fun h=>?_) fun h=>?_|refine wG (fun h=>?_) fun h=>?_|refine wH (fun h=>?_) fun h=>?_|((first|refine aG (fun h=>?_) fun h=>?_|refine aE (fun h=>?_) fun h=>?_)<;>simp only[h]))|simp(maxSteps:=4000000) (disch:=first|decide|assumption|omega|(simp only[wL];omega)) only[go_sem,simprocAttr,Tryz.f199])
   all_goals first
    | (simp[eG,va0,eC,kZ,IntKind.wrap,IntKind.bits,IntKind.signed, *];done)
    | (simp[eG,va0,eC,kZ,IntKind.wrap,IntKind.bits,IntKind.signed, *];omega)
    | (simp[eG,va0,eC,kZ,IntKind.wrap,IntKind.bits,IntKind.signed, *];decide)
  ·simp only at h
   subst h
   have hz:(⟨1,vn,s⟩:VA)≠va0:=by simp[va0]
   repeat' (first|(with_reducible refine aQ hvc ?_)|(with_reducible first|(refine wN fun nl hnl=>?_;revert hnl;(repeat refine wS fun _ _=>?_);intro hnl)|refine wD (by decide +kernel) ?_|refine wI (fun h=>?_) fun h=>?_|refine wF (fun h=>?_) fun h=>?_|refine wG (fun h=>?_) fun h=>?_|refine wH (fun h=>?_) fun h=>?_|((first|refine aG (fun h=>?_) fun h=>?_|refine aE (fun h=>?_) fun h=>?_)<;>simp only[h]))|simp(maxSteps:=4000000) (disch:=first|decide|assumption|omega|(simp only[wL];omega)) only[go_sem,simprocAttr,Tryz.f199])
   all_goals first
    | (simp[eG,hz,hv,kZ,IntKind.wrap,IntKind.bits,IntKind.signed, *];done)
    | (simp[eG,hz,hv,kZ,IntKind.wrap,IntKind.bits,IntKind.signed, *];omega)
    | (simp[eG,hz,hv,kZ,IntKind.wrap,IntKind.bits,IntKind.signed, *];decide)
  ·simp only at h
   subst h
   have hz:(⟨2,vn,s⟩:VA)≠va0:=by simp[va0]
   repeat' (first|(with_reducible refine aQ hvc ?_)|(with_reducible first|(refine wN fun nl hnl=>?_;revert hnl;(repeat refine wS fun _ _=>?_);intro hnl)|refine wD (by decide +kernel) ?_|refine wI (fun h=>?_) fun h=>?_|refine wF (fun h=>?_) fun h=>?_|refine wG (fun h=>?_) fun h=>?_|refine wH (fun h=>?_) fun h=>?_|((first|refine aG (fun h=>?_) fun h=>?_|refine aE (fun h=>?_) fun h=>?_)<;>simp only[h]))|simp(maxSteps:=4000000) (disch:=first|decide|assumption|omega|(simp only[wL];omega)) only[go_sem,simprocAttr,Tryz.f199])
   all_goals first
    | (simp[eG,hz,hv,kZ,IntKind.wrap,IntKind.bits,IntKind.signed, *];done)
    | (simp[eG,hz,hv,kZ,IntKind.wrap,IntKind.bits,IntKind.signed, *];omega)
    | (simp[eG,hz,hv,kZ,IntKind.wrap,IntKind.bits,IntKind.signed, *];decide)
end Go.Proofs.YtppdgejjmhdjhaaGreatDoor
