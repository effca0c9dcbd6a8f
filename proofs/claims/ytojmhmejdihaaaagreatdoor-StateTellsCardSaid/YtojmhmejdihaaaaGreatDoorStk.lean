/- Parts of the proof, joined; conditions: those that its theorems name. -/
import Derived.Test.YtojmhmejdihaaaaGreatDoorStf
set_option linter.unusedVariables false
set_option linter.unusedSimpArgs false
set_option maxHeartbeats 4000000
namespace Go.Proofs.YtojmhmejdihaaaaGreatDoor
def MF:List MV→MV
 | [.int _ a,.int _ b]=>.int .i64 (dK (cmpL [a] [b]))
 | _=>.junk
theorem P4(l:Nat)(a b c:Int):aA Tryz.prog 258 [.vec 1 l 0 3] (St.ofList [l] [.row 3 1 [[.int .i64 a],[.int .i64 b],[.int .i64 c]]]) (fun r σ'=>r=.int .i64 (if a≠0 then a else if b≠0 then b else c)∧σ'=St.ofList [l] [.row 3 1 [[.int .i64 a],[.int .i64 b],[.int .i64 c]]]) :=
 aA.PX (NH a b c) (fun r hr=>by rw[hr];exact .int _ _) rfl (fun i m m' h1 h2=>by
  match i,h1,h2 with
  | 0,h1,h2 =>
   simp only[List.getElem?_cons_zero,Option.some.injEq] at h1 h2
   subst h1 h2
   exact .vecAll (aM _ _ _) rfl)
theorem OL(x y:ND):(if dK (cmpL [x.op] [y.op])≠0 then dK (cmpL [x.op] [y.op]) else if dK (cmpL [x.n] [y.n])≠0 then dK (cmpL [x.n] [y.n]) else dK (cmpL x.v.key y.v.key))=dK (cmpL x.key y.key):=by
 have z:∀a b:Int,dK (cmpL [a] [b])=0↔a=b:=fun a b=>by rw[lB,cmpL_eq];simp
 by_cases h1:x.op=y.op
 ·rw[if_neg (by simp[(z _ _).2 h1])]
  have e1:cmpL x.key y.key=cmpL (x.n::x.v.key) (y.n::y.v.key):=by rw[ND.key,ND.key,h1,gG]
  by_cases h2:x.n=y.n
  ·rw[if_neg (by simp[(z _ _).2 h2]),e1,h2,gG]
  ·rw[if_pos (by rw[ne_eq,z];exact h2),e1,lL (x:=x.v.key) (y:=y.v.key) h2]
 ·rw[if_pos (by rw[ne_eq,z];exact h1),ND.key,ND.key,lL (x:=x.n::x.v.key) (y:=y.n::y.v.key) h1]
def orC(x y:ND):bP:=fun g ms=>if g=259 then some ⟨[],fun v=>v=MF ms,none⟩ else if g=260 then some ⟨[],fun v=>v=.int .i64 (dK (cmpL x.v.key y.v.key)),none⟩ else if g=258 then(match ms with
  | [.vec _ l _ _]=>some ⟨[l],fun v=>v=.int .i64 (dK (cmpL x.key y.key)),none⟩
  | _=>none) else none
theorem Fh(x y:ND):aA Tryz.prog 257 [.agg x.c,.agg y.c] St.none (fun r _=>r=.int .i64 (dK (cmpL x.key y.key))):=by
 refine(aA.body 22 [.tmp 4] Tryz.func257 rfl rfl rfl rfl ?_)
 have hv:=oZ x.v y.v
 have ho:=fun l=>P4 l (dK (cmpL [x.op] [y.op])) (dK (cmpL [x.n] [y.n])) (dK (cmpL x.v.key y.v.key))
 simp only[OL] at ho
 repeat' (first|(with_reducible refine aJ mixed (by decide +kernel) (orC x y) ?_)|(with_reducible refine aF rfl (kH _ _) ?_)|(with_reducible refine aF rfl hv ?_)|(with_reducible first|(refine wN fun nl hnl=>?_;revert hnl;(repeat refine wS fun _ _=>?_);intro hnl)|refine wD (by decide +kernel) ?_|refine wI (fun h=>?_) fun h=>?_|refine wF (fun h=>?_) fun h=>?_|refine wG (fun h=>?_) fun h=>?_|refine wH (fun h=>?_) fun h=>?_|((first|refine aG (fun h=>?_) fun h=>?_|refine aE (fun h=>?_) fun h=>?_)<;>simp only[h]))|simp(maxSteps:=4000000) (disch:=first|decide|assumption|omega|(simp only[wL];omega)) only[go_sem,simprocAttr,Tryz.f257])
 refine Gt [nl] [.row 3 1 [[.int .i64 (dK (cmpL [x.op] [y.op]))],[.int .i64 (dK (cmpL [x.n] [y.n]))],[.int .i64 (dK (cmpL x.v.key y.v.key))]]] rfl ?_ (ho nl) ⟨_,rfl⟩ (fun v hv=>?_)
 ·simp(maxSteps:=4000000) (disch:=first|decide|assumption|omega|(simp only[wL];omega)) only[go_sem,simprocAttr]
 subst hv
 repeat' (first|(with_reducible first|(refine wN fun nl hnl=>?_;revert hnl;(repeat refine wS fun _ _=>?_);intro hnl)|refine wD (by decide +kernel) ?_|refine wI (fun h=>?_) fun h=>?_|refine wF (fun h=>?_) fun h=>?_|refine wG (fun h=>?_) fun h=>?_|refine wH (fun h=>?_) fun h=>?_|((first|refine aG (fun h=>?_) fun h=>?_|refine aE (fun h=>?_) fun h=>?_)<;>simp only[h]))|simp(maxSteps:=4000000) (disch:=first|decide|assumption|omega|(simp only[wL];omega)) only[go_sem,simprocAttr])
theorem N3{v:VA}(h:gZ v=true):v.kd=0∨v.kd=1∨v.kd=2:=by
 unfold gZ at h
 split at h
 ·exact .inl ‹_›
 ·split at h
  ·exact .inr (.inl ‹_›)
  ·split at h
   ·exact .inr (.inr ‹_›)
   ·cases h
set_option maxHeartbeats 4000000 in
theorem Fp (x:ND):aA Tryz.prog 188 [.agg x.c] St.none (fun r _=>r=.bool (eN x)):=by
 refine(aA.body 49 [.tmp 2] Tryz.func188 rfl rfl rfl rfl ?_)
 obtain⟨op,n,kd,vn,s⟩:=x
 have hvc:=tE kd vn s
 cases hv:gZ ⟨kd,vn,s⟩
 ·rw[hv] at hvc
  have h0:(⟨kd,vn,s⟩:VA)≠va0:=fun e=>by rw[e] at hv;simp[gZ,va0] at hv
  have hn:eN ⟨op,n,kd,vn,s⟩=false:=by simp[eN,h0,hv]
  rw[hn]
  repeat' (first|(with_reducible refine bB hvc ?_)|(with_reducible first|(refine wN fun nl hnl=>?_;revert hnl;(repeat refine wS fun _ _=>?_);intro hnl)|refine wD (by decide +kernel) ?_|refine wI (fun h=>?_) fun h=>?_|refine wF (fun h=>?_) fun h=>?_|refine wG (fun h=>?_) fun h=>?_|refine wH (fun h=>?_) fun h=>?_|((first|refine aG (fun h=>?_) fun h=>?_|refine aE (fun h=>?_) fun h=>?_)<;>simp only[h]))|simp(maxSteps:=4000000) (disch:=first|decide|assumption|omega|(simp only[wL];omega)) only[go_sem,simprocAttr,Tryz.f188])
 ·rw[hv] at hvc
  rcases N3 hv with h|h|h
  ·simp only at h
   subst h
   have hz:(⟨0,vn,s⟩:VA)=va0:=by simpa[gZ] using hv
   simp only[va0,VA.mk.injEq,true_and] at hz
   obtain⟨rfl,rfl⟩:=hz
   repeat' (first|(with_reducible refine bB hvc ?_)|(with_reducible first|(refine wN fun nl hnl=>?_;revert hnl;(repeat refine wS fun _ _=>?_);intro hnl)|refine wD (by decide +kernel) ?_|refine wI (fun h=>?_) fun h=>?_|refine wF (fun h=>?_) fun h=>?_|refine wG (fun h=>?_) fun h=>?_|refine wH (fun h=>?_) fun h=>?_|((first|refine aG (fun h=>?_) fun h=>?_|refine aE (fun h=>?_) fun h=>?_)<;>simp only[h]))|simp(maxSteps:=4000000) (disch:=first|decide|assumption|omega|(simp only[wL];omega)) only[go_sem,simprocAttr,Tryz.f188])
   all_goals first
    | (simp[eN,va0,gZ,mE,IntKind.wrap,IntKind.bits,IntKind.signed, *];done)
    | (simp[eN,va0,gZ,mE,IntKind.wrap,IntKind.bits,IntKind.signed, *];omega)
    | (simp[eN,va0,gZ,mE,IntKind.wrap,IntKind.bits,IntKind.signed, *];decide)
  ·simp only at h
   subst h
   have hz:(⟨1,vn,s⟩:VA)≠va0:=by simp[va0]
   repeat' (first|(with_reducible refine bB hvc ?_)|(with_reducible first|(refine wN fun nl hnl=>?_;revert hnl;(repeat refine wS fun _ _=>?_);intro hnl)|refine wD (by decide +kernel) ?_|refine wI (fun h=>?_) fun h=>?_|refine wF (fun h=>?_) fun h=>?_|refine wG (fun h=>?_) fun h=>?_|refine wH (fun h=>?_) fun h=>?_|((first|refine aG (fun h=>?_) fun h=>?_|refine aE (fun h=>?_) fun h=>?_)<;>simp only[h]))|simp(maxSteps:=4000000) (disch:=first|decide|assumption|omega|(simp only[wL];omega)) only[go_sem,simprocAttr,Tryz.f188])
   all_goals first
    | (simp[eN,hz,hv,mE,IntKind.wrap,IntKind.bits,IntKind.signed, *];done)
    | (simp[eN,hz,hv,mE,IntKind.wrap,IntKind.bits,IntKind.signed, *];omega)
    | (simp[eN,hz,hv,mE,IntKind.wrap,IntKind.bits,IntKind.signed, *];decide)
  ·simp only at h
   subst h
   have hz:(⟨2,vn,s⟩:VA)≠va0:=by simp[va0]
   repeat' (first|(with_reducible refine bB hvc ?_)|(with_reducible first|(refine wN fun nl hnl=>?_;revert hnl;(repeat refine wS fun _ _=>?_);intro hnl)|refine wD (by decide +kernel) ?_|refine wI (fun h=>?_) fun h=>?_|refine wF (fun h=>?_) fun h=>?_|refine wG (fun h=>?_) fun h=>?_|refine wH (fun h=>?_) fun h=>?_|((first|refine aG (fun h=>?_) fun h=>?_|refine aE (fun h=>?_) fun h=>?_)<;>simp only[h]))|simp(maxSteps:=4000000) (disch:=first|decide|assumption|omega|(simp only[wL];omega)) only[go_sem,simprocAttr,Tryz.f188])
   all_goals first
    | (simp[eN,hz,hv,mE,IntKind.wrap,IntKind.bits,IntKind.signed, *];done)
    | (simp[eN,hz,hv,mE,IntKind.wrap,IntKind.bits,IntKind.signed, *];omega)
    | (simp[eN,hz,hv,mE,IntKind.wrap,IntKind.bits,IntKind.signed, *];decide)
end Go.Proofs.YtojmhmejdihaaaaGreatDoor
