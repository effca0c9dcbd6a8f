/- Parts of the proof, joined; conditions: those that its theorems name. -/
import Derived.Test.YtppdgejjmhdjhaaGreatDoorMbzf
set_option linter.unusedVariables false
set_option linter.unusedSimpArgs false
set_option maxHeartbeats 4000000
namespace Go.Proofs.YtppdgejjmhdjhaaGreatDoor
section
set_option maxRecDepth 100000
set_option maxHeartbeats 8000000
noncomputable def iU(B:BK)(fl:List ND)(id:Int):CA × Bool:=if (fT B.cards B.dead id).2=0∧dG B.gr fl (fT B.cards B.dead id).1=true then((fT B.cards B.dead id).1,true) else(ca0,false)
theorem HC{B:BK}{id:Int}(h:(fT B.cards B.dead id).2=0):(fT B.cards B.dead id).1∈B.cards∧(fT B.cards B.dead id).1.id=id:=by
 unfold fT at h ⊢
 cases e:B.cards.find? (fun c=>decide (c.id=id)) with
 | none=>rw[e] at h;simp only at h;split at h<;>cases h
 | some c=>exact⟨List.mem_of_find?_eq_some e,by simpa using List.find?_some e⟩
theorem C8{B:BK}(hb:BkR B)(h3:B.gr.length≤1000000)(h4:∀g,g∈B.gr→g.mem.length≤1000000){m l q b f:Nat}(D:kE m l q b)(hf:f≠m∧f≠l∧f≠q∧f≠b){fl:List ND}(hp:bF fl=0)(d:Bool)(hd:B.dead.length≤1000000)(id:Int) :
  aA Tryz.prog 76 [.ptr b 0 0,.ptr f 0 0,.int .i64 id] (bfS m l q b B f fl d) (fun r σ'=>r=.tup [.agg (iU B fl id).1.c,.bool (iU B fl id).2]∧σ'=bfS m l q b B f fl (d || decide ((fT B.cards B.dead id).2=0))):=by
 have hgt:=CV hd D [] id
 have hgr:=mS B.sq l b B.gr h3 h4 hb.gok id
 obtain⟨f1,f2,f3,f4⟩:=hf
 have D':=D
 obtain⟨d1,d2,d3,d4,d5,d6⟩:=D
 have e1:=Ne.symm d1
 have e2:=Ne.symm d2
 have e3:=Ne.symm d3
 have e4:=Ne.symm d4
 have e5:=Ne.symm d5
 have e6:=Ne.symm d6
 have g1:=Ne.symm f1
 have g2:=Ne.symm f2
 have g3:=Ne.symm f3
 have g4:=Ne.symm f4
 refine aA.less (Q':=fun r σ'=>r=.tup [.agg (iU B fl id).1.c,.bool (iU B fl id).2]∧(bfS m l q b B f fl (d || decide ((fT B.cards B.dead id).2=0))).le σ') (aA.body 29 [.cell 6 126,.tmp 7] Tryz.func76 rfl rfl rfl rfl ?_) fun v σ' ⟨h1,h2⟩=>⟨_,h2,h1,rfl⟩
 have hz:=@HC B id
 have hbf:bkS m l q b B [] f=none:=by simp only[aX];exact⟨f4,f3,f2,f1,rfl⟩
 obtain⟨g,hg⟩:∃g,fT B.cards B.dead id=g:=⟨_,rfl⟩
 unfold iU
 rw[hg] at hgt hz ⊢
 obtain⟨c,e⟩:=g
 obtain⟨d',hd'⟩:∃d',(d || decide ((c,e).2=0))=d':=⟨_,rfl⟩
 rw[hd']
 simp only at hgt hz hd' ⊢
 by_cases he:e=0
 ·subst he
  obtain rfl:true=d':=by rw[←hd'];simp
  obtain⟨hc,hid⟩:=hz rfl
  have hmt:=rZ hp hb.gok (pN hb hc).1 f d
  rw[hid] at hmt
  obtain⟨gg,hgg⟩:∃g:Int,(grB B.gr id:Int)=g:=⟨_,rfl⟩
  rw[hgg] at hmt hgr
  obtain⟨sb,hsb⟩:∃sb,dG B.gr fl c=sb:=⟨_,rfl⟩
  rw[hsb] at hmt ⊢
  obtain⟨DK,hDK,c1,c2⟩:∃DK:bR,PlU (.these [66]) DK∧(∀ms,DK 67 ms=some ⟨[b],fun v=>v=.int .u32 gg,none⟩)∧∀ms,DK 66 ms=some ⟨[f],fun _=>True,some ([flD fl true],fun _=>.bool sb)⟩ :=
   ⟨fnF [(67,⟨[b],fun v=>v=.int .u32 gg,none⟩),(66,⟨[f],fun _=>True,some ([flD fl true],fun _=>.bool sb)⟩)],GB,fun _=>bO,fun _=>bC bO⟩
  cases sb
  ·repeat' (first|(refine dB hgt (fun k o hk=>fI (by simp only[aX];exact⟨by assumption,by assumption,by assumption,by assumption,by assumption,rfl⟩) k o (fI hbf k o hk)) ?_)|(refine dO mixed [66] (by decide +kernel) DK hDK ?_)|(refine B2 [b] [bL B.sq l (.lst 2 (B.gr.map GR.c) false)] (c1 _) (by simp[St.set, *]) hgr ?_)|(refine y0 (c2 _) (by simp[St.set, *]) hmt ?_)|(with_reducible first|(refine wN fun _ hnl=>?_;revert hnl;(repeat refine wS fun _ _=>?_);intro hnl)|refine wE ?_|(refine wK ?_ ?_<;>intro h)|(refine wB ?_ ?_<;>intro h<;>simp only[h]))|simp(maxSteps:=4000000) (disch:=first|exact ddL|fail) only[go_sem,simprocAttr,FXs])
   exact⟨rfl,fun k o hk=>fI (by simp only[aX];exact⟨by assumption,by assumption,by assumption,by assumption,by assumption,by assumption,rfl⟩) k o (fI (by simp only[aX];exact⟨by assumption,by assumption,by assumption,by assumption,by assumption,rfl⟩) k o hk)⟩
  ·repeat' (first|(refine dB hgt (fun k o hk=>fI (by simp only[aX];exact⟨by assumption,by assumption,by assumption,by assumption,by assumption,rfl⟩) k o (fI hbf k o hk)) ?_)|(refine dO mixed [66] (by decide +kernel) DK hDK ?_)|(refine B2 [b] [bL B.sq l (.lst 2 (B.gr.map GR.c) false)] (c1 _) (by simp[St.set, *]) hgr ?_)|(refine y0 (c2 _) (by simp[St.set, *]) hmt ?_)|(with_reducible first|(refine wN fun _ hnl=>?_;revert hnl;(repeat refine wS fun _ _=>?_);intro hnl)|refine wE ?_|(refine wK ?_ ?_<;>intro h)|(refine wB ?_ ?_<;>intro h<;>simp only[h]))|simp(maxSteps:=4000000) (disch:=first|exact ddL|fail) only[go_sem,simprocAttr,FXs])
   exact(fun k o hk=>fI (by simp only[aX];exact⟨by assumption,by assumption,by assumption,by assumption,by assumption,by assumption,rfl⟩) k o (fI (by simp only[aX];exact⟨by assumption,by assumption,by assumption,by assumption,by assumption,rfl⟩) k o hk))
 ·clear hz
  obtain rfl:d=d':=by rw[←hd'];simp[he]
  obtain⟨DK,hDK⟩:∃DK:bR,PlU (.these [66]) DK:=⟨fnF [(67,⟨[b],fun v=>True,none⟩),(66,⟨[f],fun _=>True,some ([flD fl true],fun _=>.bool true)⟩)],GB⟩
  repeat' (first|(refine dB hgt (fun k o hk=>fI (by simp only[aX];exact⟨by assumption,by assumption,by assumption,by assumption,by assumption,rfl⟩) k o (fI hbf k o hk)) ?_)|(refine dO mixed [66] (by decide +kernel) DK hDK ?_)|(with_reducible first|(refine wN fun _ hnl=>?_;revert hnl;(repeat refine wS fun _ _=>?_);intro hnl)|refine wE ?_|(refine wK ?_ ?_<;>intro h)|(refine wB ?_ ?_<;>intro h<;>simp only[h]))|simp(maxSteps:=4000000) (disch:=first|exact ddL|fail) only[go_sem,simprocAttr,FXs,he])
  exact⟨rfl,fun k o hk=>fI (by simp only[aX];exact⟨by assumption,by assumption,by assumption,by assumption,by assumption,by assumption,rfl⟩) k o (fI (by simp only[aX];exact⟨by assumption,by assumption,by assumption,by assumption,by assumption,rfl⟩) k o hk)⟩
end

section
set_option maxRecDepth 100000
set_option maxHeartbeats 8000000
structure QG (m l q b pb pf:Nat):Prop where
 h2:pb≠m∧pb≠l∧pb≠q∧pb≠b
 h3:pf≠m∧pf≠l∧pf≠q∧pf≠b∧pf≠pb
end
end Go.Proofs.YtppdgejjmhdjhaaGreatDoor
