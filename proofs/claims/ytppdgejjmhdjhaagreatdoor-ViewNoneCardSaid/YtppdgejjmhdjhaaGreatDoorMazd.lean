/- Parts of the proof, joined; conditions: those that its theorems name. -/
import Derived.Test.YtppdgejjmhdjhaaGreatDoorMay
import Derived.Test.YtppdgejjmhdjhaaGreatDoorMazc
set_option linter.unusedVariables false
set_option linter.unusedSimpArgs false
set_option maxHeartbeats 4000000
namespace Go.Proofs.YtppdgejjmhdjhaaGreatDoor
section
set_option maxRecDepth 100000
set_option maxHeartbeats 8000000
theorem Az(a:Addr)(c:Nat)(w:World):Calls Tryz.prog 98 #[.slice (some a) 0 c] w fun e w'=>e=.returned (.slice (some ⟨w.heap.size,0,none⟩) 0 0)∧w'=w.alloc (.cells #[] 128):=by
 have q22:∀(w:World) (a:Option Addr) (n c n' c':Nat),(binOp .eql 77 (.slice a n c) (.slice none n' c')).run Tryz.prog w=.ok (.bool a.isNone) w:=fun w a n c n' c'=>Lib.run_eql_slice_nil w _ _ a n c n' c' Tryz.underlying77
 have u22:∀w,Sem.run Tryz.prog (underlying 77) w=.ok (TypeDesc.slice 128) w:=run_underlying Tryz.underlying77
 go_enter Tryz.func98,Tryz.ntmps98
 go_wp2
 go_ret
 exact⟨rfl,rfl⟩
theorem wM:aA Tryz.prog 98 [.aZ] St.none (fun r _=>r=.aZ):=by
 refine(aA.body 8 [.tmp 2] Tryz.func98 rfl rfl rfl rfl ?_)
 repeat' (first|(with_reducible first|(refine wN fun _ hnl=>?_;revert hnl;(repeat refine wS fun _ _=>?_);intro hnl)|refine wE ?_|(refine wK ?_ ?_<;>intro h)|(refine wB ?_ ?_<;>intro h<;>simp only[h]))|simp(maxSteps:=4000000) (disch:=first|exact ddL|fail) only[go_sem,simprocAttr,Tryz.f98])
end

section
set_option maxRecDepth 100000
set_option maxHeartbeats 8000000
structure LP (m l q b f pb pf:Nat):Prop where
 h1:f≠m∧f≠l∧f≠q∧f≠b
 h2:pb≠m∧pb≠l∧pb≠q∧pb≠b∧pb≠f
 h3:pf≠m∧pf≠l∧pf≠q∧pf≠b∧pf≠f∧pf≠pb
theorem CG{g1 g2:FuncId}{r1 r2:List Nat}{q1 q2:MV→Prop}{x2:List aO × (Nat→MV)}:PlU (.these [g2]) (fnF [(g1,⟨r1,q1,none⟩),(g2,⟨r2,q2,some x2⟩)]):=by
 intro g' ms rd q' x' h
 simp only[fnF] at h
 split at h
 ·cases h
 ·split at h
  ·rename_i e
   subst e
   exact .inr (List.mem_singleton.2 rfl)
  ·cases h
end

section
set_option maxRecDepth 100000
set_option maxHeartbeats 8000000
noncomputable abbrev bfS(m l q b:Nat)(B:BK)(f:Nat)(fl:List ND)(d:Bool):St:=(bkS m l q b B []).set f (flD fl d)
end

section
set_option maxRecDepth 100000
set_option maxHeartbeats 8000000
noncomputable def gA(B:BK)(fl:List ND)(id:Int):CA × Bool:=if (eZ B.cards B.dead id).2=0∧jN B.gr fl (eZ B.cards B.dead id).1=true then((eZ B.cards B.dead id).1,true) else(ca0,false)
theorem Dn{B:BK}{id:Int}(h:(eZ B.cards B.dead id).2=0):(eZ B.cards B.dead id).1∈B.cards∧(eZ B.cards B.dead id).1.id=id:=by
 unfold eZ at h ⊢
 cases e:B.cards.find? (fun c=>decide (c.id=id)) with
 | none=>rw[e] at h;simp only at h;split at h<;>cases h
 | some c=>exact⟨List.mem_of_find?_eq_some e,by simpa using List.find?_some e⟩
theorem zF{B:BK}(hb:BkR B)(h3:B.gr.length≤1000000)(h4:∀g,g∈B.gr→g.mem.length≤1000000){m l q b f:Nat}(D:mX m l q b)(hf:f≠m∧f≠l∧f≠q∧f≠b){fl:List ND}(hp:cD fl=0)(d:Bool)(hd:B.dead.length≤1000000)(id:Int) :
  aA Tryz.prog 76 [.ptr b 0 0,.ptr f 0 0,.int .i64 id] (bfS m l q b B f fl d) (fun r σ'=>r=.tup [.agg (gA B fl id).1.c,.bool (gA B fl id).2]∧σ'=bfS m l q b B f fl (d || decide ((eZ B.cards B.dead id).2=0))):=by
 have hgt:=yZ hd D [] id
 have hgr:=kG B.sq l b B.gr h3 h4 hb.gok id
 obtain⟨f1,f2,f3,f4⟩:=hf
 have D':=D
 obtain⟨d1,d2,d3,d4,d5,d6⟩:=D
 have e1:=Ne.symm d1
 have e2:=Ne.symm d2
 have e3:=Ne.symm d3
 have e4:=Ne.symm d4
 have e5:=Ne.symm d5
 have e6:=Ne.symm d6
 have g1:=Ne.symm f1
 have g2:=Ne.symm f2
 have g3:=Ne.symm f3
 have g4:=Ne.symm f4
 refine aA.less (Q':=fun r σ'=>r=.tup [.agg (gA B fl id).1.c,.bool (gA B fl id).2]∧(bfS m l q b B f fl (d || decide ((eZ B.cards B.dead id).2=0))).le σ') (aA.body 29 [.cell 6 126,.tmp 7] Tryz.func76 rfl rfl rfl rfl ?_) fun v σ' ⟨h1,h2⟩=>⟨_,h2,h1,rfl⟩
 have hz:=@Dn B id
 have hbf:bkS m l q b B [] f=none:=by simp only[bB];exact⟨f4,f3,f2,f1,rfl⟩
 obtain⟨g,hg⟩:∃g,eZ B.cards B.dead id=g:=⟨_,rfl⟩
 unfold gA
 rw[hg] at hgt hz ⊢
 obtain⟨c,e⟩:=g
 obtain⟨d',hd'⟩:∃d',(d || decide ((c,e).2=0))=d':=⟨_,rfl⟩
 rw[hd']
 simp only at hgt hz hd' ⊢
 by_cases he:e=0
 ·subst he
  obtain rfl:true=d':=by rw[←hd'];simp
  obtain⟨hc,hid⟩:=hz rfl
  have hmt:=oH hp hb.gok (B6 hb hc).1 f d
  rw[hid] at hmt
  obtain⟨gg,hgg⟩:∃g:Int,(grB B.gr id:Int)=g:=⟨_,rfl⟩
  rw[hgg] at hmt hgr
  obtain⟨sb,hsb⟩:∃sb,jN B.gr fl c=sb:=⟨_,rfl⟩
  rw[hsb] at hmt ⊢
  obtain⟨DK,hDK,c1,c2⟩:∃DK:bJ,PlU (.these [66]) DK∧(∀ms,DK 67 ms=some ⟨[b],fun v=>v=.int .u32 gg,none⟩)∧∀ms,DK 66 ms=some ⟨[f],fun _=>True,some ([flD fl true],fun _=>.bool sb)⟩ :=
   ⟨fnF [(67,⟨[b],fun v=>v=.int .u32 gg,none⟩),(66,⟨[f],fun _=>True,some ([flD fl true],fun _=>.bool sb)⟩)],CG,fun _=>cV,fun _=>pM cV⟩
  cases sb
  ·repeat' (first|(refine dW hgt (fun k o hk=>eQ (by simp only[bB];exact⟨by assumption,by assumption,by assumption,by assumption,by assumption,rfl⟩) k o (eQ hbf k o hk)) ?_)|(refine cA mixed [66] (by decide +kernel) DK hDK ?_)|(refine xP [b] [bA B.sq l (.lst 2 (B.gr.map GR.c) false)] (c1 _) (by simp[St.set, *]) hgr ?_)|(refine s6 (c2 _) (by simp[St.set, *]) hmt ?_)|(with_reducible first|(refine wN fun _ hnl=>?_;revert hnl;(repeat refine wS fun _ _=>?_);intro hnl)|refine wE ?_|(refine wK ?_ ?_<;>intro h)|(refine wB ?_ ?_<;>intro h<;>simp only[h]))|simp(maxSteps:=4000000) (disch:=first|exact ddL|fail) only[go_sem,simprocAttr,FXs])
   exact⟨rfl,fun k o hk=>eQ (by simp only[bB];exact⟨by assumption,by assumption,by assumption,by assumption,by assumption,by assumption,rfl⟩) k o (eQ (by simp only[bB];exact⟨by assumption,by assumption,by assumption,by assumption,by assumption,rfl⟩) k o hk)⟩
  ·repeat' (first|(refine dW hgt (fun k o hk=>eQ (by simp only[bB];exact⟨by assumption,by assumption,by assumption,by assumption,by assumption,rfl⟩) k o (eQ hbf k o hk)) ?_)|(refine cA mixed [66] (by decide +kernel) DK hDK ?_)|(refine xP [b] [bA B.sq l (.lst 2 (B.gr.map GR.c) false)] (c1 _) (by simp[St.set, *]) hgr ?_)|(refine s6 (c2 _) (by simp[St.set, *]) hmt ?_)|(with_reducible first|(refine wN fun _ hnl=>?_;revert hnl;(repeat refine wS fun _ _=>?_);intro hnl)|refine wE ?_|(refine wK ?_ ?_<;>intro h)|(refine wB ?_ ?_<;>intro h<;>simp only[h]))|simp(maxSteps:=4000000) (disch:=first|exact ddL|fail) only[go_sem,simprocAttr,FXs])
   exact(fun k o hk=>eQ (by simp only[bB];exact⟨by assumption,by assumption,by assumption,by assumption,by assumption,by assumption,rfl⟩) k o (eQ (by simp only[bB];exact⟨by assumption,by assumption,by assumption,by assumption,by assumption,rfl⟩) k o hk))
 ·clear hz
  obtain rfl:d=d':=by rw[←hd'];simp[he]
  obtain⟨DK,hDK⟩:∃DK:bJ,PlU (.these [66]) DK:=⟨fnF [(67,⟨[b],fun v=>True,none⟩),(66,⟨[f],fun _=>True,some ([flD fl true],fun _=>.bool true)⟩)],CG⟩
  repeat' (first|(refine dW hgt (fun k o hk=>eQ (by simp only[bB];exact⟨by assumption,by assumption,by assumption,by assumption,by assumption,rfl⟩) k o (eQ hbf k o hk)) ?_)|(refine cA mixed [66] (by decide +kernel) DK hDK ?_)|(with_reducible first|(refine wN fun _ hnl=>?_;revert hnl;(repeat refine wS fun _ _=>?_);intro hnl)|refine wE ?_|(refine wK ?_ ?_<;>intro h)|(refine wB ?_ ?_<;>intro h<;>simp only[h]))|simp(maxSteps:=4000000) (disch:=first|exact ddL|fail) only[go_sem,simprocAttr,FXs,he])
  exact⟨rfl,fun k o hk=>eQ (by simp only[bB];exact⟨by assumption,by assumption,by assumption,by assumption,by assumption,by assumption,rfl⟩) k o (eQ (by simp only[bB];exact⟨by assumption,by assumption,by assumption,by assumption,by assumption,rfl⟩) k o hk)⟩
end
end Go.Proofs.YtppdgejjmhdjhaaGreatDoor
