/- Parts of the proof; conditions: as its theorems name them. -/
import Derived.Test.YtppdgejjmhdjhaaGreatDoorM9v
set_option linter.unusedVariables false
set_option linter.unusedSimpArgs false
set_option maxHeartbeats 8000000
set_option maxRecDepth 100000
namespace Go.Proofs.YtppdgejjmhdjhaaGreatDoor
section
theorem PF(B:BK)(fl:List ND):rI B fl=(shC B fl).map CA.id:=rfl
end

section
structure Xy (m l q b f pb pf:Nat):Prop where
 h1:f≠m∧f≠l∧f≠q∧f≠b
 h2:pb≠m∧pb≠l∧pb≠q∧pb≠b∧pb≠f
 h3:pf≠m∧pf≠l∧pf≠q∧pf≠b∧pf≠f∧pf≠pb
theorem Lt{g1 g2:FuncId}{r1 r2:List Nat}{q1 q2:MV→Prop}{x2:List aW × (Nat→MV)}:PlU (.these [g2]) (fnF [(g1,⟨r1,q1,none⟩),(g2,⟨r2,q2,some x2⟩)]):=by
 intro g' ms rd q' x' h
 simp only[fnF] at h
 split at h
 ·cases h
 ·split at h
  ·rename_i e
   subst e
   exact .inr (List.mem_singleton.2 rfl)
  ·cases h
end

section
theorem aA.RJ{P:Program}{g:FuncId}{ms:List MV}{σ:St}{X:MV}{Q:St→Prop}(h:aA P g ms σ fun v σ'=>∃τ σv:St,Q τ∧σv.le σ'∧τ.le σ'∧(∀k o,τ k=some o→σv k=none)∧View σv v X):aA P g ms σ fun v σ'=>v=X∧Q σ' :=
 aA.ghost (h.mono fun v σ' ⟨τ,σv,h0,h1,h2,h3,h4⟩=>⟨X,τ,aV.freeze σv h1 h2 h3 (fun p hp=>by
  simp at hp
  subst hp
  simpa[cT] using h4),rfl,h0⟩)
noncomputable abbrev bfS(m l q b:Nat)(B:BK)(f:Nat)(fl:List ND)(d:Bool):St:=(bkS m l q b B []).set f (flD fl d)
end

section
theorem RL{Q:St→Prop}{τ σ':St}{z e n:Nat}{t:TypeId}{xs ex:List (List MV)}(hQ:Q τ)(hz:σ' z=some (.row t e (xs++ex)))(hle:τ.le σ')(hn:τ z=none)(hl:n=xs.length) :
  ∃τ σv:St,Q τ∧σv.le σ'∧τ.le σ'∧(∀k o,τ k=some o→σv k=none)∧View σv (.vec e z 0 n) (.lst e xs false) :=
 ⟨τ,St.none.set z (.row t e (xs++ex)),hQ,St.aB (St.none_le _) hz,hle,fun k o hk=>(aF _ _ _ _ (fun h=>by subst h;rw[hn] at hk;cases hk)).trans rfl,cX (aD _ _ _) hl⟩
end

section
noncomputable def jF(B:BK)(fl:List ND)(id:Int):CA × Bool:=if (bD B.cards B.dead id).2=0∧dW B.gr fl (bD B.cards B.dead id).1=true then((bD B.cards B.dead id).1,true) else(ca0,false)
theorem MA{B:BK}{id:Int}(h:(bD B.cards B.dead id).2=0):(bD B.cards B.dead id).1∈B.cards∧(bD B.cards B.dead id).1.id=id:=by
 unfold bD at h ⊢
 cases e:B.cards.find? (fun c=>decide (c.id=id)) with
 | none=>rw[e] at h;simp only at h;split at h<;>cases h
 | some c=>exact⟨List.mem_of_find?_eq_some e,by simpa using List.find?_some e⟩
theorem Hd{B:BK}(hb:BkR B)(h3:B.gr.length≤1000000)(h4:∀g,g∈B.gr→g.mem.length≤1000000){m l q b f:Nat}(D:dQ m l q b)(hf:f≠m∧f≠l∧f≠q∧f≠b){fl:List ND}(hp:bS fl=0)(d:Bool)(hd:B.dead.length≤1000000)(id:Int) :
  aA Tryz.prog 76 [.ptr b 0 0,.ptr f 0 0,.int .i64 id] (bfS m l q b B f fl d) (fun r σ'=>r=.tup [.agg (jF B fl id).1.c,.bool (jF B fl id).2]∧σ'=bfS m l q b B f fl (d || decide ((bD B.cards B.dead id).2=0))):=by
 have hgt:=GK hd D [] id
 have hgr:=p7 B.sq l b B.gr h3 h4 hb.gok id
 obtain⟨f1,f2,f3,f4⟩:=hf
 have D':=D
 obtain⟨d1,d2,d3,d4,d5,d6⟩:=D
 have e1:=Ne.symm d1
 have e2:=Ne.symm d2
 have e3:=Ne.symm d3
 have e4:=Ne.symm d4
 have e5:=Ne.symm d5
 have e6:=Ne.symm d6
 have g1:=Ne.symm f1
 have g2:=Ne.symm f2
 have g3:=Ne.symm f3
 have g4:=Ne.symm f4
 refine aA.less (Q':=fun r σ'=>r=.tup [.agg (jF B fl id).1.c,.bool (jF B fl id).2]∧(bfS m l q b B f fl (d || decide ((bD B.cards B.dead id).2=0))).le σ') (mB 29 [.cell 6 126,.tmp 7] Tryz.func76 ?_) fun v σ' ⟨h1,h2⟩=>⟨_,h2,h1,rfl⟩
 have hz:=@MA B id
 have hbf:bkS m l q b B [] f=none:=by simp only[aU];exact⟨f4,f3,f2,f1,rfl⟩
 obtain⟨g,hg⟩:∃g,bD B.cards B.dead id=g:=⟨_,rfl⟩
 unfold jF
 rw[hg] at hgt hz ⊢
 obtain⟨c,e⟩:=g
 obtain⟨d',hd'⟩:∃d',(d || decide ((c,e).2=0))=d':=⟨_,rfl⟩
 rw[hd']
 simp only at hgt hz hd' ⊢
 by_cases he:e=0
 ·subst he
  obtain rfl:true=d':=by rw[←hd'];simp
  obtain⟨hc,hid⟩:=hz rfl
  have hmt:=xN hp hb.gok (tI hb hc).1 f d
  rw[hid] at hmt
  obtain⟨gg,hgg⟩:∃g:Int,(grB B.gr id:Int)=g:=⟨_,rfl⟩
  rw[hgg] at hmt hgr
  obtain⟨sb,hsb⟩:∃sb,dW B.gr fl c=sb:=⟨_,rfl⟩
  rw[hsb] at hmt ⊢
  obtain⟨DK,hDK,c1,c2⟩:∃DK:cC,PlU (.these [66]) DK∧(∀ms,DK 67 ms=some ⟨[b],fun v=>v=.int .u32 gg,none⟩)∧∀ms,DK 66 ms=some ⟨[f],fun _=>True,some ([flD fl true],fun _=>.bool sb)⟩ :=
   ⟨fnF [(67,⟨[b],fun v=>v=.int .u32 gg,none⟩),(66,⟨[f],fun _=>True,some ([flD fl true],fun _=>.bool sb)⟩)],Lt,fun _=>bV,fun _=>aX bV⟩
  cases sb
  ·repeat' first|(refine cQ hgt (fun k o hk=>iG (by simp only[aU];exact⟨by assumption,by assumption,by assumption,by assumption,by assumption,rfl⟩) k o (iG hbf k o hk)) ?_)|(refine b9 mixed [66] dK DK hDK ?_)|(refine Fy [b] [bG B.sq l (.lst 2 (B.gr.map GR.c) false)] (c1 _) sS hgr ?_)|(refine gQ (c2 _) sS hmt ?_)|(refine wO ?_;intros)|refine wZ1 @FXs ?_|fail
   exact⟨rfl,fun k o hk=>iG (by simp only[aU];exact⟨by assumption,by assumption,by assumption,by assumption,by assumption,by assumption,rfl⟩) k o (iG (by simp only[aU];exact⟨by assumption,by assumption,by assumption,by assumption,by assumption,rfl⟩) k o hk)⟩
  ·repeat' first|(refine cQ hgt (fun k o hk=>iG (by simp only[aU];exact⟨by assumption,by assumption,by assumption,by assumption,by assumption,rfl⟩) k o (iG hbf k o hk)) ?_)|(refine b9 mixed [66] dK DK hDK ?_)|(refine Fy [b] [bG B.sq l (.lst 2 (B.gr.map GR.c) false)] (c1 _) sS hgr ?_)|(refine gQ (c2 _) sS hmt ?_)|(refine wO ?_;intros)|refine wZ1 @FXs ?_|fail
   exact(fun k o hk=>iG (by simp only[aU];exact⟨by assumption,by assumption,by assumption,by assumption,by assumption,by assumption,rfl⟩) k o (iG (by simp only[aU];exact⟨by assumption,by assumption,by assumption,by assumption,by assumption,rfl⟩) k o hk))
 ·clear hz
  obtain rfl:d=d':=by rw[←hd'];simp[he]
  obtain⟨DK,hDK⟩:∃DK:cC,PlU (.these [66]) DK:=⟨fnF [(67,⟨[b],fun v=>True,none⟩),(66,⟨[f],fun _=>True,some ([flD fl true],fun _=>.bool true)⟩)],Lt⟩
  repeat' first|(refine cQ hgt (fun k o hk=>iG (by simp only[aU];exact⟨by assumption,by assumption,by assumption,by assumption,by assumption,rfl⟩) k o (iG hbf k o hk)) ?_)|(refine b9 mixed [66] dK DK hDK ?_)|(refine wO ?_;intros)|refine wZ2 @FXs @he ?_|fail
  exact⟨rfl,fun k o hk=>iG (by simp only[aU];exact⟨by assumption,by assumption,by assumption,by assumption,by assumption,by assumption,rfl⟩) k o (iG (by simp only[aU];exact⟨by assumption,by assumption,by assumption,by assumption,by assumption,rfl⟩) k o hk)⟩
end
end Go.Proofs.YtppdgejjmhdjhaaGreatDoor
