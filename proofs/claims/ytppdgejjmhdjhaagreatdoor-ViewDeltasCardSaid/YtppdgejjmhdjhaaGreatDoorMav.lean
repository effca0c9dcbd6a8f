/- Parts of the proof; conditions: as its theorems name them. -/
import Derived.Test.YtppdgejjmhdjhaaGreatDoorMas
import Derived.Test.YtppdgejjmhdjhaaGreatDoorMau
set_option linter.unusedVariables false
set_option linter.unusedSimpArgs false
set_option maxHeartbeats 8000000
set_option maxRecDepth 100000
namespace Go.Proofs.YtppdgejjmhdjhaaGreatDoor
section
theorem Iz(a:Addr)(c:Nat)(w:World):Calls Tryz.prog 98 #[.slice (some a) 0 c] w fun e w'=>e=.returned (.slice (some ⟨w.heap.size,0,none⟩) 0 0)∧w'=w.alloc (.cells #[] 128):=by
 have q22:∀(w:World) (a:Option Addr) (n c n' c':Nat),(binOp .eql 77 (.slice a n c) (.slice none n' c')).run Tryz.prog w=.ok (.bool a.isNone) w:=fun w a n c n' c'=>Lib.run_eql_slice_nil w _ _ a n c n' c' Tryz.underlying77
 have u22:∀w,Sem.run Tryz.prog (underlying 77) w=.ok (TypeDesc.slice 128) w:=run_underlying Tryz.underlying77
 go_enter Tryz.func98,Tryz.ntmps98
 go_wp2
 go_ret
 exact⟨rfl,rfl⟩
theorem Fl:aA Tryz.prog 98 [.aM] St.none (fun r _=>r=.aM):=by
 refine(mB 8 [.tmp 2] Tryz.func98 ?_)
 repeat' first|refine wZ1 @Tryz.f98.eq_1 ?_|exact wC1 @Tryz.f98.eq_1|fail
end

section
theorem PI(B:BK)(fl:List ND):Tg B fl=(shC B fl).map CA.id:=rfl
end

section
structure XL (m l q b f pb pf:Nat):Prop where
 h1:f≠m∧f≠l∧f≠q∧f≠b
 h2:pb≠m∧pb≠l∧pb≠q∧pb≠b∧pb≠f
 h3:pf≠m∧pf≠l∧pf≠q∧pf≠b∧pf≠f∧pf≠pb
theorem LC{g1 g2:FuncId}{r1 r2:List Nat}{q1 q2:MV→Prop}{x2:List aT × (Nat→MV)}:PlU (.these [g2]) (fnF [(g1,⟨r1,q1,none⟩),(g2,⟨r2,q2,some x2⟩)]):=by
 intro g' ms rd q' x' h
 simp only[fnF] at h
 split at h
 ·cases h
 ·split at h
  ·rename_i e
   subst e
   exact .inr (List.mem_singleton.2 rfl)
  ·cases h
end

section
theorem aA.RL{P:Program}{g:FuncId}{ms:List MV}{σ:St}{X:MV}{Q:St→Prop}(h:aA P g ms σ fun v σ'=>∃τ σv:St,Q τ∧σv.le σ'∧τ.le σ'∧(∀k o,τ k=some o→σv k=none)∧View σv v X):aA P g ms σ fun v σ'=>v=X∧Q σ' :=
 aA.ghost (h.mono fun v σ' ⟨τ,σv,h0,h1,h2,h3,h4⟩=>⟨X,τ,bA.freeze σv h1 h2 h3 (fun p hp=>by
  simp at hp
  subst hp
  simpa[cQ] using h4),rfl,h0⟩)
noncomputable abbrev bfS(m l q b:Nat)(B:BK)(f:Nat)(fl:List ND)(d:Bool):St:=(bkS m l q b B []).set f (flD fl d)
end

section
theorem RM{Q:St→Prop}{τ σ':St}{z e n:Nat}{t:TypeId}{xs ex:List (List MV)}(hQ:Q τ)(hz:σ' z=some (.row t e (xs++ex)))(hle:τ.le σ')(hn:τ z=none)(hl:n=xs.length) :
  ∃τ σv:St,Q τ∧σv.le σ'∧τ.le σ'∧(∀k o,τ k=some o→σv k=none)∧View σv (.vec e z 0 n) (.lst e xs false) :=
 ⟨τ,St.none.set z (.row t e (xs++ex)),hQ,St.aB (St.none_le _) hz,hle,fun k o hk=>(aG _ _ _ _ (fun h=>by subst h;rw[hn] at hk;cases hk)).trans rfl,fN (aD _ _ _) hl⟩
end

section
noncomputable def jG(B:BK)(fl:List ND)(id:Int):CA × Bool:=if (bB B.cards B.dead id).2=0∧eR B.gr fl (bB B.cards B.dead id).1=true then((bB B.cards B.dead id).1,true) else(ca0,false)
theorem MJ{B:BK}{id:Int}(h:(bB B.cards B.dead id).2=0):(bB B.cards B.dead id).1∈B.cards∧(bB B.cards B.dead id).1.id=id:=by
 unfold bB at h ⊢
 cases e:B.cards.find? (fun c=>decide (c.id=id)) with
 | none=>rw[e] at h;simp only at h;split at h<;>cases h
 | some c=>exact⟨List.mem_of_find?_eq_some e,by simpa using List.find?_some e⟩
theorem Hq{B:BK}(hb:BkR B)(h3:B.gr.length≤1000000)(h4:∀g,g∈B.gr→g.mem.length≤1000000){m l q b f:Nat}(D:dM m l q b)(hf:f≠m∧f≠l∧f≠q∧f≠b){fl:List ND}(hp:cR fl=0)(d:Bool)(hd:B.dead.length≤1000000)(id:Int) :
  aA Tryz.prog 76 [.ptr b 0 0,.ptr f 0 0,.int .i64 id] (bfS m l q b B f fl d) (fun r σ'=>r=.tup [.agg (jG B fl id).1.c,.bool (jG B fl id).2]∧σ'=bfS m l q b B f fl (d || decide ((bB B.cards B.dead id).2=0))):=by
 have hgt:=G7 hd D [] id
 have hgr:=p8 B.sq l b B.gr h3 h4 hb.gok id
 obtain⟨f1,f2,f3,f4⟩:=hf
 have D':=D
 obtain⟨d1,d2,d3,d4,d5,d6⟩:=D
 have e1:=Ne.symm d1
 have e2:=Ne.symm d2
 have e3:=Ne.symm d3
 have e4:=Ne.symm d4
 have e5:=Ne.symm d5
 have e6:=Ne.symm d6
 have g1:=Ne.symm f1
 have g2:=Ne.symm f2
 have g3:=Ne.symm f3
 have g4:=Ne.symm f4
 refine aA.less (Q':=fun r σ'=>r=.tup [.agg (jG B fl id).1.c,.bool (jG B fl id).2]∧(bfS m l q b B f fl (d || decide ((bB B.cards B.dead id).2=0))).le σ') (mB 29 [.cell 6 126,.tmp 7] Tryz.func76 ?_) fun v σ' ⟨h1,h2⟩=>⟨_,h2,h1,rfl⟩
 have hz:=@MJ B id
 have hbf:bkS m l q b B [] f=none:=by simp only[aV];exact⟨f4,f3,f2,f1,rfl⟩
 obtain⟨g,hg⟩:∃g,bB B.cards B.dead id=g:=⟨_,rfl⟩
 unfold jG
 rw[hg] at hgt hz ⊢
 obtain⟨c,e⟩:=g
 obtain⟨d',hd'⟩:∃d',(d || decide ((c,e).2=0))=d':=⟨_,rfl⟩
 rw[hd']
 simp only at hgt hz hd' ⊢
 by_cases he:e=0
 ·subst he
  obtain rfl:true=d':=by rw[←hd'];simp
  obtain⟨hc,hid⟩:=hz rfl
  have hmt:=xR hp hb.gok (Dh hb hc).1 f d
  rw[hid] at hmt
  obtain⟨gg,hgg⟩:∃g:Int,(grB B.gr id:Int)=g:=⟨_,rfl⟩
  rw[hgg] at hmt hgr
  obtain⟨sb,hsb⟩:∃sb,eR B.gr fl c=sb:=⟨_,rfl⟩
  rw[hsb] at hmt ⊢
  obtain⟨DK,hDK,c1,c2⟩:∃DK:cD,PlU (.these [66]) DK∧(∀ms,DK 67 ms=some ⟨[b],fun v=>v=.int .u32 gg,none⟩)∧∀ms,DK 66 ms=some ⟨[f],fun _=>True,some ([flD fl true],fun _=>.bool sb)⟩ :=
   ⟨fnF [(67,⟨[b],fun v=>v=.int .u32 gg,none⟩),(66,⟨[f],fun _=>True,some ([flD fl true],fun _=>.bool sb)⟩)],LC,fun _=>fJ,fun _=>zX fJ⟩
  cases sb
  ·repeat' first|(refine b6 hgt (fun k o hk=>i6 (by simp only[aV];exact⟨by assumption,by assumption,by assumption,by assumption,by assumption,rfl⟩) k o (i6 hbf k o hk)) ?_)|(refine cB mixed [66] dK DK hDK ?_)|(refine FW [b] [bG B.sq l (.lst 2 (B.gr.map GR.c) false)] (c1 _) sS hgr ?_)|(refine iJ (c2 _) sS hmt ?_)|(refine wO ?_;intros)|refine wZ1 @FXs ?_|fail
   exact⟨rfl,fun k o hk=>i6 (by simp only[aV];exact⟨by assumption,by assumption,by assumption,by assumption,by assumption,by assumption,rfl⟩) k o (i6 (by simp only[aV];exact⟨by assumption,by assumption,by assumption,by assumption,by assumption,rfl⟩) k o hk)⟩
  ·repeat' first|(refine b6 hgt (fun k o hk=>i6 (by simp only[aV];exact⟨by assumption,by assumption,by assumption,by assumption,by assumption,rfl⟩) k o (i6 hbf k o hk)) ?_)|(refine cB mixed [66] dK DK hDK ?_)|(refine FW [b] [bG B.sq l (.lst 2 (B.gr.map GR.c) false)] (c1 _) sS hgr ?_)|(refine iJ (c2 _) sS hmt ?_)|(refine wO ?_;intros)|refine wZ1 @FXs ?_|fail
   exact(fun k o hk=>i6 (by simp only[aV];exact⟨by assumption,by assumption,by assumption,by assumption,by assumption,by assumption,rfl⟩) k o (i6 (by simp only[aV];exact⟨by assumption,by assumption,by assumption,by assumption,by assumption,rfl⟩) k o hk))
 ·clear hz
  obtain rfl:d=d':=by rw[←hd'];simp[he]
  obtain⟨DK,hDK⟩:∃DK:cD,PlU (.these [66]) DK:=⟨fnF [(67,⟨[b],fun v=>True,none⟩),(66,⟨[f],fun _=>True,some ([flD fl true],fun _=>.bool true)⟩)],LC⟩
  repeat' first|(refine b6 hgt (fun k o hk=>i6 (by simp only[aV];exact⟨by assumption,by assumption,by assumption,by assumption,by assumption,rfl⟩) k o (i6 hbf k o hk)) ?_)|(refine cB mixed [66] dK DK hDK ?_)|(refine wO ?_;intros)|refine wZ2 @FXs @he ?_|fail
  exact⟨rfl,fun k o hk=>i6 (by simp only[aV];exact⟨by assumption,by assumption,by assumption,by assumption,by assumption,by assumption,rfl⟩) k o (i6 (by simp only[aV];exact⟨by assumption,by assumption,by assumption,by assumption,by assumption,rfl⟩) k o hk)⟩
end
end Go.Proofs.YtppdgejjmhdjhaaGreatDoor
