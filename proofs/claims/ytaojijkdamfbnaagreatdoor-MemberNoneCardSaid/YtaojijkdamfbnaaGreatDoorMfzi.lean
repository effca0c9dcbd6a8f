/- Parts of the proof, joined; conditions: those that its theorems name. -/
import Derived.Test.YtaojijkdamfbnaaGreatDoorMfzg
set_option linter.unusedVariables false
set_option linter.unusedSimpArgs false
set_option maxHeartbeats 4000000
namespace Go.Proofs.YtaojijkdamfbnaaGreatDoor
section
set_option maxRecDepth 100000
set_option maxHeartbeats 8000000
theorem Fx{B:BK}(h1:B.cards.length≤1000000)(h2:B.dead.length≤1000000)(h3:B.gr.length≤1000000)(h4:∀g,g∈B.gr→g.mem.length≤1000000)(h:j6 B=true) :
  aA Tryz.prog 11 [.agg B.c] St.none (fun v σ'=>∃m l q b ex,jP m l q b∧v=.tup [.ptr b 0 0,.bool true]∧σ'=bkS m l q b B ex) :=
 (Ao B h1 h2 h3 h4).mono fun v σ' q=>by
  rcases q with⟨_,q⟩|⟨q,_⟩
  ·exact q
  ·rw[h] at q;cases q
end

section
set_option maxRecDepth 100000
set_option maxHeartbeats 8000000
theorem M7{P:Program}{g:FuncId}{ms:List MV}{σ:St}{o:aV}{u:Nat→MV}{k:MV→St→Prop}(h:aA P g ms σ fun v σ'=>∃q,v=u q∧σ'=St.none.set q o)(hk:∀q,R (bR (u q) (St.none.set q o) k)):R (cX P g ms σ k) :=
 h.mono fun v σ' ⟨q,hv,hσ⟩=>by subst hv;subst hσ;exact hk q
theorem bD.Lt{v:MV}{q:Nat}{t:TypeId}{e:Nat}(pre post:List MV)(e':Nat)(tr:Bool):bD ⟨1,[(0,v)],[]⟩ (St.none.set q (.row t e [pre++.bC::post])) ⟨1,[(0,v)],[]⟩ (St.none.set q (.row t e [pre++.lst e' [] tr::post])):=by
 refine bD.sP St.none (St.none_le _) (fun k o1 hk=>?_) (fun k o hk=>rfl) (fun p hp=>by simp at hp;subst hp;exact .same _)
 by_cases e1:k=q
 ·subst e1
  rw[aF] at hk
  cases hk
  refine⟨_,aF _ _ _,.inr ⟨t,e,_,_,rfl,rfl,rfl,fun i x x1 hx hx1=>?_⟩⟩
  match i with
  | 0 =>
   simp only[List.getElem?_cons_zero,Option.some.injEq] at hx hx1
   subst hx hx1
   refine⟨by simp,fun j a b ha hb=>?_⟩
   by_cases hj:j<pre.length
   ·rw[List.getElem?_append_left hj] at ha hb
    rw[ha] at hb;cases hb
    exact .inl rfl
   ·rw[List.getElem?_append_right (by omega)] at ha hb
    match hk:j - pre.length with
    | 0 =>
     rw[hk] at ha hb
     simp only[List.getElem?_cons_zero,Option.some.injEq] at ha hb
     subst ha hb
     exact .inr ⟨rfl,.nil _ _⟩
    | k+1 =>
     rw[hk] at ha hb
     simp only[List.getElem?_cons_succ] at ha hb
     rw[ha] at hb;cases hb
     exact .inl rfl
  | i+1=>simp at hx
 ·exact absurd hk (by rw[aG _ _ _ _ e1];exact fun h=>by cases h)
theorem xX{σ:St}{a b a':MV}(h:View σ a a'):View σ (.tup [a,b]) (.tup [a',b]):=.tup rfl fun i m m' hm hm'=>by
 match i with
 | 0=>simp at hm hm';subst hm;subst hm';exact h
 | 1=>simp at hm hm';subst hm;subst hm';exact .same _
 | i+2=>simp at hm
theorem D9(x:Int)(h1:1≤x)(h2:x<1073741824)(t:Bool):aA Tryz.prog 155 [.lst 1 [] t,.int .i64 x] St.none (fun r _=>r=.lst 1 [aJ x] false):=by
 refine aA.cI (aA.body 30 [.tmp 4] Tryz.func155 rfl rfl rfl rfl ?_)
 have hb:=tT [] (Nat.zero_le _) List.Pairwise.nil x t
 have hc:=u6 1 t true
 simp only[List.map_nil,List.not_mem_nil,decide_false,cM,List.filter_nil,List.length_nil] at hb
 repeat' (first|(refine aK hb ?_)|(refine aK hc ?_)|(with_reducible first|(refine wN fun _ hnl=>?_;revert hnl;(repeat refine wS fun _ _=>?_);intro hnl)|refine wE ?_|(refine wK ?_ ?_<;>intro h)|(refine wB ?_ ?_<;>intro h<;>simp only[h]))|simp(maxSteps:=4000000) (disch:=first|exact ddL|fail) only[go_sem,simprocAttr,Tryz.f155])
 refine eU (D6 x) ?_
 repeat' (first|(with_reducible first|(refine wN fun _ hnl=>?_;revert hnl;(repeat refine wS fun _ _=>?_);intro hnl)|refine wE ?_|(refine wK ?_ ?_<;>intro h)|(refine wB ?_ ?_<;>intro h<;>simp only[h]))|simp(maxSteps:=4000000) (disch:=first|exact ddL|fail) only[go_sem,simprocAttr])
 all_goals first|exact⟨_,St.le_refl _,rfl⟩|exact⟨_,St.le_refl _⟩
theorem BU(g:Int)(h1:0≤g)(h2:g<16)(t:Bool):aA Tryz.prog 114 [.lst 2 [] t,.int .i64 g] St.none (fun r _=>r=.tup [.lst 2 [(GR.mk g []).c] false,.int .i64 0]):=by
 refine aA.gh (aA.body 28 [.tmp 4,.tmp 5] Tryz.func114 rfl rfl rfl rfl ?_)
 have hb:=tU [] (Nat.zero_le _) List.Pairwise.nil g t
 have hc:=vS t true
 simp only[List.map_nil,List.not_mem_nil,decide_false,cM,List.filter_nil,List.length_nil] at hb
 repeat' (first|(refine aK hb ?_)|(refine aK hc ?_)|(with_reducible first|(refine wN fun _ hnl=>?_;revert hnl;(repeat refine wS fun _ _=>?_);intro hnl)|refine wE ?_|(refine wK ?_ ?_<;>intro h)|(refine wB ?_ ?_<;>intro h<;>simp only[h]))|simp(maxSteps:=4000000) (disch:=first|exact ddL|fail) only[go_sem,simprocAttr,Tryz.f114])
 refine M7 (D5 _ ⟨_,rfl⟩) fun q=>?_
 repeat' (first|(with_reducible first|(refine wN fun _ hnl=>?_;revert hnl;(repeat refine wS fun _ _=>?_);intro hnl)|refine wE ?_|(refine wK ?_ ?_<;>intro h)|(refine wB ?_ ?_<;>intro h<;>simp only[h]))|simp(maxSteps:=4000000) (disch:=first|exact ddL|fail) only[go_sem,simprocAttr])
 refine .step (bD.Lt [.int .i64 g] [] 1 false) (.of (bD.freeze (l1:=[(0,.tup [.lst 2 [(GR.mk g []).c] false,.int .i64 0])]) (St.none.set q (.row 94 2 [(GR.mk g []).c])) (St.le_refl _) (St.none_le _) (fun k o hk=>by cases hk) (fun p hp=>?_)) ⟨_,rfl,rfl⟩)
 simp only[List.mem_singleton] at hp
 subst hp
 exact xX (View.vecAll (aF _ _ _) rfl)
end

section
set_option maxRecDepth 100000
theorem oset{n:Nat}{x:List MV}(h:CT Tryz.prog (n+7) 30 x):∃s:SET,x=s.c:=by
 obtain⟨hl,hf⟩:=gO (congrArg TD.k LR) h
 rw[LR] at hl
 obtain⟨b,hb⟩:=NH (hf (0,26) (by simp))
 obtain⟨l,hh⟩:=MP (hf (5,27) (by simp))
 obtain⟨u,hu⟩:=NM (hf (6,28) (by simp))
 obtain⟨a,ha,_⟩:=o8 (hf (7,3) (by simp))
 simp only[LQ,M4,Ek,td3] at hb hh hu ha
 refine⟨⟨b,l,u,a⟩,?_⟩
 rw[j5 hl [(0,5),(5,1),(6,1),(7,1)] rfl]
 simp only[qL,hb,hh,hu,ha]
 rfl
theorem Oh{m:MV}(h:AT Tryz.prog 10 30 m):∃s:SET,m=.agg s.c:=by
 obtain⟨cs,rfl,h1⟩:=Mr (by rw[LR];rfl) h
 obtain⟨x,rfl⟩:=oset (n:=3) h1
 exact⟨x,rfl⟩
end

section
set_option maxRecDepth 100000
theorem Mq{m:MV}(h:AT Tryz.prog 10 22 m):∃l:List CA,m=.lst 27 (l.map CA.c) false:=by
 obtain⟨l,hl⟩:=JB (n:=5) (Kv (by rw[LP];rfl) h)
 exact⟨l,Kx hl⟩
end

section
open Go.ChangeShapes Go.WideShapes Go.RowKit
set_option maxRecDepth 100000
theorem Gd:(Rows.memberNoneRow.inPlace==PC.inPlace 5)=true:=by kernel_rfl
theorem sX:(Rows.memberNoneRow.unfollowed==PC.unfollowed 5)=true:=by kernel_rfl
theorem yT:(Rows.memberNoneRow.recurses==PC.recurses 5)=true:=by kernel_rfl
theorem Gc:(Rows.memberNoneRow.named==PC.varsNamed 5)=true:=by kernel_rfl
theorem A5:PC.funcNamed "offprint/offprintlaw22.MemberNone" = some 5:=by kernel_rfl
end
end Go.Proofs.YtaojijkdamfbnaaGreatDoor
