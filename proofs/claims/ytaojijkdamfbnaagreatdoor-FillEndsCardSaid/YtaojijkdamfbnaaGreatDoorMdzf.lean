/- Parts of the proof, joined; conditions: those that its theorems name. -/
import Derived.Test.YtaojijkdamfbnaaGreatDoorMdzd
set_option linter.unusedVariables false
set_option linter.unusedSimpArgs false
set_option maxHeartbeats 4000000
namespace Go.Proofs.YtaojijkdamfbnaaGreatDoor
section
set_option maxRecDepth 100000
set_option maxHeartbeats 8000000
theorem Hd(b f:Nat):aA Tryz.prog 52 [.ptr b 0 0,.ptr f 0 0] St.none (fun v σ'=>∃m l,l≠m∧v=.fn (.func 95) [] [.ptr m 0 0,.ptr l 0 0]∧σ'=(St.none.set m (.row 33 1 [[.ptr b 0 0]])).set l (.row 36 1 [[.ptr f 0 0]])):=by
 refine(aA.body 6 [.tmp 4] Tryz.func52 rfl rfl rfl rfl ?_)
 repeat' (first|(with_reducible first|(refine wN fun _ hnl=>?_;revert hnl;(repeat refine wS fun _ _=>?_);intro hnl)|refine wE ?_|(refine wK ?_ ?_<;>intro h)|(refine wB ?_ ?_<;>intro h<;>simp only[h]))|simp(maxSteps:=4000000) (disch:=first|exact ddL|fail) only[go_sem,simprocAttr,Tryz.f52])
 all_goals exact⟨_,_,by assumption,rfl,rfl⟩
end

section
set_option maxRecDepth 100000
set_option maxHeartbeats 8000000
def Small(p:Prop)(r:MV):Prop:=∃b:Bool,r=.bool b∧(b=false→p)
theorem rU{p:Prop}:Small p (.bool true):=⟨true,rfl,fun h=>by cases h⟩
theorem E9{p:Prop}(h:p):Small p (.bool false):=⟨false,rfl,fun _=>h⟩
theorem Kg(l:List GR)(tt:Bool):aA Tryz.prog 65 [.lst 2 (l.map GR.c) tt] St.none (fun r _=>Small (l.length≤1000000∧∀g,g∈l→g.mem.length≤1000000) r):=by
 refine aA.cP (aA.body 20 [.tmp 2] Tryz.func65 rfl rfl rfl rfl ?_)
 repeat' (first|(with_reducible first|(refine wN fun _ hnl=>?_;revert hnl;(repeat refine wS fun _ _=>?_);intro hnl)|refine wE ?_|(refine wK ?_ ?_<;>intro h)|(refine wB ?_ ?_<;>intro h<;>simp only[h]))|simp(maxSteps:=4000000) (disch:=first|exact ddL|fail) only[go_sem,simprocAttr,Tryz.f65])
 all_goals first|exact⟨_,St.le_refl _,rU⟩|skip
 refine aG (α:=Nat) (fun i=>⟨20,[(3,.int .i64 (i:Int)),(0,.lst 2 (l.map GR.c) tt)],[]⟩) (fun _=>St.none) (fun i=>i≤l.length∧∀g,g∈l.take i→g.mem.length≤1000000) (fun i=>l.length - i) (.of (.less ?_ (St.le_refl _)) ⟨0,rfl,rfl,Nat.zero_le _,by simp⟩) ?_
 ·simp(maxSteps:=4000000) (disch:=first|exact ddL|fail) only[go_sem,simprocAttr,aC,aB]
  all_goals first|rfl|(simp;done)
 ·rintro i ⟨hi,hq⟩
  by_cases hlt:i<l.length
  ·obtain⟨x,hx⟩:=bN l hlt
   have hat:=bK (f:=GR.c) hx
   repeat' (first|(with_reducible first|(refine wN fun _ hnl=>?_;revert hnl;(repeat refine wS fun _ _=>?_);intro hnl)|refine wE ?_|(refine wK ?_ ?_<;>intro h)|(refine wB ?_ ?_<;>intro h<;>simp only[h]))|simp(maxSteps:=4000000) (disch:=first|exact ddL|fail) only[go_sem,simprocAttr,hat])
   all_goals first|exact⟨_,St.le_refl _,rU⟩|skip
   all_goals (try (exfalso;omega))
   all_goals
    refine .of (.less ?_ (St.le_refl _)) ⟨i+1,rfl,rfl,⟨by omega,fun g hg=>?_⟩,by omega⟩
    ·simp(maxSteps:=4000000) (disch:=first|exact ddL|fail) only[go_sem,simprocAttr,aC,aB]
     all_goals first|rfl|(simp;done)
    ·rw[bB hx,List.mem_append,List.mem_singleton] at hg
     rcases hg with hg|rfl
     ·exact hq g hg
     ·omega
  ·have:i=l.length:=by omega
   subst this
   rw[List.take_length] at hq
   repeat' (first|(with_reducible first|(refine wN fun _ hnl=>?_;revert hnl;(repeat refine wS fun _ _=>?_);intro hnl)|refine wE ?_|(refine wK ?_ ?_<;>intro h)|(refine wB ?_ ?_<;>intro h<;>simp only[h]))|simp(maxSteps:=4000000) (disch:=first|exact ddL|fail) only[go_sem,simprocAttr])
   all_goals exact⟨_,St.le_refl _,E9 ⟨by omega,hq⟩⟩
theorem Kb(B:BK):aA Tryz.prog 35 [.agg B.c] St.none (fun r _=>Small (B.cards.length≤60∧B.dead.length≤60∧B.gr.length≤1000000∧∀g,g∈B.gr→g.mem.length≤1000000) r):=by
 refine aA.cP (aA.body 33 [.tmp 2] Tryz.func35 rfl rfl rfl rfl ?_)
 have hg:=Kg B.gr false
 repeat' (first|((refine hE hg ?_;rintro _ ⟨gb,rfl,hgb⟩))|(with_reducible first|(refine wT ?_;(first|((fail_if_success (have:=nl1));refine wN fun nl1 hnl=>?_)|refine wN fun _ hnl=>?_);revert hnl;(repeat refine wS fun _ _=>?_);intro hnl)|refine wE ?_|(refine wK ?_ ?_<;>intro h)|(refine wB ?_ ?_<;>intro h<;>simp only[h]))|simp(maxSteps:=4000000) (disch:=first|exact ddL|fail) only[go_sem,simprocAttr,Tryz.f35])
 all_goals first|exact⟨_,St.le_refl _,rU⟩|skip
 all_goals (try (exfalso;omega))
 all_goals
  refine aG (α:=Nat) (fun i=>⟨33,[(3,.int .i64 (i:Int)),(1,.ptr nl1 0 0)],[]⟩) (fun _=>St.none.set nl1 (.row 26 5 [B.c])) (fun i=>i≤B.cards.length) (fun i=>B.cards.length - i) (.of (.less ?_ (St.le_refl _)) ⟨0,rfl,rfl,Nat.zero_le _⟩) ?_
  ·simp(maxSteps:=4000000) (disch:=first|exact ddL|fail) only[go_sem,simprocAttr,aC,aB]
   all_goals first|rfl|(simp;done)
  ·intro i hi
   have hi:i≤B.cards.length:=hi
   by_cases hlt:i<B.cards.length
   ·obtain⟨x,hx⟩:=bN B.cards hlt
    have hat:=bK (f:=CA.c) hx
    have hc:=zP x.f
    repeat' (first|(with_reducible first|refine up hc ?_)|(with_reducible first|(refine wT ?_;(first|((fail_if_success (have:=nl1));refine wN fun nl1 hnl=>?_)|refine wN fun _ hnl=>?_);revert hnl;(repeat refine wS fun _ _=>?_);intro hnl)|refine wE ?_|(refine wK ?_ ?_<;>intro h)|(refine wB ?_ ?_<;>intro h<;>simp only[h]))|simp(maxSteps:=4000000) (disch:=first|exact ddL|fail) only[go_sem,simprocAttr,FXs,hat])
    all_goals first|exact⟨_,St.le_refl _,rU⟩|skip
    all_goals (try (exfalso;omega))
    all_goals
     refine .of (.less ?_ (St.le_refl _)) ⟨i+1,rfl,rfl,(by omega:i+1≤B.cards.length),by omega⟩
     simp(maxSteps:=4000000) (disch:=first|exact ddL|fail) only[go_sem,simprocAttr,aC,aB]
     all_goals first|rfl|(simp;done)
   ·have:i=B.cards.length:=by omega
    subst this
    repeat' (first|(with_reducible first|(refine wT ?_;(first|((fail_if_success (have:=nl1));refine wN fun nl1 hnl=>?_)|refine wN fun _ hnl=>?_);revert hnl;(repeat refine wS fun _ _=>?_);intro hnl)|refine wE ?_|(refine wK ?_ ?_<;>intro h)|(refine wB ?_ ?_<;>intro h<;>simp only[h]))|simp(maxSteps:=4000000) (disch:=first|exact ddL|fail) only[go_sem,simprocAttr])
    all_goals exact⟨_,St.le_refl _,E9 ⟨by omega,by omega,hgb (by simp_all)⟩⟩
end

section
set_option maxRecDepth 100000
set_option maxHeartbeats 8000000
theorem Fp{B:BK}(h1:B.cards.length≤1000000)(h2:B.dead.length≤1000000)(h3:B.gr.length≤1000000)(h4:∀g,g∈B.gr→g.mem.length≤1000000)(h:j6 B=true) :
  aA Tryz.prog 11 [.agg B.c] St.none (fun v σ'=>∃m l q b ex,nA m l q b∧v=.tup [.ptr b 0 0,.bool true]∧σ'=bkS m l q b B ex) :=
 (Al B h1 h2 h3 h4).mono fun v σ' q=>by
  rcases q with⟨_,q⟩|⟨q,_⟩
  ·exact q
  ·rw[h] at q;cases q
end

section
open Go.ChangeShapes Go.WideShapes Go.RowKit
set_option maxRecDepth 100000
theorem Nw{n:Nat}{x:List MV}(h:CT Tryz.prog (n+2) 46 x):∃l:List Int,x=[.lst 1 (l.map aW) false]:=by
 obtain⟨xs,hm,_,hx⟩:=lS (by rw[MP]) h
 obtain⟨l,rfl⟩:=l3 (f:=aW) fun x hx'=>(o5 (hx x hx')).imp fun _ h=>h.1
 rw[td3] at hm
 exact⟨l,hm⟩
theorem Mz{n:Nat}{x:List MV}(h:CT Tryz.prog (n+5) 22 x):∃l:List CA,x=[.lst 27 (l.map CA.c) false]:=by
 obtain⟨xs,hm,_,hx⟩:=lS (by rw[ML]) h
 obtain⟨l,rfl⟩:=l3 fun x hx'=>Nu (hx x hx')
 rw[J1] at hm
 exact⟨l,hm⟩
theorem Nv{n:Nat}{x:List MV}(h:CT Tryz.prog (n+2) 90 x):∃d:DE,x=d.c:=by
 obtain⟨hl,hf⟩:=gR (congrArg TD.k LG) h
 rw[LG] at hl
 obtain⟨a,ha,_⟩:=o5 (hf (0,3) (by simp))
 obtain⟨b,hb,_⟩:=o5 (hf (1,3) (by simp))
 obtain⟨c,hc,_⟩:=o5 (hf (2,3) (by simp))
 simp only[td3] at ha hb hc
 refine⟨⟨a,b,c⟩,?_⟩
 rw[j5 hl [(0,1),(1,1),(2,1)] rfl]
 simp only[qE,ha,hb,hc]
 rfl
theorem MA{n:Nat}{x:List MV}(h:CT Tryz.prog (n+3) 23 x):∃l:List DE,x=[.lst 3 (l.map DE.c) false]:=by
 obtain⟨xs,hm,_,hx⟩:=lS (by rw[MM]) h
 obtain⟨l,rfl⟩:=l3 fun x hx'=>Nv (hx x hx')
 rw[LG] at hm
 exact⟨l,hm⟩
theorem MB{n:Nat}{x:List MV}(h:CT Tryz.prog (n+3) 94 x):∃g:GR,x=g.c:=by
 obtain⟨hl,hf⟩:=gR (congrArg TD.k LH) h
 rw[LH] at hl
 obtain⟨a,ha,_⟩:=o5 (hf (0,3) (by simp))
 obtain⟨b,hb⟩:=Nw (hf (1,46) (by simp))
 simp only[td3,MP] at ha hb
 refine⟨⟨a,b⟩,?_⟩
 rw[j5 hl [(0,1),(1,1)] rfl]
 simp only[qE,ha,hb]
 rfl
theorem Ln{n:Nat}{x:List MV}(h:CT Tryz.prog (n+4) 24 x):∃l:List GR,x=[.lst 2 (l.map GR.c) false]:=by
 obtain⟨xs,hm,_,hx⟩:=lS (by rw[MN]) h
 obtain⟨l,rfl⟩:=l3 fun x hx'=>MB (hx x hx')
 rw[LH] at hm
 exact⟨l,hm⟩
theorem Nt{n:Nat}{x:List MV}(h:CT Tryz.prog (n+6) 26 x):∃b:BK,x=b.c:=by
 obtain⟨hl,hf⟩:=gR (congrArg TD.k LC) h
 rw[LC] at hl
 obtain⟨a,ha,_⟩:=o5 (hf (0,3) (by simp))
 obtain⟨b,hb,_⟩:=o5 (hf (1,3) (by simp))
 obtain⟨c,hc⟩:=Mz (hf (2,22) (by simp))
 obtain⟨d,hd⟩:=MA (hf (3,23) (by simp))
 obtain⟨g,hg⟩:=Ln (hf (4,24) (by simp))
 simp only[td3,ML,MM,MN] at ha hb hc hd hg
 refine⟨⟨a,b,c,d,g⟩,?_⟩
 rw[j5 hl [(0,1),(1,1),(2,1),(3,1),(4,1)] rfl]
 simp only[qE,ha,hb,hc,hd,hg]
 rfl
end
end Go.Proofs.YtaojijkdamfbnaaGreatDoor
