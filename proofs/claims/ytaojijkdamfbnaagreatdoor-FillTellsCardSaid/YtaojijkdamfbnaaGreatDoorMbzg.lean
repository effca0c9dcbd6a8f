/- Parts of the proof, joined; conditions: those that its theorems name. -/
import Derived.Test.YtaojijkdamfbnaaGreatDoorMbze
import Derived.Test.YtaojijkdamfbnaaGreatDoorMbzf
set_option linter.unusedVariables false
set_option linter.unusedSimpArgs false
set_option maxHeartbeats 4000000
namespace Go.Proofs.YtaojijkdamfbnaaGreatDoor
section
set_option maxRecDepth 100000
set_option maxHeartbeats 8000000
def Small(p:Prop)(r:MV):Prop:=∃b:Bool,r=.bool b∧(b=false→p)
theorem rZ{p:Prop}:Small p (.bool true):=⟨true,rfl,fun h=>by cases h⟩
theorem E5{p:Prop}(h:p):Small p (.bool false):=⟨false,rfl,fun _=>h⟩
theorem Kf(l:List GR)(tt:Bool):aA Tryz.prog 65 [.lst 2 (l.map GR.c) tt] St.none (fun r _=>Small (l.length≤1000000∧∀g,g∈l→g.mem.length≤1000000) r):=by
 refine aA.cU (aA.body 20 [.tmp 2] Tryz.func65 rfl rfl rfl rfl ?_)
 repeat' (first|(with_reducible first|(refine wN fun _ hnl=>?_;revert hnl;(repeat refine wS fun _ _=>?_);intro hnl)|refine wE ?_|(refine wK ?_ ?_<;>intro h)|(refine wB ?_ ?_<;>intro h<;>simp only[h]))|simp(maxSteps:=4000000) (disch:=first|exact ddL|fail) only[go_sem,simprocAttr,Tryz.f65])
 all_goals first|exact⟨_,St.le_refl _,rZ⟩|skip
 refine aG (α:=Nat) (fun i=>⟨20,[(3,.int .i64 (i:Int)),(0,.lst 2 (l.map GR.c) tt)],[]⟩) (fun _=>St.none) (fun i=>i≤l.length∧∀g,g∈l.take i→g.mem.length≤1000000) (fun i=>l.length - i) (.of (.less ?_ (St.le_refl _)) ⟨0,rfl,rfl,Nat.zero_le _,by simp⟩) ?_
 ·simp(maxSteps:=4000000) (disch:=first|exact ddL|fail) only[go_sem,simprocAttr,aC,aB]
  all_goals first|rfl|(simp;done)
 ·rintro i ⟨hi,hq⟩
  by_cases hlt:i<l.length
  ·obtain⟨x,hx⟩:=bL l hlt
   have hat:=bI (f:=GR.c) hx
   repeat' (first|(with_reducible first|(refine wN fun _ hnl=>?_;revert hnl;(repeat refine wS fun _ _=>?_);intro hnl)|refine wE ?_|(refine wK ?_ ?_<;>intro h)|(refine wB ?_ ?_<;>intro h<;>simp only[h]))|simp(maxSteps:=4000000) (disch:=first|exact ddL|fail) only[go_sem,simprocAttr,hat])
   all_goals first|exact⟨_,St.le_refl _,rZ⟩|skip
   all_goals (try (exfalso;omega))
   all_goals
    refine .of (.less ?_ (St.le_refl _)) ⟨i+1,rfl,rfl,⟨by omega,fun g hg=>?_⟩,by omega⟩
    ·simp(maxSteps:=4000000) (disch:=first|exact ddL|fail) only[go_sem,simprocAttr,aC,aB]
     all_goals first|rfl|(simp;done)
    ·rw[bA hx,List.mem_append,List.mem_singleton] at hg
     rcases hg with hg|rfl
     ·exact hq g hg
     ·omega
  ·have:i=l.length:=by omega
   subst this
   rw[List.take_length] at hq
   repeat' (first|(with_reducible first|(refine wN fun _ hnl=>?_;revert hnl;(repeat refine wS fun _ _=>?_);intro hnl)|refine wE ?_|(refine wK ?_ ?_<;>intro h)|(refine wB ?_ ?_<;>intro h<;>simp only[h]))|simp(maxSteps:=4000000) (disch:=first|exact ddL|fail) only[go_sem,simprocAttr])
   all_goals exact⟨_,St.le_refl _,E5 ⟨by omega,hq⟩⟩
theorem Ka(B:BK):aA Tryz.prog 35 [.agg B.c] St.none (fun r _=>Small (B.cards.length≤60∧B.dead.length≤60∧B.gr.length≤1000000∧∀g,g∈B.gr→g.mem.length≤1000000) r):=by
 refine aA.cU (aA.body 33 [.tmp 2] Tryz.func35 rfl rfl rfl rfl ?_)
 have hg:=Kf B.gr false
 repeat' (first|((refine kL hg ?_;rintro _ ⟨gb,rfl,hgb⟩))|(with_reducible first|(refine wT ?_;(first|((fail_if_success (have:=nl1));refine wN fun nl1 hnl=>?_)|refine wN fun _ hnl=>?_);revert hnl;(repeat refine wS fun _ _=>?_);intro hnl)|refine wE ?_|(refine wK ?_ ?_<;>intro h)|(refine wB ?_ ?_<;>intro h<;>simp only[h]))|simp(maxSteps:=4000000) (disch:=first|exact ddL|fail) only[go_sem,simprocAttr,Tryz.f35])
 all_goals first|exact⟨_,St.le_refl _,rZ⟩|skip
 all_goals (try (exfalso;omega))
 all_goals
  refine aG (α:=Nat) (fun i=>⟨33,[(3,.int .i64 (i:Int)),(1,.ptr nl1 0 0)],[]⟩) (fun _=>St.none.set nl1 (.row 26 5 [B.c])) (fun i=>i≤B.cards.length) (fun i=>B.cards.length - i) (.of (.less ?_ (St.le_refl _)) ⟨0,rfl,rfl,Nat.zero_le _⟩) ?_
  ·simp(maxSteps:=4000000) (disch:=first|exact ddL|fail) only[go_sem,simprocAttr,aC,aB]
   all_goals first|rfl|(simp;done)
  ·intro i hi
   have hi:i≤B.cards.length:=hi
   by_cases hlt:i<B.cards.length
   ·obtain⟨x,hx⟩:=bL B.cards hlt
    have hat:=bI (f:=CA.c) hx
    have hc:=zM x.f
    repeat' (first|(with_reducible first|refine up hc ?_)|(with_reducible first|(refine wT ?_;(first|((fail_if_success (have:=nl1));refine wN fun nl1 hnl=>?_)|refine wN fun _ hnl=>?_);revert hnl;(repeat refine wS fun _ _=>?_);intro hnl)|refine wE ?_|(refine wK ?_ ?_<;>intro h)|(refine wB ?_ ?_<;>intro h<;>simp only[h]))|simp(maxSteps:=4000000) (disch:=first|exact ddL|fail) only[go_sem,simprocAttr,FXs,hat])
    all_goals first|exact⟨_,St.le_refl _,rZ⟩|skip
    all_goals (try (exfalso;omega))
    all_goals
     refine .of (.less ?_ (St.le_refl _)) ⟨i+1,rfl,rfl,(by omega:i+1≤B.cards.length),by omega⟩
     simp(maxSteps:=4000000) (disch:=first|exact ddL|fail) only[go_sem,simprocAttr,aC,aB]
     all_goals first|rfl|(simp;done)
   ·have:i=B.cards.length:=by omega
    subst this
    repeat' (first|(with_reducible first|(refine wT ?_;(first|((fail_if_success (have:=nl1));refine wN fun nl1 hnl=>?_)|refine wN fun _ hnl=>?_);revert hnl;(repeat refine wS fun _ _=>?_);intro hnl)|refine wE ?_|(refine wK ?_ ?_<;>intro h)|(refine wB ?_ ?_<;>intro h<;>simp only[h]))|simp(maxSteps:=4000000) (disch:=first|exact ddL|fail) only[go_sem,simprocAttr])
    all_goals exact⟨_,St.le_refl _,E5 ⟨by omega,by omega,hgb (by simp_all)⟩⟩
end

section
open Go.ChangeShapes Go.WideShapes Go.RowKit
set_option maxRecDepth 100000
theorem F4:(Rows.fillTellsRow.inPlace==PC.inPlace 7)=true:=by kernel_rfl
theorem sX:(Rows.fillTellsRow.unfollowed==PC.unfollowed 7)=true:=by kernel_rfl
theorem yM:(Rows.fillTellsRow.recurses==PC.recurses 7)=true:=by kernel_rfl
theorem F3:(Rows.fillTellsRow.named==PC.varsNamed 7)=true:=by kernel_rfl
theorem AR:PC.funcNamed "offprint/offprintlaw27.FillTells" = some 7:=by kernel_rfl
end
end Go.Proofs.YtaojijkdamfbnaaGreatDoor
