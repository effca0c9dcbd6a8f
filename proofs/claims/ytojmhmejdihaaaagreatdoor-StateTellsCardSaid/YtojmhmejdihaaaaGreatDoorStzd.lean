/- Parts of the proof, joined; conditions: those that its theorems name. -/
import Derived.Test.YtojmhmejdihaaaaGreatDoorStzb
set_option linter.unusedVariables false
set_option linter.unusedSimpArgs false
set_option maxHeartbeats 4000000
namespace Go.Proofs.YtojmhmejdihaaaaGreatDoor
set_option maxRecDepth 100000
set_option maxHeartbeats 8000000
abbrev kpO(kl kb kr:Bool):bE:=.row 277 3 [[.bool kl,.bool kb,.bool kr]]
abbrev tkO(q n:Nat):bE:=.row 56 1 [[.vec 1 q 0 n]]
abbrev tkR(L:List Int)(ex:List (List MV)):bE:=.row 3 1 (L.map aR++ex)
def N7(x:Int)(b:Bool)(l q:Nat)(L L':List Int)(ex:List (List MV)):Prop :=
 aA Tryz.prog 266 [.int .i64 x,.bool b,.ptr l 0 0] ((St.none.set l (tkO q L.length)).set q (tkR L ex)) (fun v σ'=>v=.tup []∧∃q' ex',q'≠l∧σ'=(St.none.set l (tkO q' L'.length)).set q' (tkR L' ex'))
theorem sC(x:Int)(b:Bool){l q:Nat}(hql:q≠l)(L:List Int)(hL:L.length≤3000000)(ex:List (List MV)):N7 x b l q L (L++(if b=true then[x] else[])) ex:=by
 refine aA.less (Q':=fun v σ'=>v=.tup []∧∃q' ex',q'≠l∧((St.none.set l (tkO q' (L++(if b=true then[x] else[])).length)).set q' (tkR (L++(if b=true then[x] else[])) ex')).le σ') (aA.body 10 [] Tryz.func266 rfl rfl rfl rfl ?_) fun v σ' ⟨h1,q',ex',h2,h3⟩=>⟨_,h3,h1,q',ex',h2,rfl⟩
 have hlq:=Ne.symm hql
 cases b
 ·simp only[Bool.false_eq_true,if_false,List.append_nil]
  repeat' (first|(with_reducible first|(refine wT ?_;(first|((fail_if_success (have:=nl1));refine wN fun nl1 hnl=>?_)|((fail_if_success (have:=nl2));refine wN fun nl2 hnl=>?_)|refine wN fun _ hnl=>?_);revert hnl;(repeat refine wS fun _ _=>?_);intro hnl)|refine wE ?_|(refine wK ?_ ?_<;>intro h)|(refine wB ?_ ?_<;>intro h<;>simp only[h]))|simp(maxSteps:=4000000) (disch:=first|exact ddL|fail) only[go_sem,simprocAttr,Tryz.f266])
  all_goals exact⟨q,ex,hql,St.le_refl _⟩
 ·simp only[if_true,List.length_append,List.length_singleton]
  have hLm:(L.map aR).length=L.length:=List.length_map _
  obtain⟨n,hn⟩:∃n,L.length=n:=⟨_,rfl⟩
  have hdr:(L.map aR++ex).drop (n+1)=ex.drop 1:=by rw[←hn];exact kS
  have htk':(L.map aR++ex).take n=L.map aR:=by rw[←hn];exact j8
  have hfin:∀{σ:St} {q':Nat} {ex':List (List MV)},q'≠l→σ l=some (tkO q' (n+1))→σ q'=some (tkR (L++[x]) ex')→∃q' ex',¬q'=l∧((St.none.set l (tkO q' (n+1))).set q' (tkR (L++[x]) ex')).le σ:=fun h1 h2 h3=>⟨_,_,h1,le2 h2 h3⟩
  rw[hn] at hLm ⊢
  repeat' (first|(with_reducible first|(refine wT ?_;(first|((fail_if_success (have:=nl1));refine wN fun nl1 hnl=>?_)|((fail_if_success (have:=nl2));refine wN fun nl2 hnl=>?_)|refine wN fun _ hnl=>?_);revert hnl;(repeat refine wS fun _ _=>?_);intro hnl)|refine wE ?_|(refine wK ?_ ?_<;>intro h)|(refine wB ?_ ?_<;>intro h<;>simp only[h]))|simp(maxSteps:=4000000) (disch:=first|exact ddL|fail) only[go_sem,simprocAttr,Tryz.f266,FYs,htk',hdr,hLm])
  all_goals
   have d1:nl2≠l:=by assumption
   have d2:=Ne.symm d1
  ·have hex:ex=[]:=List.eq_nil_of_length_eq_zero (by omega)
   subst hex
   clear h
   exact hfin (ex':=[]) d1 (by simp[St.set, *]) (by simp[St.set, *])
  ·exact hfin (ex':=ex.drop 1) d1 (by simp[St.set, *]) (by simp[St.set, *])
end Go.Proofs.YtojmhmejdihaaaaGreatDoor
