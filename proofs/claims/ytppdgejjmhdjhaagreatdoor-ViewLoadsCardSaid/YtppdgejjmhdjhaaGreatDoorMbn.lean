/- Parts of the proof, joined; conditions: those that its theorems name. -/
import Derived.Test.YtppdgejjmhdjhaaGreatDoorMbm
import Derived.OpenShut
import Derived.ChangeSame
import Derived.Carry
import Derived.RowKit
import Derived.JoinedOf
import Derived.JoinedAt
import Derived.Shelf.Strings.Shaped
import Derived.Test.YtppdgejjmhdjhaaGreatDoorRows
import Derived.Conc.MuLone
import Derived.Conc.MuLib
import Derived.KernelRfl
set_option linter.unusedVariables false
set_option linter.unusedSimpArgs false
set_option maxHeartbeats 4000000
namespace Go.Proofs.YtppdgejjmhdjhaaGreatDoor
section
theorem GX{α:Type}(D ex Y:List α)(m y:Nat)(h1:D.length=m)(h2:Y.length=y):List.take m (D++ex)++Y++List.drop (m+y) (D++ex)=(D++Y)++ex.drop y:=by
 subst h1 h2
 rw[List.take_left,List.drop_append,List.drop_eq_nil_of_le (by omega),List.nil_append,Nat.add_sub_cancel_left]
abbrev T.kl(t:T):List (List MV):=t.kids.map fun k=>[.lst 5 (k.fl.map ND.c) false]
theorem MO{t:T}(h:t.ok){i:Nat}(hi:i<t.kids.length) :
  gD t.fl ((1+((t.kids.take i).map T.fl).flatten.length:Nat):Int)=((1+((t.kids.take (i+1)).map T.fl).flatten.length:Nat):Int) ∧
  (t.fl.take (1+((t.kids.take (i+1)).map T.fl).flatten.length)).drop (1+((t.kids.take i).map T.fl).flatten.length)=(t.kids.getD i (.leaf nd0)).fl ∧
  1+((t.kids.take i).map T.fl).flatten.length≤1+((t.kids.take (i+1)).map T.fl).flatten.length∧1+((t.kids.take (i+1)).map T.fl).flatten.length≤t.fl.length∧(t.kids.getD i (.leaf nd0)).fl.length≤t.fl.length:=by
 obtain⟨h1,h2⟩:=T.Gx h
 obtain⟨k,hk⟩:∃k,t.kids.getD i (.leaf nd0)=k:=⟨_,rfl⟩
 have hg:t.kids[i]=k:=by rw[←hk,bG _ hi]
 have hko:=h2 k (by rw[←hk];exact dJ _ hi)
 have e1:((t.kids.take (i+1)).map T.fl).flatten=((t.kids.take i).map T.fl).flatten++k.fl:=by
  rw[List.take_succ_eq_append_getElem hi,hg];simp
 have e2:t.fl=(t.root::((t.kids.take i).map T.fl).flatten)++(k.fl++((t.kids.drop (i+1)).map T.fl).flatten):=by
  rw[T.Gc]
  conv=>lhs;rw[←List.take_append_drop i t.kids,List.drop_eq_getElem_cons hi,hg]
  simp
 have e3:(t.root::((t.kids.take i).map T.fl).flatten).length=1+((t.kids.take i).map T.fl).flatten.length:=by rw[List.length_cons];omega
 rw[e1,List.length_append,hk]
 generalize hA:t.root::((t.kids.take i).map T.fl).flatten=A at e2 e3
 have e4:=F1 hko A ((t.kids.drop (i+1)).map T.fl).flatten
 rw[←e2,e3] at e4
 refine⟨by rw[e4,Nat.add_assoc],?_,by omega,by rw[e2];simp only[List.length_append];omega,by rw[e2];simp only[List.length_append];omega⟩
 rw[←Nat.add_assoc,←e3,e2,←List.append_assoc,←List.length_append,List.take_left,List.drop_left]
set_option maxHeartbeats 2000000 in
theorem lS (t:T) (h:t.ok) (hl:t.fl.length≤1000) (tt:Bool):aA Tryz.prog 131 [.lst 5 (t.fl.map ND.c) tt,.int .i64 0] St.none (fun r _=>r=.lst 1 t.kl false):=by
 refine aA.seen (aA.body 44 [.tmp 4] Tryz.func131 rfl rfl rfl rfl ?_)
 have hpos:=t.Aj
 have hf0:(t.fl.getD 0 nd0)=t.root:=by rw[T.Gc];rfl
 obtain⟨h1,h2⟩:=T.Gx h
 have hb2:t.kids.length≤2:=by have:=iO t.root.op;omega
 repeat' (first|(with_reducible first|(refine wT ?_;(first|((fail_if_success (have:=nl1));refine wN fun nl1 hnl=>?_)|((fail_if_success (have:=nl2));refine wN fun nl2 hnl=>?_)|((fail_if_success (have:=nl3));refine wN fun nl3 hnl=>?_)|((fail_if_success (have:=nl4));refine wN fun nl4 hnl=>?_)|((fail_if_success (have:=nl5));refine wN fun nl5 hnl=>?_)|refine wN fun _ hnl=>?_);revert hnl;(repeat refine wS fun _ _=>?_);intro hnl)|refine wD (by decide +kernel) ?_|refine wI (fun h=>?_) fun h=>?_|refine wF (fun h=>?_) fun h=>?_|refine wG (fun h=>?_) fun h=>?_|refine wH (fun h=>?_) fun h=>?_|((first|refine aG (fun h=>?_) fun h=>?_|refine aE (fun h=>?_) fun h=>?_)<;>simp only[h]))|simp(maxSteps:=4000000) (disch:=first|exact ddL|fail) only[go_sem,simprocAttr,Tryz.f131,bE nd0])
 refine aF (α:=Nat × Nat × List (List MV)) (fun a=>⟨44,[(7,.int .i64 (a.1:Int)),(6,.int .i64 ((1+((t.kids.take a.1).map T.fl).flatten.length:Nat):Int)),(5,.vec 1 a.2.1 0 a.1),(0,.lst 5 (t.fl.map ND.c) tt),(1,.int .i64 0)],[]⟩)
  (fun a=>St.none.set a.2.1 (.row 22 1 ((t.kl.take a.1)++a.2.2))) (fun a=>a.1≤t.kids.length) (fun a=>t.kids.length - a.1) ?_ ?_
 ·refine .of (.less ?_ (St.le_refl _)) ⟨(0,nl1,[]),rfl,rfl,Nat.zero_le _⟩
  simp(maxSteps:=4000000) (disch:=first|exact ddL|fail) only[go_sem,simprocAttr,aC,aB]
  all_goals first|exact⟨rfl,rfl⟩|rfl
 ·rintro⟨i,q,ex⟩ hi
  simp only at hi ⊢
  by_cases hlt:i<t.kids.length
  ·obtain⟨k1,k2,k3,k4,k5⟩:=MO h hlt
   have hm:min i t.kids.length=i:=Nat.min_eq_left hi
   have e1:List.map (fun k=>[MV.lst 5 (List.map ND.c k.fl) false]) (t.kids.take (i+1))=List.map (fun k=>[MV.lst 5 (List.map ND.c k.fl) false]) (t.kids.take i)++[[.lst 5 ((t.kids.getD i (.leaf nd0)).fl.map ND.c) false]]:=by
    rw[List.take_succ_eq_append_getElem hlt,List.map_append,←bG (.leaf nd0) hlt];rfl
   repeat' (first|(with_reducible refine aQ (mU _) ?_)|(with_reducible refine aQ (nP _ (by omega) _ _) ?_)|(with_reducible first|(refine wT ?_;(first|((fail_if_success (have:=nl1));refine wN fun nl1 hnl=>?_)|((fail_if_success (have:=nl2));refine wN fun nl2 hnl=>?_)|((fail_if_success (have:=nl3));refine wN fun nl3 hnl=>?_)|((fail_if_success (have:=nl4));refine wN fun nl4 hnl=>?_)|((fail_if_success (have:=nl5));refine wN fun nl5 hnl=>?_)|refine wN fun _ hnl=>?_);revert hnl;(repeat refine wS fun _ _=>?_);intro hnl)|refine wD (by decide +kernel) ?_|refine wI (fun h=>?_) fun h=>?_|refine wF (fun h=>?_) fun h=>?_|refine wG (fun h=>?_) fun h=>?_|refine wH (fun h=>?_) fun h=>?_|((first|refine aG (fun h=>?_) fun h=>?_|refine aE (fun h=>?_) fun h=>?_)<;>simp only[h]))|simp(maxSteps:=4000000) (disch:=first|exact ddL|fail) only[go_sem,simprocAttr,bE nd0,hf0,k1,k2,hm])
   ·have hex:ex=[]:=List.eq_nil_of_length_eq_zero (by omega)
    subst hex
    refine .of (bM.nest (t:=22) (t1:=121) (e1:=5) (ys:=(t.kids.getD i (.leaf nd0)).fl.map ND.c) (n1:=(t.kids.getD i (.leaf nd0)).fl.length) (q:=nl5) (m:=nl3) (pre:=List.map (fun k=>[MV.lst 5 (List.map ND.c k.fl) false]) (t.kids.take i)) (post:=[]) St.none (by first|(simp(maxSteps:=4000000) (disch:=first|exact ddL|fail) only[go_sem,simprocAttr];done)|(simp(maxSteps:=4000000) (disch:=first|exact ddL|fail) only[go_sem,simprocAttr];rfl)) ((aJ _ _ _).trans ?_) (by rw[List.length_map]) (St.none_le _) rfl (by assumption) ?_) ⟨(i+1,nl5,[]),rfl,?_,by simp only;omega,by simp only;omega⟩
    ·rw[List.append_nil]
    ·simp(maxSteps:=4000000) (disch:=first|exact ddL|fail) only[go_sem,simprocAttr,aC,aB]
     all_goals rfl
    ·simp only
     rw[e1,List.append_nil]
   ·refine .of (bM.nest (t:=22) (t1:=121) (e1:=5) (ys:=(t.kids.getD i (.leaf nd0)).fl.map ND.c) (n1:=(t.kids.getD i (.leaf nd0)).fl.length) (q:=nl5) (m:=nl3) (pre:=List.map (fun k=>[MV.lst 5 (List.map ND.c k.fl) false]) (t.kids.take i)) (post:=ex.drop 1) St.none (by first|(simp(maxSteps:=4000000) (disch:=first|exact ddL|fail) only[go_sem,simprocAttr];done)|(simp(maxSteps:=4000000) (disch:=first|exact ddL|fail) only[go_sem,simprocAttr];rfl)) ((aJ _ _ _).trans ?_) (by rw[List.length_map]) (St.none_le _) rfl (by assumption) ?_) ⟨(i+1,nl5,ex.drop 1),rfl,?_,by simp only;omega,by simp only;omega⟩
    ·rw[GX (List.map (fun k=>[MV.lst 5 (List.map ND.c (T.fl k)) false]) (t.kids.take i)) ex [[MV.vec 5 nl3 0 (t.kids.getD i (T.leaf nd0)).fl.length]] i 1 (by rw[List.length_map,List.length_take];omega) rfl,List.append_assoc]
     rfl
    ·simp(maxSteps:=4000000) (disch:=first|exact ddL|fail) only[go_sem,simprocAttr,aC,aB]
     all_goals rfl
    ·simp only
     rw[e1,List.append_assoc]
     rfl
  ·have:i=t.kids.length:=by omega
   subst this
   repeat' (first|(with_reducible refine aQ (mU _) ?_)|(with_reducible first|(refine wT ?_;(first|((fail_if_success (have:=nl1));refine wN fun nl1 hnl=>?_)|((fail_if_success (have:=nl2));refine wN fun nl2 hnl=>?_)|((fail_if_success (have:=nl3));refine wN fun nl3 hnl=>?_)|((fail_if_success (have:=nl4));refine wN fun nl4 hnl=>?_)|((fail_if_success (have:=nl5));refine wN fun nl5 hnl=>?_)|refine wN fun _ hnl=>?_);revert hnl;(repeat refine wS fun _ _=>?_);intro hnl)|refine wD (by decide +kernel) ?_|refine wI (fun h=>?_) fun h=>?_|refine wF (fun h=>?_) fun h=>?_|refine wG (fun h=>?_) fun h=>?_|refine wH (fun h=>?_) fun h=>?_|((first|refine aG (fun h=>?_) fun h=>?_|refine aE (fun h=>?_) fun h=>?_)<;>simp only[h]))|simp(maxSteps:=4000000) (disch:=first|exact ddL|fail) only[go_sem,simprocAttr,bE nd0,hf0,List.take_length])
   have hv:=View.vec (σ:=St.none.set q (.row 22 1 (t.kl++ex))) (l:=q) (lo:=0) (n:=t.kids.length) (aJ _ _ _) (by rw[List.length_append,List.length_map];omega)
   have e:((t.kl++ex).drop 0).take t.kids.length=t.kl:=by
    rw[List.drop_zero,List.take_append_of_le_length (by rw[List.length_map];omega),List.take_of_length_le (by rw[List.length_map];omega)]
   rw[e] at hv
   exact hv
end

section
set_option maxRecDepth 100000
def iY(l:List T):Nat:=l.foldl (fun d t=>max d t.depth) 0
theorem T.Eg(t:T):t.depth=iY t.kids+1:=by
 cases t<;>simp only[T.depth,T.kids,iY,List.foldl_nil,List.foldl_cons]<;>omega
theorem Ab(l:List T)(t:T):iY (l++[t])=max (iY l) t.depth:=by simp[iY]
theorem T.mD:∀t:T,t.depth≤t.fl.length
 | .leaf _=>by simp[T.depth,T.fl]
 | .one _ a=>by have:=T.mD a;simp only[T.depth,T.fl,List.length_cons];omega
 | .two _ a b=>by have:=T.mD a;have:=T.mD b;simp only[T.depth,T.fl,List.length_cons,List.length_append];omega
theorem HK{t k:T}(h:k∈t.kids):k.fl.length<t.fl.length:=by
 cases t<;>simp only[T.kids,List.mem_cons,List.not_mem_nil,or_false] at h
 ·subst h;simp only[T.fl,List.length_cons];omega
 ·rcases h with rfl|rfl<;>simp only[T.fl,List.length_cons,List.length_append]<;>omega
theorem Oz{t k:T}(ht:t.ok)(h:k∈t.kids):k.ok:=by
 cases t<;>simp only[T.kids,List.mem_cons,List.not_mem_nil,or_false] at h
 ·subst h;exact ht.2
 ·rcases h with rfl|rfl
  ·exact ht.2.1
  ·exact ht.2.2
theorem De:∀(n:Nat) (t:T),t.ok→gD t.fl 0=(t.fl.length:Int)→t.fl.length≤n→n≤1000→∀tt:Bool,aA Tryz.prog 59 [.lst 5 (t.fl.map ND.c) tt] St.none (fun r _=>r=.int .i64 (t.depth:Int)):=by
 intro n
 induction n with
 | zero=>intro t h _ hl;have:=t.Aj;omega
 | succ n ih =>
  intro t h he hl hn tt
  refine(aA.body 33 [.tmp 2] Tryz.func59 rfl rfl rfl rfl ?_)
  have hend:=nP t.fl (by omega) tt 0
  rw[he] at hend
  have hk:=lS t h (by omega) tt
  have hpos:=t.Aj
  have hkl:t.kids.length≤2:=by cases t<;>simp[T.kids]
  repeat' (first|(with_reducible first|refine up hend ?_|refine up hk ?_)|(with_reducible first|(refine wN fun _ hnl=>?_;revert hnl;(repeat refine wS fun _ _=>?_);intro hnl)|refine wE ?_|(refine wK ?_ ?_<;>intro h)|(refine wB ?_ ?_<;>intro h<;>simp only[h]))|simp(maxSteps:=4000000) (disch:=first|decide|assumption|omega|(simp only[wL];omega)) only[go_sem,simprocAttr,Tryz.f59])
  refine aF (α:=Nat) (fun i=>⟨33,[(5,.int .i64 (i:Int)),(4,.int .i64 (iY (t.kids.take i):Int)),(3,.lst 1 t.kl false)],[]⟩) (fun _=>St.none) (fun i=>i≤t.kids.length) (fun i=>t.kids.length - i) (.of (.less ?_ (St.le_refl _)) ⟨0,rfl,rfl,Nat.zero_le _⟩) ?_
  ·simp(maxSteps:=4000000) (disch:=first|decide|assumption|omega|(simp only[wL];omega)) only[go_sem,simprocAttr,aC,aB]
   all_goals rfl
  ·intro i hi
   have hi:i≤t.kids.length:=hi
   by_cases hlt:i<t.kids.length
   ·have hm:=dJ (T.leaf nd0) hlt
    have hko:=Oz h hm
    have hks:=HK hm
    have hke:gD (t.kids.getD i (.leaf nd0)).fl 0=((t.kids.getD i (.leaf nd0)).fl.length:Int):=by
     have:=F1 hko [] []
     simpa using this
    have hd:=ih _ hko hke (by omega) (by omega) false
    have hdl:=T.mD (t.kids.getD i (.leaf nd0))
    have hsn:iY (t.kids.take (i+1))=max (iY (t.kids.take i)) (t.kids.getD i (.leaf nd0)).depth:=by
     rw[List.take_succ_eq_append_getElem hlt,←bG (.leaf nd0) hlt,Ab]
    repeat' (first|(with_reducible first|refine up hd ?_)|(with_reducible first|(refine wN fun _ hnl=>?_;revert hnl;(repeat refine wS fun _ _=>?_);intro hnl)|refine wE ?_|(refine wK ?_ ?_<;>intro h)|(refine wB ?_ ?_<;>intro h<;>simp only[h]))|simp(maxSteps:=4000000) (disch:=first|decide|assumption|omega|(simp only[wL];omega)) only[go_sem,simprocAttr,bE (T.leaf nd0)])
    refine .of (.less (l1:=[(5,.int .i64 ((i+1:Nat):Int)),(4,.int .i64 (iY (t.kids.take (i+1)):Int)),(3,.lst 1 t.kl false)]) ?_ (St.le_refl _)) ⟨i+1,rfl,rfl,by omega,by omega⟩
    rw[hsn]
    simp(maxSteps:=4000000) (disch:=first|decide|assumption|omega|(simp only[wL];omega)) only[go_sem,simprocAttr,aC,aB]
    all_goals omega
   ·have:i=t.kids.length:=by omega
    subst this
    have hdk:=t.Eg
    have hdl:=t.mD
    rw[List.take_length]
    repeat' (first|(with_reducible first|(refine wN fun _ hnl=>?_;revert hnl;(repeat refine wS fun _ _=>?_);intro hnl)|refine wE ?_|(refine wK ?_ ?_<;>intro h)|(refine wB ?_ ?_<;>intro h<;>simp only[h]))|simp(maxSteps:=4000000) (disch:=first|decide|assumption|omega|(simp only[wL];omega)) only[go_sem,simprocAttr])
    all_goals (first|rfl|(congr 1;omega)|omega)
theorem Dd(l:List ND)(hl:l.length≤1000)(tt:Bool):aA Tryz.prog 59 [.lst 5 (l.map ND.c) tt] St.none (fun r _=>r=.int .i64 (gH l:Int)):=by
 by_cases h:l=[]∨gD l 0≠l.length
 ·have e:gH l=0:=by unfold gH;rw[if_pos h]
  rw[e]
  refine(aA.body 33 [.tmp 2] Tryz.func59 rfl rfl rfl rfl ?_)
  have hend:=nP l (by omega) tt 0
  rcases h with rfl|h
  ·repeat' (first|(with_reducible first|refine up hend ?_)|(with_reducible first|(refine wN fun _ hnl=>?_;revert hnl;(repeat refine wS fun _ _=>?_);intro hnl)|refine wE ?_|(refine wK ?_ ?_<;>intro h)|(refine wB ?_ ?_<;>intro h<;>simp only[h]))|simp(maxSteps:=4000000) (disch:=first|decide|assumption|omega|(simp only[wL];omega)) only[go_sem,simprocAttr,Tryz.f59])
   all_goals rfl
  ·repeat' (first|(with_reducible first|refine up hend ?_)|(with_reducible first|(refine wN fun _ hnl=>?_;revert hnl;(repeat refine wS fun _ _=>?_);intro hnl)|refine wE ?_|(refine wK ?_ ?_<;>intro h)|(refine wB ?_ ?_<;>intro h<;>simp only[h]))|simp(maxSteps:=4000000) (disch:=first|decide|assumption|omega|(simp only[wL];omega)) only[go_sem,simprocAttr,Tryz.f59])
   all_goals rfl
 ·have h2:gD l 0=l.length:=Classical.not_not.1 fun h3=>h (.inr h3)
  obtain⟨t,ht,rfl⟩:=parse h2
  rw[Eh ht h2]
  exact De _ t ht h2 hl (Nat.le_refl _) tt
theorem A6(l:List ND)(tt:Bool):aA Tryz.prog 11 [.lst 5 (l.map ND.c) tt] St.none (fun r _=>r=.int .i64 (bF l)):=by
 refine(aA.body 32 [.tmp 2] Tryz.func11 rfl rfl rfl rfl ?_)
 unfold bF
 by_cases h31:31<l.length
 ·rw[if_pos h31]
  repeat' (first|(with_reducible first|(refine wN fun _ hnl=>?_;revert hnl;(repeat refine wS fun _ _=>?_);intro hnl)|refine wE ?_|(refine wK ?_ ?_<;>intro h)|(refine wB ?_ ?_<;>intro h<;>simp only[h]))|simp(maxSteps:=4000000) (disch:=first|decide|assumption|omega|(simp only[wL];omega)) only[go_sem,simprocAttr,Tryz.f11])
  all_goals rfl
 ·rw[if_neg h31]
  have hend:=nP l (by omega) tt 0
  have hd:=Dd l (by omega) tt
  repeat' (first|(with_reducible first|(refine wN fun _ hnl=>?_;revert hnl;(repeat refine wS fun _ _=>?_);intro hnl)|refine wE ?_|(refine wK ?_ ?_<;>intro h)|(refine wB ?_ ?_<;>intro h<;>simp only[h]))|simp(maxSteps:=4000000) (disch:=first|decide|assumption|omega|(simp only[wL];omega)) only[go_sem,simprocAttr,Tryz.f11])
  refine aF (α:=Nat) (fun i=>⟨32,[(3,.int .i64 (i:Int)),(0,.lst 5 (l.map ND.c) tt)],[]⟩) (fun _=>St.none) (fun i=>i≤l.length∧(l.take i).all eG=true) (fun i=>l.length - i) (.of (.less ?_ (St.le_refl _)) ⟨0,rfl,rfl,Nat.zero_le _,rfl⟩) ?_
  ·simp(maxSteps:=4000000) (disch:=first|decide|assumption|omega|(simp only[wL];omega)) only[go_sem,simprocAttr,aC,aB]
   all_goals rfl
  ·rintro i ⟨hi,hq⟩
   by_cases hlt:i<l.length
   ·have hn:=Fv (l.getD i nd0)
    cases hok:eG (l.getD i nd0)<;>rw[hok] at hn
    ·repeat' (first|(with_reducible first|refine up hn ?_)|(with_reducible first|(refine wN fun _ hnl=>?_;revert hnl;(repeat refine wS fun _ _=>?_);intro hnl)|refine wE ?_|(refine wK ?_ ?_<;>intro h)|(refine wB ?_ ?_<;>intro h<;>simp only[h]))|simp(maxSteps:=4000000) (disch:=first|decide|assumption|omega|(simp only[wL];omega)) only[go_sem,simprocAttr,bE nd0])
     rw[if_pos]
     refine .inr (.inr ?_)
     cases hb:l.all eG
     ·rfl
     ·have:=List.all_eq_true.1 hb _ (dJ nd0 hlt)
      rw[hok] at this;cases this
    ·repeat' (first|(with_reducible first|refine up hn ?_)|(with_reducible first|(refine wN fun _ hnl=>?_;revert hnl;(repeat refine wS fun _ _=>?_);intro hnl)|refine wE ?_|(refine wK ?_ ?_<;>intro h)|(refine wB ?_ ?_<;>intro h<;>simp only[h]))|simp(maxSteps:=4000000) (disch:=first|decide|assumption|omega|(simp only[wL];omega)) only[go_sem,simprocAttr,bE nd0])
     refine .of (.less ?_ (St.le_refl _)) ⟨i+1,rfl,rfl,⟨by omega,by rw[xD hlt,hq,←bG nd0 hlt,hok];rfl⟩,by omega⟩
     simp(maxSteps:=4000000) (disch:=first|decide|assumption|omega|(simp only[wL];omega)) only[go_sem,simprocAttr,aC,aB]
     all_goals rfl
   ·have:i=l.length:=by omega
    subst this
    rw[List.take_length] at hq
    rw[hq]
    by_cases he:l=[]∨gD l 0≠l.length
    ·rw[if_pos (by rcases he with h|h;exact .inl h;exact .inr (.inl h))]
     rcases he with rfl|he
     ·repeat' (first|(with_reducible first|refine up hend ?_)|(with_reducible first|(refine wN fun _ hnl=>?_;revert hnl;(repeat refine wS fun _ _=>?_);intro hnl)|refine wE ?_|(refine wK ?_ ?_<;>intro h)|(refine wB ?_ ?_<;>intro h<;>simp only[h]))|simp(maxSteps:=4000000) (disch:=first|decide|assumption|omega|(simp only[wL];omega)) only[go_sem,simprocAttr])
      all_goals rfl
     ·repeat' (first|(with_reducible first|refine up hend ?_)|(with_reducible first|(refine wN fun _ hnl=>?_;revert hnl;(repeat refine wS fun _ _=>?_);intro hnl)|refine wE ?_|(refine wK ?_ ?_<;>intro h)|(refine wB ?_ ?_<;>intro h<;>simp only[h]))|simp(maxSteps:=4000000) (disch:=first|decide|assumption|omega|(simp only[wL];omega)) only[go_sem,simprocAttr])
      all_goals rfl
    ·have he1:0<l.length:=by
      cases l with
      | nil=>exact absurd (.inl rfl) he
      | cons x l=>simp
     have he2:gD l 0=l.length:=Classical.not_not.1 fun h3=>he (.inr h3)
     rw[he2] at hend
     rw[if_neg (by rintro(h|h|h);exact he (.inl h);exact he (.inr h);cases h)]
     repeat' (first|(with_reducible first|refine up hend ?_|refine up hd ?_)|(with_reducible first|(refine wN fun _ hnl=>?_;revert hnl;(repeat refine wS fun _ _=>?_);intro hnl)|refine wE ?_|(refine wK ?_ ?_<;>intro h)|(refine wB ?_ ?_<;>intro h<;>simp only[h]))|simp(maxSteps:=4000000) (disch:=first|decide|assumption|omega|(simp only[wL];omega)) only[go_sem,simprocAttr])
     all_goals (try simp only[Classical.not_not] at *)
     all_goals (first|(simp[*];done)|(simp only[];(repeat' split)<;>(first|(simp_all;done)|omega|(exfalso;omega)))|skip)
     all_goals (first|(rw[if_pos (by omega)];done)|(rw[if_neg (by omega)];done))
end

section
open Go.ChangeShapes Go.WideShapes Go.RowKit
def lY(P:Program):List (Nat × TypeId)→Nat→Nat→Bool
 | [],o,n=>o==n
 | (off,ft)::r,o,n=>off==o&&lY P r (o+(td P ft).size) n
def shp(P:Program):Nat→TypeId→Bool
 | 0,_=>false
 | n+1,t=>(td P t).ok&&match (td P t).k with
  | .bool|.int _|.str=>(td P t).size==1
  | .slice e=>(td P t).size==1&&decide (0<(td P e).size)&&(td P e).ok&&shp P n e
  | .struct fs=>lY P fs 0 (td P t).size&&fs.all fun f=>(td P f.2).ok&&shp P n f.2
  | .array m e=>(td P t).size==m * (td P e).size&&(td P e).ok&&shp P n e
  | _=>false
def CT(P:Program):Nat→TypeId→List MV→Prop
 | 0,_,_=>False
 | n+1,t,cs=>match (td P t).k with
  | .bool=>∃b,cs=[.bool b]
  | .int k=>∃v,cs=[.int k v]∧k.min≤v∧v≤k.max
  | .str=>∃s:ByteArray,cs=[.str s]∧s.size≤maxLen
  | .slice e=>∃xs,cs=[.lst (td P e).size xs false]∧xs.length≤maxLen∧∀x,x∈xs→CT P n e x
  | .struct fs=>cs.length=(td P t).size∧∀f,f∈fs→CT P n f.2 ((cs.drop f.1).take (td P f.2).size)
  | .array m e=>cs.length=(td P t).size∧∀i,i<m→CT P n e ((cs.drop (i * (td P e).size)).take (td P e).size)
  | _=>False
def AT(P:Program)(n:Nat)(t:TypeId)(m:MV):Prop:=if (td P t).k.isAgg=true then ∃cs,m=.agg cs∧CT P n t cs else CT P n t [m]
def sS(w:World):Phi:=⟨fun a=>w.cell? a,fun _=>none,0⟩
def Od(w:World):Prop:=(∀g i v,GT g i=some v→w.cell? ⟨g,i,none⟩=some v)∧∀g,g∈GI→∃m,w.cell? ⟨g,0,none⟩=some (.int .i64 m)
theorem Qk(w:World)(hG:Od w):Inv (sS w) w St.none where
 own:=fun l o h=>by simp[St.none] at h
 inj:=fun l l' o o' p p' R h=>by simp[St.none] at h
 snap:=fun a v h=>h
 apart:=fun l o p R a v h=>by simp[St.none] at h
 fresh:=⟨⟨⟨0,fun _ _=>rfl⟩,fun _ _ h=>by cases h⟩,hG⟩
def qM(Φ:Phi)(cs:List Value)(ms:List MV):Prop:=cs.length=ms.length∧∀(i:Nat) v m,cs[i]?=some v→ms[i]?=some m→m.aN=true∧Rel Φ v m
theorem qM.one{Φ:Phi}{v:Value}{m:MV}(hc:m.aN=true)(h:Rel Φ v m):qM Φ [v] [m] :=
 ⟨rfl,fun i v' m' h1 h2=>by
  cases i with
  | zero=>simp at h1 h2;subst h1 h2;exact⟨hc,h⟩
  | succ i=>simp at h1⟩
theorem qM.app{Φ:Phi}{c1 c2:List Value}{m1 m2:List MV}(h1:qM Φ c1 m1)(h2:qM Φ c2 m2):qM Φ (c1++c2) (m1++m2) :=
 ⟨by simp[h1.1,h2.1],fun i v m hv hm=>by
  rw[List.getElem?_append] at hv hm
  rw[h1.1] at hv
  split at hv<;>rename_i hi
  ·rw[if_pos hi] at hm;exact h1.2 i v m hv hm
  ·rw[if_neg hi] at hm;exact h2.2 _ v m hv hm⟩
section
variable {H:Type} {enc:TypeId × Value→H} {P:Program} {w:World} {base:Nat} {spare:Nat→Bool} {held:Bool}
theorem LV{t:TypeId}(h:(td P t).ok=true):∃i d,P.info? t=some i∧P.underlying t=some d∧(td P t).size=P.cellsOf t∧(td P t).k=qH d:=by
 obtain⟨i,d,h1,h2,h3,h4,h5⟩:=cG h
 exact⟨i,d,h1,h2,by rw[h3];simp[Program.cellsOf,h1],h5⟩
theorem lB{t:TypeId}(h:(td P t).ok=true):P.cellsOf t=(td P t).size:=by
 obtain⟨_,_,_,_,h,_⟩:=LV h
 exact h.symm
theorem mZ{Φ:Phi}{n:Nat}{cs:List Value}{size:Nat}(hlen:cs.length=size):∀(fs:List (Nat × TypeId)) (o:Nat),o≤size→lY P fs o size=true →
  (∀f,f∈fs→∃ms,qM Φ ((cs.drop f.1).take (td P f.2).size) ms∧CT P n f.2 ms)→(∀f,f∈fs→∀ms,CT P n f.2 ms→ms.length=(td P f.2).size) →
  ∃ms,qM Φ (cs.drop o) ms∧∀f,f∈fs→o≤f.1∧CT P n f.2 ((ms.drop (f.1 - o)).take (td P f.2).size)
 | [],o,ho,ht,_,_=>by
  simp only[lY,beq_iff_eq] at ht
  refine⟨[],?_,fun f h=>by cases h⟩
  rw[ht,←hlen,List.drop_length]
  exact⟨rfl,fun i v m h=>by simp at h⟩
 | (off,ft)::r,o,ho,ht,hf,hl=>by
  simp only[lY,Bool.and_eq_true,beq_iff_eq] at ht
  obtain⟨rfl,ht⟩:=ht
  obtain⟨m1,r1,c1⟩:=hf (off,ft) (List.mem_cons_self ..)
  have e1:=hl (off,ft) (List.mem_cons_self ..) m1 c1
  simp only at r1 c1 e1
  have hle:off+(td P ft).size≤size:=by
   have:=r1.1
   simp only[List.length_take,List.length_drop,hlen] at this
   omega
  obtain⟨m2,r2,c2⟩:=mZ hlen r (off+(td P ft).size) hle ht (fun f h=>hf f (List.mem_cons_of_mem _ h)) (fun f h=>hl f (List.mem_cons_of_mem _ h))
  refine⟨m1++m2,?_,fun f h=>?_⟩
  ·have:cs.drop off=(cs.drop off).take (td P ft).size++cs.drop (off+(td P ft).size):=by
    rw[←List.drop_drop,List.take_append_drop]
   rw[this]
   exact r1.app r2
  ·rcases List.mem_cons.1 h with rfl|h
   ·refine⟨Nat.le_refl _,?_⟩
    simp only[Nat.sub_self,List.drop_zero]
    rw[List.take_append_of_le_length (by omega),List.take_of_length_le (by omega)]
    exact c1
   ·obtain⟨h1,h2⟩:=c2 f h
    refine⟨by omega,?_⟩
    have:(m1++m2).drop (f.1 - off)=m2.drop (f.1 - (off+(td P ft).size)):=by
     rw[List.drop_append,List.drop_eq_nil_of_le (by omega),List.nil_append]
     congr 1
     omega
    rw[this]
    exact h2
theorem JT:∀(n:Nat) (t:TypeId) (cs:List MV),shp P n t=true→CT P n t cs→cs.length=(td P t).size
 | 0,_,_,h,_=>by cases h
 | n+1,t,cs,h,hc=>by
  simp only[shp,Bool.and_eq_true] at h
  obtain⟨_,h⟩:=h
  simp only[CT] at hc
  split at hc
  ·rename_i hk;rw[hk] at h;simp only[beq_iff_eq] at h;obtain⟨b,rfl⟩:=hc;exact h.symm
  ·rename_i hk;rw[hk] at h;simp only[beq_iff_eq] at h;obtain⟨b,rfl,_⟩:=hc;exact h.symm
  ·rename_i hk;rw[hk] at h;simp only[beq_iff_eq] at h;obtain⟨b,rfl,_⟩:=hc;exact h.symm
  ·rename_i hk;rw[hk] at h;simp only[Bool.and_eq_true,beq_iff_eq] at h;obtain⟨b,rfl,_⟩:=hc;exact h.1.1.1.symm
  ·exact hc.1
  ·exact hc.1
  ·exact hc.elim
theorem wX:∀(fs:List (Nat × TypeId)) (o m:Nat),lY P fs o m=true→o≤m∧∀f,f∈fs→f.1+(td P f.2).size≤m
 | [],o,m,h=>by
  simp only[lY,beq_iff_eq] at h
  exact⟨by omega,fun f hf=>by cases hf⟩
 | (off,ft)::r,o,m,h=>by
  simp only[lY,Bool.and_eq_true,beq_iff_eq] at h
  obtain⟨rfl,h⟩:=h
  obtain⟨h1,h2⟩:=wX r _ m h
  refine⟨by omega,fun f hf=>?_⟩
  rcases List.mem_cons.1 hf with rfl|hf
  ·exact h1
  ·exact h2 f hf
theorem sO(e:TypeId):∀(k i:Nat),lY P ((List.range' i k).map fun j=>(j * (td P e).size,e)) (i * (td P e).size) ((i+k) * (td P e).size)=true
 | 0,i=>by simp[lY]
 | k+1,i=>by
  have:=sO e k (i+1)
  rw[List.range'_succ]
  simp only[List.map_cons,lY,beq_self_eq_true,Bool.true_and]
  rw[show i * (td P e).size+(td P e).size=(i+1) * (td P e).size by rw[Nat.add_mul,Nat.one_mul],show i+(k+1)=i+1+k by omega]
  exact this
theorem kX:∀(n:Nat) (t:TypeId) (fuel:Nat) (cs:List Value) (x:DataW H × List MemPlace),shp P n t=true→cs.length=(td P t).size→DataW.trod enc P w base spare held fuel t cs=some x →
  ∃ms,qM (sS w) cs ms∧CT P n t ms
 | 0,_,_,_,_,h,_,_=>by cases h
 | n+1,t,fuel,cs,x,h,hlen,hx=>by
  simp only[shp,Bool.and_eq_true] at h
  obtain⟨hok,h⟩:=h
  obtain⟨i,d,hi,hd,hsz,hk⟩:=LV hok
  split at h<;>rename_i hkk
  ·have ht:=qI hkk
   obtain⟨b,rfl,_⟩:=DataW.trod_bool ht hx
   exact⟨[.bool b],.one rfl (.bool b),by simp only[CT,hkk];exact⟨b,rfl⟩⟩
  ·rename_i k
   have ht:=iH hkk
   obtain⟨v,rfl,_,hw⟩:=DataW.trod_int ht hx
   simp only[Lit.wf,Bool.and_eq_true,decide_eq_true_eq] at hw
   exact⟨[.int k v],.one rfl (.int k v),by simp only[CT,hkk];exact⟨v,rfl,hw⟩⟩
  ·have ht:=fQ hkk
   obtain⟨s,rfl,_,hw⟩:=DataW.trod_string ht hx
   exact⟨[.str s],.one rfl (.str s),by simp only[CT,hkk];exact⟨s,rfl,hw⟩⟩
  ·rename_i e
   have ht:=aY hkk
   simp only[Bool.and_eq_true,decide_eq_true_eq] at h
   obtain⟨⟨⟨_,h0⟩,heok⟩,h⟩:=h
   have hce:=lB heok
   rcases DataW.trod_slice ht hx with⟨rfl,_⟩|⟨a,len,cap,elems,rest,m,_,rfl,_,_,hlc,hcm,hel,hget,_⟩
   ·exact⟨[.lst (td P e).size [] false],.one rfl (.lstn _ _),by simp only[CT,hkk];exact⟨[],rfl,by simp,fun x h=>by cases h⟩⟩
   ·have key:∀i:Nat,∃q:List Value × List MV,i<len→w.cells? base (a.add (i * (td P e).size)) (td P e).size=some q.1∧qM (sS w) q.1 q.2∧CT P n e q.2∧q.2.length=(td P e).size:=by
     intro i
     by_cases hi:i<len
     ·have:=hget i hi
      rw[hce] at this
      obtain⟨y,hy⟩:∃y,elems[i]?=some y:=⟨elems[i]'(by omega),by simp⟩
      rw[hy] at this
      cases hc:w.cells? base (a.add (i * (td P e).size)) (td P e).size with
      | none=>rw[hc] at this;cases this
      | some c =>
       rw[hc] at this
       have hcl:=(World.cells?_some hc).2.1
       obtain⟨ms,r,ct⟩:=kX n e m c y h hcl this
       exact⟨(c,ms),fun _=>⟨rfl,r,ct,by rw[←r.1];exact hcl⟩⟩
     ·exact⟨([],[]),fun h=>absurd h hi⟩
    obtain⟨F,hF⟩:=Classical.axiomOfChoice key
    let xs:=(List.range len).map fun i=>(F i).2
    have hxs:∀(i:Nat) (y:List MV),xs[i]?=some y→i<len∧y=(F i).2:=fun i y hy=>by
     simp only[xs,List.getElem?_map,Option.map_eq_some_iff] at hy
     obtain⟨j,hj,rfl⟩:=hy
     rw[List.getElem?_eq_some_iff] at hj
     obtain⟨h1,h2⟩:=hj
     simp at h1 h2
     subst h2
     exact⟨h1,rfl⟩
    refine⟨[.lst (td P e).size xs false],.one rfl (Rel.AB (by simp[xs]) hlc hcm (fun h=>by cases h) (fun h=>by cases h) (fun hpos=>?_)),?_⟩
    ·obtain⟨hc0,hr0,_,hl0⟩:=hF 0 hpos
     obtain⟨_,hcl,hcell⟩:=World.cells?_some hc0
     have g0:=hcell 0 h0
     obtain⟨c0,hc0'⟩:∃c0,(F 0).1[0]?=some c0:=⟨(F 0).1[0]'(by omega),by simp⟩
     rw[hc0'] at g0
     obtain⟨b,off,spot⟩:=a
     have hspot:spot=none:=by simpa[Addr.add] using World.cell?_spot g0
     subst hspot
     refine⟨b,off,rfl,fun i y hy=>?_,fun i j=>(F i).1.getD j undef,fun i y j m hy hm=>?_⟩
     ·obtain⟨hi,rfl⟩:=hxs i y hy
      exact(hF i hi).2.2.2
     ·obtain⟨hi,rfl⟩:=hxs i y hy
      obtain⟨hc,hr,_,hl⟩:=hF i hi
      obtain⟨_,hcl,hcell⟩:=World.cells?_some hc
      have hj:j<(F i).2.length:=(List.getElem?_eq_some_iff.1 hm).1
      have hj':j<(F i).1.length:=by rw[hcl,←hl];exact hj
      have hv:(F i).1[j]?=some ((F i).1.getD j undef):=by simp[List.getD,hj']
      obtain⟨k1,k2⟩:=hr.2 j _ m hv hm
      refine⟨k1,?_,k2⟩
      have:=hcell j (by omega)
      rw[hv] at this
      simp only[cV] at this
      show w.cell? _=_
      rw[←Nat.add_assoc]
      exact this
    ·simp only[CT,hkk]
     refine⟨xs,rfl,by simp[xs];omega,fun y hy=>?_⟩
     obtain⟨i,hi⟩:=List.mem_iff_getElem?.1 hy
     obtain⟨hil,e⟩:=hxs i y hi
     rw[e]
     exact(hF i hil).2.2.1
  ·rename_i fs
   obtain⟨fa,ht,rfl⟩:=hU hkk
   simp only[Bool.and_eq_true,List.all_eq_true] at h
   obtain⟨htl,hall⟩:=h
   obtain⟨xs,m,_,_,hcl,hxl,hget⟩:=DataW.trod_struct ht hx
   have hfield:∀f,f∈(fa.toList.map fun f=>(f.offset,f.type))→∃ms,qM (sS w) ((cs.drop f.1).take (td P f.2).size) ms∧CT P n f.2 ms:=by
    intro f hf
    have hf0:=hall f hf
    obtain⟨g,hg,rfl⟩:=List.mem_map.1 hf
    obtain⟨i,hi⟩:=List.mem_iff_getElem?.1 hg
    have hi':fa[i]?=some g:=by simpa using hi
    have hil:i<xs.length:=by
     rw[hxl]
     obtain⟨q,_⟩:=Array.getElem?_eq_some_iff.1 hi'
     exact q
    have:=hget i g hi'
    simp only at hf0 ⊢
    rw[lB hf0.1,List.getElem?_eq_getElem hil] at this
    refine kX n _ m _ _ hf0.2 ?_ this
    have:=(wX _ _ _ htl).2 _ hf
    simp only[List.length_take,List.length_drop,hlen] at this ⊢
    omega
   obtain⟨ms,r,hc⟩:=mZ (Φ:=sS w) (n:=n) (P:=P) hlen _ 0 (Nat.zero_le _) htl hfield (fun f hf ms hm=>JT n _ ms (hall f hf).2 hm)
   refine⟨ms,by simpa using r,?_⟩
   simp only[CT,hkk]
   refine⟨by rw[←hlen];simpa using r.1.symm,fun f hf=>?_⟩
   have:=(hc f hf).2
   simpa using this
  ·rename_i k e
   have ht:=fF hkk
   simp only[Bool.and_eq_true,beq_iff_eq] at h
   obtain⟨⟨hsz2,heok⟩,h⟩:=h
   obtain⟨xs,m,_,_,hcl,hxl,hget⟩:=DataW.trod_array ht hx
   have htl:lY P ((List.range k).map fun j=>(j * (td P e).size,e)) 0 (td P t).size=true:=by
    have:=sO (P:=P) e k 0
    rw[List.range_eq_range',hsz2]
    simpa using this
   have hfield:∀f,f∈((List.range k).map fun j=>(j * (td P e).size,e))→∃ms,qM (sS w) ((cs.drop f.1).take (td P f.2).size) ms∧CT P n f.2 ms:=by
    intro f hf
    have hle:=(wX _ _ _ htl).2 _ hf
    obtain⟨i,hi,rfl⟩:=List.mem_map.1 hf
    have hik:i<k:=by simpa using hi
    have:=hget i hik
    simp only at hle ⊢
    rw[lB heok,List.getElem?_eq_getElem (by omega)] at this
    refine kX n _ m _ _ h ?_ this
    simp only[List.length_take,List.length_drop,hlen]
    omega
   obtain⟨ms,r,hc⟩:=mZ (Φ:=sS w) (n:=n) (P:=P) hlen _ 0 (Nat.zero_le _) htl hfield (fun f hf ms hm=>by
    obtain⟨i,hi,rfl⟩:=List.mem_map.1 hf
    exact JT n _ ms h hm)
   refine⟨ms,by simpa using r,?_⟩
   simp only[CT,hkk]
   refine⟨by rw[←hlen];simpa using r.1.symm,fun i hi=>?_⟩
   have:=(hc (i * (td P e).size,e) (List.mem_map.2 ⟨i,by simpa using hi,rfl⟩)).2
   simpa using this
  ·cases h
theorem JI{n:Nat}{t:TypeId}{v:Value}{d:DataW H}{ps:List MemPlace}{r:Reach}{b0:Nat}(h:shp P n t=true)(hv:Value.okWide P w r b0 t v)(hd:DataW.Trod enc P w base spare held t v d ps) :
  ∃m,Rel (sS w) v m∧AT P n t m:=by
 obtain⟨fuel,hf⟩:=hd
 have hok:(td P t).ok=true:=by
  cases n with
  | zero=>cases h
  | succ n=>simp only[shp,Bool.and_eq_true] at h;exact h.1
 have hcs:=lB hok
 unfold AT
 have key:(∃cs,v=.agg cs∧cs.size=(td P t).size∧(td P t).k.isAgg=true)∨((td P t).k.isAgg=false∧v.cells=#[v]∧(td P t).size=1):=by
  cases n with
  | zero=>cases h
  | succ n =>
   simp only[shp,Bool.and_eq_true] at h
   obtain⟨_,h⟩:=h
   split at h<;>rename_i hk
   ·obtain⟨b,rfl⟩:=okWide_bool (qI hk) hv
    exact .inr ⟨by rw[hk];rfl,rfl,by simpa using h⟩
   ·obtain⟨b,rfl⟩:=okWide_int (iH hk) hv
    exact .inr ⟨by rw[hk];rfl,rfl,by simpa using h⟩
   ·obtain⟨b,rfl⟩:=okWide_string (fQ hk) hv
    exact .inr ⟨by rw[hk];rfl,rfl,by simpa using h⟩
   ·obtain⟨a,l,c,rfl⟩:=okWide_slice (aY hk) hv
    simp only[Bool.and_eq_true,beq_iff_eq] at h
    exact .inr ⟨by rw[hk];rfl,rfl,h.1.1.1⟩
   ·obtain⟨fa,ht,_⟩:=hU hk
    obtain⟨cs,rfl,hs⟩:=okWide_struct ht hv
    exact .inl ⟨cs,rfl,by rw[hs,hcs],by rw[hk];rfl⟩
   ·have ht:=fF hk
    simp only[Value.okWide,ht] at hv
    obtain⟨cs,rfl,hs,_⟩:=hv
    exact .inl ⟨cs,rfl,by rw[hs,hcs],by rw[hk];rfl⟩
   ·cases h
 rcases key with⟨cs,rfl,hs,ha⟩|⟨ha,hc,hs⟩
 ·simp only[ha,if_true]
  obtain⟨ms,hr,hct⟩:=kX n t fuel _ _ h (by simpa[Value.cells] using hs) hf
  have hr':qM (sS w) cs.toList ms:=by simpa[Value.cells] using hr
  have hl:cs.size=ms.length:=by simpa using hr'.1
  have get:∀(i:Nat) m,ms[i]?=some m→cs.toList[i]?=some (cs.getD i undef):=fun i m hm=>by
   have:i<cs.size:=by rw[hl];exact(List.getElem?_eq_some_iff.1 hm).1
   simp[Array.getD,this]
  exact⟨.agg ms,.agg hl (fun i m hm=>(hr'.2 i _ m (get i m hm) hm).1) (fun i m hm=>(hr'.2 i _ m (get i m hm) hm).2),ms,rfl,hct⟩
 ·simp only[ha,Bool.false_eq_true,if_false]
  obtain⟨ms,hr,hct⟩:=kX n t fuel _ _ h (by rw[hc,hs];rfl) hf
  rw[hc] at hr
  match ms,hr with
  | [m],hr =>
   exact⟨m,(hr.2 0 v m rfl rfl).2,hct⟩
  | [],hr=>exact absurd hr.1 (by simp)
  | _::_::_,hr=>exact absurd hr.1 (by simp)
def ATs(P:Program)(n:Nat):List TypeId→List MV→Prop
 | [],[]=>True
 | t::ts,m::ms=>AT P n t m∧ATs P n ts ms
 | _,_=>False
theorem yJ{n:Nat}:∀{ts:List TypeId} {vs:List Value} {ds:List (DataW H)} {ps:List MemPlace},(∀t,t∈ts→shp P n t=true)→(∀(j:Nat) t v,ts[j]?=some t→vs[j]?=some v→Value.okWide P w .any base t v) →
  DataW.TrodAll enc P w 0 spare held ts vs ds ps→∃ms,vs.length=ms.length∧(∀(i:Nat) v m,vs[i]?=some v→ms[i]?=some m→Rel (sS w) v m)∧ATs P n ts ms
 | [],vs,ds,ps,_,_,h=>by
  obtain⟨rfl,_,_⟩:=trodAll_nil h
  exact⟨[],rfl,fun i v m h=>by simp at h,trivial⟩
 | t::ts,vs,ds,ps,hs,hok,h=>by
  obtain⟨v,vs1,d,ds1,a,b,rfl,rfl,rfl,h1,h2⟩:=trodAll_cons h
  obtain⟨m,r,ht⟩:=JI (hs t (List.mem_cons_self ..)) (hok 0 t v rfl rfl) h1
  obtain⟨ms,e,rs,hts⟩:=yJ (fun t h=>hs t (List.mem_cons_of_mem _ h)) (fun j t v p q=>hok (j+1) t v (by simpa using p) (by simpa using q)) h2
  refine⟨m::ms,by simp[e],fun i v' m' p q=>?_,ht,hts⟩
  cases i with
  | zero=>simp at p q;subst p q;exact r
  | succ i=>simp at p q;exact rs i v' m' p q
theorem yK{W W':World}(hl:laidOutB P=true)(hb:∀k,k<W.heap.size→W'.heap[k]?=W.heap[k]?):∀{ts:List TypeId} {vs:List Value} {ds:List (DataW H)} {ps:List MemPlace} {sp:Nat→Bool},
  (∀t,t∈ts→P.readableRec t=true∧t<P.types.size)→DataW.TrodAll enc P W 0 (fun _=>true) true ts vs ds ps→(∀x∈ps,x.block<W.heap.size)→(∀x∈ps,sp x.block=true)→DataW.TrodAll enc P W' 0 sp true ts vs ds ps
 | [],vs,ds,ps,sp,_,h,_,_=>by
  obtain⟨rfl,rfl,rfl⟩:=trodAll_nil h
  exact trodAll_mk0
 | t::ts,vs,ds,ps,sp,hr,h,hlt,hsp=>by
  obtain⟨v,vs1,d,ds1,a,b,rfl,rfl,rfl,h1,h2⟩:=trodAll_cons h
  refine⟨a,b,?_,yK hl hb (fun t h=>hr t (List.mem_cons_of_mem _ h)) h2 (fun x hx=>hlt x (List.mem_append_right _ hx)) (fun x hx=>hsp x (List.mem_append_right _ hx)),rfl⟩
  obtain⟨r1,r2⟩:=hr t (List.mem_cons_self ..)
  refine WideElems.Trod_stays hl r1 r2 h1 (fun x hx=>?_) (fun x hx=>hsp x (List.mem_append_left _ hx))
  have hp:=hlt x (List.mem_append_left _ hx)
  cases x with
  | cell b o=>exact World.cell?_of_block (w:=W) (hb b hp)
  | map b=>exact hb b hp
theorem MM{W W':World}{may:MemPlace→Prop}(h1:W'.os=W.os)(h2:W'.output=W.output)(hb:∀k,k<W.heap.size→W'.heap[k]?=W.heap[k]?):W.keptBut W' may:=by
 refine⟨h1,h2,fun i hi=>?_⟩
 rw[hb i hi]
 cases W.heap[i]? with
 | none=>rfl
 | some o=>cases o with
  | cells c t fr=>exact⟨rfl,rfl,rfl,fun _ _=>rfl⟩
  | map es clock=>exact .inr ⟨rfl,rfl⟩
  | _=>rfl
theorem Hy{W W':World}(hb:∀k,k<W.heap.size→W'.heap[k]?=W.heap[k]?){a:Addr}(h:a.block<W.heap.size):W'.frozen? a=W.frozen? a:=by
 unfold World.frozen?
 rw[hb _ h]
theorem Ke{f:Func}{s:ChangeSpec}{apart fresh handsOn again:Bool}{W W':World}{args:Array Value}{ds gs:List (DataW H)}{before:List MemPlace}{tb:TypeId}
 (hvars:s.vars=[])(hs:∀(H:Type) (ds:List (DataW H)),ds.length=f.params.size→s.fn H ds={ results:=[.lit (.bool true)],args:=ds })
 (hres:f.resultTypes=#[tb])(htb:P.underlying tb=some .bool)(hl:laidOutB P=true)(hr:∀t,t∈f.params.toList→P.readableRec t=true∧t<P.types.size)
 (hW:DataW.Whole enc P f.params.toList s.vars apart W args.toList ds gs before)(h1:W'.os=W.os)(h2:W'.output=W.output)(hb:∀k,k<W.heap.size→W'.heap[k]?=W.heap[k]?) :
  s.post enc P f apart fresh handsOn again W args (.bool true) W':=by
 have hlt:=hW.lt
 have hW0:=hW
 obtain⟨p,q,hA,hV,hpq,hfz,hnd⟩:=hW
 rw[hvars] at hV
 obtain⟨rfl,rfl⟩:=trodVars_none hV
 rw[List.append_nil] at hpq
 subst hpq
 have hlen:∀{ts:List TypeId} {vs:List Value} {ds:List (DataW H)} {ps:List MemPlace},DataW.TrodAll enc P W 0 (fun _=>true) true ts vs ds ps→ds.length=ts.length:=by
  intro ts
  induction ts with
  | nil=>intro vs ds ps h;obtain⟨_,rfl,_⟩:=trodAll_nil h;rfl
  | cons t ts ih =>
   intro vs ds ps h
   obtain⟨v,vs1,d,ds1,a,b,rfl,rfl,rfl,h1,h2⟩:=trodAll_cons h
   simp[ih h2]
 have hfn:s.fn H (ds++[])={ results:=[.lit (.bool true)],args:=ds }:=by
  rw[List.append_nil]
  exact hs H ds (by rw[hlen hA];simp)
 have hargs:∀sp:Nat→Bool,(∀x∈before,sp x.block=true)→DataW.TrodAll enc P W' 0 sp true f.params.toList args.toList ds before:=fun sp hsp=>yK hl hb hr hA hlt hsp
 have hresl:(Value.bool true).resultList f.resultTypes.size=[.bool true]:=by rw[hres];rfl
 have hrt:∀(b:Nat) (sp:Nat→Bool) (hd:Bool),DataW.TrodAll enc P W' b sp hd f.resultTypes.toList ((Value.bool true).resultList f.resultTypes.size) [.lit (.bool true)] []:=fun b sp hd=>by
  rw[hresl,hres]
  exact trodAll_mk1 (shut_bool htb true)
 refine⟨ds,[],before,[],before,[],hW0,?_,?_,?_,MM h1 h2 hb,fun _=>⟨?_,[.lit (.bool true)]++ds,[],[]++before,⟨[]++before,[],trodAll_append (hargs _ fun _ _=>rfl) (hrt _ _ _),?_,by simp,fun b off hp=>?_,fun ha=>?_⟩,fun x hx _=>?_⟩⟩
 ·rw[hfn];exact hrt _ _ _
 ·rw[hfn];exact hargs _ fun x hx=>by simpa using hlt x hx
 ·rw[hfn,hvars];rfl
 ·exact ok_one hres rfl (okWide_bool_mk htb true)
 ·rw[hvars];rfl
 ·have hp':MemPlace.cell b off∈before:=by simpa using hp
  rw[Hy hb (a:=⟨b,off,none⟩) (hlt _ hp')]
  exact hfz b off (by simpa using hp')
 ·have:=hnd ha
  simpa using this
 ·simpa using hx
theorem Ef{n:Nat}{t:TypeId}{k:IntKind}{cs:List MV}(hk:(td P t).k=.int k)(h:CT P (n+1) t cs):∃v,cs=[.int k v]∧k.min≤v∧v≤k.max:=by
 simp only[CT,hk] at h;exact h
theorem Oj{n:Nat}{t:TypeId}{cs:List MV}(hk:(td P t).k=.str)(h:CT P (n+1) t cs):∃s:ByteArray,cs=[.str s]∧s.size≤maxLen:=by
 simp only[CT,hk] at h;exact h
theorem kN{n:Nat}{t e:TypeId}{cs:List MV}(hk:(td P t).k=.slice e)(h:CT P (n+1) t cs):∃xs,cs=[.lst (td P e).size xs false]∧xs.length≤maxLen∧∀x,x∈xs→CT P n e x:=by
 simp only[CT,hk] at h;exact h
theorem fX{n:Nat}{t:TypeId}{fs:List (Nat × TypeId)}{cs:List MV}(hk:(td P t).k=.struct fs)(h:CT P (n+1) t cs):cs.length=(td P t).size∧∀f,f∈fs→CT P n f.2 ((cs.drop f.1).take (td P f.2).size):=by
 simp only[CT,hk] at h;exact h
theorem JS{n m:Nat}{t e:TypeId}{cs:List MV}(hk:(td P t).k=.array m e)(h:CT P (n+1) t cs):cs.length=(td P t).size∧∀i,i<m→CT P n e ((cs.drop (i * (td P e).size)).take (td P e).size):=by
 simp only[CT,hk] at h;exact h
theorem FW{n:Nat}{t:TypeId}{m:MV}(hk:(td P t).k.isAgg=false)(h:AT P n t m):CT P n t [m]:=by
 simpa only[AT,hk,Bool.false_eq_true,if_false] using h
theorem Of{n:Nat}{t:TypeId}{m:MV}(hk:(td P t).k.isAgg=true)(h:AT P n t m):∃cs,m=.agg cs∧CT P n t cs:=by
 simpa only[AT,hk,if_true] using h
theorem kS{α:Type}{f:α→List MV}{xs:List (List MV)}(h:∀x,x∈xs→∃a,x=f a):∃l:List α,xs=l.map f:=by
 induction xs with
 | nil=>exact⟨[],rfl⟩
 | cons x xs ih =>
  obtain⟨a,rfl⟩:=h x (List.mem_cons_self ..)
  obtain⟨l,rfl⟩:=ih fun y hy=>h y (List.mem_cons_of_mem _ hy)
  exact⟨a::l,rfl⟩
theorem FY{a b:MV}(h:[a]=[b]):a=b:=by simpa using h
end
end

section
open Go.Shelf
def gX:Go.Shelf.Ren:=⟨fun|144=>296|143=>319|219=>331|217=>333|225=>334|224=>335|267=>336|266=>337|314=>338|n=>n,fun|9=>9|4=>4|3=>3|5=>5|46=>263|146=>351|51=>23|n=>n,fun|1=>1|n=>n⟩
theorem pU:Go.Proofs.LaysM.n144 Tryz.prog gX:={
  mixed:=by kernel_rfl
  f143:=Tryz.func319.trans (congrArg some (by kernel_rfl))
  f144:=Tryz.func296.trans (congrArg some (by kernel_rfl))
  f217:=Tryz.func333.trans (congrArg some (by kernel_rfl))
  f219:=Tryz.func331.trans (congrArg some (by kernel_rfl))
  f224:=Tryz.func335.trans (congrArg some (by kernel_rfl))
  f225:=Tryz.func334.trans (congrArg some (by kernel_rfl))
  f266:=Tryz.func337.trans (congrArg some (by kernel_rfl))
  f267:=Tryz.func336.trans (congrArg some (by kernel_rfl))
  f314:=Tryz.func338.trans (congrArg some (by kernel_rfl))
  t3:=Tryz.underlying3
  a3:=Tryz.isAgg3
  z3:=Tryz.sizeOf3
  v3:=Tryz.zeroValue3
  t4:=Tryz.underlying4
  a4:=Tryz.isAgg4
  z4:=Tryz.sizeOf4
  v4:=Tryz.zeroValue4
  t5:=Tryz.underlying5
  a5:=Tryz.isAgg5
  z5:=Tryz.sizeOf5
  v5:=Tryz.zeroValue5
  t9:=Tryz.underlying9
  a9:=Tryz.isAgg9
  z9:=Tryz.sizeOf9
  v9:=Tryz.zeroValue9
  t46:=Tryz.underlying263
  a46:=Tryz.isAgg263
  z46:=Tryz.sizeOf263
  v46:=Tryz.zeroValue263
  t51:=Tryz.underlying23
  a51:=Tryz.isAgg23
  z51:=Tryz.sizeOf23
  v51:=Tryz.zeroValue23
  t146:=Tryz.underlying351
  a146:=Tryz.isAgg351
  z146:=Tryz.sizeOf351
  v146:=Tryz.zeroValue351
  g1:=by kernel_rfl
  i3:=by kernel_rfl
  i4:=by kernel_rfl
  i5:=by kernel_rfl
  i9:=by kernel_rfl
  i46:=by kernel_rfl
  i51:=by kernel_rfl
  i146:=by kernel_rfl
  m1:=by kernel_rfl
  s1_3:=fun w h=>Go.Proofs.cell_of_shapedOpen_int (zero:=#[.int .i64 0]) (t:=3) h (of_decide_eq_true (by kernel_rfl)) (by kernel_rfl) rfl (by kernel_rfl) (by kernel_rfl) Tryz.underlying3 }
end

section
open Go.Shelf
theorem xK:∀W:World,W.ShapedOpen Tryz.prog→∀g,g∈GI→∃m,W.cell? ⟨g,0,none⟩=some (.int .i64 m):=fun W h g hg=>by
 simp only[GI,List.mem_cons,List.not_mem_nil,or_false] at hg
 subst hg
 exact pU.s1_3 W h
theorem rN(s sub:ByteArray)(hs:s.size≤1000000):aA Tryz.prog 296 [.str s,.str sub] St.none fun r _=>r=.bool (Lib.contains s.data.toList sub.data.toList):=by
 refine⟨⟨_,Tryz.func296,rfl,rfl⟩,fun Φ w vs hi hr=>?_⟩
 obtain⟨m,hm⟩:=hi.fresh.2.2 (gX.g 1) (by simp[GI,gX])
 have e0:=(hr.2 0 _ rfl).eP
 have e1:=(hr.2 1 _ rfl).eP
 have hv:vs=#[.string s,.string sub]:=by
  have h1:=hr.1
  apply Array.ext
  ·simpa using h1
  ·intro i h3 h4
   match i,h3 with
   | 0,h3=>simpa[Array.getD_eq_getD_getElem?,Array.getElem?_eq_getElem h3] using e0
   | 1,h3=>simpa[Array.getD_eq_getD_getElem?,Array.getElem?_eq_getElem h3] using e1
   | i+2,_=>simp at h4;omega
 subst hv
 refine(Any.strings_Contains { pU with } s sub m w (by omega) (hi.snap _ _ hm)).mono ?_
 rintro e' w' ⟨rfl,rfl⟩
 exact⟨_,_,_,Φ,rfl,.bool _,hi,.refl _ _ _,rfl⟩
end

section
structure DE where
 id:Int
 ver:Int
 sq:Int
 deriving DecidableEq
abbrev DE.c(d:DE):List MV:=[.int .i64 d.id,.int .i64 d.ver,.int .i64 d.sq]
abbrev aP(n:Int):List MV:=[.int .i64 n]
structure GR where
 no:Int
 mem:List Int
 deriving DecidableEq
abbrev GR.c(g:GR):List MV:=[.int .i64 g.no,.lst 1 (g.mem.map aP) false]
structure BK where
 sq:Int
 nx:Int
 cards:List CA
 dead:List DE
 gr:List GR
 deriving DecidableEq
abbrev BK.c(b:BK):List MV:=[.int .i64 b.sq,.int .i64 b.nx,.lst 27 (b.cards.map CA.c) false,.lst 3 (b.dead.map DE.c) false,.lst 2 (b.gr.map GR.c) false]
structure TU where
 sq:Int
 id:Int
 old:Int
 new:Int
 card:CA
 deriving DecidableEq
abbrev TU.c(t:TU):List MV:=.int .i64 t.sq::.int .i64 t.id::.int .i64 t.old::.int .i64 t.new::t.card.c
structure SU where
 dev:Int
 ep:Int
 fl:List ND
 mask:UInt32
 floor:Int
 mem:List Int
 log:List TU
 deriving DecidableEq
abbrev SU.c(s:SU):List MV:=[.int .i64 s.dev,.int .i64 s.ep,.lst 5 (s.fl.map ND.c) false,.int .u32 (s.mask.toNat:Int),.int .i64 s.floor,.lst 1 (s.mem.map aP) false,.lst 31 (s.log.map TU.c) false]
structure RW where
 last:Int
 ep:Int
 ans:RE
 deriving DecidableEq
abbrev RW.c(r:RW):List MV:=.int .i64 r.last::.int .i64 r.ep::r.ans.c
structure SA where
 bk:BK
 subs:List SU
 rows:List RW
 deriving DecidableEq
abbrev SA.c(s:SA):List MV:=s.bk.c++[.lst 7 (s.subs.map SU.c) false,.lst 12 (s.rows.map RW.c) false]
end

section
set_option maxRecDepth 100000
set_option maxHeartbeats 8000000
def tV(g:FuncId)(v:MV):bR:=fun g' _=>if g'=g then some ⟨[],fun w=>w=v,none⟩ else none
theorem gJ{g:FuncId}{v:MV}{ms:List MV}:tV g v g ms=some ⟨[],fun w=>w=v,none⟩:=by simp[tV]
instance:Inhabited DE:=⟨⟨0,0,0⟩⟩
def deZ:DE:=⟨0,0,0⟩
def tuZ:TU:=⟨0,0,0,0,ca0⟩
theorem O1{a b:TU}:a=b↔a.sq=b.sq∧a.id=b.id∧a.old=b.old∧a.new=b.new∧a.card=b.card:=by
 obtain⟨a1,a2,a3,a4,a5⟩:=a
 obtain⟨b1,b2,b3,b4,b5⟩:=b
 simp
theorem KK(d:Nat)(a b:TU):gT Tryz.prog (d+5) 128 (.agg a.c) (.agg b.c)=some (decide (a=b)):=by
 have hp:cP Tryz.prog 128=true:=by decide +kernel
 have hq:=uR d a.card b.card
 rw[j9 (by rw[DA]) hp]
 simp only[bP,wU,td3,dA,TK.isAgg,if_true,Bool.false_eq_true,if_false,List.getD_cons_zero,List.getD_cons_succ,List.length_cons,List.length_nil,List.drop_succ_cons,List.drop_zero,List.take_succ_cons,fK (Nat.le_refl 24),bU,hq,mK O0]
 simp[O1,Bool.decide_and]
theorem Nz:cP Tryz.prog 128=true:=by decide +kernel
theorem KH(a b:TU):bT Tryz.prog 128 .neq (.agg a.c) (.agg b.c)=some (True,.bool (!decide (a=b))):=As (KK 1 a b) Nz
theorem Fs(a b:List Int)(hl:a.length≤1000000)(ta tb:Bool):aA Tryz.prog 100 [.lst 1 (a.map aP) ta,.lst 1 (b.map aP) tb] St.none (fun r _=>r=.bool (decide (a=b))):=by
 refine(aA.body 26 [.tmp 4] Tryz.func100 rfl rfl rfl rfl ?_)
 by_cases hlen:a.length=b.length
 ·repeat' (first|(with_reducible first|(refine wN fun _ hnl=>?_;revert hnl;(repeat refine wS fun _ _=>?_);intro hnl)|refine wE ?_|(refine wK ?_ ?_<;>intro h)|(refine wB ?_ ?_<;>intro h<;>simp only[h]))|simp(maxSteps:=4000000) (disch:=first|exact ddL|fail) only[go_sem,simprocAttr,Tryz.f100])
  refine aF (α:=Nat) (fun i=>⟨26,[(5,.int .i64 (i:Int)),(0,.lst 1 (a.map aP) ta),(1,.lst 1 (b.map aP) tb)],[]⟩) (fun _=>St.none) (fun i=>i≤a.length∧a.take i=b.take i) (fun i=>a.length - i) (.of (.less ?_ (St.le_refl _)) ⟨0,rfl,rfl,Nat.zero_le _,rfl⟩) ?_
  ·simp(maxSteps:=4000000) (disch:=first|exact ddL|fail) only[go_sem,simprocAttr,aC,aB]
   all_goals rfl
  ·rintro i ⟨hi,hq⟩
   by_cases hlt:i<a.length
   ·have hsa:=List.take_succ_eq_append_getElem (l:=a) hlt
    have hib:i<b.length:=by omega
    have hsb:=List.take_succ_eq_append_getElem (l:=b) hib
    rw[←bG 0 hlt] at hsa
    rw[←bG 0 hib] at hsb
    have hma:=dJ 0 hlt
    have hmb:=dJ 0 hib
    obtain⟨x,hx⟩:∃x,a.getD i 0=x:=⟨_,rfl⟩
    obtain⟨y,hy⟩:∃y,b.getD i 0=y:=⟨_,rfl⟩
    rw[hx] at hsa hma
    rw[hy] at hsb hmb

    by_cases he:x=y
    ·have hyy:=he
     repeat' (first|(with_reducible first|(refine wN fun _ hnl=>?_;revert hnl;(repeat refine wS fun _ _=>?_);intro hnl)|refine wE ?_|(refine wK ?_ ?_<;>intro h)|(refine wB ?_ ?_<;>intro h<;>simp only[h]))|simp(maxSteps:=4000000) (disch:=first|exact ddL|fail) only[go_sem,simprocAttr,bE (0:Int),aP,hx,hy,he])
     refine .of (.less ?_ (St.le_refl _)) ⟨i+1,rfl,rfl,⟨by omega,by rw[hsa,hsb,hq,he]⟩,by omega⟩
     simp(maxSteps:=4000000) (disch:=first|exact ddL|fail) only[go_sem,simprocAttr,aC,aB]
     all_goals rfl
    ·have hyy:=he
     have hne:¬a=b:=fun e=>he (by rw[←hx,←hy,e])
     rw[decide_eq_false hne]
     repeat' (first|(with_reducible first|(refine wN fun _ hnl=>?_;revert hnl;(repeat refine wS fun _ _=>?_);intro hnl)|refine wE ?_|(refine wK ?_ ?_<;>intro h)|(refine wB ?_ ?_<;>intro h<;>simp only[h]))|simp(maxSteps:=4000000) (disch:=first|exact ddL|fail) only[go_sem,simprocAttr,bE (0:Int),aP,hx,hy,he])
     all_goals done
   ·have:i=a.length:=by omega
    subst this
    rw[List.take_length,hlen,List.take_length] at hq
    rw[decide_eq_true hq]
    repeat' (first|(with_reducible first|(refine wN fun _ hnl=>?_;revert hnl;(repeat refine wS fun _ _=>?_);intro hnl)|refine wE ?_|(refine wK ?_ ?_<;>intro h)|(refine wB ?_ ?_<;>intro h<;>simp only[h]))|simp(maxSteps:=4000000) (disch:=first|exact ddL|fail) only[go_sem,simprocAttr])
    all_goals done
 ·rw[decide_eq_false fun e=>hlen (by rw[e])]
  repeat' (first|(with_reducible first|(refine wN fun _ hnl=>?_;revert hnl;(repeat refine wS fun _ _=>?_);intro hnl)|refine wE ?_|(refine wK ?_ ?_<;>intro h)|(refine wB ?_ ?_<;>intro h<;>simp only[h]))|simp(maxSteps:=4000000) (disch:=first|exact ddL|fail) only[go_sem,simprocAttr,Tryz.f100])
  all_goals (first|rfl|(exfalso;omega))
theorem Dr(a b:List TU)(hl:a.length≤1000000)(ta tb:Bool):aA Tryz.prog 102 [.lst 31 (a.map TU.c) ta,.lst 31 (b.map TU.c) tb] St.none (fun r _=>r=.bool (decide (a=b))):=by
 refine(aA.body 26 [.tmp 4] Tryz.func102 rfl rfl rfl rfl ?_)
 by_cases hlen:a.length=b.length
 ·repeat' (first|(with_reducible first|(refine wN fun _ hnl=>?_;revert hnl;(repeat refine wS fun _ _=>?_);intro hnl)|refine wE ?_|(refine wK ?_ ?_<;>intro h)|(refine wB ?_ ?_<;>intro h<;>simp only[h]))|simp(maxSteps:=4000000) (disch:=first|exact ddL|fail) only[go_sem,simprocAttr,Tryz.f102])
  refine aF (α:=Nat) (fun i=>⟨26,[(5,.int .i64 (i:Int)),(0,.lst 31 (a.map TU.c) ta),(1,.lst 31 (b.map TU.c) tb)],[]⟩) (fun _=>St.none) (fun i=>i≤a.length∧a.take i=b.take i) (fun i=>a.length - i) (.of (.less ?_ (St.le_refl _)) ⟨0,rfl,rfl,Nat.zero_le _,rfl⟩) ?_
  ·simp(maxSteps:=4000000) (disch:=first|exact ddL|fail) only[go_sem,simprocAttr,aC,aB]
   all_goals rfl
  ·rintro i ⟨hi,hq⟩
   by_cases hlt:i<a.length
   ·have hsa:=List.take_succ_eq_append_getElem (l:=a) hlt
    have hib:i<b.length:=by omega
    have hsb:=List.take_succ_eq_append_getElem (l:=b) hib
    rw[←bG tuZ hlt] at hsa
    rw[←bG tuZ hib] at hsb
    have hma:=dJ tuZ hlt
    have hmb:=dJ tuZ hib
    obtain⟨x,hx⟩:∃x,a.getD i tuZ=x:=⟨_,rfl⟩
    obtain⟨y,hy⟩:∃y,b.getD i tuZ=y:=⟨_,rfl⟩
    rw[hx] at hsa hma
    rw[hy] at hsb hmb
    have hm:=KH x y
    by_cases he:x=y
    ·rw[decide_eq_true he] at hm
     repeat' (first|(with_reducible first|(refine wN fun _ hnl=>?_;revert hnl;(repeat refine wS fun _ _=>?_);intro hnl)|refine wE ?_|(refine wK ?_ ?_<;>intro h)|(refine wB ?_ ?_<;>intro h<;>simp only[h]))|simp(maxSteps:=4000000) (disch:=first|exact ddL|fail) only[go_sem,simprocAttr,FXs,bE tuZ,hx,hy,hm])
     refine .of (.less ?_ (St.le_refl _)) ⟨i+1,rfl,rfl,⟨by omega,by rw[hsa,hsb,hq,he]⟩,by omega⟩
     simp(maxSteps:=4000000) (disch:=first|exact ddL|fail) only[go_sem,simprocAttr,aC,aB]
     all_goals rfl
    ·rw[decide_eq_false he] at hm
     have hne:¬a=b:=fun e=>he (by rw[←hx,←hy,e])
     rw[decide_eq_false hne]
     repeat' (first|(with_reducible first|(refine wN fun _ hnl=>?_;revert hnl;(repeat refine wS fun _ _=>?_);intro hnl)|refine wE ?_|(refine wK ?_ ?_<;>intro h)|(refine wB ?_ ?_<;>intro h<;>simp only[h]))|simp(maxSteps:=4000000) (disch:=first|exact ddL|fail) only[go_sem,simprocAttr,FXs,bE tuZ,hx,hy,hm])
     all_goals done
   ·have:i=a.length:=by omega
    subst this
    rw[List.take_length,hlen,List.take_length] at hq
    rw[decide_eq_true hq]
    repeat' (first|(with_reducible first|(refine wN fun _ hnl=>?_;revert hnl;(repeat refine wS fun _ _=>?_);intro hnl)|refine wE ?_|(refine wK ?_ ?_<;>intro h)|(refine wB ?_ ?_<;>intro h<;>simp only[h]))|simp(maxSteps:=4000000) (disch:=first|exact ddL|fail) only[go_sem,simprocAttr])
    all_goals done
 ·rw[decide_eq_false fun e=>hlen (by rw[e])]
  repeat' (first|(with_reducible first|(refine wN fun _ hnl=>?_;revert hnl;(repeat refine wS fun _ _=>?_);intro hnl)|refine wE ?_|(refine wK ?_ ?_<;>intro h)|(refine wB ?_ ?_<;>intro h<;>simp only[h]))|simp(maxSteps:=4000000) (disch:=first|exact ddL|fail) only[go_sem,simprocAttr,Tryz.f102])
  all_goals (first|rfl|(exfalso;omega))
end

section
open Go.Conc.Locks
section
variable {P:Program} {L:MuLink}
def OH(n n':Int)(o:Option aW)(l:Nat)(σ:St)(k:MV→St→Prop):Prop:=match o with
 | some (.row t e [.int .i32 a::rest])=>fN (a=n) (bQ (.tup []) (σ.set l (.row t e [.int .i32 n'::rest])) k)
 | _=>False
theorem EZ{n n' a:Int}{l:Nat}{σ:St}{k:MV→St→Prop}{t:TypeId}{e:Nat}{rest:List MV}:R (OH n n' (some (.row t e [.int .i32 a::rest])) l σ k)=R (fN (E (a=n)) (bQ (.tup []) (σ.set l (.row t e [.int .i32 n'::rest])) k)):=rfl
end
attribute [go_sem] EZ
end

section
abbrev mu:Go.Conc.Locks.MuLink:={ lock:=248,unlock:=249,ilock:=291,iunlock:=292,lockSlow:=314,unlockSlow:=317,disable:=310,enable:=312,acquire:=313,relMerge:=315,cas32:=311,add32:=316,tMutex:=186,tIMutex:=184,tPMutex:=320,tPIMutex:=334,tPI32:=336,tUP:=338,tNoCopy:=179,tU32:=23 }
theorem KX:Go.Conc.Locks.MuLib Tryz.prog mu :=
  ⟨Tryz.func248,Tryz.func249,Tryz.func291,Tryz.func292,Tryz.func310,Tryz.func312,Tryz.func313,Tryz.func315,Tryz.func311,Tryz.func316,Tryz.underlying184,Tryz.runUnderlying184,Tryz.sizeOf184,Tryz.isAgg184,Tryz.zeroValue184,Tryz.underlying186,Tryz.runUnderlying186,Tryz.sizeOf186,Tryz.isAgg186,Tryz.zeroValue186,Tryz.underlying320,Tryz.runUnderlying320,Tryz.sizeOf320,Tryz.isAgg320,Tryz.zeroValue320,Tryz.underlying334,Tryz.runUnderlying334,Tryz.sizeOf334,Tryz.isAgg334,Tryz.zeroValue334,Tryz.underlying336,Tryz.runUnderlying336,Tryz.sizeOf336,Tryz.isAgg336,Tryz.zeroValue336,Tryz.underlying338,Tryz.runUnderlying338,Tryz.sizeOf338,Tryz.isAgg338,Tryz.zeroValue338,Tryz.underlying179,Tryz.runUnderlying179,Tryz.sizeOf179,Tryz.isAgg179,Tryz.zeroValue179,Tryz.underlying21,Tryz.runUnderlying21,Tryz.sizeOf21,Tryz.isAgg21,Tryz.zeroValue21,(by kernel_rfl)⟩
end

section
theorem Nl{P:Program}{ops:Array Oper}{F:Fence}(o:Oper)(r:List Oper):∀(l:List Oper),(F=Fence.wide∨∃l0,F=Fence.wide.inRound l0∧∀x,x∈l++o::r→∀c,x.op≠.defer c)→o.guard=none→∀{Q:MQ} {Φ0:Phi} {σ0:St} {w0:World} (f:FR) (σ:St) (Φ:Phi) (w:World) (a:Act),
  eB P ops (fun f σ=>sop P o f σ fun v σ'=>eB P ops (Q .normal) r (bD f o.dst v) σ') l f σ→Inv Φ w σ→cL Φ a.tmps f→dR Φ w a.defers f.d →
  Step Φ0 σ0 w0 Φ σ w→wpListIn F 0 P ops (lift Φ0 σ0 w0 Q) (l++o::r) a w:=by
 intro l
 induction l with
 | nil =>
  intro hF hg Q Φ0 σ0 w0 f σ Φ w a h hi hr hd hs
  have hFo:F=Fence.wide∨∃l0,F=Fence.wide.inRound l0∧∀c,o.op≠.defer c:=hF.imp id fun⟨l0,e,q⟩=>⟨l0,e,q o (by simp)⟩
  have hFr:F=Fence.wide∨∃l0,F=Fence.wide.inRound l0∧∀y,y∈r→∀c,y.op≠.defer c:=hF.imp id fun⟨l0,e,q⟩=>⟨l0,e,fun y ho=>q y (by simp[ho])⟩
  have h:sop P o f σ fun v σ'=>eB P ops (Q .normal) r (bD f o.dst v) σ':=h
  simp only[List.nil_append]
  have h':fJ ops f o (sop P o f σ fun v σ'=>eB P ops (Q .normal) r (bD f o.dst v) σ') False:=by unfold fJ;rw[hg];exact h
  unfold wpListIn
  rcases cF h' hr with⟨hw,hy⟩|⟨hw,hn⟩
  ·rw[if_pos hw]
   refine eZ hFo ?_
   exact h Φ w a _ _ hi hr (fun v mv σ' Φ' w' r1 i1 s1 hk=>uX r hFr _ _ Φ' w' (a.put o.dst v) hk i1 (cO (hr.mono s1.le) o.dst r1) (by rw[bN,eF];exact hd.step hi s1) (hs.trans s1))
  ·exact hn.elim
 | cons x rest ih =>
  intro hF hg Q Φ0 σ0 w0 f σ Φ w a h hi hr hd hs
  have hFr:F=Fence.wide∨∃l0,F=Fence.wide.inRound l0∧∀y,y∈rest++o::r→∀c,y.op≠.defer c:=hF.imp id fun⟨l0,e,q⟩=>⟨l0,e,fun y ho=>q y (List.mem_cons_of_mem _ ho)⟩
  have hFo:F=Fence.wide∨∃l0,F=Fence.wide.inRound l0∧∀c,x.op≠.defer c:=hF.imp id fun⟨l0,e,q⟩=>⟨l0,e,q x (List.mem_cons_self ..)⟩
  have hfn:∀g,F.fn g:=fun g=>by rcases hF with rfl|⟨l,rfl,_⟩<;>trivial
  simp only[eB] at h
  simp only[List.cons_append]
  unfold wpListIn
  rcases cF h hr with⟨hw,hy⟩|⟨hw,hn⟩
  ·rw[if_pos hw]
   refine eZ hFo ?_
   by_cases hdef:∃c,x.op=.defer c
   ·obtain⟨c,hc⟩:=hdef
    rw[hc] at hy
    have hy:uO f c fun f'=>eB P ops (fun f σ=>sop P o f σ fun v σ'=>eB P ops (Q .normal) r (bD f o.dst v) σ') rest (bD f' x.dst .junk) σ:=hy
    obtain⟨d,f',h1,h2,h3,h4⟩:=pW (P:=P) (w:=w) hc hy hr hd
    unfold Oper.wp
    rw[h1]
    refine ih hFr hg _ _ Φ w _ h4 hi (cO (a:={ a with defers:=d::a.defers }) h2 x.dst (.junk _)) ?_ hs
    rw[bN,eF]
    exact h3
   ·exact kB (fun c hc=>hdef ⟨c,hc⟩) hy Φ w a _ _ hi hr (fun v mv σ' Φ' w' r1 i1 s1 hk=>ih hFr hg _ _ Φ' w' (a.put x.dst v) hk i1 (cO (hr.mono s1.le) x.dst r1) (by rw[bN,eF];exact hd.step hi s1) (hs.trans s1))
  ·rw[if_neg (by simp[hw])]
   exact⟨fun f _=>hfn f,ih hFr hg _ _ Φ w (a.put x.dst undef) hn hi (cO hr x.dst gA) (by rw[bN,eF];exact hd) hs⟩
theorem xV{P:Program}{id:Nat}{ops:Array Oper}{f:FR}{σ:St}{Q:MQ}(l:List Oper)(o:Oper)(r:List Oper)(he:ops.toList=l++o::r)(hg:o.guard=none)
 (h:eB P ops (fun f σ=>sop P o f σ fun v σ'=>eB P ops (Q .normal) r (bD f o.dst v) σ') l f σ):mwp P (.region id ops false) f σ Q :=
 fun F hF Φ w a hi hr hd=>wpIn_region_list (by
  rw[he]
  refine Nl o r l ?_ hg f σ Φ w a h hi hr hd (.refl _ _ _)
  have:=hF.ops
  rw[he] at this
  exact this)
theorem mO{P:Program}{id:Nat}{L:List Oper}{f:FR}{σ:St}{Q:MQ}(l:List Oper)(o:Oper)(r:List Oper)(he:L=l++o::r)(hg:o.guard=none)
 (h:R (eB P (@OfNat.ofNat (Array Oper) (nat_lit 0) (@_root_.id (OfNat (Array Oper) (nat_lit 0)) (OfNat.mk (L.toArray)))) (fun f σ=>sop P o f σ fun v σ'=>R (eB P (@OfNat.ofNat (Array Oper) (nat_lit 0) (@_root_.id (OfNat (Array Oper) (nat_lit 0)) (OfNat.mk (L.toArray)))) (Q .normal) r (bD f o.dst v) σ')) l f σ)):mwp P (.region id L.toArray false) f σ Q :=
 xV (ops:=L.toArray) l o r he hg h
theorem Fz{P:Program}{o:Oper}{f:FR}{σ:St}{k:MV→St→Prop}{t kt et:TypeId}{x:Operand}(ho:o.op=.call { callee:=.builtin .len,args:=#[x],argTypes:=#[t] })(ht:(td P t).k=.map kt et)
 {l:Nat}{es:List (MV × MV)}(hm:aH f x=.mapv l)(hl:σ l=some (.mp es))(hk:k (.int .i64 (es.length:Int)) σ):sop P o f σ k:=by
 intro Φ w a K Q' hi hr hK
 have hum:=nS ht
 have rm:=aL hr x
 rw[hm] at rm
 obtain⟨p,R,hp,hR,hmv⟩:=rm.kP
 obtain⟨p',R',c,clock,hp',hR',hh,hs,hst,hrel⟩:=(hi.own l _ hl).Cb
 rw[hp] at hp';cases hp'
 rw[hR] at hR';cases hR'
 have hop:∀r w',(Builtin.len_ #[t] o.type #[a.eval x]).run P w=.ok r w'→(execOp a.eval o).run P w=.ok (.value r) w':=fun r w' h=>by
  unfold execOp
  simp only[ho,resolve,List.map_toArray,List.map_cons,List.map_nil,Sem.run_bind,Sem.run_pure,Result.andThen_ok,invoke]
  show Sem.run P (do pure (Next.value (←Builtin.len_ #[t] o.type #[a.eval x]))) w=_
  simp only[Sem.run_bind,h,Result.andThen_ok,Sem.run_pure]
 refine bH (hop (.int .i64 (es.length:Int)) w ?_) (hK _ _ _ Φ w (.int _ _) hi (.refl _ _ _) hk)
 rw[hmv]
 simp[Builtin.len_,aO hum,Go.MapKept.run_getObj_map hh,goInt,hs]
end

section
open Go.MapKept
def uB(n:Int):List (MV × MV)→List (MV × MV)
 | []=>[]
 | (.int k m,v)::r=>if m=n then r else(.int k m,v)::uB n r
 | x::r=>x::uB n r
theorem yR{k:IntKind}{n:Int}{Φ:Phi}:∀(l:List MapEntry) (es:List (MV × MV)) (i0:Nat),l.length=es.length→(es.all fun x=>isK k x.1)=true→(∀(i:Nat) (x:MV × MV),es[i]?=some x→∃e:MapEntry,l[i]?=some e∧Rel Φ e.key x.1) →
  (Instr.findNow (.int k) (.int k n) l i0=some none∧uB n es=es)∨∃(j:Nat) (e:MapEntry),Instr.findNow (.int k) (.int k n) l i0=some (some (i0+j,e.val))∧j<es.length∧uB n es=es.eraseIdx j
 | [],[],_,_,_,_=>.inl ⟨rfl,rfl⟩
 | [],_::_,_,h,_,_=>by simp at h
 | _::_,[],_,h,_,_=>by simp at h
 | e::l,(x,u)::es,i0,hl,hk,hr=>by
  simp only[List.all_cons,Bool.and_eq_true] at hk
  obtain⟨m,rfl⟩:=iE hk.1
  obtain⟨e',he',hrel⟩:=hr 0 _ rfl
  simp only[List.getElem?_cons_zero,Option.some.injEq] at he'
  subst he'
  have hkey:=hrel.aS
  have q:=yR (n:=n) l es (i0+1) (by simpa using hl) hk.2 fun i x hx=>hr (i+1) x (by simpa using hx)
  by_cases hmn:m=n
  ·subst hmn
   exact .inr ⟨0,e,by simp[Instr.findNow,Instr.sameNow,hkey],by simp,by simp[uB]⟩
  ·have hf:Instr.findNow (.int k) (.int k n) (e::l) i0=Instr.findNow (.int k) (.int k n) l (i0+1):=by
    have:(n==m)=false:=by simpa using Ne.symm hmn
    simp[Instr.findNow,Instr.sameNow,hkey,this]
   rw[hf]
   rcases q with⟨a,b⟩|⟨j,e2,a,b,c⟩
   ·exact .inl ⟨a,by simp[uB,hmn,b]⟩
   ·refine .inr ⟨j+1,e2,?_,by simpa using b,by simp[uB,hmn,c]⟩
    rw[a];simp;omega
theorem BB{α:Type _}{l:List α}{j i:Nat}:(l.eraseIdx j)[i]?=l[if i<j then i else i+1]?:=by
 rw[List.getElem?_eraseIdx]
 split<;>rfl
theorem oL{P:Program}{o:Oper}{f:FR}{σ:St}{k:MV→St→Prop}{t kt et kt':TypeId}{m x:Operand}(ho:o.op=.call { callee:=.builtin .delete,args:=#[m,x],argTypes:=#[t,kt'] })(ht:(td P t).k=.map kt et){kd:IntKind}(hkt:(td P kt).k=.int kd)
 {l:Nat}{es:List (MV × MV)}(hm:aH f m=.mapv l)(hl:σ l=some (.mp es)){n:Int}(hx:aH f x=.int kd n)(he:(es.all fun p=>isK kd p.1)=true)
 (hk:k .junk (σ.set l (.mp (uB n es)))):sop P o f σ k:=by
 intro Φ w a K Q' hi hr hK
 have hum:=nS ht
 have huk:=iH hkt
 have rm:=aL hr m
 have rx:=aL hr x
 rw[hm] at rm
 rw[hx] at rx
 obtain⟨p,R,hp,hR,hmv⟩:=rm.kP
 have hxv:=rx.aS
 obtain⟨p',R',c,clock,hp',hR',hh,hs,hst,hrel⟩:=(hi.own l _ hl).Cb
 rw[hp] at hp';cases hp'
 rw[hR] at hR';cases hR'
 have hrt:=(Array.getElem?_eq_some_iff.1 hh).1
 have hop:∀r w',(Builtin.delete_ #[t,kt'] o.type #[a.eval m,a.eval x]).run P w=.ok r w'→(execOp a.eval o).run P w=.ok (.value r) w':=fun r w' h=>by
  unfold execOp
  simp only[ho,resolve,List.map_toArray,List.map_cons,List.map_nil,Sem.run_bind,Sem.run_pure,Result.andThen_ok,invoke]
  show Sem.run P (do pure (Next.value (←Builtin.delete_ #[t,kt'] o.type #[a.eval m,a.eval x]))) w=_
  simp only[Sem.run_bind,h,Result.andThen_ok,Sem.run_pure]
 rcases yR (n:=n) c.toList es 0 (by simpa using hs) he fun i z hz=>by
  obtain⟨e,h1,h2,_⟩:=hrel i z hz
  exact⟨e,h1,h2⟩ with⟨h1,h2⟩|⟨j,e,h1,hj,h2⟩
 ·have hrun:=hop (.tuple #[]) (fA w R (.map c clock)) (by
   rw[hmv,hxv]
   simp[Builtin.delete_,run_underlying hum,Go.MapKept.run_getObj_map hh,run_checkKey (d:=.int kd) (k:=.int kd n) huk rfl,run_findKey (d:=.int kd) huk h1,run_setObj_map _ hh,Result.andThen,fA])
  have hw:fA w R (.map c clock)=w:=zT hh
  rw[hw] at hrun
  have hσ:σ.set l (.mp (uB n es))=σ:=by
   rw[h2];funext q;by_cases hq:q=l
   ·subst hq;simp[St.set,hl]
   ·simp[St.set,hq]
  rw[hσ] at hk
  exact bH hrun (hK _ .junk _ Φ w (.junk _) hi (.refl _ _ _) hk)
 ·obtain⟨c',hc'⟩:∃c',c'=c.eraseIdxIfInBounds j:=⟨_,rfl⟩
  have hjs:j<c.size:=by omega
  have hl':c'.toList=c.toList.eraseIdx j:=by
   rw[hc']
   unfold Array.eraseIdxIfInBounds
   rw[dif_pos hjs]
   simp
  have hrun:=hop (.tuple #[]) (fA w R (.map c' clock)) (by
   rw[hmv,hxv]
   simp[Builtin.delete_,run_underlying hum,Go.MapKept.run_getObj_map hh,run_checkKey (d:=.int kd) (k:=.int kd n) huk rfl,run_findKey (d:=.int kd) huk h1,run_setObj_map _ hh,Result.andThen,fA,hc'])
  have hsz:c'.size=c.size - 1:=by
   rw[←Array.length_toList,hl',List.length_eraseIdx_of_lt (by simpa using hjs),Array.length_toList]
  obtain⟨i1,s1⟩:=hi.DC (w':=fA w R (.map c' clock)) l hl (.mp (es.eraseIdx j)) hp hR hY (fun q hq=>eI hq) rfl rfl rfl (Nat.le_refl _)
   ⟨p,R,hp,hR,c',clock,gC hrt,⟨by rw[hsz,List.length_eraseIdx_of_lt hj,hs],by rw[hc'];exact stamped_erase hst j⟩,fun i z hz=>by
    rw[BB] at hz
    obtain⟨e,q1,q2,q3⟩:=hrel _ z hz
    have:c'.getD i default=e:=by
     rw[Array.getD_eq_getD_getElem?,←Array.getElem?_toList,hl',BB,q1];rfl
    rw[this]
    exact⟨q2,q3⟩⟩
  rw[←h2] at i1 s1
  exact bH hrun (hK _ .junk _ _ _ (.junk _) i1 s1 hk)
end

section
def Room(l C:Nat)(Φ:Phi):Prop:=∃p,Φ.obj l=some p∧p.C=C
theorem Room.le{l C:Nat}{Φ Φ':Phi}(h:Room l C Φ)(hle:Φ.le Φ'):Room l C Φ':=h.imp fun p q=>⟨hle.obj _ _ q.1,q.2⟩
section
variable {l C:Nat} {P:Program} {f:FR} {σ:St} {Q:MQ}
end
end

section
section
variable {P:Program} {ops:Array Oper}
theorem Ff(hm:P.follows .mixedOrders=true)(C:bR)(pre:List Oper)(y:Oper)(post:List Oper)(ho:ops=(pre++y::post).toArray)(hdef:u9 (pre++y::post)=true)(hchk:(chk ops&&gate ops pre.length&&gate ops (pre.length+1))=true)(hg:y.guard=none){id:Nat}{f:FR}{σ:St}{Q:MQ}
 (h:iN P C ops (fun f1 σ1=>sop P y f1 σ1 fun v σ'=>iN P C ops (Q .normal) post (bD f1 y.dst v) σ') pre f σ):mwp P (.region id ops true) f σ Q:=by
 intro F hF Φ w a hi hr hd
 simp only[Bool.and_eq_true] at hchk
 have hF':F=Fence.wide∨∃l0,F=Fence.wide.inRound l0:=Or.imp (fun q=>q) (fun⟨l0,e,_⟩=>⟨l0,e⟩) hF
 have hfn:∀g,F.fn g:=fun g=>by rcases hF' with rfl|⟨l,rfl⟩<;>trivial
 have hdef':∀o,o∈ops.toList→∀c,o.op≠.defer c:=fun o h=>lK hdef o (by rw[ho] at h;simpa using h)
 refine vR (C:=C.pl) (MC:=o3 P C) hm .no C.GD.u (fun _ _ hd _ _ _ h=>sX hd h) pre y post ho hdef' hchk.1.1 hchk.1.2 hchk.2 hF' hi hr hd ?_ h
 intro f1 σ1 Φ1 w1 a1 N i1 r1 d1 s1 k1 hN
 have hyd:∀c,y.op≠.defer c:=hdef' y (by rw[ho];simp)
 have hFo:F=Fence.wide∨∃l0,F=Fence.wide.inRound l0∧∀c,y.op≠.defer c:=hF'.imp (fun q=>q) fun⟨l0,e⟩=>⟨l0,e,hyd⟩
 unfold FL
 have k1':fJ ops f1 y (sop P y f1 σ1 fun v σ'=>iN P C ops (Q .normal) post (bD f1 y.dst v) σ') False:=by unfold fJ;rw[hg];exact k1
 rcases cF k1' r1 with⟨hw,hk⟩|⟨hw,hk⟩
 ·rw[if_pos hw]
  refine eZ hFo (k1 Φ1 w1 a1 _ _ i1 r1 fun v mv σ' Φ' w' r2 i2 s2 hk2=>?_)
  exact hN (Q .normal) _ σ' Φ' w' (a1.put y.dst v) i2 (cO (r1.mono s2.le) y.dst r2) (by rw[bN,eF];exact d1.step i1 s2) (fun f3 σ3 Φ3 w3 a3 i3 r3 d3 s3 k3=>⟨f3,σ3,Φ3,d3,r3,i3,s1.trans (s2.trans s3),k3⟩) hk2
 ·exact hk.elim
theorem pX{id:Nat}{l:List Oper}{f:FR}{σ:St}{Q:MQ}(hm:P.follows .mixedOrders=true)(C:bR)(pre:List Oper){dst:Option Tmp}{op:Op}{ty:TypeId}{pos:String}{after:Array Edge}(post:List Oper)(ho:l=pre++⟨dst,op,ty,pos,after,none⟩::post)
 (hchk:(u9 l&&(chk l.toArray&&gate l.toArray pre.length&&gate l.toArray (pre.length+1)))=true)
 (h:R (iN P C (@OfNat.ofNat (Array Oper) (nat_lit 0) (@_root_.id (OfNat (Array Oper) (nat_lit 0)) (OfNat.mk (l.toArray)))) (fun f1 σ1=>sop P ⟨dst,op,ty,pos,after,none⟩ f1 σ1 fun v σ'=>R (iN P C (@OfNat.ofNat (Array Oper) (nat_lit 0) (@_root_.id (OfNat (Array Oper) (nat_lit 0)) (OfNat.mk (l.toArray)))) (Q .normal) (@OfNat.ofNat (List Oper) (nat_lit 0) (@_root_.id (OfNat (List Oper) (nat_lit 0)) (OfNat.mk post))) (bD f1 dst v) σ'))
   (@OfNat.ofNat (List Oper) (nat_lit 0) (@_root_.id (OfNat (List Oper) (nat_lit 0)) (OfNat.mk pre))) f σ)):R (oG P id (@OfNat.ofNat (List Oper) (nat_lit 0) (@_root_.id (OfNat (List Oper) (nat_lit 0)) (OfNat.mk l))) f σ Q):=by
 rw[Bool.and_eq_true] at hchk
 exact Ff hm C pre ⟨dst,op,ty,pos,after,none⟩ post (by rw[←ho]) (by rw[←ho];exact hchk.1) hchk.2 rfl h
end
end
end Go.Proofs.YtppdgejjmhdjhaaGreatDoor
