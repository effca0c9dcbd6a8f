/- Parts of the proof, joined; conditions: those that its theorems name. -/
import Derived.Test.YtaojijkdamfbnaaGreatDoorMbl
import Derived.Test.YtaojijkdamfbnaaGreatDoorMbn
import Derived.Test.YtaojijkdamfbnaaGreatDoorMbo
set_option linter.unusedVariables false
set_option linter.unusedSimpArgs false
set_option maxHeartbeats 4000000
namespace Go.Proofs.YtaojijkdamfbnaaGreatDoor
section
theorem Fh{α:Type}(D ex Y:List α)(m y:Nat)(h1:D.length=m)(h2:Y.length=y):List.take m (D++ex)++Y++List.drop (m+y) (D++ex)=(D++Y)++ex.drop y:=by
 subst h1 h2
 rw[List.take_left,List.drop_append,List.drop_eq_nil_of_le (by omega),List.nil_append,Nat.add_sub_cancel_left]
abbrev T.kl(t:T):List (List MV):=t.kids.map fun k=>[.lst 5 (k.fl.map ND.c) false]
theorem KI{t:T}(h:t.ok){i:Nat}(hi:i<t.kids.length) :
  fS t.fl ((1+((t.kids.take i).map T.fl).flatten.length:Nat):Int)=((1+((t.kids.take (i+1)).map T.fl).flatten.length:Nat):Int) ∧
  (t.fl.take (1+((t.kids.take (i+1)).map T.fl).flatten.length)).drop (1+((t.kids.take i).map T.fl).flatten.length)=(t.kids.getD i (.leaf nd0)).fl ∧
  1+((t.kids.take i).map T.fl).flatten.length≤1+((t.kids.take (i+1)).map T.fl).flatten.length∧1+((t.kids.take (i+1)).map T.fl).flatten.length≤t.fl.length∧(t.kids.getD i (.leaf nd0)).fl.length≤t.fl.length:=by
 obtain⟨h1,h2⟩:=T.EZ h
 obtain⟨k,hk⟩:∃k,t.kids.getD i (.leaf nd0)=k:=⟨_,rfl⟩
 have hg:t.kids[i]=k:=by rw[←hk,bQ _ hi]
 have hko:=h2 k (by rw[←hk];exact fZ _ hi)
 have e1:((t.kids.take (i+1)).map T.fl).flatten=((t.kids.take i).map T.fl).flatten++k.fl:=by
  rw[List.take_succ_eq_append_getElem hi,hg];simp
 have e2:t.fl=(t.root::((t.kids.take i).map T.fl).flatten)++(k.fl++((t.kids.drop (i+1)).map T.fl).flatten):=by
  rw[T.EB]
  conv=>lhs;rw[←List.take_append_drop i t.kids,List.drop_eq_getElem_cons hi,hg]
  simp
 have e3:(t.root::((t.kids.take i).map T.fl).flatten).length=1+((t.kids.take i).map T.fl).flatten.length:=by rw[List.length_cons];omega
 rw[e1,List.length_append,hk]
 generalize hA:t.root::((t.kids.take i).map T.fl).flatten=A at e2 e3
 have e4:=Ep hko A ((t.kids.drop (i+1)).map T.fl).flatten
 rw[←e2,e3] at e4
 refine⟨by rw[e4,Nat.add_assoc],?_,by omega,by rw[e2];simp only[List.length_append];omega,by rw[e2];simp only[List.length_append];omega⟩
 rw[←Nat.add_assoc,←e3,e2,←List.append_assoc,←List.length_append,List.take_left,List.drop_left]
set_option maxHeartbeats 2000000 in
theorem lE (t:T) (h:t.ok) (hl:t.fl.length≤1000) (tt:Bool):aA Tryz.prog 92 [.lst 5 (t.fl.map ND.c) tt,.int .i64 0] St.none (fun r _=>r=.lst 1 t.kl false):=by
 refine aA.seen (aA.body 44 [.tmp 4] Tryz.func92 rfl rfl rfl rfl ?_)
 have hpos:=t.yD
 have hf0:(t.fl.getD 0 nd0)=t.root:=by rw[T.EB];rfl
 obtain⟨h1,h2⟩:=T.EZ h
 have hb2:t.kids.length≤2:=by have:=iN t.root.op;omega
 repeat' (first|(with_reducible first|(refine wT ?_;(first|((fail_if_success (have:=nl1));refine wN fun nl1 hnl=>?_)|((fail_if_success (have:=nl2));refine wN fun nl2 hnl=>?_)|((fail_if_success (have:=nl3));refine wN fun nl3 hnl=>?_)|((fail_if_success (have:=nl4));refine wN fun nl4 hnl=>?_)|((fail_if_success (have:=nl5));refine wN fun nl5 hnl=>?_)|refine wN fun _ hnl=>?_);revert hnl;(repeat refine wS fun _ _=>?_);intro hnl)|refine wD (by decide +kernel) ?_|refine wI (fun h=>?_) fun h=>?_|refine wF (fun h=>?_) fun h=>?_|refine wG (fun h=>?_) fun h=>?_|refine wH (fun h=>?_) fun h=>?_|((first|refine aE (fun h=>?_) fun h=>?_|refine aD (fun h=>?_) fun h=>?_)<;>simp only[h]))|simp(maxSteps:=4000000) (disch:=first|exact ddL|fail) only[go_sem,simprocAttr,Tryz.f92,bJ nd0])
 refine aG (α:=Nat × Nat × List (List MV)) (fun a=>⟨44,[(7,.int .i64 (a.1:Int)),(6,.int .i64 ((1+((t.kids.take a.1).map T.fl).flatten.length:Nat):Int)),(5,.vec 1 a.2.1 0 a.1),(0,.lst 5 (t.fl.map ND.c) tt),(1,.int .i64 0)],[]⟩)
  (fun a=>St.none.set a.2.1 (.row 27 1 ((t.kl.take a.1)++a.2.2))) (fun a=>a.1≤t.kids.length) (fun a=>t.kids.length - a.1) ?_ ?_
 ·refine .of (.less ?_ (St.le_refl _)) ⟨(0,nl1,[]),rfl,rfl,Nat.zero_le _⟩
  simp(maxSteps:=4000000) (disch:=first|exact ddL|fail) only[go_sem,simprocAttr,aC,aB]
  all_goals first|exact⟨rfl,rfl⟩|rfl
 ·rintro⟨i,q,ex⟩ hi
  simp only at hi ⊢
  by_cases hlt:i<t.kids.length
  ·obtain⟨k1,k2,k3,k4,k5⟩:=KI h hlt
   have hm:min i t.kids.length=i:=Nat.min_eq_left hi
   have e1:List.map (fun k=>[MV.lst 5 (List.map ND.c k.fl) false]) (t.kids.take (i+1))=List.map (fun k=>[MV.lst 5 (List.map ND.c k.fl) false]) (t.kids.take i)++[[.lst 5 ((t.kids.getD i (.leaf nd0)).fl.map ND.c) false]]:=by
    rw[List.take_succ_eq_append_getElem hlt,List.map_append,←bQ (.leaf nd0) hlt];rfl
   repeat' (first|(with_reducible refine aQ (mJ _) ?_)|(with_reducible refine aQ (nB _ (by omega) _ _) ?_)|(with_reducible first|(refine wT ?_;(first|((fail_if_success (have:=nl1));refine wN fun nl1 hnl=>?_)|((fail_if_success (have:=nl2));refine wN fun nl2 hnl=>?_)|((fail_if_success (have:=nl3));refine wN fun nl3 hnl=>?_)|((fail_if_success (have:=nl4));refine wN fun nl4 hnl=>?_)|((fail_if_success (have:=nl5));refine wN fun nl5 hnl=>?_)|refine wN fun _ hnl=>?_);revert hnl;(repeat refine wS fun _ _=>?_);intro hnl)|refine wD (by decide +kernel) ?_|refine wI (fun h=>?_) fun h=>?_|refine wF (fun h=>?_) fun h=>?_|refine wG (fun h=>?_) fun h=>?_|refine wH (fun h=>?_) fun h=>?_|((first|refine aE (fun h=>?_) fun h=>?_|refine aD (fun h=>?_) fun h=>?_)<;>simp only[h]))|simp(maxSteps:=4000000) (disch:=first|exact ddL|fail) only[go_sem,simprocAttr,bJ nd0,hf0,k1,k2,hm])
   ·have hex:ex=[]:=List.eq_nil_of_length_eq_zero (by omega)
    subst hex
    refine .of (bD.nest (t:=27) (t1:=84) (e1:=5) (ys:=(t.kids.getD i (.leaf nd0)).fl.map ND.c) (n1:=(t.kids.getD i (.leaf nd0)).fl.length) (q:=nl5) (m:=nl3) (pre:=List.map (fun k=>[MV.lst 5 (List.map ND.c k.fl) false]) (t.kids.take i)) (post:=[]) St.none (by first|(simp(maxSteps:=4000000) (disch:=first|exact ddL|fail) only[go_sem,simprocAttr];done)|(simp(maxSteps:=4000000) (disch:=first|exact ddL|fail) only[go_sem,simprocAttr];rfl)) ((aJ _ _ _).trans ?_) (by rw[List.length_map]) (St.none_le _) rfl (by assumption) ?_) ⟨(i+1,nl5,[]),rfl,?_,by simp only;omega,by simp only;omega⟩
    ·rw[List.append_nil]
    ·simp(maxSteps:=4000000) (disch:=first|exact ddL|fail) only[go_sem,simprocAttr,aC,aB]
     all_goals rfl
    ·simp only
     rw[e1,List.append_nil]
   ·refine .of (bD.nest (t:=27) (t1:=84) (e1:=5) (ys:=(t.kids.getD i (.leaf nd0)).fl.map ND.c) (n1:=(t.kids.getD i (.leaf nd0)).fl.length) (q:=nl5) (m:=nl3) (pre:=List.map (fun k=>[MV.lst 5 (List.map ND.c k.fl) false]) (t.kids.take i)) (post:=ex.drop 1) St.none (by first|(simp(maxSteps:=4000000) (disch:=first|exact ddL|fail) only[go_sem,simprocAttr];done)|(simp(maxSteps:=4000000) (disch:=first|exact ddL|fail) only[go_sem,simprocAttr];rfl)) ((aJ _ _ _).trans ?_) (by rw[List.length_map]) (St.none_le _) rfl (by assumption) ?_) ⟨(i+1,nl5,ex.drop 1),rfl,?_,by simp only;omega,by simp only;omega⟩
    ·rw[Fh (List.map (fun k=>[MV.lst 5 (List.map ND.c (T.fl k)) false]) (t.kids.take i)) ex [[MV.vec 5 nl3 0 (t.kids.getD i (T.leaf nd0)).fl.length]] i 1 (by rw[List.length_map,List.length_take];omega) rfl,List.append_assoc]
     rfl
    ·simp(maxSteps:=4000000) (disch:=first|exact ddL|fail) only[go_sem,simprocAttr,aC,aB]
     all_goals rfl
    ·simp only
     rw[e1,List.append_assoc]
     rfl
  ·have:i=t.kids.length:=by omega
   subst this
   repeat' (first|(with_reducible refine aQ (mJ _) ?_)|(with_reducible first|(refine wT ?_;(first|((fail_if_success (have:=nl1));refine wN fun nl1 hnl=>?_)|((fail_if_success (have:=nl2));refine wN fun nl2 hnl=>?_)|((fail_if_success (have:=nl3));refine wN fun nl3 hnl=>?_)|((fail_if_success (have:=nl4));refine wN fun nl4 hnl=>?_)|((fail_if_success (have:=nl5));refine wN fun nl5 hnl=>?_)|refine wN fun _ hnl=>?_);revert hnl;(repeat refine wS fun _ _=>?_);intro hnl)|refine wD (by decide +kernel) ?_|refine wI (fun h=>?_) fun h=>?_|refine wF (fun h=>?_) fun h=>?_|refine wG (fun h=>?_) fun h=>?_|refine wH (fun h=>?_) fun h=>?_|((first|refine aE (fun h=>?_) fun h=>?_|refine aD (fun h=>?_) fun h=>?_)<;>simp only[h]))|simp(maxSteps:=4000000) (disch:=first|exact ddL|fail) only[go_sem,simprocAttr,bJ nd0,hf0,List.take_length])
   have hv:=View.vec (σ:=St.none.set q (.row 27 1 (t.kl++ex))) (l:=q) (lo:=0) (n:=t.kids.length) (aJ _ _ _) (by rw[List.length_append,List.length_map];omega)
   have e:((t.kl++ex).drop 0).take t.kids.length=t.kl:=by
    rw[List.drop_zero,List.take_append_of_le_length (by rw[List.length_map];omega),List.take_of_length_le (by rw[List.length_map];omega)]
   rw[e] at hv
   exact hv
end

section
set_option maxRecDepth 100000
def iY(l:List T):Nat:=l.foldl (fun d t=>max d t.depth) 0
theorem T.CB(t:T):t.depth=iY t.kids+1:=by
 cases t<;>simp only[T.depth,T.kids,iY,List.foldl_nil,List.foldl_cons]<;>omega
theorem x7(l:List T)(t:T):iY (l++[t])=max (iY l) t.depth:=by simp[iY]
theorem T.lY:∀t:T,t.depth≤t.fl.length
 | .leaf _=>by simp[T.depth,T.fl]
 | .one _ a=>by have:=T.lY a;simp only[T.depth,T.fl,List.length_cons];omega
 | .two _ a b=>by have:=T.lY a;have:=T.lY b;simp only[T.depth,T.fl,List.length_cons,List.length_append];omega
theorem FY{t k:T}(h:k∈t.kids):k.fl.length<t.fl.length:=by
 cases t<;>simp only[T.kids,List.mem_cons,List.not_mem_nil,or_false] at h
 ·subst h;simp only[T.fl,List.length_cons];omega
 ·rcases h with rfl|rfl<;>simp only[T.fl,List.length_cons,List.length_append]<;>omega
theorem Ms{t k:T}(ht:t.ok)(h:k∈t.kids):k.ok:=by
 cases t<;>simp only[T.kids,List.mem_cons,List.not_mem_nil,or_false] at h
 ·subst h;exact ht.2
 ·rcases h with rfl|rfl
  ·exact ht.2.1
  ·exact ht.2.2
theorem BM:∀(n:Nat) (t:T),t.ok→fS t.fl 0=(t.fl.length:Int)→t.fl.length≤n→n≤1000→∀tt:Bool,aA Tryz.prog 62 [.lst 5 (t.fl.map ND.c) tt] St.none (fun r _=>r=.int .i64 (t.depth:Int)):=by
 intro n
 induction n with
 | zero=>intro t h _ hl;have:=t.yD;omega
 | succ n ih =>
  intro t h he hl hn tt
  refine(aA.body 33 [.tmp 2] Tryz.func62 rfl rfl rfl rfl ?_)
  have hend:=nB t.fl (by omega) tt 0
  rw[he] at hend
  have hk:=lE t h (by omega) tt
  have hpos:=t.yD
  have hkl:t.kids.length≤2:=by cases t<;>simp[T.kids]
  repeat' (first|(with_reducible first|refine up hend ?_|refine up hk ?_)|(with_reducible first|(refine wN fun _ hnl=>?_;revert hnl;(repeat refine wS fun _ _=>?_);intro hnl)|refine wE ?_|(refine wK ?_ ?_<;>intro h)|(refine wB ?_ ?_<;>intro h<;>simp only[h]))|simp(maxSteps:=4000000) (disch:=first|decide|assumption|omega|(simp only[wL];omega)) only[go_sem,simprocAttr,Tryz.f62])
  refine aG (α:=Nat) (fun i=>⟨33,[(5,.int .i64 (i:Int)),(4,.int .i64 (iY (t.kids.take i):Int)),(3,.lst 1 t.kl false)],[]⟩) (fun _=>St.none) (fun i=>i≤t.kids.length) (fun i=>t.kids.length - i) (.of (.less ?_ (St.le_refl _)) ⟨0,rfl,rfl,Nat.zero_le _⟩) ?_
  ·simp(maxSteps:=4000000) (disch:=first|decide|assumption|omega|(simp only[wL];omega)) only[go_sem,simprocAttr,aC,aB]
   all_goals rfl
  ·intro i hi
   have hi:i≤t.kids.length:=hi
   by_cases hlt:i<t.kids.length
   ·have hm:=fZ (T.leaf nd0) hlt
    have hko:=Ms h hm
    have hks:=FY hm
    have hke:fS (t.kids.getD i (.leaf nd0)).fl 0=((t.kids.getD i (.leaf nd0)).fl.length:Int):=by
     have:=Ep hko [] []
     simpa using this
    have hd:=ih _ hko hke (by omega) (by omega) false
    have hdl:=T.lY (t.kids.getD i (.leaf nd0))
    have hsn:iY (t.kids.take (i+1))=max (iY (t.kids.take i)) (t.kids.getD i (.leaf nd0)).depth:=by
     rw[List.take_succ_eq_append_getElem hlt,←bQ (.leaf nd0) hlt,x7]
    repeat' (first|(with_reducible first|refine up hd ?_)|(with_reducible first|(refine wN fun _ hnl=>?_;revert hnl;(repeat refine wS fun _ _=>?_);intro hnl)|refine wE ?_|(refine wK ?_ ?_<;>intro h)|(refine wB ?_ ?_<;>intro h<;>simp only[h]))|simp(maxSteps:=4000000) (disch:=first|decide|assumption|omega|(simp only[wL];omega)) only[go_sem,simprocAttr,bJ (T.leaf nd0)])
    refine .of (.less (l1:=[(5,.int .i64 ((i+1:Nat):Int)),(4,.int .i64 (iY (t.kids.take (i+1)):Int)),(3,.lst 1 t.kl false)]) ?_ (St.le_refl _)) ⟨i+1,rfl,rfl,by omega,by omega⟩
    rw[hsn]
    simp(maxSteps:=4000000) (disch:=first|decide|assumption|omega|(simp only[wL];omega)) only[go_sem,simprocAttr,aC,aB]
    all_goals omega
   ·have:i=t.kids.length:=by omega
    subst this
    have hdk:=t.CB
    have hdl:=t.lY
    rw[List.take_length]
    repeat' (first|(with_reducible first|(refine wN fun _ hnl=>?_;revert hnl;(repeat refine wS fun _ _=>?_);intro hnl)|refine wE ?_|(refine wK ?_ ?_<;>intro h)|(refine wB ?_ ?_<;>intro h<;>simp only[h]))|simp(maxSteps:=4000000) (disch:=first|decide|assumption|omega|(simp only[wL];omega)) only[go_sem,simprocAttr])
    all_goals (first|rfl|(congr 1;omega)|omega)
theorem BJ(l:List ND)(hl:l.length≤1000)(tt:Bool):aA Tryz.prog 62 [.lst 5 (l.map ND.c) tt] St.none (fun r _=>r=.int .i64 (fV l:Int)):=by
 by_cases h:l=[]∨fS l 0≠l.length
 ·have e:fV l=0:=by unfold fV;rw[if_pos h]
  rw[e]
  refine(aA.body 33 [.tmp 2] Tryz.func62 rfl rfl rfl rfl ?_)
  have hend:=nB l (by omega) tt 0
  rcases h with rfl|h
  ·repeat' (first|(with_reducible first|refine up hend ?_)|(with_reducible first|(refine wN fun _ hnl=>?_;revert hnl;(repeat refine wS fun _ _=>?_);intro hnl)|refine wE ?_|(refine wK ?_ ?_<;>intro h)|(refine wB ?_ ?_<;>intro h<;>simp only[h]))|simp(maxSteps:=4000000) (disch:=first|decide|assumption|omega|(simp only[wL];omega)) only[go_sem,simprocAttr,Tryz.f62])
   all_goals rfl
  ·repeat' (first|(with_reducible first|refine up hend ?_)|(with_reducible first|(refine wN fun _ hnl=>?_;revert hnl;(repeat refine wS fun _ _=>?_);intro hnl)|refine wE ?_|(refine wK ?_ ?_<;>intro h)|(refine wB ?_ ?_<;>intro h<;>simp only[h]))|simp(maxSteps:=4000000) (disch:=first|decide|assumption|omega|(simp only[wL];omega)) only[go_sem,simprocAttr,Tryz.f62])
   all_goals rfl
 ·have h2:fS l 0=l.length:=Classical.not_not.1 fun h3=>h (.inr h3)
  obtain⟨t,ht,rfl⟩:=parse h2
  rw[CC ht h2]
  exact BM _ t ht h2 hl (Nat.le_refl _) tt
theorem zV(l:List ND)(tt:Bool):aA Tryz.prog 25 [.lst 5 (l.map ND.c) tt] St.none (fun r _=>r=.int .i64 (bU l)):=by
 refine(aA.body 32 [.tmp 2] Tryz.func25 rfl rfl rfl rfl ?_)
 unfold bU
 by_cases h31:31<l.length
 ·rw[if_pos h31]
  repeat' (first|(with_reducible first|(refine wN fun _ hnl=>?_;revert hnl;(repeat refine wS fun _ _=>?_);intro hnl)|refine wE ?_|(refine wK ?_ ?_<;>intro h)|(refine wB ?_ ?_<;>intro h<;>simp only[h]))|simp(maxSteps:=4000000) (disch:=first|decide|assumption|omega|(simp only[wL];omega)) only[go_sem,simprocAttr,Tryz.f25])
  all_goals rfl
 ·rw[if_neg h31]
  have hend:=nB l (by omega) tt 0
  have hd:=BJ l (by omega) tt
  repeat' (first|(with_reducible first|(refine wN fun _ hnl=>?_;revert hnl;(repeat refine wS fun _ _=>?_);intro hnl)|refine wE ?_|(refine wK ?_ ?_<;>intro h)|(refine wB ?_ ?_<;>intro h<;>simp only[h]))|simp(maxSteps:=4000000) (disch:=first|decide|assumption|omega|(simp only[wL];omega)) only[go_sem,simprocAttr,Tryz.f25])
  refine aG (α:=Nat) (fun i=>⟨32,[(3,.int .i64 (i:Int)),(0,.lst 5 (l.map ND.c) tt)],[]⟩) (fun _=>St.none) (fun i=>i≤l.length∧(l.take i).all eE=true) (fun i=>l.length - i) (.of (.less ?_ (St.le_refl _)) ⟨0,rfl,rfl,Nat.zero_le _,rfl⟩) ?_
  ·simp(maxSteps:=4000000) (disch:=first|decide|assumption|omega|(simp only[wL];omega)) only[go_sem,simprocAttr,aC,aB]
   all_goals rfl
  ·rintro i ⟨hi,hq⟩
   by_cases hlt:i<l.length
   ·have hn:=DX (l.getD i nd0)
    cases hok:eE (l.getD i nd0)<;>rw[hok] at hn
    ·repeat' (first|(with_reducible first|refine up hn ?_)|(with_reducible first|(refine wN fun _ hnl=>?_;revert hnl;(repeat refine wS fun _ _=>?_);intro hnl)|refine wE ?_|(refine wK ?_ ?_<;>intro h)|(refine wB ?_ ?_<;>intro h<;>simp only[h]))|simp(maxSteps:=4000000) (disch:=first|decide|assumption|omega|(simp only[wL];omega)) only[go_sem,simprocAttr,bJ nd0])
     rw[if_pos]
     refine .inr (.inr ?_)
     cases hb:l.all eE
     ·rfl
     ·have:=List.all_eq_true.1 hb _ (fZ nd0 hlt)
      rw[hok] at this;cases this
    ·repeat' (first|(with_reducible first|refine up hn ?_)|(with_reducible first|(refine wN fun _ hnl=>?_;revert hnl;(repeat refine wS fun _ _=>?_);intro hnl)|refine wE ?_|(refine wK ?_ ?_<;>intro h)|(refine wB ?_ ?_<;>intro h<;>simp only[h]))|simp(maxSteps:=4000000) (disch:=first|decide|assumption|omega|(simp only[wL];omega)) only[go_sem,simprocAttr,bJ nd0])
     refine .of (.less ?_ (St.le_refl _)) ⟨i+1,rfl,rfl,⟨by omega,by rw[uY hlt,hq,←bQ nd0 hlt,hok];rfl⟩,by omega⟩
     simp(maxSteps:=4000000) (disch:=first|decide|assumption|omega|(simp only[wL];omega)) only[go_sem,simprocAttr,aC,aB]
     all_goals rfl
   ·have:i=l.length:=by omega
    subst this
    rw[List.take_length] at hq
    rw[hq]
    by_cases he:l=[]∨fS l 0≠l.length
    ·rw[if_pos (by rcases he with h|h;exact .inl h;exact .inr (.inl h))]
     rcases he with rfl|he
     ·repeat' (first|(with_reducible first|refine up hend ?_)|(with_reducible first|(refine wN fun _ hnl=>?_;revert hnl;(repeat refine wS fun _ _=>?_);intro hnl)|refine wE ?_|(refine wK ?_ ?_<;>intro h)|(refine wB ?_ ?_<;>intro h<;>simp only[h]))|simp(maxSteps:=4000000) (disch:=first|decide|assumption|omega|(simp only[wL];omega)) only[go_sem,simprocAttr])
      all_goals rfl
     ·repeat' (first|(with_reducible first|refine up hend ?_)|(with_reducible first|(refine wN fun _ hnl=>?_;revert hnl;(repeat refine wS fun _ _=>?_);intro hnl)|refine wE ?_|(refine wK ?_ ?_<;>intro h)|(refine wB ?_ ?_<;>intro h<;>simp only[h]))|simp(maxSteps:=4000000) (disch:=first|decide|assumption|omega|(simp only[wL];omega)) only[go_sem,simprocAttr])
      all_goals rfl
    ·have he1:0<l.length:=by
      cases l with
      | nil=>exact absurd (.inl rfl) he
      | cons x l=>simp
     have he2:fS l 0=l.length:=Classical.not_not.1 fun h3=>he (.inr h3)
     rw[he2] at hend
     rw[if_neg (by rintro(h|h|h);exact he (.inl h);exact he (.inr h);cases h)]
     repeat' (first|(with_reducible first|refine up hend ?_|refine up hd ?_)|(with_reducible first|(refine wN fun _ hnl=>?_;revert hnl;(repeat refine wS fun _ _=>?_);intro hnl)|refine wE ?_|(refine wK ?_ ?_<;>intro h)|(refine wB ?_ ?_<;>intro h<;>simp only[h]))|simp(maxSteps:=4000000) (disch:=first|decide|assumption|omega|(simp only[wL];omega)) only[go_sem,simprocAttr])
     all_goals (try simp only[Classical.not_not] at *)
     all_goals (first|(simp[*];done)|(simp only[];(repeat' split)<;>(first|(simp_all;done)|omega|(exfalso;omega)))|skip)
     all_goals (first|(rw[if_pos (by omega)];done)|(rw[if_neg (by omega)];done))
end

section
theorem Lh{x y:ND}(h:x.c=y.c):x=y:=by
 obtain⟨a,b,c,d,e⟩:=x
 obtain⟨a',b',c',d',e'⟩:=y
 simp only[ND.c,List.cons.injEq,MV.int.injEq,MV.str.injEq,true_and,and_true] at h
 obtain⟨rfl,rfl,rfl,rfl,rfl⟩:=h
 rfl
theorem Bq:∀{l m:List ND},l.map ND.c=m.map ND.c→l=m
 | [],[],_=>rfl
 | [],_::_,h=>by simp at h
 | _::_,[],h=>by simp at h
 | x::l,y::m,h=>by
  rw[List.map_cons,List.map_cons,List.cons.injEq] at h
  rw[Lh h.1,Bq h.2]
end

section
section
variable {P:Program} {C:YC} {f:FR} {σ:St} {t:Option Nat} {Q:YQ}
def LR(C:YC)(t:Option Nat)(o:MV)(args:List MV)(A:Nat→Prop)(B:Prop):Prop :=
 ∃i x,t=some i∧C.xs[i]?=some x∧(∀m,m∈x→gN m)∧o=.fn (.yield C.l) [] []∧args=x∧A i∧B
theorem Cb{o:MV}{args:List MV}{A:Nat→Prop}{B:Prop}{i:Nat}(ht:t=some i)(hx:C.xs[i]?=some args)(hno:∀m,m∈args→gN m)(ho:o=.fn (.yield C.l) [] [])(hA:R (A i))(hB:R B):R (LR C t o args A B) :=
 ⟨i,args,ht,hx,hno,ho,rfl,hA,hB⟩
theorem Ei{id:Nat}{l:List Oper}(hm:P.follows .mixedOrders=true)(L:List FuncId)(D:b9)(hDu:PlU (.these L) D)(pre:List Oper){dst:Option Tmp}{o:Operand}{args:Array Operand}{ts:Array TypeId}{ty:TypeId}{pos:String}{after:Array Edge}{j:Nat}(post:List Oper)
 (ho:l=pre++⟨dst,.call ⟨.value o,args,ts⟩,ty,pos,after,some (j,true)⟩::post)(hchk:(tK l&&(nE ⟨[],[],none,.these L⟩ l.toArray&&gate l.toArray pre.length&&gate l.toArray (pre.length+1)))=true)(hspec:lP P C.l C.xs C.Y C.Yx C.Φ0 C.σ0 C.n0)
 (h:R (cI P (eD P D) (@OfNat.ofNat (Array Oper) (nat_lit 0) (@_root_.id (OfNat (Array Oper) (nat_lit 0)) (OfNat.mk (l.toArray)))) (fun f1 σ1=>bN (E (CP f1 (kX (@OfNat.ofNat (List Oper) (nat_lit 0) (@_root_.id (OfNat (List Oper) (nat_lit 0)) (OfNat.mk l))) j))) true
    (LR C t (E (aF f1 o)) (E (args.toList.map (aF f1)))
     (fun i=>cI P (eD P D) (@OfNat.ofNat (Array Oper) (nat_lit 0) (@_root_.id (OfNat (Array Oper) (nat_lit 0)) (OfNat.mk (l.toArray)))) (fun f2 σ2=>Q .normal f2 σ2 (some (i+1))) (@OfNat.ofNat (List Oper) (nat_lit 0) (@_root_.id (OfNat (List Oper) (nat_lit 0)) (OfNat.mk post))) (bB f1 dst (.bool true)) σ1)
     (cI P (eD P D) (@OfNat.ofNat (Array Oper) (nat_lit 0) (@_root_.id (OfNat (Array Oper) (nat_lit 0)) (OfNat.mk (l.toArray)))) (fun f2 σ2=>Q .normal f2 σ2 none) (@OfNat.ofNat (List Oper) (nat_lit 0) (@_root_.id (OfNat (List Oper) (nat_lit 0)) (OfNat.mk post))) (bB f1 dst (.bool false)) σ1))
    (cI P (eD P D) (@OfNat.ofNat (Array Oper) (nat_lit 0) (@_root_.id (OfNat (Array Oper) (nat_lit 0)) (OfNat.mk (l.toArray)))) (fun f2 σ2=>Q .normal f2 σ2 t) (@OfNat.ofNat (List Oper) (nat_lit 0) (@_root_.id (OfNat (List Oper) (nat_lit 0)) (OfNat.mk post))) (bB f1 dst (.tup [])) σ1))
   (@OfNat.ofNat (List Oper) (nat_lit 0) (@_root_.id (OfNat (List Oper) (nat_lit 0)) (OfNat.mk pre))) f σ)):R (ywp P C (.region id l.toArray true) f σ t Q):=by
 rw[Bool.and_eq_true] at hchk
 refine HH hm L D hDu pre ⟨dst,.call ⟨.value o,args,ts⟩,ty,pos,after,some (j,true)⟩ post (by rw[←ho]) (by rw[←ho];exact hchk.1) hchk.2 rfl hspec ?_
 have e:∀(f1:FR) (A B:Prop),eV l.toArray f1 ⟨dst,.call ⟨.value o,args,ts⟩,ty,pos,after,some (j,true)⟩ A B=bN (CP f1 (kX l j)) true A B:=fun f1 A B=>by
  simp only[eV,yF]
  cases kX l j<;>rfl
 simp only[e]
 exact h
end
end
end Go.Proofs.YtaojijkdamfbnaaGreatDoor
