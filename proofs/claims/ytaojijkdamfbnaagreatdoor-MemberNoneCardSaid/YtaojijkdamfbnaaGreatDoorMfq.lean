/- Parts of the proof, joined; conditions: those that its theorems name. -/
import Derived.Test.YtaojijkdamfbnaaGreatDoorMfl
import Derived.Test.YtaojijkdamfbnaaGreatDoorMfn
set_option linter.unusedVariables false
set_option linter.unusedSimpArgs false
set_option maxHeartbeats 4000000
namespace Go.Proofs.YtaojijkdamfbnaaGreatDoor
section
set_option maxRecDepth 100000
theorem zZ(c:CA):aA Tryz.prog 104 [.agg c.c] St.none (fun r _=>r=.bool (dY c)):=by
 refine aA.cI (aA.body 37 [.tmp 2] Tryz.func104 rfl rfl rfl rfl ?_)
 have hlt:=c.lab.toNat_lt
 by_cases h:1≤c.id∧c.id<fY∧1≤c.ver∧c.ver≤big∧c.lab.toNat<65536
 ·have e:dY c=c.f.l.all dU:=by unfold dY;rw[decide_eq_true h,Bool.true_and]
  rw[e]
  obtain⟨h1,h2,h3,h4,h5⟩:=h
  unfold fY at h2
  unfold big at h4
  repeat' (first|(with_reducible first|(refine wT ?_;(first|((fail_if_success (have:=nl1));refine wN fun nl1 hnl=>?_)|refine wN fun _ hnl=>?_);revert hnl;(repeat refine wS fun _ _=>?_);intro hnl)|refine wE ?_|(refine wK ?_ ?_<;>intro h)|(refine wB ?_ ?_<;>intro h<;>simp only[h]))|simp(maxSteps:=4000000) (disch:=first|exact ddL|fail) only[go_sem,simprocAttr,Tryz.f104,bW,cJ])
  refine aH (α:=Nat) (fun i=>⟨37,[(3,.int .i64 (i:Int)),(1,.ptr nl1 0 0)],[]⟩) (fun _=>St.none.set nl1 (.row 42 27 [c.c])) (fun i=>i≤8∧∀j,j<i→dU (c.f.get j)=true) (fun i=>8 - i) (.of (.less ?_ (St.le_refl _)) ⟨0,rfl,rfl,Nat.zero_le _,fun j h=>absurd h (Nat.not_lt_zero _)⟩) ?_
  ·simp(maxSteps:=4000000) (disch:=first|exact ddL|fail) only[go_sem,simprocAttr,aC,aB]
   all_goals rfl
  ·rintro i ⟨hi,hq⟩
   by_cases h8:i<8
   ·have hc:=pJ (c.f.get i).kd (c.f.get i).n (c.f.get i).s
    cases hok:dU (c.f.get i)
    ·rw[hok] at hc
     repeat' (first|(with_reducible first|refine up hc ?_)|(with_reducible first|(refine wT ?_;(first|((fail_if_success (have:=nl1));refine wN fun nl1 hnl=>?_)|refine wN fun _ hnl=>?_);revert hnl;(repeat refine wS fun _ _=>?_);intro hnl)|refine wE ?_|(refine wK ?_ ?_<;>intro h)|(refine wB ?_ ?_<;>intro h<;>simp only[h]))|simp(maxSteps:=4000000) (disch:=first|exact ddL|fail) only[go_sem,simprocAttr,bW,cJ,kT,nK])
     have e:c.f.l.all dU=false:=by
      cases hb:c.f.l.all dU
      ·rfl
      ·have:=(F8.Ez c.f dU).1 hb i h8
       rw[hok] at this;cases this
     rw[e]
     first|exact⟨_,St.le_refl _,rfl⟩|exact⟨_,St.le_refl _⟩
    ·rw[hok] at hc
     repeat' (first|(with_reducible first|refine up hc ?_)|(with_reducible first|(refine wT ?_;(first|((fail_if_success (have:=nl1));refine wN fun nl1 hnl=>?_)|refine wN fun _ hnl=>?_);revert hnl;(repeat refine wS fun _ _=>?_);intro hnl)|refine wE ?_|(refine wK ?_ ?_<;>intro h)|(refine wB ?_ ?_<;>intro h<;>simp only[h]))|simp(maxSteps:=4000000) (disch:=first|exact ddL|fail) only[go_sem,simprocAttr,bW,cJ,kT,nK])
     refine .of (.less ?_ (St.le_refl _)) ⟨i+1,rfl,rfl,⟨by omega,fun j hj=>?_⟩,by omega⟩
     ·simp(maxSteps:=4000000) (disch:=first|exact ddL|fail) only[go_sem,simprocAttr,aC,aB]
      all_goals rfl
     ·by_cases hji:j=i
      ·rw[hji];exact hok
      ·exact hq j (by omega)
   ·have:i=8:=by omega
    subst this
    rw[(F8.Ez c.f dU).2 hq]
    repeat' (first|(with_reducible first|(refine wT ?_;(first|((fail_if_success (have:=nl1));refine wN fun nl1 hnl=>?_)|refine wN fun _ hnl=>?_);revert hnl;(repeat refine wS fun _ _=>?_);intro hnl)|refine wE ?_|(refine wK ?_ ?_<;>intro h)|(refine wB ?_ ?_<;>intro h<;>simp only[h]))|simp(maxSteps:=4000000) (disch:=first|exact ddL|fail) only[go_sem,simprocAttr])
    first|exact⟨_,St.le_refl _,rfl⟩|exact⟨_,St.le_refl _⟩
 ·have e:dY c=false:=by unfold dY;rw[decide_eq_false h,Bool.false_and]
  rw[e]
  unfold fY big at h
  repeat' (first|(with_reducible first|(refine wT ?_;(first|((fail_if_success (have:=nl1));refine wN fun nl1 hnl=>?_)|refine wN fun _ hnl=>?_);revert hnl;(repeat refine wS fun _ _=>?_);intro hnl)|refine wE ?_|(refine wK ?_ ?_<;>intro h)|(refine wB ?_ ?_<;>intro h<;>simp only[h]))|simp(maxSteps:=4000000) (disch:=first|exact ddL|fail) only[go_sem,simprocAttr,Tryz.f104,bW,cJ])
  all_goals first|exact⟨_,St.le_refl _,rfl⟩|exact⟨_,St.le_refl _⟩|(exfalso;omega)
end

section
set_option maxRecDepth 100000
def iU(l:List T):Nat:=l.foldl (fun d t=>max d t.depth) 0
theorem T.CU(t:T):t.depth=iU t.kids+1:=by
 cases t<;>simp only[T.depth,T.kids,iU,List.foldl_nil,List.foldl_cons]<;>omega
theorem yF(l:List T)(t:T):iU (l++[t])=max (iU l) t.depth:=by simp[iU]
theorem T.lU:∀t:T,t.depth≤t.fl.length
 | .leaf _=>by simp[T.depth,T.fl]
 | .one _ a=>by have:=T.lU a;simp only[T.depth,T.fl,List.length_cons];omega
 | .two _ a b=>by have:=T.lU a;have:=T.lU b;simp only[T.depth,T.fl,List.length_cons,List.length_append];omega
theorem F6{t k:T}(h:k∈t.kids):k.fl.length<t.fl.length:=by
 cases t<;>simp only[T.kids,List.mem_cons,List.not_mem_nil,or_false] at h
 ·subst h;simp only[T.fl,List.length_cons];omega
 ·rcases h with rfl|rfl<;>simp only[T.fl,List.length_cons,List.length_append]<;>omega
theorem MF{t k:T}(ht:t.ok)(h:k∈t.kids):k.ok:=by
 cases t<;>simp only[T.kids,List.mem_cons,List.not_mem_nil,or_false] at h
 ·subst h;exact ht.2
 ·rcases h with rfl|rfl
  ·exact ht.2.1
  ·exact ht.2.2
theorem BZ:∀(n:Nat) (t:T),t.ok→fQ t.fl 0=(t.fl.length:Int)→t.fl.length≤n→n≤1000→∀tt:Bool,aA Tryz.prog 62 [.lst 5 (t.fl.map ND.c) tt] St.none (fun r _=>r=.int .i64 (t.depth:Int)):=by
 intro n
 induction n with
 | zero=>intro t h _ hl;have:=t.yL;omega
 | succ n ih =>
  intro t h he hl hn tt
  refine(aA.body 33 [.tmp 2] Tryz.func62 rfl rfl rfl rfl ?_)
  have hend:=mY t.fl (by omega) tt 0
  rw[he] at hend
  have hk:=Ee t h (by omega) tt
  have hpos:=t.yL
  have hkl:t.kids.length≤2:=by cases t<;>simp[T.kids]
  repeat' (first|(with_reducible first|refine up hend ?_|refine up hk ?_)|(with_reducible first|(refine wN fun _ hnl=>?_;revert hnl;(repeat refine wS fun _ _=>?_);intro hnl)|refine wE ?_|(refine wK ?_ ?_<;>intro h)|(refine wB ?_ ?_<;>intro h<;>simp only[h]))|simp(maxSteps:=4000000) (disch:=first|decide|assumption|omega|(simp only[wL];omega)) only[go_sem,simprocAttr,Tryz.f62])
  refine aH (α:=Nat) (fun i=>⟨33,[(5,.int .i64 (i:Int)),(4,.int .i64 (iU (t.kids.take i):Int)),(3,.lst 1 t.kl false)],[]⟩) (fun _=>St.none) (fun i=>i≤t.kids.length) (fun i=>t.kids.length - i) (.of (.less ?_ (St.le_refl _)) ⟨0,rfl,rfl,Nat.zero_le _⟩) ?_
  ·simp(maxSteps:=4000000) (disch:=first|decide|assumption|omega|(simp only[wL];omega)) only[go_sem,simprocAttr,aC,aB]
   all_goals rfl
  ·intro i hi
   have hi:i≤t.kids.length:=hi
   by_cases hlt:i<t.kids.length
   ·have hm:=eB (T.leaf nd0) hlt
    have hko:=MF h hm
    have hks:=F6 hm
    have hke:fQ (t.kids.getD i (.leaf nd0)).fl 0=((t.kids.getD i (.leaf nd0)).fl.length:Int):=by
     have:=EG hko [] []
     simpa using this
    have hd:=ih _ hko hke (by omega) (by omega) false
    have hdl:=T.lU (t.kids.getD i (.leaf nd0))
    have hsn:iU (t.kids.take (i+1))=max (iU (t.kids.take i)) (t.kids.getD i (.leaf nd0)).depth:=by
     rw[List.take_succ_eq_append_getElem hlt,←bH (.leaf nd0) hlt,yF]
    repeat' (first|(with_reducible first|refine up hd ?_)|(with_reducible first|(refine wN fun _ hnl=>?_;revert hnl;(repeat refine wS fun _ _=>?_);intro hnl)|refine wE ?_|(refine wK ?_ ?_<;>intro h)|(refine wB ?_ ?_<;>intro h<;>simp only[h]))|simp(maxSteps:=4000000) (disch:=first|decide|assumption|omega|(simp only[wL];omega)) only[go_sem,simprocAttr,bE (T.leaf nd0)])
    refine .of (.less (l1:=[(5,.int .i64 ((i+1:Nat):Int)),(4,.int .i64 (iU (t.kids.take (i+1)):Int)),(3,.lst 1 t.kl false)]) ?_ (St.le_refl _)) ⟨i+1,rfl,rfl,by omega,by omega⟩
    rw[hsn]
    simp(maxSteps:=4000000) (disch:=first|decide|assumption|omega|(simp only[wL];omega)) only[go_sem,simprocAttr,aC,aB]
    all_goals omega
   ·have:i=t.kids.length:=by omega
    subst this
    have hdk:=t.CU
    have hdl:=t.lU
    rw[List.take_length]
    repeat' (first|(with_reducible first|(refine wN fun _ hnl=>?_;revert hnl;(repeat refine wS fun _ _=>?_);intro hnl)|refine wE ?_|(refine wK ?_ ?_<;>intro h)|(refine wB ?_ ?_<;>intro h<;>simp only[h]))|simp(maxSteps:=4000000) (disch:=first|decide|assumption|omega|(simp only[wL];omega)) only[go_sem,simprocAttr])
    all_goals (first|rfl|(congr 1;omega)|omega)
theorem BY(l:List ND)(hl:l.length≤1000)(tt:Bool):aA Tryz.prog 62 [.lst 5 (l.map ND.c) tt] St.none (fun r _=>r=.int .i64 (fT l:Int)):=by
 by_cases h:l=[]∨fQ l 0≠l.length
 ·have e:fT l=0:=by unfold fT;rw[if_pos h]
  rw[e]
  refine(aA.body 33 [.tmp 2] Tryz.func62 rfl rfl rfl rfl ?_)
  have hend:=mY l (by omega) tt 0
  rcases h with rfl|h
  ·repeat' (first|(with_reducible first|refine up hend ?_)|(with_reducible first|(refine wN fun _ hnl=>?_;revert hnl;(repeat refine wS fun _ _=>?_);intro hnl)|refine wE ?_|(refine wK ?_ ?_<;>intro h)|(refine wB ?_ ?_<;>intro h<;>simp only[h]))|simp(maxSteps:=4000000) (disch:=first|decide|assumption|omega|(simp only[wL];omega)) only[go_sem,simprocAttr,Tryz.f62])
   all_goals rfl
  ·repeat' (first|(with_reducible first|refine up hend ?_)|(with_reducible first|(refine wN fun _ hnl=>?_;revert hnl;(repeat refine wS fun _ _=>?_);intro hnl)|refine wE ?_|(refine wK ?_ ?_<;>intro h)|(refine wB ?_ ?_<;>intro h<;>simp only[h]))|simp(maxSteps:=4000000) (disch:=first|decide|assumption|omega|(simp only[wL];omega)) only[go_sem,simprocAttr,Tryz.f62])
   all_goals rfl
 ·have h2:fQ l 0=l.length:=Classical.not_not.1 fun h3=>h (.inr h3)
  obtain⟨t,ht,rfl⟩:=parse h2
  rw[CV ht h2]
  exact BZ _ t ht h2 hl (Nat.le_refl _) tt
theorem pH(l:List ND)(tt:Bool):aA Tryz.prog 25 [.lst 5 (l.map ND.c) tt] St.none (fun r _=>r=.int .i64 (bI l)):=by
 refine(aA.body 32 [.tmp 2] Tryz.func25 rfl rfl rfl rfl ?_)
 unfold bI
 by_cases h31:31<l.length
 ·rw[if_pos h31]
  repeat' (first|(with_reducible first|(refine wN fun _ hnl=>?_;revert hnl;(repeat refine wS fun _ _=>?_);intro hnl)|refine wE ?_|(refine wK ?_ ?_<;>intro h)|(refine wB ?_ ?_<;>intro h<;>simp only[h]))|simp(maxSteps:=4000000) (disch:=first|decide|assumption|omega|(simp only[wL];omega)) only[go_sem,simprocAttr,Tryz.f25])
  all_goals rfl
 ·rw[if_neg h31]
  have hend:=mY l (by omega) tt 0
  have hd:=BY l (by omega) tt
  repeat' (first|(with_reducible first|(refine wN fun _ hnl=>?_;revert hnl;(repeat refine wS fun _ _=>?_);intro hnl)|refine wE ?_|(refine wK ?_ ?_<;>intro h)|(refine wB ?_ ?_<;>intro h<;>simp only[h]))|simp(maxSteps:=4000000) (disch:=first|decide|assumption|omega|(simp only[wL];omega)) only[go_sem,simprocAttr,Tryz.f25])
  refine aH (α:=Nat) (fun i=>⟨32,[(3,.int .i64 (i:Int)),(0,.lst 5 (l.map ND.c) tt)],[]⟩) (fun _=>St.none) (fun i=>i≤l.length∧(l.take i).all eH=true) (fun i=>l.length - i) (.of (.less ?_ (St.le_refl _)) ⟨0,rfl,rfl,Nat.zero_le _,rfl⟩) ?_
  ·simp(maxSteps:=4000000) (disch:=first|decide|assumption|omega|(simp only[wL];omega)) only[go_sem,simprocAttr,aC,aB]
   all_goals rfl
  ·rintro i ⟨hi,hq⟩
   by_cases hlt:i<l.length
   ·have hn:=Ef (l.getD i nd0)
    cases hok:eH (l.getD i nd0)<;>rw[hok] at hn
    ·repeat' (first|(with_reducible first|refine up hn ?_)|(with_reducible first|(refine wN fun _ hnl=>?_;revert hnl;(repeat refine wS fun _ _=>?_);intro hnl)|refine wE ?_|(refine wK ?_ ?_<;>intro h)|(refine wB ?_ ?_<;>intro h<;>simp only[h]))|simp(maxSteps:=4000000) (disch:=first|decide|assumption|omega|(simp only[wL];omega)) only[go_sem,simprocAttr,bE nd0])
     rw[if_pos]
     refine .inr (.inr ?_)
     cases hb:l.all eH
     ·rfl
     ·have:=List.all_eq_true.1 hb _ (eB nd0 hlt)
      rw[hok] at this;cases this
    ·repeat' (first|(with_reducible first|refine up hn ?_)|(with_reducible first|(refine wN fun _ hnl=>?_;revert hnl;(repeat refine wS fun _ _=>?_);intro hnl)|refine wE ?_|(refine wK ?_ ?_<;>intro h)|(refine wB ?_ ?_<;>intro h<;>simp only[h]))|simp(maxSteps:=4000000) (disch:=first|decide|assumption|omega|(simp only[wL];omega)) only[go_sem,simprocAttr,bE nd0])
     refine .of (.less ?_ (St.le_refl _)) ⟨i+1,rfl,rfl,⟨by omega,by rw[uX hlt,hq,←bH nd0 hlt,hok];rfl⟩,by omega⟩
     simp(maxSteps:=4000000) (disch:=first|decide|assumption|omega|(simp only[wL];omega)) only[go_sem,simprocAttr,aC,aB]
     all_goals rfl
   ·have:i=l.length:=by omega
    subst this
    rw[List.take_length] at hq
    rw[hq]
    by_cases he:l=[]∨fQ l 0≠l.length
    ·rw[if_pos (by rcases he with h|h;exact .inl h;exact .inr (.inl h))]
     rcases he with rfl|he
     ·repeat' (first|(with_reducible first|refine up hend ?_)|(with_reducible first|(refine wN fun _ hnl=>?_;revert hnl;(repeat refine wS fun _ _=>?_);intro hnl)|refine wE ?_|(refine wK ?_ ?_<;>intro h)|(refine wB ?_ ?_<;>intro h<;>simp only[h]))|simp(maxSteps:=4000000) (disch:=first|decide|assumption|omega|(simp only[wL];omega)) only[go_sem,simprocAttr])
      all_goals rfl
     ·repeat' (first|(with_reducible first|refine up hend ?_)|(with_reducible first|(refine wN fun _ hnl=>?_;revert hnl;(repeat refine wS fun _ _=>?_);intro hnl)|refine wE ?_|(refine wK ?_ ?_<;>intro h)|(refine wB ?_ ?_<;>intro h<;>simp only[h]))|simp(maxSteps:=4000000) (disch:=first|decide|assumption|omega|(simp only[wL];omega)) only[go_sem,simprocAttr])
      all_goals rfl
    ·have he1:0<l.length:=by
      cases l with
      | nil=>exact absurd (.inl rfl) he
      | cons x l=>simp
     have he2:fQ l 0=l.length:=Classical.not_not.1 fun h3=>he (.inr h3)
     rw[he2] at hend
     rw[if_neg (by rintro(h|h|h);exact he (.inl h);exact he (.inr h);cases h)]
     repeat' (first|(with_reducible first|refine up hend ?_|refine up hd ?_)|(with_reducible first|(refine wN fun _ hnl=>?_;revert hnl;(repeat refine wS fun _ _=>?_);intro hnl)|refine wE ?_|(refine wK ?_ ?_<;>intro h)|(refine wB ?_ ?_<;>intro h<;>simp only[h]))|simp(maxSteps:=4000000) (disch:=first|decide|assumption|omega|(simp only[wL];omega)) only[go_sem,simprocAttr])
     all_goals (try simp only[Classical.not_not] at *)
     all_goals (first|(simp[*];done)|(simp only[];(repeat' split)<;>(first|(simp_all;done)|omega|(exfalso;omega)))|skip)
     all_goals (first|(rw[if_pos (by omega)];done)|(rw[if_neg (by omega)];done))
end

section
set_option maxRecDepth 100000
set_option maxHeartbeats 8000000
def AH(g:FuncId)(v:MV):b9:=fun g' _=>if g'=g then some ⟨[],fun w=>w=v,none⟩ else none
theorem kB{g:FuncId}{v:MV}{ms:List MV}:AH g v g ms=some ⟨[],fun w=>w=v,none⟩:=by simp[AH]
instance:Inhabited DE:=⟨⟨0,0,0⟩⟩
def deZ:DE:=⟨0,0,0⟩
theorem Ed(a b:List Int)(hl:a.length≤1000000)(ta tb:Bool):aA Tryz.prog 17 [.lst 1 (a.map aJ) ta,.lst 1 (b.map aJ) tb] St.none (fun r _=>r=.bool (decide (a=b))):=by
 refine(aA.body 26 [.tmp 4] Tryz.func17 rfl rfl rfl rfl ?_)
 by_cases hlen:a.length=b.length
 ·repeat' (first|(with_reducible first|(refine wN fun _ hnl=>?_;revert hnl;(repeat refine wS fun _ _=>?_);intro hnl)|refine wE ?_|(refine wK ?_ ?_<;>intro h)|(refine wB ?_ ?_<;>intro h<;>simp only[h]))|simp(maxSteps:=4000000) (disch:=first|exact ddL|fail) only[go_sem,simprocAttr,Tryz.f17])
  refine aH (α:=Nat) (fun i=>⟨26,[(5,.int .i64 (i:Int)),(0,.lst 1 (a.map aJ) ta),(1,.lst 1 (b.map aJ) tb)],[]⟩) (fun _=>St.none) (fun i=>i≤a.length∧a.take i=b.take i) (fun i=>a.length - i) (.of (.less ?_ (St.le_refl _)) ⟨0,rfl,rfl,Nat.zero_le _,rfl⟩) ?_
  ·simp(maxSteps:=4000000) (disch:=first|exact ddL|fail) only[go_sem,simprocAttr,aC,aB]
   all_goals rfl
  ·rintro i ⟨hi,hq⟩
   by_cases hlt:i<a.length
   ·have hsa:=List.take_succ_eq_append_getElem (l:=a) hlt
    have hib:i<b.length:=by omega
    have hsb:=List.take_succ_eq_append_getElem (l:=b) hib
    rw[←bH 0 hlt] at hsa
    rw[←bH 0 hib] at hsb
    have hma:=eB 0 hlt
    have hmb:=eB 0 hib
    obtain⟨x,hx⟩:∃x,a.getD i 0=x:=⟨_,rfl⟩
    obtain⟨y,hy⟩:∃y,b.getD i 0=y:=⟨_,rfl⟩
    rw[hx] at hsa hma
    rw[hy] at hsb hmb

    by_cases he:x=y
    ·have hyy:=he
     repeat' (first|(with_reducible first|(refine wN fun _ hnl=>?_;revert hnl;(repeat refine wS fun _ _=>?_);intro hnl)|refine wE ?_|(refine wK ?_ ?_<;>intro h)|(refine wB ?_ ?_<;>intro h<;>simp only[h]))|simp(maxSteps:=4000000) (disch:=first|exact ddL|fail) only[go_sem,simprocAttr,bE (0:Int),aJ,hx,hy,he])
     refine .of (.less ?_ (St.le_refl _)) ⟨i+1,rfl,rfl,⟨by omega,by rw[hsa,hsb,hq,he]⟩,by omega⟩
     simp(maxSteps:=4000000) (disch:=first|exact ddL|fail) only[go_sem,simprocAttr,aC,aB]
     all_goals rfl
    ·have hyy:=he
     have hne:¬a=b:=fun e=>he (by rw[←hx,←hy,e])
     rw[decide_eq_false hne]
     repeat' (first|(with_reducible first|(refine wN fun _ hnl=>?_;revert hnl;(repeat refine wS fun _ _=>?_);intro hnl)|refine wE ?_|(refine wK ?_ ?_<;>intro h)|(refine wB ?_ ?_<;>intro h<;>simp only[h]))|simp(maxSteps:=4000000) (disch:=first|exact ddL|fail) only[go_sem,simprocAttr,bE (0:Int),aJ,hx,hy,he])
     all_goals done
   ·have:i=a.length:=by omega
    subst this
    rw[List.take_length,hlen,List.take_length] at hq
    rw[decide_eq_true hq]
    repeat' (first|(with_reducible first|(refine wN fun _ hnl=>?_;revert hnl;(repeat refine wS fun _ _=>?_);intro hnl)|refine wE ?_|(refine wK ?_ ?_<;>intro h)|(refine wB ?_ ?_<;>intro h<;>simp only[h]))|simp(maxSteps:=4000000) (disch:=first|exact ddL|fail) only[go_sem,simprocAttr])
    all_goals done
 ·rw[decide_eq_false fun e=>hlen (by rw[e])]
  repeat' (first|(with_reducible first|(refine wN fun _ hnl=>?_;revert hnl;(repeat refine wS fun _ _=>?_);intro hnl)|refine wE ?_|(refine wK ?_ ?_<;>intro h)|(refine wB ?_ ?_<;>intro h<;>simp only[h]))|simp(maxSteps:=4000000) (disch:=first|exact ddL|fail) only[go_sem,simprocAttr,Tryz.f17])
  all_goals (first|rfl|(exfalso;omega))
theorem BX(a b:List CA)(hl:a.length≤1000000)(ta tb:Bool):aA Tryz.prog 19 [.lst 27 (a.map CA.c) ta,.lst 27 (b.map CA.c) tb] St.none (fun r _=>r=.bool (decide (a=b))):=by
 refine(aA.body 26 [.tmp 4] Tryz.func19 rfl rfl rfl rfl ?_)
 by_cases hlen:a.length=b.length
 ·repeat' (first|(with_reducible first|(refine wN fun _ hnl=>?_;revert hnl;(repeat refine wS fun _ _=>?_);intro hnl)|refine wE ?_|(refine wK ?_ ?_<;>intro h)|(refine wB ?_ ?_<;>intro h<;>simp only[h]))|simp(maxSteps:=4000000) (disch:=first|exact ddL|fail) only[go_sem,simprocAttr,Tryz.f19])
  refine aH (α:=Nat) (fun i=>⟨26,[(5,.int .i64 (i:Int)),(0,.lst 27 (a.map CA.c) ta),(1,.lst 27 (b.map CA.c) tb)],[]⟩) (fun _=>St.none) (fun i=>i≤a.length∧a.take i=b.take i) (fun i=>a.length - i) (.of (.less ?_ (St.le_refl _)) ⟨0,rfl,rfl,Nat.zero_le _,rfl⟩) ?_
  ·simp(maxSteps:=4000000) (disch:=first|exact ddL|fail) only[go_sem,simprocAttr,aC,aB]
   all_goals rfl
  ·rintro i ⟨hi,hq⟩
   by_cases hlt:i<a.length
   ·have hsa:=List.take_succ_eq_append_getElem (l:=a) hlt
    have hib:i<b.length:=by omega
    have hsb:=List.take_succ_eq_append_getElem (l:=b) hib
    rw[←bH ca0 hlt] at hsa
    rw[←bH ca0 hib] at hsb
    have hma:=eB ca0 hlt
    have hmb:=eB ca0 hib
    obtain⟨x,hx⟩:∃x,a.getD i ca0=x:=⟨_,rfl⟩
    obtain⟨y,hy⟩:∃y,b.getD i ca0=y:=⟨_,rfl⟩
    rw[hx] at hsa hma
    rw[hy] at hsb hmb
    have hm:=Ba x y
    by_cases he:x=y
    ·rw[decide_eq_true he] at hm
     repeat' (first|(with_reducible first|(refine wN fun _ hnl=>?_;revert hnl;(repeat refine wS fun _ _=>?_);intro hnl)|refine wE ?_|(refine wK ?_ ?_<;>intro h)|(refine wB ?_ ?_<;>intro h<;>simp only[h]))|simp(maxSteps:=4000000) (disch:=first|exact ddL|fail) only[go_sem,simprocAttr,FXs,bE ca0,hx,hy,hm])
     refine .of (.less ?_ (St.le_refl _)) ⟨i+1,rfl,rfl,⟨by omega,by rw[hsa,hsb,hq,he]⟩,by omega⟩
     simp(maxSteps:=4000000) (disch:=first|exact ddL|fail) only[go_sem,simprocAttr,aC,aB]
     all_goals rfl
    ·rw[decide_eq_false he] at hm
     have hne:¬a=b:=fun e=>he (by rw[←hx,←hy,e])
     rw[decide_eq_false hne]
     repeat' (first|(with_reducible first|(refine wN fun _ hnl=>?_;revert hnl;(repeat refine wS fun _ _=>?_);intro hnl)|refine wE ?_|(refine wK ?_ ?_<;>intro h)|(refine wB ?_ ?_<;>intro h<;>simp only[h]))|simp(maxSteps:=4000000) (disch:=first|exact ddL|fail) only[go_sem,simprocAttr,FXs,bE ca0,hx,hy,hm])
     all_goals done
   ·have:i=a.length:=by omega
    subst this
    rw[List.take_length,hlen,List.take_length] at hq
    rw[decide_eq_true hq]
    repeat' (first|(with_reducible first|(refine wN fun _ hnl=>?_;revert hnl;(repeat refine wS fun _ _=>?_);intro hnl)|refine wE ?_|(refine wK ?_ ?_<;>intro h)|(refine wB ?_ ?_<;>intro h<;>simp only[h]))|simp(maxSteps:=4000000) (disch:=first|exact ddL|fail) only[go_sem,simprocAttr])
    all_goals done
 ·rw[decide_eq_false fun e=>hlen (by rw[e])]
  repeat' (first|(with_reducible first|(refine wN fun _ hnl=>?_;revert hnl;(repeat refine wS fun _ _=>?_);intro hnl)|refine wE ?_|(refine wK ?_ ?_<;>intro h)|(refine wB ?_ ?_<;>intro h<;>simp only[h]))|simp(maxSteps:=4000000) (disch:=first|exact ddL|fail) only[go_sem,simprocAttr,Tryz.f19])
  all_goals (first|rfl|(exfalso;omega))
end

section
theorem half(i j:Nat):Int.fdiv ((i:Int)+j) (2 ^ (min 1 64:Nat))=(((i+j) / 2:Nat):Int):=by
 rw[show((2:Int) ^ (min 1 64:Nat))=2 by decide,Int.fdiv_eq_ediv_of_nonneg _ (by omega)]
 omega
end

section
structure CD where
 id:Int
 ver:Int
 lab:Nat
 f:List VA
abbrev fcs(f:List VA):List MV:=(f.map VA.c).flatten
abbrev CD.c(c:CD):List MV:=.int .i64 c.id::.int .i64 c.ver::.int .u32 (c.lab:Int)::fcs c.f
theorem HO{v w:VA}:decide (v.kd=w.kd∧v.n=w.n∧v.s=w.s)=decide (v=w) :=
 decide_eq_decide.2 ⟨fun⟨h1,h2,h3⟩=>by cases v;cases w;simp only at h1 h2 h3;rw[h1,h2,h3],fun h=>by rw[h];exact⟨rfl,rfl,rfl⟩⟩
def eZ(c:CD)(g:Nat)(n:ND):Bool :=
 if n.op=1 then true else if n.op=3 then hasB c.lab n.n else if n.op=4 then hasB g n.n
 else if n.op=5 then !decide ((c.f.getD n.n.toNat va0).kd=0)
 else if n.op=6 then decide (c.f.getD n.n.toNat va0=n.v)
 else if n.op=7 then l5 (c.f.getD n.n.toNat va0) n.v
 else if n.op=8 then l5 n.v (c.f.getD n.n.toNat va0)
 else if n.op=9 then nY (c.f.getD n.n.toNat va0) n.v
 else false
structure CF (c:CD):Prop where
 len:c.f.length=8
 size:∀v,v∈c.f→v.s.size≤1000000
 lab:c.lab<4294967296
end

section
inductive InD (D:Nat→Prop):MV→Prop where
 | flat {m:MV} (h:Flat m):InD D m
 | ptr {l i o:Nat} (h:D l):InD D (.ptr l i o)
 | vec {e l lo n:Nat} (h:D l):InD D (.vec e l lo n)
 | mapv {l:Nat} (h:D l):InD D (.mapv l)
 | lst {e:Nat} {xs:List (List MV)} {t:Bool} (h:∀x,x∈xs→∀m,m∈x→InD D m):InD D (.lst e xs t)
 | cptr {cs:List MV} (h:∀m,m∈cs→InD D m):InD D (.cptr cs)
 | agg {cs:List MV} (h:∀m,m∈cs→InD D m):InD D (.agg cs)
 | fn {f:Fn} {ms ns:List MV} (h1:∀m,m∈ms→InD D m) (h2:∀m,m∈ns→InD D m):InD D (.fn f ms ns)
theorem InD.of{D:Nat→Prop}{m:MV}(h:gJ m):InD D m:=by
 induction h with
 | flat h=>exact .flat h
 | lst _ ih=>exact .lst ih
 | cptr _ ih=>exact .cptr ih
 | agg _ ih=>exact .agg ih
theorem InD.rel{D:Nat→Prop}{Φ Φ':Phi}(hs:∀a v,Φ.snap a=some v→Φ'.snap a=some v)(ho:∀l p,D l→Φ.obj l=some p→Φ'.obj l=some p){m:MV}(h:InD D m):∀{v:Value},Rel Φ v m→Rel Φ' v m:=by
 induction h with
 | flat h=>intro v r;exact h.rel r
 | ptr h =>
  intro v r
  cases r with
  | ptr h1 h2=>exact .ptr (ho _ _ h h1) h2
 | vec h =>
  intro v r
  cases r with
  | vec h1 h2 h3 h4=>exact .vec (ho _ _ h h1) h2 h3 h4
  | vec0 a h1 h2=>exact .vec0 a (ho _ _ h h1) h2
  | vecn h1 h2 h3=>exact .vecn (ho _ _ h h1) h2 h3
 | mapv h =>
  intro v r
  cases r with
  | mapv h1 h2=>exact .mapv (ho _ _ h h1) h2
 | lst h ih =>
  intro v r
  cases r with
  | lstn=>exact .lstn _ _
  | lst0 a _ cap _ ht hm=>exact .lst0 a _ cap _ ht hm
  | lst hl h0 hcap hm ht hx vs hc hr =>
   exact .lst hl h0 hcap hm ht hx vs (fun i x j m a b=>⟨(hc i x j m a b).1,hs _ _ (hc i x j m a b).2⟩) fun i x j m a b=>ih x (List.mem_of_getElem? a) m (List.mem_of_getElem? b) (hr i x j m a b)
 | cptr h ih =>
  intro v r
  cases r with
  | cptr vs hc hr=>exact .cptr vs (fun j m hm=>⟨(hc j m hm).1,hs _ _ (hc j m hm).2⟩) fun j m hm=>ih m (List.mem_of_getElem? hm) (hr j m hm)
 | agg h ih =>
  intro v r
  cases r with
  | agg h1 h2 h3=>exact .agg h1 h2 fun i m hm=>ih m (List.mem_of_getElem? hm) (h3 i m hm)
 | fn h1 h2 ih1 ih2 =>
  intro v r
  cases r with
  | fn _ k1 k2 r1 r2=>exact .fn _ k1 k2 (fun i m hm=>ih1 m (List.mem_of_getElem? hm) (r1 i m hm)) fun i m hm=>ih2 m (List.mem_of_getElem? hm) (r2 i m hm)
def InO(D:Nat→Prop):aV→Prop
 | .row _ _ xs=>∀x,x∈xs→∀m,m∈x→InD D m
 | .mp es=>∀z,z∈es→InD D z.1∧InD D z.2
 | .mk es _ _=>∀z,z∈es→InD D z.1∧InD D z.2
 | .it m _ _=>D m
theorem cY.inD{D:Nat→Prop}{Φ Φ':Phi}{w:World}{l:Nat}{o:aV}(h:cY Φ w l o)(hs:∀a v,Φ.snap a=some v→Φ'.snap a=some v)(ho:∀l p,D l→Φ.obj l=some p→Φ'.obj l=some p)(hl:D l)(hio:InO D o):cY Φ' w l o:=by
 cases o with
 | row t e xs =>
  obtain⟨p,h1,h2,h3,h4,h5,h6⟩:=h
  refine⟨p,ho _ _ hl h1,h2,h3,h4,h5,?_⟩
  cases hb:p.blk with
  | none=>simp only[hb] at h6;exact h6
  | some R =>
   simp only[hb] at h6
   obtain⟨c,fz,k1,k2,k3,k4⟩:=h6
   exact⟨c,fz,k1,k2,k3,fun i x j m hx hm=>⟨(k4 i x j m hx hm).1,(k4 i x j m hx hm).2.imp fun v q=>⟨q.1,(hio x (List.mem_of_getElem? hx) m (List.mem_of_getElem? hm)).rel hs ho q.2⟩⟩⟩
 | mp es =>
  obtain⟨p,R,h1,h2,c,ck,h3,h4,h5⟩:=h
  exact⟨p,R,ho _ _ hl h1,h2,c,ck,h3,h4,fun i x hx=>⟨(hio x (List.mem_of_getElem? hx)).1.rel hs ho (h5 i x hx).1,(hio x (List.mem_of_getElem? hx)).2.rel hs ho (h5 i x hx).2⟩⟩
 | mk es st ck =>
  obtain⟨p,R,h1,h2,c,h3,h4,h5⟩:=h
  exact⟨p,R,ho _ _ hl h1,h2,c,h3,h4,fun i x hx=>⟨(hio x (List.mem_of_getElem? hx)).1.rel hs ho (h5 i x hx).1,(hio x (List.mem_of_getElem? hx)).2.rel hs ho (h5 i x hx).2⟩⟩
 | it m ck seen =>
  obtain⟨p,R,pm,Rm,h1,h2,h3,h4,h5,h6⟩:=h
  exact⟨p,R,pm,Rm,ho _ _ hl h1,h2,h3,ho _ _ hio h4,h5,h6⟩
def Al(P:Program)(g:FuncId)(ns:List MV)(σi:St)(xs:List (List MV))(K:St→Prop):Prop :=
 Enters P g∧∀(l:Nat) (Y:Nat→YS→Prop) (Yx:YS→Prop) (Φ:Phi) (w:World) (S:YS) (vs:Array Value),lN P l xs Y Yx Φ σi w.heap.size→Inv Φ w σi→Apt Φ σi S w→Y 0 S→fE Φ vs ns →
  Calls P g (#[.func (.yield l) #[] #[]]++vs) w fun e w'=>∃v Φ' σ' S',e=.returned v∧Inv Φ' w' σ'∧Apt Φ' σ' S' w'∧cT Φ σi w S Φ' σ' w' S'∧(Y xs.length S'∨Yx S')∧K σ'
theorem oL{σ:St}{a k:Nat}{o:aV}:(σ.set a o) k≠none↔(k=a∨σ k≠none):=by
 by_cases h:k=a
 ·subst h;simp[aF]
 ·rw[aG _ _ _ _ h];simp[h]
theorem gE{σ:St}{a k:Nat}{o x:aV}(h:(σ.set a o) k=some x):(k=a∧x=o)∨(k≠a∧σ k=some x):=by
 by_cases e:k=a
 ·subst e;rw[aF] at h;exact .inl ⟨rfl,(Option.some.inj h).symm⟩
 ·rw[aG _ _ _ _ e] at h;exact .inr ⟨e,h⟩
theorem bD.cut{f:FR}{σ:St}{q:Nat}{t:TypeId}{e:Nat}{xs ex:List (List MV)}(h:σ q=some (.row t e (xs++ex))):bD f σ f (σ.set q (.row t e xs)):=by
 have hd:∀l o,(σ.set q (.row t e xs)) l=some o→∃o',σ l=some o':=fun l o hl=>by
  rcases gE hl with⟨rfl,rfl⟩|⟨_,h1⟩
  ·exact⟨_,h⟩
  ·exact⟨_,h1⟩
 refine⟨rfl,fun Φ w vs hi hr=>⟨Φ,⟨fun l o hl=>?_,fun a b o o' p p' R h1 h2 h3 h4 h5 h6=>?_,hi.snap,fun l o p R a v h1 h2 h3 h4=>?_,hi.fresh⟩,hr,.refl _,rfl,rfl,rfl,Nat.le_refl _,Nat.le_refl _,fun _ _ _=>rfl,fun _ _ hv=>.inl hv,fun l o hl=>.inl (hd l o hl),fun R hR=>.inl ?_⟩⟩
 ·rcases gE hl with⟨rfl,rfl⟩|⟨_,h1⟩
  ·obtain⟨p,h1,h2,h3,h4,h5,h6⟩:=hi.own l _ h
   have at_:∀{i:Nat} {x:List MV},xs[i]?=some x→(xs++ex)[i]?=some x:=fun hx=>by
    rw[List.getElem?_append_left (List.getElem?_eq_some_iff.1 hx).1];exact hx
   refine⟨p,h1,h2,by rw[List.length_append] at h3;omega,h4,fun i x hx=>h5 i x (at_ hx),?_⟩
   cases hb:p.blk with
   | none=>simp only[hb] at h6;exact h6
   | some R =>
    simp only[hb] at h6
    obtain⟨c,fz,k1,k2,k3,k4⟩:=h6
    exact⟨c,fz,k1,k2,k3,fun i x j m hx hm=>k4 i x j m (at_ hx) hm⟩
  ·exact hi.own l o h1
 ·obtain⟨oa,ha⟩:=hd a o h1
  obtain⟨ob,hb⟩:=hd b o' h2
  exact hi.inj a b oa ob p p' R ha hb h3 h4 h5 h6
 ·obtain⟨oa,ha⟩:=hd l o h1
  exact hi.apart l oa p R a v ha h2 h3 h4
 ·obtain⟨l,o,p,h1,h2,h3⟩:=hR
  obtain⟨oa,ha⟩:=hd l o h1
  exact⟨l,oa,p,ha,h2,h3⟩
def NO(n:Nat)(K:St→Prop):YQ
 | .normal,f,σ,t=>f.d=[]∧(t=some n∨t=none)∧K σ
 | .ret,f,σ,t=>f.d=[]∧(t=some n∨t=none)∧K σ
 | _,_,_,_=>False
def St.gF(σi τ σ:St):St:=fun l=>if (σi l).isSome then τ l else σ l
def Fc(Q:MQ)(σi:St)(K:St→Prop):MQ:=fun e f σ=>∀τ,K τ→(∀l o,σ l=some o→σi l=none)→Gh f (σi.gF τ σ) fun f1 σ1=>Q e f1 σ1
theorem A4{P:Program}{fn:Func}{tmps:Array Value}{C:YC}{t:Option Nat}(hrs:fn.results.toList=[]){Φ0:Phi}{σ0:St}{w0:World}{S0:YS}(h0:Φ0.base=w0.heap.size){R:Ending→World→Prop}{K:St→Prop}(hR:∀v Φ' w' σ' S',gN C Φ' σ' w' S' t→cT Φ0 σ0 w0 S0 Φ' σ' w' S'→K σ'→R (.returned v) w') :
  ∀(ds:List Deferred) (Φ:Phi) (w:World) (σ:St) (S:YS),cR Φ w ds []→gN C Φ σ w S t→cT Φ0 σ0 w0 S0 Φ σ w S→K σ→gY P fn tmps R ds w:=by
 intro ds
 induction ds with
 | nil =>
  intro Φ w σ S _ hi hs hk
  refine⟨.tuple #[],?_,hR _ Φ w σ S hi hs hk⟩
  rw[lC]
  have:fn.results=#[]:=Array.toList_eq_nil_iff.1 hrs
  simp only[this]
  first|rfl|simp[Sem.run_bind,Sem.run_pure]
 | cons x ds ih =>
  intro Φ w σ S hd hi hs hk
  rcases hd with⟨D,h1,h2,h3,h4,h5⟩|⟨g,ms,r,cap,h,_⟩
  ·refine .inl ⟨D,_,h1,run_takeDeferred h3,?_⟩
   have hDb:w0.heap.size≤D:=by rw[←h0,←hs.le.base];exact h2
   have i':=hi.inv.putObj (.deferred none) h3 (fun _ _ _ e=>by cases e) (fun _ _ e=>by cases e)
   have s':cT Φ0 σ0 w0 S0 Φ σ (w.putObj D (.deferred none)) S :=
    ⟨hs.le,hs.os,hs.tape,hs.output,hs.drawn,by rw[World.putObj_size];exact hs.size,fun k hk hn hw=>(World.putObj_heap_other (by omega)).trans (hs.block k hk hn hw),hs.snapn,hs.ownd,hs.wr,hs.sn⟩
   refine ih Φ _ σ S ?_ ⟨i',hi.apt.putObj _ h3,hi.snapn,hi.ownd,by rw[World.putObj_size];exact hi.size,hi.st⟩ s' hk
   have:∀(xs:List Deferred) (d:List (FuncId × List MV)),(∀y,y∈xs→y.target≠.collected D)→cR Φ w xs d→cR Φ (w.putObj D (.deferred none)) xs d:=by
    intro xs
    induction xs with
    | nil=>intro d _ h;exact⟨h.1,by rw[World.putObj_size];exact h.2⟩
    | cons y xs ihx =>
     intro d hy h
     rcases h with⟨D',k1,k2,k3,k4,k5⟩|⟨g,ms,r,cap,k1,k2,k3,k4⟩
     ·refine .inl ⟨D',k1,k2,?_,k4,ihx d (fun z hz=>hy z (by simp[hz])) k5⟩
      rw[World.putObj_heap_other]
      ·exact k3
      ·intro e;exact hy y (by simp) (by rw[k1,e])
     ·exact .inr ⟨g,ms,r,cap,k1,k2,k3,ihx r (fun z hz=>hy z (by simp[hz])) k4⟩
   exact this ds [] h4 h5
  ·cases h
theorem Al.k7{P:Program}{g:FuncId}{fn:Func}{c:Code}{ns:List MV}{σi:St}{xs:List (List MV)}{K:St→Prop}(n:Nat)(hf:P.funcs[g]?=some fn)(hb:fn.body=some c)(hn:(fn.name == "runtime.NumGoroutine")=false)
 (hn':max fn.ntmps (ns.length+1)=n)(hrs:fn.results.toList=[])
 (h:∀C:YC,C.xs=xs→lN P C.l C.xs C.Y C.Yx C.Φ0 C.σ0 C.n0→ywp P C c ⟨n,iQ 0 (.fn (.yield C.l) [] []::ns),[]⟩ σi (some 0) (NO xs.length K)):Al P g ns σi xs K:=by
 refine⟨⟨fn,hf,by simp[hb],hn⟩,fun l Y Yx Φ w S vs hspec hi ha h0 hr=>?_⟩
 obtain⟨C,hC⟩:∃C:YC,C=⟨l,xs,Y,Yx,Φ.aT w.heap.size,σi,w.heap.size⟩:=⟨_,rfl⟩
 have hargs:fE (Φ.aT w.heap.size) (#[Value.func (.yield l) #[] #[]]++vs) (.fn (.yield l) [] []::ns):=by
  refine⟨by simp[hr.1];omega,fun i m hm=>?_⟩
  cases i with
  | zero =>
   simp only[List.getElem?_cons_zero,Option.some.injEq] at hm
   subst hm
   have e:(#[Value.func (.yield l) #[] #[]]++vs).getD 0 undef=Value.func (.yield l) #[] #[]:=by
    simp[Array.getD_eq_getD_getElem?,Array.getElem?_append]
   rw[e]
   exact pF _ (.func (.yield l) #[] #[])
  | succ i =>
   have:=(hr.2 i m (by simpa using hm)).aT w.heap.size
   have e:(#[Value.func (.yield l) #[] #[]]++vs).getD (i+1) undef=vs.getD i undef:=by
    simp[Array.getD_eq_getD_getElem?,Array.getElem?_append]
   rw[e];exact this
 have hfr:=pY (fn:=fn) hargs
 rw[List.length_cons,hn'] at hfr
 have hbody:=h C (by rw[hC]) (by rw[hC];exact hspec.aT _)
 have hst:gN C (Φ.aT w.heap.size) σi w S (some 0):=by
  subst hC
  exact⟨hi.aT _,ha.aT _,fun a v q=>.inl q,fun R q=>.inl q,Nat.le_refl _,h0⟩
 have hl:C.l=l:=by rw[hC]
 rw[hl] at hbody
 refine(kP (R:=fun e w'=>∃v Φ' σ' S',e=.returned v∧(gN C Φ' σ' w' S' (some xs.length)∨gN C Φ' σ' w' S' none)∧cT (Φ.aT w.heap.size) σi w S Φ' σ' w' S'∧K σ') hf hb (wp_mono (wpIn_wide.1 (hbody _ .wide (Φ.aT w.heap.size) w { tmps:=_,defers:=[] } S hst hfr ⟨rfl,Nat.le_refl _⟩)) ?_)).mono ?_
 ·rintro e a' w' ⟨f',σ',t',Φ',S',q1,q2,q3,q4,q5⟩
  have fin:(t'=some xs.length∨t'=none)→f'.d=[]→K σ'→gY P fn a'.tmps (fun e w'=>∃v Φ' σ' S',e=.returned v∧(gN C Φ' σ' w' S' (some xs.length)∨gN C Φ' σ' w' S' none)∧cT (Φ.aT w.heap.size) σi w S Φ' σ' w' S'∧K σ') a'.defers w':=by
   intro ht hd hk
   rw[hd] at q3
   rcases ht with rfl|rfl
   ·exact A4 (K:=K) (P:=P) (fn:=fn) (tmps:=a'.tmps) hrs (Φ0:=Φ.aT w.heap.size) (w0:=w) rfl (fun v Φ'' w'' σ'' S'' q qs k=>⟨v,Φ'',σ'',S'',rfl,.inl q,qs,k⟩) a'.defers Φ' w' σ' S' q3 q1 q4 hk
   ·exact A4 (K:=K) (P:=P) (fn:=fn) (tmps:=a'.tmps) hrs (Φ0:=Φ.aT w.heap.size) (w0:=w) rfl (fun v Φ'' w'' σ'' S'' q qs k=>⟨v,Φ'',σ'',S'',rfl,.inr q,qs,k⟩) a'.defers Φ' w' σ' S' q3 q1 q4 hk
  cases e with
  | normal=>exact⟨.inl rfl,fin q5.2.1 q5.1 q5.2.2⟩
  | ret=>exact⟨.inr rfl,fin q5.2.1 q5.1 q5.2.2⟩
  | _=>exact q5.elim
 ·rintro e w' ⟨v,Φ',σ',S',rfl,q,qs,hk⟩
  subst hC
  rcases q with q|q
  ·exact⟨v,Φ'.aT Φ.base,σ',S',rfl,q.inv.aT _,q.apt.aT _,qs.aT,.inl q.st,hk⟩
  ·exact⟨v,Φ'.aT Φ.base,σ',S',rfl,q.inv.aT _,q.apt.aT _,qs.aT,.inr q.st,hk⟩
structure nU (A:Nat→Prop) (Φ0:Phi) (σ0:St) (n0:Nat) (Φ:Phi) (σ:St):Prop where
 le:Φ0.le Φ
 snapn:∀a v,Φ.snap a=some v→Φ0.snap a=some v∨n0≤a.block∨aQ Φ0 σ0 a.block
 locs:∀l o,σ l=some o→A l∨Φ0.obj l=none
 ownd:∀R,aQ Φ σ R→aQ Φ0 σ0 R∨n0≤R
theorem nU.step{A:Nat→Prop}{Φ0 Φ Φ':Phi}{σ0 σ σ':St}{n0:Nat}{w w':World}(h:nU A Φ0 σ0 n0 Φ σ)(hn:n0≤w.heap.size)(k:Step Φ σ w Φ' σ' w'):nU A Φ0 σ0 n0 Φ' σ' where
 le:=h.le.trans k.le
 snapn:=fun a v hv=>by
  rcases k.snapn a v hv with q|q|q
  ·exact h.snapn a v q
  ·exact .inr (.inl (Nat.le_trans hn q))
  ·rcases h.ownd _ q with q|q
   ·exact .inr (.inr q)
   ·exact .inr (.inl q)
 locs:=fun l o hl=>by
  rcases k.locs l o hl with⟨o',q⟩|q
  ·exact h.locs l o' q
  ·right
   cases hl:Φ0.obj l with
   | none=>rfl
   | some p=>have:=h.le.obj l p hl;simp[this] at q
 ownd:=fun R hR=>by
  rcases k.ownd R hR with q|q
  ·exact h.ownd R q
  ·exact .inr (Nat.le_trans hn q)
structure oR (A:Nat→Prop) (Φ0:Phi) (σ0:St) (n0:Nat) (tmps:Array Value) (fc:FR) (l:Nat) (st:Loop) (σ:St) (S:YS) (Φ:Phi):Prop where
 inv:Inv Φ S.w σ
 frame:cF Φ tmps fc
 step:nU A Φ0 σ0 n0 Φ σ
 wr:∀k,S.wr k↔(aQ Φ σ k∨k=l)
 sn:∀a,S.sn a=Φ.snap a
 lrec:S.w.heap[l]?=some (.loop st)
 size:n0≤S.w.heap.size
 base:Φ.base≤S.w.heap.size
theorem oR.agree{A:Nat→Prop}{Φ0 Φ:Phi}{σ0 σ:St}{n0:Nat}{tmps:Array Value}{fc:FR}{l:Nat}{st:Loop}{S:YS}(h:oR A Φ0 σ0 n0 tmps fc l st σ S Φ):jD S S.w :=
 ⟨fun _ _=>rfl,fun k hk=>by
  rcases (h.wr k).1 hk with q|rfl
  ·obtain⟨l',o,p,h1,h2,h3⟩:=q
   obtain⟨p',e,hlt⟩:=(h.inv.own l' o h1).place
   rw[h2] at e;cases e
   exact hlt k h3
  ·exact(Array.getElem?_eq_some_iff.1 h.lrec).1,(fun k hk x e=>by
  rcases (h.wr k).1 hk with q|rfl
  ·exact h.inv.mark e q
  ·rw[h.lrec] at e;cases e),fun a v q=>h.inv.snap a v (by rw[←h.sn a];exact q),Nat.le_refl _,rfl,rfl,rfl,Nat.le_refl _⟩
theorem oR.at{A:Nat→Prop}{Φ0 Φ:Phi}{σ0 σ:St}{n0:Nat}{tmps:Array Value}{fc:FR}{l:Nat}{st:Loop}{S:YS}(h:oR A Φ0 σ0 n0 tmps fc l st σ S Φ){w:World}(ha:jD S w){Ψ:Phi}(ho:∀m,Ψ.obj m=none)
 (hs:∀a v,Ψ.snap a=some v→w.cell? a=some v∧¬S.wr a.block∧(Φ0.snap a=some v∨n0≤a.block∨aQ Φ0 σ0 a.block)) :
  ∃Φ',Inv Φ' w σ∧cF Φ' tmps fc∧nU A Φ0 σ0 n0 Φ' σ∧(∀k,aQ Φ' σ k↔aQ Φ σ k)∧(∀a v,Φ'.snap a=some v→S.sn a=some v∨Ψ.snap a=some v)∧(∀v m,Rel Ψ v m→Rel Φ' v m)∧w.heap[l]?=some (.loop st)∧Φ'.base≤w.heap.size:=by
 obtain⟨Φ',hΦ⟩:∃Φ':Phi,Φ'={ Φ with snap:=fun a=>match Φ.snap a with|some v=>some v|none=>Ψ.snap a }:=⟨_,rfl⟩
 have hle:Φ.le Φ':=by subst hΦ;exact⟨fun a v q=>by simp[q],fun _ _ q=>q,rfl⟩
 have hobj:Φ'.obj=Φ.obj:=by subst hΦ;rfl
 have hb:Φ'.base=Φ.base:=by subst hΦ;rfl
 have hsn:∀a v,Φ'.snap a=some v→Φ.snap a=some v∨Ψ.snap a=some v:=fun a v q=>by
  subst hΦ
  simp only at q
  cases e:Φ.snap a with
  | none=>rw[e] at q;exact .inr q
  | some u=>rw[e] at q;exact .inl q
 have hwr:∀k,aQ Φ σ k→w.heap[k]?=S.w.heap[k]?:=fun k hk=>ha.same k ((h.wr k).2 (.inl hk))
 have hown:∀k,aQ Φ' σ k↔aQ Φ σ k:=fun k=>by unfold aQ;rw[hobj]
 refine⟨Φ',⟨fun l' o hl=>(h.inv.own l' o hl).mono hle fun p R h1 h2=>hwr R ⟨l',o,p,hl,h1,h2⟩,fun a b o o' p p' R h1 h2 h3 h4=>?_,fun a v q=>?_,fun l' o p R a v h1 h2 h3 q=>?_,?_⟩,h.frame.mono hle,⟨h.step.le.trans hle,fun a v q=>?_,h.step.locs,fun R hR=>h.step.ownd R ((hown R).1 hR)⟩,hown,fun a v q=>?_,fun v m r=>?_,?_,?_⟩
 ·rw[hobj] at h3 h4;exact h.inv.inj a b o o' p p' R h1 h2 h3 h4
 ·rcases hsn a v q with q|q
  ·exact ha.sn a v (by rw[h.sn a];exact q)
  ·exact(hs a v q).1
 ·rw[hobj] at h2
  rcases hsn a v q with q|q
  ·exact h.inv.apart l' o p R a v h1 h2 h3 q
  ·intro e
   exact(hs a v q).2.1 ((h.wr _).2 (.inl ⟨l',o,p,h1,h2,e ▸ h3⟩))
 ·obtain⟨n,hn⟩:=h.inv.fresh.1.1
  exact⟨⟨⟨n,fun k hk=>by rw[hobj];exact hn k hk⟩,fun k p hk=>h.inv.fresh.1.2 k p (by rw[←hobj];exact hk)⟩,fun g i v q=>hle.snap _ _ (h.inv.fresh.2.1 g i v q),h.inv.fresh.2.2.mono hle.snap⟩
 ·rcases hsn a v q with q|q
  ·exact h.step.snapn a v q
  ·exact(hs a v q).2.2
 ·rcases hsn a v q with q|q
  ·exact .inl (by rw[h.sn a];exact q)
  ·exact .inr q
 ·refine r.Br (fun a u q=>?_) (fun l' p q=>by rw[ho l'] at q;cases q)
  have h1:=(hs a u q).1
  subst hΦ
  simp only
  cases e:Φ.snap a with
  | none=>exact q
  | some u' =>
   have h2:=ha.sn a u' (by rw[h.sn a];exact e)
   rw[h1] at h2
   simpa using h2.symm
 ·rw[ha.same l ((h.wr l).2 (.inr rfl))];exact h.lrec
 ·rw[hb];exact Nat.le_trans h.base ha.size
theorem Hw{P:Program}{A:Nat→Prop}{Φ0:Phi}{σ0:St}{n0:Nat}{tmps:Array Value}{fc:FR}{l:Nat}{fn:FuncId}{ps:Array Tmp}{assign body:Code}{Q:MQ}{nxt:St→Prop}{D:Nat}{σ:St}{S:YS}{Φ:Phi}{x:List MV}{w:World}{Ψ:Phi}{vs:Array Value}
 (rec:LoopState→Option Code→Loop)(hrec:rec=fun st pe=>{ state:=st,pending:=pe,fn,tmps,params:=ps,assign,body,defers:=D })
 (nda:eJ assign=true)(ndb:eJ body=true)(hx:x.length=ps.size)
 (hr:mwp P assign (kG ⟨fc.n,fc.l,[]⟩ ps.toList x) σ (BF fun f1 σ1=>mwp P body f1 σ1 (mH Q fc nxt)))
 (h:oR A Φ0 σ0 n0 tmps fc l (rec .ready none) σ S Φ)(ha:jD S w)(hn0:n0≤w.heap.size)(ho:∀m,Ψ.obj m=none)
 (hs:∀a v,Ψ.snap a=some v→w.cell? a=some v∧¬S.wr a.block∧(Φ0.snap a=some v∨n0≤a.block∨aQ Φ0 σ0 a.block))(hv:fE Ψ vs x) :
  YieldAt Fence.wide 0 P l vs w fun e w'=>∃b S',e=.returned (.bool b)∧S'.w=w'∧jD S' w'∧w'.os=w.os∧w'.tape=w.tape∧w'.output=w.output∧drw w≤drw w'∧w.heap.size≤w'.heap.size ∧
   (∀k,k<w.heap.size→¬S.wr k→w'.heap[k]?=w.heap[k]?)∧(∀k,S'.wr k→S.wr k∨w.heap.size≤k) ∧
   (∀a v,S'.sn a=some v→S.sn a=some v∨S.wr a.block∨w.heap.size≤a.block∨Ψ.snap a=some v) ∧
   (if b=true then ∃σ1 Φ1,nxt σ1∧oR A Φ0 σ0 n0 tmps fc l (rec .ready none) σ1 S' Φ1 else ∃c σ1 Φ1,((c=.ret∧Q .ret fc σ1)∨∃id,c=.exit id∧Q (.exit id) fc σ1)∧oR A Φ0 σ0 n0 tmps fc l (rec .done (some c)) σ1 S' Φ1):=by
 obtain⟨Φc,i1,fr1,c1,o1,s1,r1,l1,b1⟩:=h.at ha ho hs
 have hl:l<w.heap.size:=(Array.getElem?_eq_some_iff.1 l1).1
 have hwl:S.wr l:=(h.wr l).2 (.inr rfl)
 have hy:=run_yield (P:=P) (args:=vs) l1 (by rw[hrec];exact hv.1.trans hx)
 rw[hrec] at hy
 refine⟨fn,_,assign,body,hy,roundIn_of_wpIn trivial ?_⟩
 have hfr:cF Φc ((ps.zip vs).foldl (fun t (p:Tmp × Value)=>t.setIfInBounds p.1 p.2) tmps) (kG ⟨fc.n,fc.l,[]⟩ ps.toList x):=by
  rw[wV]
  refine pZ ps.toList x vs.toList tmps ⟨fc.n,fc.l,[]⟩ fr1 (by simpa using hv.1) fun i m hm=>?_
  have:=r1 _ _ (hv.2 i m hm)
  simpa[Array.getD_eq_getD_getElem?,List.getD_eq_getElem?_getD] using this
 refine wpIn_mono (hr (Fence.wide.inRound l) (.inr ⟨l,rfl,nda⟩) Φc w { tmps:=_,defers:=[] } i1 hfr (by rw[E7];exact⟨rfl,b1⟩)) ?_
 rintro e a₁ w₁ ⟨f2,σ2,Φ2,d2,fr2,i2,st2,q⟩
 cases e with
 | normal =>
  have hnl:¬aQ Φc σ l:=i1.k0 l1
  have hl2:w₁.heap[l]?=some (.loop (rec .ready none)):=(st2.block l hl hnl).trans l1
  refine⟨_,run_beginRound hl2 (by rw[hrec]),?_⟩
  obtain⟨w₂,hw2⟩:∃w₂,w₁.putObj l (.loop { rec .ready none with state:=.busy })=w₂:=⟨_,rfl⟩
  rw[hw2]
  have i2':Inv Φ2 w₂ σ2:=by rw[←hw2];exact i2.putObj _ hl2 (fun _ _ _ e=>by cases e) (fun _ _ e=>by cases e)
  have sz2:w₂.heap.size=w₁.heap.size:=by rw[←hw2,World.putObj_size]
  have ll2:w₂.heap[l]?=some (.loop { rec .ready none with state:=.busy }):=by rw[←hw2];exact World.putObj_heap_same (Array.getElem?_eq_some_iff.1 hl2).1
  have d2':cR Φ2 w₂ a₁.defers f2.d:=d2.mono (.refl _) (by omega) fun D' hD=>by
   rw[←hw2,World.putObj_heap_other]
   ·exact hD
   ·rintro rfl;rw[hl2] at hD;cases hD
  have q:mwp P body f2 σ2 (mH Q fc nxt):=q
  refine wpIn_mono (q (Fence.wide.inRound l) (.inr ⟨l,rfl,ndb⟩) Φ2 w₂ a₁ i2' fr2 d2') ?_
  rintro e a₃ w₃ ⟨f3,σ3,Φ3,d3,fr3,i3,st3,q3⟩
  have hnl2:¬aQ Φ2 σ2 l:=i2'.k0 ll2
  have hl3:w₃.heap[l]?=some (.loop { rec .ready none with state:=.busy }):=(st3.block l (Array.getElem?_eq_some_iff.1 ll2).1 hnl2).trans ll2
  -- what a round comes to,whichever way it is left
  have fin:∀(jump:Option Code) (st:Loop) (σ4:St) (K:FR→St→Prop),st=rec (if jump.isNone then .ready else .done) jump→Gh f3 σ3 K →
    ∃σ4 f4 Φ4,K f4 σ4∧(Instr.endRound l jump).run P w₃=.ok (.bool jump.isNone) (w₃.putObj l (.loop st)) ∧
     (∃S':YS,S'.w=w₃.putObj l (.loop st)∧jD S' (w₃.putObj l (.loop st))∧(w₃.putObj l (.loop st)).os=w.os∧(w₃.putObj l (.loop st)).tape=w.tape∧(w₃.putObj l (.loop st)).output=w.output∧drw w≤drw (w₃.putObj l (.loop st))∧w.heap.size≤(w₃.putObj l (.loop st)).heap.size ∧
      (∀k,k<w.heap.size→¬S.wr k→(w₃.putObj l (.loop st)).heap[k]?=w.heap[k]?)∧(∀k,S'.wr k→S.wr k∨w.heap.size≤k) ∧
      (∀a v,S'.sn a=some v→S.sn a=some v∨S.wr a.block∨w.heap.size≤a.block∨Ψ.snap a=some v)∧oR A Φ0 σ0 n0 tmps fc l st σ4 S' Φ4):=by
   intro jump st _ K hst hg
   obtain⟨f4,σ4,Φ4,-,k4,i4,fr4,st4⟩:=hg Φ3 w₃ a₃.tmps i3 fr3
   have hend:=run_endRound (P:=P) jump hl3
   have hst':({ ({ rec .ready none with state:=.busy }:Loop) with state:=if jump.isNone then .ready else .done,pending:=jump }:Loop)=st:=by rw[hst,hrec]
   rw[hst'] at hend
   refine⟨σ4,f4,Φ4,k4,hend,?_⟩
   obtain⟨w₄,hw4⟩:∃w₄,w₃.putObj l (.loop st)=w₄:=⟨_,rfl⟩
   rw[hw4]
   have sz4:w₄.heap.size=w₃.heap.size:=by rw[←hw4,World.putObj_size]
   have i4':Inv Φ4 w₄ σ4:=by rw[←hw4];exact i4.putObj _ hl3 (fun _ _ _ e=>by cases e) (fun _ _ e=>by cases e)
   have cs:nU A Φ0 σ0 n0 Φ4 σ4:=((c1.step hn0 st2).step (w:=w₂) (by have:=st2.size;omega) st3).step (w:=w₃) (by have:=st2.size;have:=st3.size;omega) st4
   have hsz:w.heap.size≤w₃.heap.size:=by have:=st2.size;have:=st3.size;omega
   have oth:∀k,k≠l→w₄.heap[k]?=w₃.heap[k]?:=fun k hk=>by rw[←hw4];exact World.putObj_heap_other hk
   have oth2:∀k,k≠l→w₂.heap[k]?=w₁.heap[k]?:=fun k hk=>by rw[←hw2];exact World.putObj_heap_other hk
   have ow:∀k,aQ Φ4 σ4 k→S.wr k∨w.heap.size≤k:=fun k hk=>by
    rcases st4.ownd k hk with q|q
    ·rcases st3.ownd k q with q|q
     ·rcases st2.ownd k q with q|q
      ·exact .inl ((h.wr k).2 (.inl ((o1 k).1 q)))
      ·exact .inr q
     ·have:=st2.size;exact .inr (by omega)
    ·exact .inr (by omega)
   have hcst:oR A Φ0 σ0 n0 tmps fc l st σ4 ⟨w₄,fun k=>aQ Φ4 σ4 k∨k=l,Φ4.snap⟩ Φ4 :=
    ⟨i4',fr1.mono ((st2.le.trans st3.le).trans st4.le),cs,fun _=>Iff.rfl,fun _=>rfl,by simp only;rw[←hw4];exact World.putObj_heap_same (Array.getElem?_eq_some_iff.1 hl3).1,by simp only;omega,by
     simp only
     rw[st4.le.base,st3.le.base,st2.le.base];omega⟩
   refine⟨⟨w₄,fun k=>aQ Φ4 σ4 k∨k=l,Φ4.snap⟩,rfl,hcst.agree,?_,?_,?_,?_,by omega,fun k hk hw=>?_,fun k hk=>?_,fun a v hv=>?_,hcst⟩
   ·have e1:w₄.os=w₃.os:=by rw[←hw4];rfl
    have e2:w₂.os=w₁.os:=by rw[←hw2];rfl
    rw[e1,st3.os,e2,st2.os]
   ·have e1:w₄.tape=w₃.tape:=by rw[←hw4];rfl
    have e2:w₂.tape=w₁.tape:=by rw[←hw2];rfl
    rw[e1,st3.tape,e2,st2.tape]
   ·have e1:w₄.output=w₃.output:=by rw[←hw4];rfl
    have e2:w₂.output=w₁.output:=by rw[←hw2];rfl
    rw[e1,st3.output,e2,st2.output]
   ·have e1:drw w₄=drw w₃:=by rw[←hw4];rfl
    have e2:drw w₂=drw w₁:=by rw[←hw2];rfl
    have:=st2.drawn
    have:=st3.drawn
    omega
   ·have hkl:k≠l:=fun e=>hw (e ▸ hwl)
    have hno:¬aQ Φc σ k:=fun q=>hw ((h.wr k).2 (.inl ((o1 k).1 q)))
    have hno2:¬aQ Φ2 σ2 k:=fun q=>(st2.ownd k q).elim hno (fun q=>by omega)
    rw[oth k hkl,st3.block k (by have:=st2.size;omega) hno2,oth2 k hkl,st2.block k hk hno]
   ·rcases hk with q|rfl
    ·exact ow k q
    ·exact .inl hwl
   ·have hv:Φ4.snap a=some v:=hv
    have ow3:∀k,aQ Φ3 σ3 k→S.wr k∨w.heap.size≤k:=fun k hk=>by
     rcases st3.ownd k hk with q|q
     ·rcases st2.ownd k q with q|q
      ·exact .inl ((h.wr k).2 (.inl ((o1 k).1 q)))
      ·exact .inr q
     ·have:=st2.size;exact .inr (by omega)
    have ow2:∀k,aQ Φ2 σ2 k→S.wr k∨w.heap.size≤k:=fun k hk=>by
     rcases st2.ownd k hk with q|q
     ·exact .inl ((h.wr k).2 (.inl ((o1 k).1 q)))
     ·exact .inr q
    have tw:S.wr a.block∨w.heap.size≤a.block→S.sn a=some v∨S.wr a.block∨w.heap.size≤a.block∨Ψ.snap a=some v:=fun q=>q.elim (fun q=>.inr (.inl q)) (fun q=>.inr (.inr (.inl q)))
    rcases st4.snapn a v hv with q|q|q
    ·rcases st3.snapn a v q with q|q|q
     ·rcases st2.snapn a v q with q|q|q
      ·rcases s1 a v q with q|q
       ·exact .inl q
       ·exact .inr (.inr (.inr q))
      ·exact tw (.inr q)
      ·exact tw (.inl ((h.wr _).2 (.inl ((o1 _).1 q))))
     ·have:=st2.size;exact tw (.inr (by omega))
     ·exact tw (ow2 _ q)
    ·exact tw (.inr (by omega))
    ·exact tw (ow3 _ q)
  cases e with
  | normal =>
   obtain⟨σ4,f4,Φ4,k4,hend,S',hS1,hS2,hS3,hS4,hS5,hS6,hS7,hS8,hS9,hS10,hS11⟩:=fin none (rec .ready none) σ3 _ rfl q3
   exact⟨_,_,hend,true,S',rfl,hS1,hS2,hS3,hS4,hS5,hS6,hS7,hS8,hS9,hS10,σ4,Φ4,k4,hS11⟩
  | ret =>
   obtain⟨σ4,f4,Φ4,k4,hend,S',hS1,hS2,hS3,hS4,hS5,hS6,hS7,hS8,hS9,hS10,hS11⟩:=fin (some .ret) (rec .done (some .ret)) σ3 _ rfl q3
   exact⟨_,_,hend,false,S',rfl,hS1,hS2,hS3,hS4,hS5,hS6,hS7,hS8,hS9,hS10,.ret,σ4,Φ4,.inl ⟨rfl,k4⟩,hS11⟩
  | exit id =>
   obtain⟨σ4,f4,Φ4,k4,hend,S',hS1,hS2,hS3,hS4,hS5,hS6,hS7,hS8,hS9,hS10,hS11⟩:=fin (some (.exit id)) (rec .done (some (.exit id))) σ3 _ rfl q3
   exact⟨_,_,hend,false,S',rfl,hS1,hS2,hS3,hS4,hS5,hS6,hS7,hS8,hS9,hS10,.exit id,σ4,Φ4,.inr ⟨id,rfl,k4⟩,hS11⟩
  | goto l=>exact q3.elim
  | panic c=>exact q3.elim
  | outgrown=>exact q3.elim
 | exit id=>exact q.elim
 | goto l=>exact q.elim
 | ret=>exact q.elim
 | panic c=>exact q.elim
 | outgrown=>exact q.elim
theorem mC{P:Program}{g:Operand}{ps:Array Tmp}{assign body:Code}{f:FR}{σ:St}{Q:MQ}{gf:FuncId}{ns:List MV}(hg:aE f g=.fn (.func gf) [] ns){σi:St}(hle:σi.le σ){xs:List (List MV)}
 {K:St→Prop}(hK:∀τ,K τ→∀l o,σi l≠none→τ l=some o→InO (fun k=>σi k≠none) o)
 (hseq:Al P gf ns σi xs K)(hx:∀x,x∈xs→x.length=ps.size)(nda:eJ assign=true)(ndb:eJ body=true){α:Type}(fc:FR)(hd0:fc.d=f.d)(S:Nat→α→St)(p:Nat→α→Prop)
 (h0:Gh f (σ.minus σi) fun f1 σ1=>f1=fc∧∃a,σ1=S 0 a∧p 0 a)
 (round:∀i x a,xs[i]?=some x→p i a→mwp P assign (kG ⟨fc.n,fc.l,[]⟩ ps.toList x) (S i a) (BF fun f1 σ1=>mwp P body f1 σ1 (mH (Fc Q σi K) fc fun σ2=>∃b,σ2=S (i+1) b∧p (i+1) b)))
 (done:∀a,p xs.length a→Fc Q σi K .normal fc (S xs.length a)):mwp P (.rangeFunc g ps assign body) f σ Q:=by
 intro F hF Φ w a hi hr hd
 have hF':F=Fence.wide:=by
  rcases hF with h|⟨l,_,h⟩
  ·exact h
  ·cases h
 subst hF'
 have hle':∀l o,σi l=some o→σ l=some o:=hle
 obtain⟨f1,σ1,Φ1,-,⟨rfl,a0,rfl,p0⟩,i1,r1,st1⟩:=h0 Φ w a.tmps (hi.less (St.iG σ σi)) hr
 have hv:=aL hr g
 rw[hg] at hv
 obtain⟨first,cap,he,hfirst,hcap⟩:=hv.kZ
 have hfe:first=#[]:=by
  have:=hfirst.1
  exact Array.eq_empty_of_size_eq_zero (by simpa using this)
 subst hfe
 obtain⟨fnn,hfn,hbody,hname⟩:=hseq.1
 have eg:∀(args:Array Value) (w:World),(callFunc gf args).run P w=.ok (.enter gf args) w:=fun args w=>by
  simp only[callFunc,Sem.run_bind,run_program,hfn,hname,hbody,Result.andThen_ok,Bool.false_eq_true,if_false,Sem.run_pure]
 refine wpIn_rangeFunc fun fn _=>?_
 obtain⟨rec,hrec⟩:∃rec:LoopState→Option Code→Loop,rec=fun st pe=>{ state:=st,pending:=pe,fn,tmps:=a.tmps,params:=ps,assign,body,defers:=w.heap.size }:=⟨_,rfl⟩
 obtain⟨W1,hW1⟩:∃W1,(w.alloc (.deferred (some []))).alloc (.loop (rec .ready none))=W1:=⟨_,rfl⟩
 have sz1:W1.heap.size=w.heap.size+2:=by rw[←hW1,World.size_alloc,World.size_alloc]
 have old:∀k,k<w.heap.size→W1.heap[k]?=w.heap[k]?:=fun k hk=>by
  rw[←hW1]
  show((w.heap.push _).push _)[k]?=_
  rw[Array.getElem?_push,if_neg (by simp;omega),Array.getElem?_push,if_neg (by omega)]
 have hL:W1.heap[w.heap.size+1]?=some (.loop (rec .ready none)):=by
  rw[←hW1];have:=World.alloc_heap_new (w.alloc (.deferred (some []))) (.loop (rec .ready none));rwa [World.size_alloc] at this
 have hD:W1.heap[w.heap.size]?=some (Obj.deferred (some [])):=by
  rw[←hW1]
  show((w.heap.push _).push _)[w.heap.size]?=_
  rw[Array.getElem?_push,if_neg (by simp),Array.getElem?_push,if_pos rfl]
 have eos:W1.os=w.os:=by rw[←hW1];rfl
 have eta:W1.tape=w.tape:=by rw[←hW1];rfl
 have eou:W1.output=w.output:=by rw[←hW1];rfl
 have edr:drw W1=drw w:=by rw[←hW1];rfl
 have gr:∀{Φ:Phi} {σ:St},Inv Φ w σ→Inv Φ W1 σ∧Step Φ σ w Φ σ W1:=fun h=>h.grow eos eta eou (by omega) (by omega) old
 have own1:∀k,aQ Φ1 (S 0 a0) k→aQ Φ (σ.minus σi) k:=fun k hk=>by
  rcases st1.ownd k hk with q|q
  ·exact q
  ·exfalso
   obtain⟨l,o,p,h1,h2,h3⟩:=hk
   obtain⟨p',e,hlt⟩:=(i1.own l o h1).place
   rw[h2] at e;cases e
   have:=hlt k h3
   omega
 have ownσ:∀{τ:St},τ.le σ→∀k,aQ Φ τ k→aQ Φ σ k:=fun hτ k hk=>hk.less hτ
 have apart2:∀k,aQ Φ (σ.minus σi) k→¬aQ Φ σi k:=fun k ⟨l,o,p,h1,h2,h3⟩ ⟨l',o',p',h4,h5,h6⟩=>by
  have e:=hi.inj l l' o o' p p' k (bN h1).2 (hle l' o' h4) h2 h5 h3 h6
  subst e
  have:=(bN h1).1
  rw[h4] at this;cases this
 have hb:=hd.base
 obtain⟨S0,hS0⟩:∃S0:YS,S0=⟨W1,fun k=>aQ Φ1 (S 0 a0) k∨k=w.heap.size+1,Φ1.snap⟩:=⟨_,rfl⟩
 obtain⟨A,hA⟩:∃A:Nat→Prop,A=fun l=>∃o',(σ.minus σi) l=some o':=⟨_,rfl⟩
 have c0:nU A Φ σ w.heap.size Φ1 (S 0 a0):=⟨st1.le,fun b v q=>(st1.snapn b v q).imp_right (fun q=>q.imp_right (ownσ (St.iG _ _) _)),fun l o q=>by
  rcases st1.locs l o q with⟨o',h⟩|h
  ·rw[hA];exact .inl ⟨o',h⟩
  ·exact .inr h,fun R hR=>.inl (ownσ (St.iG _ _) _ (own1 R hR))⟩
 have cst0:oR A Φ σ w.heap.size a.tmps f1 (w.heap.size+1) (rec .ready none) (S 0 a0) S0 Φ1:=by
  subst hS0
  exact⟨(gr i1).1,r1,c0,fun _=>Iff.rfl,fun _=>rfl,hL,by simp only;omega,by simp only;rw[st1.le.base];omega⟩
 have apt0:Apt Φ σi S0 W1:=by
  have hag:=cst0.agree
  subst hS0
  refine⟨hag,fun k hk=>?_,fun b v q'=>?_,fun b v q hk=>?_⟩
  ·rcases hk with hk|rfl
   ·exact apart2 k (own1 k hk)
   ·exact(gr (hi.less hle)).1.k0 hL
  ·rintro⟨l,o,p,h1,h2,h3⟩
   rcases st1.snapn b v q' with q|q|q
   ·exact hi.apart l o p b.block b v (hle l o h1) h2 h3 q rfl
   ·have hlt:=World.block_lt_of_cell? w b (i1.snap b v q')
    omega
   ·exact apart2 _ q ⟨l,o,p,h1,h2,h3⟩
  ·have hbl:=World.block_lt_of_cell? w b (hi.snap b v q)
   rcases hk with hk|hk
   ·obtain⟨l,o,p,h1,h2,h3⟩:=own1 _ hk
    exact hi.apart l o p b.block b v (bN h1).2 h2 h3 q rfl
   ·omega
 refine⟨w.heap.size+1,[{ target:=.collected w.heap.size,args:=#[] }],W1,{ target:=.fn (.func gf) cap,args:=#[.func (.yield (w.heap.size+1)) #[] #[]] },W1,gf,
  #[.func (.yield (w.heap.size+1)) #[] #[]]++cap,W1,?_,?_,fun _ _=>trivial,?_,(fun q=>by cases q),?_⟩
 ·rw[←hW1,hrec];exact run_enterLoop_outer _ _ _ _ _
 ·simp only[resolve,he]
  simp[go_sem]
 ·simp[invoke,go_sem,eg]
 ·refine callsIn_wide.2 ((hseq.2 (w.heap.size+1)
   (fun i Sx=>∃b Φc,p i b∧oR A Φ σ w.heap.size a.tmps f1 (w.heap.size+1) (rec .ready none) (S i b) Sx Φc)
   (fun Sx=>∃c σc Φc,((c=.ret∧Fc Q σi K .ret f1 σc)∨∃id,c=.exit id∧Fc Q σi K (.exit id) f1 σc)∧oR A Φ σ w.heap.size a.tmps f1 (w.heap.size+1) (rec .done (some c)) σc Sx Φc)
   Φ W1 S0 cap ?_ (gr (hi.less hle)).1 apt0 ⟨a0,Φ1,p0,cst0⟩ hcap).mono ?_)
  ·rintro i x Sx W Ψ vs hix ⟨b,Φc,pb,cs⟩ hag hsz ho hs hvs
   have hx':=hx x (List.mem_of_getElem? hix)
   have:=Hw (A:=A) (P:=P) rec hrec nda ndb hx' (round i x b hix pb) cs hag (by omega) ho (fun u v q=>⟨(hs u v q).1,(hs u v q).2.1,(hs u v q).2.2.imp_right fun q=>q.imp (fun q=>by omega) (ownσ hle _)⟩) hvs
   obtain⟨fn',t',as',bd',e1,e2⟩:=this
   refine⟨fn',t',as',bd',e1,e2.mono ?_⟩
   rintro e w' ⟨bb,S',q1,q2,q3,q4,q5,q6,q7,q8,q9,q10,q11,q12⟩
   refine⟨bb,S',q1,q2,q3,q4,q5,q6,q7,q8,q9,q10,q11,?_⟩
   cases bb with
   | true =>
    obtain⟨σ2,Φ2,⟨b',rfl,pb'⟩,cs'⟩:=q12
    exact⟨b',Φ2,pb',cs'⟩
   | false=>exact q12
  ·rintro e w3 ⟨v,Φe,σe,S',rfl,ie,apt,stS,hy,hke⟩
   -- the loop's side behind the iterator
   have fin:∀(st:Loop) (σc:St) (Φc:Phi),oR A Φ σ w.heap.size a.tmps f1 (w.heap.size+1) st σc S' Φc→st.state≠.busy→∃w4 Φm,(Instr.endLoop (w.heap.size+1)).run P w3=.ok st.pending w4∧cF Φm a.tmps f1 ∧
     Inv Φm w4 (σi.gF σe σc)∧Step Φ σ w Φm (σi.gF σe σc) w4∧cR Φm w4 ({ target:=.collected w.heap.size,args:=#[] }::a.defers) f1.d:=by
    intro st σc Φc cs hbusy
    have hlr:w3.heap[w.heap.size+1]?=some (.loop st):=(apt.agree.same _ ((cs.wr _).2 (.inr rfl))).trans cs.lrec
    obtain⟨w4,hw4⟩:∃w4,w3.putObj (w.heap.size+1) (.loop { st with state:=.exhausted })=w4:=⟨_,rfl⟩
    have hend:=run_endLoop (P:=P) hlr hbusy
    rw[hw4] at hend
    have sz4:w4.heap.size=w3.heap.size:=by rw[←hw4,World.putObj_size]
    have szz:w.heap.size+2≤w3.heap.size:=by have:=stS.size;omega
    have i3:Inv Φc w3 σc:=by
     have hwr:∀k,aQ Φc σc k→w3.heap[k]?=S'.w.heap[k]?:=fun k hk=>apt.agree.same k ((cs.wr k).2 (.inl hk))
     exact⟨fun l' o hl=>(cs.inv.own l' o hl).mono (.refl _) fun p R h1 h2=>hwr R ⟨l',o,p,hl,h1,h2⟩,cs.inv.inj,fun b u q=>apt.agree.sn b u (by rw[cs.sn b];exact q),cs.inv.apart,cs.inv.fresh⟩
    have i4:Inv Φc w4 σc:=by rw[←hw4];exact i3.putObj _ hlr (fun _ _ _ e=>by cases e) (fun _ _ e=>by cases e)
    have blk:∀k,k<w.heap.size→¬aQ Φ σ k→w4.heap[k]?=w.heap[k]?:=fun k hk hn=>by
     rw[←hw4,World.putObj_heap_other (by omega),stS.block k (by omega) (fun q=>hn (ownσ hle k q)) (fun q=>?_),old k hk]
     subst hS0
     rcases q with q|q
     ·exact hn (ownσ (St.iG _ _) k (own1 k q))
     ·omega
    have hmark:w4.heap[w.heap.size]?=some (Obj.deferred (some [])):=by
     rw[←hw4,World.putObj_heap_other (by omega),stS.block _ (by omega) ((gr (hi.less hle)).1.mark hD) (fun q=>?_),hD]
     subst hS0
     rcases q with q|q
     ·exact(gr i1).1.mark hD q
     ·omega
    obtain⟨Φm,hΦ⟩:∃Φm:Phi,Φm={ Φc with snap:=fun a=>match Φc.snap a with|some v=>some v|none=>Φe.snap a }:=⟨_,rfl⟩
    have hle:Φc.le Φm:=by subst hΦ;exact⟨fun a v q=>by simp[q],fun _ _ q=>q,rfl⟩
    have hobj:Φm.obj=Φc.obj:=by subst hΦ;rfl
    have hsn:∀a v,Φm.snap a=some v→Φc.snap a=some v∨Φe.snap a=some v:=fun a v q=>by
     subst hΦ
     simp only at q
     cases e:Φc.snap a with
     | none=>rw[e] at q;exact .inr q
     | some u=>rw[e] at q;exact .inl q
    have hse:∀a v,Φe.snap a=some v→Φm.snap a=some v:=fun a v q=>by
     subst hΦ
     simp only
     cases e:Φc.snap a with
     | none=>exact q
     | some u =>
      have h1:=i3.snap a u e
      rw[ie.snap a v q] at h1
      simpa using h1.symm
    have hoo:∀k p,σi k≠none→Φe.obj k=some p→Φm.obj k=some p:=fun k p hk q=>by
     cases e:σi k with
     | none=>exact absurd e hk
     | some o =>
      obtain⟨p',h1,_⟩:=(hi.own k o (hle' k o e)).place
      have h2:=stS.le.obj k p' h1
      rw[q] at h2
      rw[hobj,cs.step.le.obj k p' h1,h2]
    have hoe:∀k p o,σi k=some o→Φm.obj k=some p→Φe.obj k=some p:=fun k p o hk q=>by
     obtain⟨p',h1,_⟩:=(hi.own k o (hle' k o hk)).place
     rw[hobj,cs.step.le.obj k p' h1] at q
     rw[stS.le.obj k p' h1,q]
    have hov:∀k o,σi.gF σe σc k=some o→((∃o',σi k=some o')∧σe k=some o)∨(σi k=none∧σc k=some o):=fun k o h=>by
     unfold St.gF at h
     cases e:σi k with
     | none=>rw[e] at h;exact .inr ⟨rfl,h⟩
     | some o'=>rw[e] at h;exact .inl ⟨⟨o',rfl⟩,h⟩
    have hlw:w4.heap[w.heap.size+1]?=some (.loop { st with state:=.exhausted }):=by rw[←hw4];exact World.putObj_heap_same (Array.getElem?_eq_some_iff.1 hlr).1
    have oth:∀k,k≠w.heap.size+1→w4.heap[k]?=w3.heap[k]?:=fun k hk=>by rw[←hw4];exact World.putObj_heap_other hk
    have owne:∀R,aQ Φe σe R→R≠w.heap.size+1:=fun R hR e=>ie.k0 hlr (e ▸ hR)
    have im:Inv Φm w4 (σi.gF σe σc):=by
     refine⟨fun l' o hl=>?_,fun a b o o' p p' R h1 h2 h3 h4 h5 h6=>?_,fun a v q=>?_,fun l' o p R a v h1 h2 h3 q=>?_,?_⟩
     ·rcases hov l' o hl with⟨⟨o',q1⟩,q2⟩|⟨q1,q2⟩
      ·have hne:σi l'≠none:=by rw[q1];exact fun e=>by cases e
       exact((ie.own l' o q2).inD hse hoo hne (hK σe hke l' o hne q2)).mono (.refl _) fun p R h1 h2=>oth R (owne R ⟨l',o,p,q2,hoe l' p o' q1 h1,h2⟩)
      ·exact(i4.own l' o q2).mono hle fun _ _ _ _=>rfl
     ·rcases hov a o h1 with⟨⟨oa,q1⟩,q2⟩|⟨q1,q2⟩<;>rcases hov b o' h2 with⟨⟨ob,q3⟩,q4⟩|⟨q3,q4⟩
      ·exact ie.inj a b o o' p p' R q2 q4 (hoe a p oa q1 h3) (hoe b p' ob q3 h4) h5 h6
      ·exact absurd ⟨a,o,p,q2,hoe a p oa q1 h3,h5⟩ (apt.own R ((cs.wr R).2 (.inl ⟨b,o',p',q4,by rw[←hobj];exact h4,h6⟩)))
      ·exact absurd ⟨b,o',p',q4,hoe b p' ob q3 h4,h6⟩ (apt.own R ((cs.wr R).2 (.inl ⟨a,o,p,q2,by rw[←hobj];exact h3,h5⟩)))
      ·rw[hobj] at h3 h4;exact i4.inj a b o o' p p' R q2 q4 h3 h4 h5 h6
     ·rcases hsn a v q with q|q
      ·exact i4.snap a v q
      ·rw[World.dI (oth a.block fun e=>apt.snap a v q ((cs.wr _).2 (.inr e)))]
       exact ie.snap a v q
     ·rcases hov l' o h1 with⟨⟨o',q1⟩,q2⟩|⟨q1,q2⟩
      ·rcases hsn a v q with q|q
       ·intro e
        exact apt.snown a v (by rw[cs.sn a];exact q) ⟨l',o,p,q2,hoe l' p o' q1 h2,e ▸ h3⟩
       ·exact ie.apart l' o p R a v q2 (hoe l' p o' q1 h2) h3 q
      ·rcases hsn a v q with q|q
       ·rw[hobj] at h2;exact i4.apart l' o p R a v q2 h2 h3 q
       ·intro e
        exact apt.snap a v q ((cs.wr _).2 (.inl ⟨l',o,p,q2,by rw[←hobj];exact h2,e ▸ h3⟩))
     ·obtain⟨n,hn⟩:=i4.fresh.1.1
      exact⟨⟨⟨n,fun k hk=>by rw[hobj];exact hn k hk⟩,fun k p hk=>i4.fresh.1.2 k p (by rw[←hobj];exact hk)⟩,fun g i v q=>hle.snap _ _ (i4.fresh.2.1 g i v q),i4.fresh.2.2.mono hle.snap⟩
    have step4:Step Φ σ w Φm (σi.gF σe σc) w4 :=
     ⟨cs.step.le.trans hle,by rw[←hw4];exact stS.os.trans eos,by rw[←hw4];exact stS.tape.trans eta,by rw[←hw4];exact stS.output.trans eou,by
      have e:drw w4=drw w3:=by rw[←hw4];rfl
      have:=stS.drawn;omega,by omega,blk,fun a v q=>by
       rcases hsn a v q with q|q
       ·exact cs.step.snapn a v q
       ·rcases stS.snapn a v q with q|q|q
        ·exact .inl q
        ·exact .inr (.inl (by omega))
        ·exact .inr (.inr (ownσ hle' _ q)),fun l' o hl=>by
       rcases hov l' o hl with⟨⟨o',q1⟩,q2⟩|⟨q1,q2⟩
       ·exact .inl ⟨o',hle' l' o' q1⟩
       ·rcases cs.step.locs l' o q2 with q|q
        ·rw[hA] at q
         obtain⟨o',q⟩:=q
         exact .inl ⟨o',(bN q).2⟩
        ·exact .inr q,fun R hR=>by
       obtain⟨l',o,p,h1,h2,h3⟩:=hR
       rcases hov l' o h1 with⟨⟨o',q1⟩,q2⟩|⟨q1,q2⟩
       ·rcases stS.ownd R ⟨l',o,p,q2,hoe l' p o' q1 h2,h3⟩ with q|q
        ·exact .inl (ownσ hle' _ q)
        ·exact .inr (by omega)
       ·exact cs.step.ownd R ⟨l',o,p,q2,by rw[←hobj];exact h2,h3⟩⟩
    refine⟨w4,Φm,hend,cs.frame.mono hle,im,step4,.inl ⟨w.heap.size,rfl,by rw[hle.base,cs.step.le.base];exact hb,hmark,fun y hy e=>?_,hd0 ▸ hd.step hi step4⟩⟩
    -- the mark is a new one
    have:∀(ds:List Deferred) (d:List (FuncId × List MV)),cR Φ w ds d→∀y,y∈ds→y.target≠.collected w.heap.size:=by
     intro ds
     induction ds with
     | nil=>intro d _ y hy;cases hy
     | cons z ds ih =>
      intro d h y hy
      rcases h with⟨D,k1,k2,k3,k4,k5⟩|⟨g,ms,r,cp,k1,k2,k3,k4⟩
      ·rcases List.mem_cons.1 hy with rfl|hy
       ·rw[k1];intro e;cases e
        have:=(Array.getElem?_eq_some_iff.1 k3).1
        omega
       ·exact ih d k5 y hy
      ·rcases List.mem_cons.1 hy with rfl|hy
       ·rw[k2];intro e;cases e
       ·exact ih r k4 y hy
    exact this a.defers f.d hd y hy e
   have hout:∀(st:Loop) (σc:St) (Φc:Phi),oR A Φ σ w.heap.size a.tmps f1 (w.heap.size+1) st σc S' Φc→∀l o,σc l=some o→σi l=none:=fun st σc Φc cs l' o hl=>by
    rcases cs.step.locs l' o hl with q|q
    ·rw[hA] at q
     obtain⟨o',q⟩:=q
     exact(bN q).1
    ·cases e:σi l' with
     | none=>rfl
     | some o2 =>
      obtain⟨p',h1,_⟩:=(hi.own l' o2 (hle' l' o2 e)).place
      rw[q] at h1;cases h1
   rcases hy with⟨b,Φc,pb,cs⟩|⟨c,σc,Φc,hc,cs⟩
   ·obtain⟨w4,Φm,hend,fr4,i4,s4,d4⟩:=fin _ _ _ cs (by rw[hrec];simp)
    obtain⟨f5,σ5,Φ5,e5,k5,i5,fr5,st5⟩:=done b pb σe hke (hout _ _ _ cs) Φm w4 a.tmps i4 fr4
    exact⟨none,w4,by rw[hend,hrec],f5,_,Φ5,e5 ▸ d4.step i4 st5,fr5,i5,s4.trans st5,k5⟩
   ·obtain⟨w4,Φm,hend,fr4,i4,s4,d4⟩:=fin _ _ _ cs (by rw[hrec];simp)
    refine⟨some c,w4,by rw[hend,hrec],?_⟩
    rcases hc with⟨rfl,q⟩|⟨id,rfl,q⟩
    ·obtain⟨f5,σ5,Φ5,e5,k5,i5,fr5,st5⟩:=q σe hke (hout _ _ _ cs) Φm w4 a.tmps i4 fr4
     exact wpIn_ret ⟨f5,_,Φ5,e5 ▸ d4.step i4 st5,fr5,i5,s4.trans st5,k5⟩
    ·obtain⟨f5,σ5,Φ5,e5,k5,i5,fr5,st5⟩:=q σe hke (hout _ _ _ cs) Φm w4 a.tmps i4 fr4
     exact wpIn_exit ⟨f5,_,Φ5,e5 ▸ d4.step i4 st5,fr5,i5,s4.trans st5,k5⟩
end

section
theorem Lp{P:Program}{ops:Array Oper}{F:Fence}(o:Oper)(r:List Oper):∀(l:List Oper),(F=Fence.wide∨∃l0,F=Fence.wide.inRound l0∧∀x,x∈l++o::r→∀c,x.op≠.defer c)→o.guard=none→∀{Q:MQ} {Φ0:Phi} {σ0:St} {w0:World} (f:FR) (σ:St) (Φ:Phi) (w:World) (a:Act),
  dT P ops (fun f σ=>sop P o f σ fun v σ'=>dT P ops (Q .normal) r (bB f o.dst v) σ') l f σ→Inv Φ w σ→cF Φ a.tmps f→cR Φ w a.defers f.d →
  Step Φ0 σ0 w0 Φ σ w→wpListIn F 0 P ops (lift Φ0 σ0 w0 Q) (l++o::r) a w:=by
 intro l
 induction l with
 | nil =>
  intro hF hg Q Φ0 σ0 w0 f σ Φ w a h hi hr hd hs
  have hFo:F=Fence.wide∨∃l0,F=Fence.wide.inRound l0∧∀c,o.op≠.defer c:=hF.imp id fun⟨l0,e,q⟩=>⟨l0,e,q o (by simp)⟩
  have hFr:F=Fence.wide∨∃l0,F=Fence.wide.inRound l0∧∀y,y∈r→∀c,y.op≠.defer c:=hF.imp id fun⟨l0,e,q⟩=>⟨l0,e,fun y ho=>q y (by simp[ho])⟩
  have h:sop P o f σ fun v σ'=>dT P ops (Q .normal) r (bB f o.dst v) σ':=h
  simp only[List.nil_append]
  have h':eO ops f o (sop P o f σ fun v σ'=>dT P ops (Q .normal) r (bB f o.dst v) σ') False:=by unfold eO;rw[hg];exact h
  unfold wpListIn
  rcases cD h' hr with⟨hw,hy⟩|⟨hw,hn⟩
  ·rw[if_pos hw]
   refine fO hFo ?_
   exact h Φ w a _ _ hi hr (fun v mv σ' Φ' w' r1 i1 s1 hk=>tE r hFr _ _ Φ' w' (a.put o.dst v) hk i1 (cG (hr.mono s1.le) o.dst r1) (by rw[bM,dQ];exact hd.step hi s1) (hs.trans s1))
  ·exact hn.elim
 | cons x rest ih =>
  intro hF hg Q Φ0 σ0 w0 f σ Φ w a h hi hr hd hs
  have hFr:F=Fence.wide∨∃l0,F=Fence.wide.inRound l0∧∀y,y∈rest++o::r→∀c,y.op≠.defer c:=hF.imp id fun⟨l0,e,q⟩=>⟨l0,e,fun y ho=>q y (List.mem_cons_of_mem _ ho)⟩
  have hFo:F=Fence.wide∨∃l0,F=Fence.wide.inRound l0∧∀c,x.op≠.defer c:=hF.imp id fun⟨l0,e,q⟩=>⟨l0,e,q x (List.mem_cons_self ..)⟩
  have hfn:∀g,F.fn g:=fun g=>by rcases hF with rfl|⟨l,rfl,_⟩<;>trivial
  simp only[dT] at h
  simp only[List.cons_append]
  unfold wpListIn
  rcases cD h hr with⟨hw,hy⟩|⟨hw,hn⟩
  ·rw[if_pos hw]
   refine fO hFo ?_
   by_cases hdef:∃c,x.op=.defer c
   ·obtain⟨c,hc⟩:=hdef
    rw[hc] at hy
    have hy:s6 f c fun f'=>dT P ops (fun f σ=>sop P o f σ fun v σ'=>dT P ops (Q .normal) r (bB f o.dst v) σ') rest (bB f' x.dst .junk) σ:=hy
    obtain⟨d,f',h1,h2,h3,h4⟩:=o6 (P:=P) (w:=w) hc hy hr hd
    unfold Oper.wp
    rw[h1]
    refine ih hFr hg _ _ Φ w _ h4 hi (cG (a:={ a with defers:=d::a.defers }) h2 x.dst (.junk _)) ?_ hs
    rw[bM,dQ]
    exact h3
   ·exact jZ (fun c hc=>hdef ⟨c,hc⟩) hy Φ w a _ _ hi hr (fun v mv σ' Φ' w' r1 i1 s1 hk=>ih hFr hg _ _ Φ' w' (a.put x.dst v) hk i1 (cG (hr.mono s1.le) x.dst r1) (by rw[bM,dQ];exact hd.step hi s1) (hs.trans s1))
  ·rw[if_neg (by simp[hw])]
   exact⟨fun f _=>hfn f,ih hFr hg _ _ Φ w (a.put x.dst undef) hn hi (cG hr x.dst eR) (by rw[bM,dQ];exact hd) hs⟩
theorem vL{P:Program}{id:Nat}{ops:Array Oper}{f:FR}{σ:St}{Q:MQ}(l:List Oper)(o:Oper)(r:List Oper)(he:ops.toList=l++o::r)(hg:o.guard=none)
 (h:dT P ops (fun f σ=>sop P o f σ fun v σ'=>dT P ops (Q .normal) r (bB f o.dst v) σ') l f σ):mwp P (.region id ops false) f σ Q :=
 fun F hF Φ w a hi hr hd=>wpIn_region_list (by
  rw[he]
  refine Lp o r l ?_ hg f σ Φ w a h hi hr hd (.refl _ _ _)
  have:=hF.ops
  rw[he] at this
  exact this)
theorem tG{P:Program}{id:Nat}{L:List Oper}{f:FR}{σ:St}{Q:MQ}(l:List Oper)(o:Oper)(r:List Oper)(he:L=l++o::r)(hg:o.guard=none)
 (h:R (dT P (@OfNat.ofNat (Array Oper) (nat_lit 0) (@_root_.id (OfNat (Array Oper) (nat_lit 0)) (OfNat.mk (L.toArray)))) (fun f σ=>sop P o f σ fun v σ'=>R (dT P (@OfNat.ofNat (Array Oper) (nat_lit 0) (@_root_.id (OfNat (Array Oper) (nat_lit 0)) (OfNat.mk (L.toArray)))) (Q .normal) r (bB f o.dst v) σ')) l f σ)):mwp P (.region id L.toArray false) f σ Q :=
 vL (ops:=L.toArray) l o r he hg h
theorem Eh{P:Program}{o:Oper}{f:FR}{σ:St}{k:MV→St→Prop}{t kt et:TypeId}{x:Operand}(ho:o.op=.call { callee:=.builtin .len,args:=#[x],argTypes:=#[t] })(ht:(td P t).k=.map kt et)
 {l:Nat}{es:List (MV × MV)}(hm:aE f x=.mapv l)(hl:σ l=some (.mp es))(hk:k (.int .i64 (es.length:Int)) σ):sop P o f σ k:=by
 intro Φ w a K Q' hi hr hK
 have hum:=pO ht
 have rm:=aL hr x
 rw[hm] at rm
 obtain⟨p,R,hp,hR,hmv⟩:=rm.lZ
 obtain⟨p',R',c,clock,hp',hR',hh,hs,hst,hrel⟩:=(hi.own l _ hl).E0
 rw[hp] at hp';cases hp'
 rw[hR] at hR';cases hR'
 have hop:∀r w',(Builtin.len_ #[t] o.type #[a.eval x]).run P w=.ok r w'→(execOp a.eval o).run P w=.ok (.value r) w':=fun r w' h=>by
  unfold execOp
  simp only[ho,resolve,List.map_toArray,List.map_cons,List.map_nil,Sem.run_bind,Sem.run_pure,Result.andThen_ok,invoke]
  show Sem.run P (do pure (Next.value (←Builtin.len_ #[t] o.type #[a.eval x]))) w=_
  simp only[Sem.run_bind,h,Result.andThen_ok,Sem.run_pure]
 refine bK (hop (.int .i64 (es.length:Int)) w ?_) (hK _ _ _ Φ w (.int _ _) hi (.refl _ _ _) hk)
 rw[hmv]
 simp[Builtin.len_,aM hum,Go.MapKept.run_getObj_map hh,goInt,hs]
end
end Go.Proofs.YtaojijkdamfbnaaGreatDoor
