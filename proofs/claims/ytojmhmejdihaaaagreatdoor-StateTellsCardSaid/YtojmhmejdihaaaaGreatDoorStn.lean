/- Parts of the proof, joined; conditions: those that its theorems name. -/
import Derived.Test.YtojmhmejdihaaaaGreatDoorSth
import Derived.Test.YtojmhmejdihaaaaGreatDoorSti
import Derived.Shelf.SlIterI.Nil
import Derived.Shelf.SortM.Plain
import Derived.Shelf.SortM.SortNone
import Derived.Test.YtojmhmejdihaaaaGreatDoorRows
set_option linter.unusedVariables false
set_option linter.unusedSimpArgs false
set_option maxHeartbeats 4000000
namespace Go.Proofs.YtojmhmejdihaaaaGreatDoor
section
def nd(op:Int):ND:=⟨op,0,va0⟩
def T.root:T→ND
 | .leaf x=>x
 | .one x _=>x
 | .two x _ _=>x
def T.kids:T→List T
 | .leaf _=>[]
 | .one _ a=>[a]
 | .two _ a b=>[a,b]
theorem T.Gj(t:T):t.fl=t.root::(t.kids.map T.fl).flatten:=by cases t<;>simp[T.fl,T.kids,T.root]
theorem T.GG{t:T}(h:t.ok):t.kids.length=parts t.root.op∧∀k,k∈t.kids→k.ok:=by
 cases t with
 | leaf x=>simp only[T.ok] at h;simp[T.kids,T.root,h]
 | one x a=>simp only[T.ok] at h;simp[T.kids,T.root,h.1,h.2]
 | two x a b=>simp only[T.ok] at h;simp[T.kids,T.root,h.1,h.2.1,h.2.2]
theorem Ap:∀(t u:T) (r s:List ND),t.ok→u.ok→t.fl++r=u.fl++s→t=u∧r=s
 | .leaf x,.leaf y,r,s,ht,hu,h=>by simp only[T.fl,List.cons_append,List.nil_append,List.cons.injEq] at h;exact⟨by rw[h.1],h.2⟩
 | .leaf x,.one y b,r,s,ht,hu,h=>by simp only[T.fl,List.cons_append,List.cons.injEq] at h;simp only[T.ok] at ht hu;rw[h.1] at ht;omega
 | .leaf x,.two y b c,r,s,ht,hu,h=>by simp only[T.fl,List.cons_append,List.cons.injEq] at h;simp only[T.ok] at ht hu;rw[h.1] at ht;omega
 | .one x a,.leaf y,r,s,ht,hu,h=>by simp only[T.fl,List.cons_append,List.cons.injEq] at h;simp only[T.ok] at ht hu;rw[h.1] at ht;omega
 | .one x a,.one y b,r,s,ht,hu,h=>by
  simp only[T.fl,List.cons_append,List.cons.injEq] at h
  obtain⟨e1,e2⟩:=Ap a b r s ht.2 hu.2 h.2
  exact⟨by rw[h.1,e1],e2⟩
 | .one x a,.two y b c,r,s,ht,hu,h=>by simp only[T.fl,List.cons_append,List.cons.injEq] at h;simp only[T.ok] at ht hu;rw[h.1] at ht;omega
 | .two x a a',.leaf y,r,s,ht,hu,h=>by simp only[T.fl,List.cons_append,List.cons.injEq] at h;simp only[T.ok] at ht hu;rw[h.1] at ht;omega
 | .two x a a',.one y b,r,s,ht,hu,h=>by simp only[T.fl,List.cons_append,List.cons.injEq] at h;simp only[T.ok] at ht hu;rw[h.1] at ht;omega
 | .two x a a',.two y b b',r,s,ht,hu,h=>by
  simp only[T.fl,List.cons_append,List.cons.injEq,List.append_assoc] at h
  obtain⟨e1,e2⟩:=Ap a b _ _ ht.2.1 hu.2.1 h.2
  obtain⟨e3,e4⟩:=Ap a' b' r s ht.2.2 hu.2.2 e2
  exact⟨by rw[h.1,e1,e3],e4⟩
theorem PS{t u:T}(ht:t.ok)(hu:u.ok)(h:t.fl=u.fl):t=u:=(Ap t u [] [] ht hu (by rw[h])).1
theorem tM:∀{a b:List ND},mH a b=.eq↔a=b
 | [],[]=>by simp[mH]
 | [],_::_=>by simp[mH]
 | _::_,[]=>by simp[mH]
 | a::x,b::y=>by
  rw[yV]
  constructor
  ·intro h
   split at h
   ·rename_i h1;rw[ND.key_inj (cmpL_eq.1 h1),tM.1 h]
   ·contradiction
  ·intro h
   simp only[List.cons.injEq] at h
   rw[h.1,h.2,if_pos (nT _)]
   exact tM.2 rfl
end

section
set_option maxRecDepth 100000
theorem qR(c:CA):aA Tryz.prog 244 [.agg c.c] St.none (fun r _=>r=.bool (cX c)):=by
 refine aA.bF (aA.body 37 [.tmp 2] Tryz.func244 rfl rfl rfl rfl ?_)
 have hlt:=c.lab.toNat_lt
 by_cases h:1≤c.id∧c.id<eD∧1≤c.ver∧c.ver≤big∧c.lab.toNat<65536
 ·have e:cX c=c.f.l.all gZ:=by unfold cX;rw[decide_eq_true h,Bool.true_and]
  rw[e]
  obtain⟨h1,h2,h3,h4,h5⟩:=h
  unfold eD at h2
  unfold big at h4
  repeat' (first|(with_reducible first|(refine wT ?_;(first|((fail_if_success (have:=nl1));refine wN fun nl1 hnl=>?_)|refine wN fun _ hnl=>?_);revert hnl;(repeat refine wS fun _ _=>?_);intro hnl)|refine wE ?_|(refine wK ?_ ?_<;>intro h)|(refine wB ?_ ?_<;>intro h<;>simp only[h]))|simp(maxSteps:=4000000) (disch:=first|decide|assumption|omega|(simp only[wL];omega)) only[go_sem,simprocAttr,Tryz.f244,cL,eL])
  refine aD (α:=Nat) (fun i=>⟨37,[(3,.int .i64 (i:Int)),(1,.ptr nl1 0 0)],[]⟩) (fun _=>St.none.set nl1 (.row 52 27 [c.c])) (fun i=>i≤8∧∀j,j<i→gZ (c.f.get j)=true) (fun i=>8 - i) (.of (.less ?_ (St.le_refl _)) ⟨0,rfl,rfl,Nat.zero_le _,fun j h=>absurd h (Nat.not_lt_zero _)⟩) ?_
  ·simp(maxSteps:=4000000) (disch:=first|decide|assumption|omega|(simp only[wL];omega)) only[go_sem,simprocAttr,aC,aB]
   all_goals rfl
  ·rintro i ⟨hi,hq⟩
   by_cases h8:i<8
   ·have hc:=qX (c.f.get i).kd (c.f.get i).n (c.f.get i).s
    cases hok:gZ (c.f.get i)
    ·rw[hok] at hc
     repeat' (first|(with_reducible first|refine up hc ?_)|(with_reducible first|(refine wT ?_;(first|((fail_if_success (have:=nl1));refine wN fun nl1 hnl=>?_)|refine wN fun _ hnl=>?_);revert hnl;(repeat refine wS fun _ _=>?_);intro hnl)|refine wE ?_|(refine wK ?_ ?_<;>intro h)|(refine wB ?_ ?_<;>intro h<;>simp only[h]))|simp(maxSteps:=4000000) (disch:=first|decide|assumption|omega|(simp only[wL];omega)) only[go_sem,simprocAttr,cL,eL,lN,p8])
     have e:c.f.l.all gZ=false:=by
      cases hb:c.f.l.all gZ
      ·rfl
      ·have:=(F8.F3 c.f gZ).1 hb i h8
       rw[hok] at this;cases this
     rw[e]
     first|exact⟨_,St.le_refl _,rfl⟩|exact⟨_,St.le_refl _⟩
    ·rw[hok] at hc
     repeat' (first|(with_reducible first|refine up hc ?_)|(with_reducible first|(refine wT ?_;(first|((fail_if_success (have:=nl1));refine wN fun nl1 hnl=>?_)|refine wN fun _ hnl=>?_);revert hnl;(repeat refine wS fun _ _=>?_);intro hnl)|refine wE ?_|(refine wK ?_ ?_<;>intro h)|(refine wB ?_ ?_<;>intro h<;>simp only[h]))|simp(maxSteps:=4000000) (disch:=first|decide|assumption|omega|(simp only[wL];omega)) only[go_sem,simprocAttr,cL,eL,lN,p8])
     refine .of (.less ?_ (St.le_refl _)) ⟨i+1,rfl,rfl,⟨by omega,fun j hj=>?_⟩,by omega⟩
     ·simp(maxSteps:=4000000) (disch:=first|decide|assumption|omega|(simp only[wL];omega)) only[go_sem,simprocAttr,aC,aB]
      all_goals rfl
     ·by_cases hji:j=i
      ·rw[hji];exact hok
      ·exact hq j (by omega)
   ·have:i=8:=by omega
    subst this
    rw[(F8.F3 c.f gZ).2 hq]
    repeat' (first|(with_reducible first|(refine wT ?_;(first|((fail_if_success (have:=nl1));refine wN fun nl1 hnl=>?_)|refine wN fun _ hnl=>?_);revert hnl;(repeat refine wS fun _ _=>?_);intro hnl)|refine wE ?_|(refine wK ?_ ?_<;>intro h)|(refine wB ?_ ?_<;>intro h<;>simp only[h]))|simp(maxSteps:=4000000) (disch:=first|decide|assumption|omega|(simp only[wL];omega)) only[go_sem,simprocAttr])
    first|exact⟨_,St.le_refl _,rfl⟩|exact⟨_,St.le_refl _⟩
 ·have e:cX c=false:=by unfold cX;rw[decide_eq_false h,Bool.false_and]
  rw[e]
  unfold eD big at h
  repeat' (first|(with_reducible first|(refine wT ?_;(first|((fail_if_success (have:=nl1));refine wN fun nl1 hnl=>?_)|refine wN fun _ hnl=>?_);revert hnl;(repeat refine wS fun _ _=>?_);intro hnl)|refine wE ?_|(refine wK ?_ ?_<;>intro h)|(refine wB ?_ ?_<;>intro h<;>simp only[h]))|simp(maxSteps:=4000000) (disch:=first|decide|assumption|omega|(simp only[wL];omega)) only[go_sem,simprocAttr,Tryz.f244,cL,eL])
  all_goals first|exact⟨_,St.le_refl _,rfl⟩|exact⟨_,St.le_refl _⟩|(exfalso;omega)
end

section
set_option maxRecDepth 100000
theorem wrap32{n:Nat}(h:n<4294967296):IntKind.u32.wrap (n:Int)=(n:Int):=by
 simp only[IntKind.wrap,IntKind.signed,IntKind.bits]
 simp
 omega
theorem Jc(n:Nat)(h:n<32):aA Tryz.prog 279 [.int .i64 (n:Int)] St.none (fun r _=>r=.int .u32 ((2 ^ n:Nat):Int)):=by
 refine(aA.body 19 [.tmp 2] Tryz.func279 rfl rfl rfl rfl ?_)
 repeat' (first|(with_reducible first|(refine wN fun _ hnl=>?_;revert hnl;(repeat refine wS fun _ _=>?_);intro hnl)|refine wE ?_|(refine wK ?_ ?_<;>intro h)|(refine wB ?_ ?_<;>intro h<;>simp only[h]))|simp(maxSteps:=4000000) (disch:=first|exact ddL|fail) only[go_sem,simprocAttr,Tryz.f279])
 refine aD (α:=Nat) (fun i=>⟨19,[(4,.int .i64 (i:Int)),(3,.int .u32 ((2 ^ i:Nat):Int)),(0,.int .i64 (n:Int))],[]⟩) (fun _=>St.none) (fun i=>i≤n) (fun i=>n - i) (.of (.less ?_ (St.le_refl _)) ⟨0,rfl,rfl,Nat.zero_le _⟩) ?_
 ·simp(maxSteps:=4000000) (disch:=first|exact ddL|fail) only[go_sem,simprocAttr,aC,aB]
  all_goals rfl
 ·intro i hi
  have hi:i≤n:=hi
  by_cases hlt:i<n
  ·have h2:2 ^ (i+1)<4294967296:=Nat.pow_lt_pow_right (a:=2) (n:=32) (by decide) (by omega)
   have e:IntKind.u32.wrap (((2 ^ i:Nat):Int) * 2)=((2 ^ (i+1):Nat):Int):=by
    rw[show((2 ^ i:Nat):Int) * 2=((2 ^ (i+1):Nat):Int) by rw[Nat.pow_succ];simp]
    exact wrap32 h2
   obtain⟨p,hp⟩:∃p,2 ^ i=p:=⟨_,rfl⟩
   rw[hp] at e ⊢
   repeat' (first|(with_reducible first|(refine wN fun _ hnl=>?_;revert hnl;(repeat refine wS fun _ _=>?_);intro hnl)|refine wE ?_|(refine wK ?_ ?_<;>intro h)|(refine wB ?_ ?_<;>intro h<;>simp only[h]))|simp(maxSteps:=4000000) (disch:=first|exact ddL|fail) only[go_sem,simprocAttr,e])
   refine .of (.less (l1:=[(4,.int .i64 ((i+1:Nat):Int)),(3,.int .u32 ((2 ^ (i+1):Nat):Int)),(0,.int .i64 (n:Int))]) ?_ (St.le_refl _)) ⟨i+1,rfl,rfl,by omega,by omega⟩
   obtain⟨q,hq⟩:∃q,2 ^ (i+1)=q:=⟨_,rfl⟩
   rw[hq] at e ⊢
   simp(maxSteps:=4000000) (disch:=first|exact ddL|fail) only[go_sem,simprocAttr,aC,aB,e]
   all_goals rfl
  ·have:i=n:=by omega
   subst this
   obtain⟨p,hp⟩:∃p,2 ^ i=p:=⟨_,rfl⟩
   rw[hp]
   repeat' (first|(with_reducible first|(refine wN fun _ hnl=>?_;revert hnl;(repeat refine wS fun _ _=>?_);intro hnl)|refine wE ?_|(refine wK ?_ ?_<;>intro h)|(refine wB ?_ ?_<;>intro h<;>simp only[h]))|simp(maxSteps:=4000000) (disch:=first|exact ddL|fail) only[go_sem,simprocAttr])
theorem FE(s n:Nat)(h:n<32)(hs:s<2 ^ n):aA Tryz.prog 196 [.int .u32 (s:Int),.int .i64 (n:Int)] St.none (fun r _=>r=.int .u32 ((s ||| 2 ^ n:Nat):Int)):=by
 refine(aA.body 13 [.tmp 4] Tryz.func196 rfl rfl rfl rfl ?_)
 have h2:2 ^ n≤2147483648:=Nat.pow_le_pow_right (n:=2) (i:=n) (j:=31) (by decide) (by omega)
 have h1:=oB s (n:Int) (by omega)
 rw[BY h,show bit s n=false from Nat.testBit_lt_two_pow hs] at h1
 have h3:=Jc n h
 have e:s ||| 2 ^ n=s+2 ^ n:=by
  have:=Nat.two_pow_add_eq_or_of_lt hs 1
  rw[Nat.mul_one] at this
  rw[Nat.or_comm,←this,Nat.add_comm]
 rw[e]
 have ew:IntKind.u32.wrap ((s:Int)+((2 ^ n:Nat):Int))=((s+2 ^ n:Nat):Int):=by
  rw[show(s:Int)+((2 ^ n:Nat):Int)=((s+2 ^ n:Nat):Int) by simp]
  exact wrap32 (by omega)
 obtain⟨p,hp⟩:∃p,2 ^ n=p:=⟨_,rfl⟩
 rw[hp] at h3 ew ⊢
 repeat' (first|(with_reducible first|refine up h1 ?_|refine up h3 ?_)|(with_reducible first|(refine wN fun _ hnl=>?_;revert hnl;(repeat refine wS fun _ _=>?_);intro hnl)|refine wE ?_|(refine wK ?_ ?_<;>intro h)|(refine wB ?_ ?_<;>intro h<;>simp only[h]))|simp(maxSteps:=4000000) (disch:=first|exact ddL|fail) only[go_sem,simprocAttr,Tryz.f196,ew])
 all_goals first|rfl|(refine aJ mixed (by decide +kernel) (kn [(279,[.int .i64 (n:Int)],⟨[],fun v=>v=.int .u32 (p:Int),none⟩)]) ?_;repeat' (first|(with_reducible refine aF jW h3 ?_)|(with_reducible first|(refine wN fun _ hnl=>?_;revert hnl;(repeat refine wS fun _ _=>?_);intro hnl)|refine wE ?_|(refine wK ?_ ?_<;>intro h)|(refine wB ?_ ?_<;>intro h<;>simp only[h]))|simp(maxSteps:=4000000) (disch:=first|exact ddL|fail) only[go_sem,simprocAttr,ew]);rfl)
end

section
open Go.Shelf
def oL:Go.Shelf.Ren:=⟨fun|7=>283|10=>332|n=>n,fun|23=>271|26=>3|3=>52|28=>237|0=>0|27=>236|33=>303|4=>4|n=>n,fun|n=>n⟩
theorem HH:Go.Proofs.SlLaysZI.n7 Tryz.prog oL:={
  mixed:=by kernel_rfl
  f7:=⟨Tryz.f283.name,by decide,Tryz.func283.trans (congrArg some (by kernel_rfl))⟩
  f10:=⟨Tryz.f332.name,by decide,Tryz.func332.trans (congrArg some (by kernel_rfl))⟩
  t0:=Tryz.underlying0
  a0:=Tryz.isAgg0
  z0:=Tryz.sizeOf0
  v0:=Tryz.zeroValue0
  t4:=Tryz.underlying4
  a4:=Tryz.isAgg4
  z4:=Tryz.sizeOf4
  v4:=Tryz.zeroValue4
  t23:=Tryz.underlying271
  a23:=Tryz.isAgg271
  z23:=Tryz.sizeOf271
  v23:=Tryz.zeroValue271
  t26:=Tryz.underlying3
  a26:=Tryz.isAgg3
  z26:=Tryz.sizeOf3
  v26:=Tryz.zeroValue3
  t27:=Tryz.underlying236
  a27:=Tryz.isAgg236
  z27:=Tryz.sizeOf236
  v27:=Tryz.zeroValue236
  t28:=Tryz.underlying237
  a28:=Tryz.isAgg237
  z28:=Tryz.sizeOf237
  v28:=Tryz.zeroValue237
  t33:=Tryz.underlying303
  a33:=Tryz.isAgg303
  z33:=Tryz.sizeOf303
  v33:=Tryz.zeroValue303 }
def oM:Go.Shelf.Ren:=⟨fun|7=>148|10=>240|n=>n,fun|23=>214|26=>3|3=>3|28=>237|0=>0|27=>236|33=>303|4=>4|n=>n,fun|n=>n⟩
theorem HI:Go.Proofs.SlLaysZI.n7 Tryz.prog oM:={
  mixed:=by kernel_rfl
  f7:=⟨Tryz.f148.name,by decide,Tryz.func148.trans (congrArg some (by kernel_rfl))⟩
  f10:=⟨Tryz.f240.name,by decide,Tryz.func240.trans (congrArg some (by kernel_rfl))⟩
  t0:=Tryz.underlying0
  a0:=Tryz.isAgg0
  z0:=Tryz.sizeOf0
  v0:=Tryz.zeroValue0
  t4:=Tryz.underlying4
  a4:=Tryz.isAgg4
  z4:=Tryz.sizeOf4
  v4:=Tryz.zeroValue4
  t23:=Tryz.underlying214
  a23:=Tryz.isAgg214
  z23:=Tryz.sizeOf214
  v23:=Tryz.zeroValue214
  t26:=Tryz.underlying3
  a26:=Tryz.isAgg3
  z26:=Tryz.sizeOf3
  v26:=Tryz.zeroValue3
  t27:=Tryz.underlying236
  a27:=Tryz.isAgg236
  z27:=Tryz.sizeOf236
  v27:=Tryz.zeroValue236
  t28:=Tryz.underlying237
  a28:=Tryz.isAgg237
  z28:=Tryz.sizeOf237
  v28:=Tryz.zeroValue237
  t33:=Tryz.underlying303
  a33:=Tryz.isAgg303
  z33:=Tryz.sizeOf303
  v33:=Tryz.zeroValue303 }
def fT:Go.Shelf.Ren:=⟨fun|6=>147|8=>238|9=>239|11=>301|13=>303|12=>302|23=>348|24=>349|14=>340|15=>341|16=>342|17=>343|18=>344|19=>345|20=>281|21=>346|22=>347|25=>362|26=>363|27=>364|28=>365|29=>366|30=>307|31=>378|n=>n,fun|26=>3|28=>237|24=>56|0=>0|3=>3|37=>325|48=>39|50=>378|4=>4|40=>372|39=>371|45=>288|5=>5|9=>9|51=>388|55=>392|57=>402|58=>403|33=>303|n=>n,fun|n=>n⟩
theorem sL:Go.Proofs.SlLaysZI.n6 Tryz.prog fT:={
  mixed:=by kernel_rfl
  f6:=⟨Tryz.f147.name,by decide,Tryz.func147.trans (congrArg some (by kernel_rfl))⟩
  f8:=⟨Tryz.f238.name,by decide,Tryz.func238.trans (congrArg some (by kernel_rfl))⟩
  f11:=⟨Tryz.f301.name,by decide,Tryz.func301.trans (congrArg some (by kernel_rfl))⟩
  t0:=Tryz.underlying0
  a0:=Tryz.isAgg0
  z0:=Tryz.sizeOf0
  v0:=Tryz.zeroValue0
  t24:=Tryz.underlying56
  a24:=Tryz.isAgg56
  z24:=Tryz.sizeOf56
  v24:=Tryz.zeroValue56
  t26:=Tryz.underlying3
  a26:=Tryz.isAgg3
  z26:=Tryz.sizeOf3
  v26:=Tryz.zeroValue3
  t28:=Tryz.underlying237
  a28:=Tryz.isAgg237
  z28:=Tryz.sizeOf237
  v28:=Tryz.zeroValue237
  i26:=by kernel_rfl }
def xT:Go.Shelf.Ren:=⟨fun|5=>239|8=>303|7=>302|19=>348|20=>349|10=>340|11=>341|12=>342|13=>343|14=>344|15=>345|16=>281|17=>346|18=>347|30=>362|31=>363|32=>364|33=>365|34=>366|35=>307|40=>378|n=>n,fun|23=>56|25=>3|3=>3|32=>325|22=>56|0=>0|44=>39|46=>378|4=>4|36=>372|35=>371|41=>288|5=>5|9=>9|53=>388|57=>392|63=>402|64=>403|n=>n,fun|n=>n⟩
theorem zD:Go.Proofs.SlLaysM.n5 Tryz.prog xT:={
  mixed:=by kernel_rfl
  f5:=⟨Tryz.f239.name,by decide,Tryz.func239.trans (congrArg some (by kernel_rfl))⟩
  f7:=⟨Tryz.f302.name,by decide,Tryz.func302.trans (congrArg some (by kernel_rfl))⟩
  f8:=Tryz.func303.trans (congrArg some (by kernel_rfl))
  f10:=⟨Tryz.f340.name,by decide,Tryz.func340.trans (congrArg some (by kernel_rfl))⟩
  f11:=⟨Tryz.f341.name,by decide,Tryz.func341.trans (congrArg some (by kernel_rfl))⟩
  f12:=⟨Tryz.f342.name,by decide,Tryz.func342.trans (congrArg some (by kernel_rfl))⟩
  f13:=⟨Tryz.f343.name,by decide,Tryz.func343.trans (congrArg some (by kernel_rfl))⟩
  f14:=⟨Tryz.f344.name,by decide,Tryz.func344.trans (congrArg some (by kernel_rfl))⟩
  f15:=⟨Tryz.f345.name,by decide,Tryz.func345.trans (congrArg some (by kernel_rfl))⟩
  f16:=⟨Tryz.f281.name,by decide,Tryz.func281.trans (congrArg some (by kernel_rfl))⟩
  f17:=⟨Tryz.f346.name,by decide,Tryz.func346.trans (congrArg some (by kernel_rfl))⟩
  f18:=⟨Tryz.f347.name,by decide,Tryz.func347.trans (congrArg some (by kernel_rfl))⟩
  f19:=Tryz.func348.trans (congrArg some (by kernel_rfl))
  f20:=Tryz.func349.trans (congrArg some (by kernel_rfl))
  f30:=⟨Tryz.f362.name,by decide,Tryz.func362.trans (congrArg some (by kernel_rfl))⟩
  f31:=Tryz.func363.trans (congrArg some (by kernel_rfl))
  f32:=Tryz.func364.trans (congrArg some (by kernel_rfl))
  f33:=⟨Tryz.f365.name,by decide,Tryz.func365.trans (congrArg some (by kernel_rfl))⟩
  f34:=⟨Tryz.f366.name,by decide,Tryz.func366.trans (congrArg some (by kernel_rfl))⟩
  f35:=⟨Tryz.f307.name,by decide,Tryz.func307.trans (congrArg some (by kernel_rfl))⟩
  f40:=⟨Tryz.f378.name,by decide,Tryz.func378.trans (congrArg some (by kernel_rfl))⟩
  t0:=Tryz.underlying0
  a0:=Tryz.isAgg0
  z0:=Tryz.sizeOf0
  v0:=Tryz.zeroValue0
  t3:=Tryz.underlying3
  a3:=Tryz.isAgg3
  z3:=Tryz.sizeOf3
  v3:=Tryz.zeroValue3
  t4:=Tryz.underlying4
  a4:=Tryz.isAgg4
  z4:=Tryz.sizeOf4
  v4:=Tryz.zeroValue4
  t5:=Tryz.underlying5
  a5:=Tryz.isAgg5
  z5:=Tryz.sizeOf5
  v5:=Tryz.zeroValue5
  t9:=Tryz.underlying9
  a9:=Tryz.isAgg9
  z9:=Tryz.sizeOf9
  v9:=Tryz.zeroValue9
  t22:=Tryz.underlying56
  a22:=Tryz.isAgg56
  z22:=Tryz.sizeOf56
  v22:=Tryz.zeroValue56
  t23:=Tryz.underlying56
  a23:=Tryz.isAgg56
  z23:=Tryz.sizeOf56
  v23:=Tryz.zeroValue56
  t25:=Tryz.underlying3
  a25:=Tryz.isAgg3
  z25:=Tryz.sizeOf3
  v25:=Tryz.zeroValue3
  t32:=Tryz.underlying325
  a32:=Tryz.isAgg325
  z32:=Tryz.sizeOf325
  v32:=Tryz.zeroValue325
  t35:=Tryz.underlying371
  a35:=Tryz.isAgg371
  z35:=Tryz.sizeOf371
  v35:=Tryz.zeroValue371
  t36:=Tryz.underlying372
  a36:=Tryz.isAgg372
  z36:=Tryz.sizeOf372
  v36:=Tryz.zeroValue372
  t41:=Tryz.underlying288
  a41:=Tryz.isAgg288
  z41:=Tryz.sizeOf288
  v41:=Tryz.zeroValue288
  t44:=Tryz.underlying39
  a44:=Tryz.isAgg39
  z44:=Tryz.sizeOf39
  v44:=Tryz.zeroValue39
  t46:=Tryz.underlying378
  a46:=Tryz.isAgg378
  z46:=Tryz.sizeOf378
  v46:=Tryz.zeroValue378
  t53:=Tryz.underlying388
  a53:=Tryz.isAgg388
  z53:=Tryz.sizeOf388
  v53:=Tryz.zeroValue388
  t57:=Tryz.underlying392
  a57:=Tryz.isAgg392
  z57:=Tryz.sizeOf392
  v57:=Tryz.zeroValue392
  t63:=Tryz.underlying402
  a63:=Tryz.isAgg402
  z63:=Tryz.sizeOf402
  v63:=Tryz.zeroValue402
  t64:=Tryz.underlying403
  a64:=Tryz.isAgg403
  z64:=Tryz.sizeOf403
  v64:=Tryz.zeroValue403 }
end

section
open Go.MapKept Go.RowKit Go.Maps Go.Sort Go.Shelf
open Go.WideElems (Fit rd rg)
def MZ:MV→Int
 | .int _ n=>n
 | _=>0
def dG(es:List (MV × MV)):List Int:=es.map fun p=>MZ p.1
def mZ{H:Type}(_:Value):Option (DataW H × List MemPlace):=some (.lit (.bool true),[])
theorem NK{H:Type}{P:Program}{Φ:Phi}{w:World}{l:Nat}{es:List (MV × MV)}{k:TypeId}(h:dX Φ w l (.mp es))(hk:P.underlying k=some (.int .i64))
 (he:(es.all fun p=>isK .i64 p.1)=true)(hwf:∀n∈dG es,(Lit.int .i64 n).wf=true)(hl:es.length≤maxLen) :
  ∃(p:Place) (b:Nat) (D0:DataW H),Φ.obj l=some p∧p.blk=some b∧w.ownsMap P k mZ b es.length D0∧(intKeys D0).Perm (dG es)∧Maps.size D0=es.length:=by
 obtain⟨p,R,c,clock,hp,hR,hh,hs,hst,hrel⟩:=h.Ku
 have key:∀(i:Nat) (e:MapEntry),c.toList[i]?=some e→Go.WideElems.rd (H:=H) P k mZ e=some (Lit.int .i64 ((dG es).getD i 0),.lit (.bool true)):=fun i e hi=>by
  have hlt:i<es.length:=by
   have:=(List.getElem?_eq_some_iff.1 hi).1
   rw[←hs];simpa using this
  obtain⟨e',q1,q2,_⟩:=hrel i es[i] (List.getElem?_eq_getElem hlt)
  rw[hi] at q1;cases q1
  have hik:=List.all_eq_true.1 he es[i] (List.getElem_mem hlt)
  obtain⟨n,hn⟩:=jH hik
  rw[hn] at q2
  have hkn:(dG es).getD i 0=n:=by
   simp[dG,List.getD_eq_getElem?_getD,List.getElem?_eq_getElem hlt,hn,MZ]
  have hw:=hwf n (by
   rw[dG,List.mem_map]
   exact⟨es[i],List.getElem_mem hlt,by rw[hn];rfl⟩)
  rw[hkn]
  simp[Go.WideElems.rd,mZ,q2.aX,keyOf,mapKey,hk,hw]
 have hF:Fit (H:=H) P k mZ c clock:=⟨by rw[hs];exact hl,hst,fun x hx=>by
  obtain⟨i,hi,rfl⟩:=List.mem_iff_getElem.1 hx
  exact⟨_,key i _ (List.getElem?_eq_getElem hi)⟩⟩
 have hmap:(c.toList.map (rg (H:=H) P k mZ)).map (fun q=>Go.intOf q.1)=dG es:=by
  refine List.ext_getElem? fun i=>?_
  simp only[List.map_map,List.getElem?_map]
  rcases Nat.lt_or_ge i es.length with hi|hi
  ·have hc:i<c.toList.length:=by simpa[hs] using hi
   rw[List.getElem?_eq_getElem hc]
   have h1:=key i _ (List.getElem?_eq_getElem hc)
   simp only[Option.map_some,Function.comp,Go.WideElems.rg_of h1]
   have h2:i<(dG es).length:=by simpa[dG] using hi
   simp[Go.intOf,List.getD_eq_getElem?_getD,List.getElem?_eq_getElem h2]
  ·rw[List.getElem?_eq_none (by simpa[hs] using hi),List.getElem?_eq_none (by simpa[dG] using hi)]
   rfl
 refine⟨p,R,.map ((c.toList.map (rg P k mZ)).foldr DataW.insert []),hp,hR,⟨c,clock,hh,hF,by omega,rfl⟩,?_,?_⟩
 ·show(((c.toList.map (rg P k mZ)).foldr DataW.insert []).map fun q=>Go.intOf q.1).Perm _
  rw[←hmap]
  exact(Go.WideShapes.sorted_perm _).map _
 ·show((c.toList.map (rg P k mZ)).foldr DataW.insert []).length=_
  rw[length_sorted];simp[hs]
theorem Inv.NT{Φ:Phi}{w w':World}{σ:St}(hi:Inv Φ w σ)(hi':Inv Φ w' σ)(st:Step Φ σ w Φ σ w')(g:Nat)(hg:w.heap.size≤g) :
  Inv (Φ.pO w' (fun k=>k=g)) w' σ∧Step Φ σ w (Φ.pO w' (fun k=>k=g)) σ w':=by
 have hle:=tU Φ w' (fun k=>k=g)
 refine⟨⟨fun l o h=>(hi'.own l o h).mono hle (fun _ _ _ _=>rfl),hi'.inj,fun a v hv=>?_,fun l o p R a v hl hp hR hv=>?_,hi.fresh.1,fun q i v h=>hle.snap _ _ (hi.fresh.2.1 q i v h),hi.fresh.2.2.mono hle.snap⟩,
  ⟨hle,st.os,st.tape,st.output,st.drawn,st.size,st.block,fun a v hv=>?_,st.locs,st.ownd⟩⟩
 ·rcases eS hv with q|⟨_,q⟩
  ·exact hi'.snap a v q
  ·exact q
 ·rcases eS hv with q|⟨q,_⟩
  ·exact hi'.apart l o p R a v hl hp hR q
  ·intro e
   obtain⟨p',hp',hlt⟩:=(hi.own l o hl).place
   rw[show Φ.obj l=some p from hp] at hp'
   cases hp'
   have:=hlt R hR
   have q:R=g:=by rw[←e];exact q
   omega
 ·rcases eS hv with q|⟨q,_⟩
  ·exact .inl q
  ·have q:a.block=g:=q
   exact .inr (.inl (by omega))
theorem s9{P:Program}{ρ ρk:Ren}(L6:SlLaysZI.n6 P ρ)(L10:SlLaysZI.n10 P ρk)(hs:∀m,AnyZI.SortsIn P ρ Fence.wide m)
 (e9:∀args w,(callFunc (ρ.f 9) args).run P w=.ok (.enter (ρ.f 9) args) w)(eg:∀args w,(callFunc (ρk.f 10) args).run P w=.ok (.enter (ρk.f 10) args) w)(hent:Enters P (ρ.f 6))
 {l l2:Nat}{tm:TypeId}{es:List (MV × MV)}(hne:l≠l2)(he:(es.all fun p=>isK .i64 p.1)=true)(hwf:∀n∈dG es,(Lit.int .i64 n).wf=true)(hl:es.length≤1000000) :
  aA P (ρ.f 6) [.fn (.func (ρk.f 10)) [] [.ptr l 0 0]] ((St.none.set l (.row tm 1 [[.mapv l2]])).set l2 (.mp es)) fun r σ' =>
   (∃ns:List Int,ns.Perm (dG es)∧ns.Pairwise (fun a b=>a≤b)∧r=.lst 1 (ns.map fun n=>[.int .i64 n]) false)∧σ'=(St.none.set l (.row tm 1 [[.mapv l2]])).set l2 (.mp es):=by
 obtain⟨σ0,hσ0⟩:∃σ0:St,(St.none.set l (.row tm 1 [[.mapv l2]])).set l2 (.mp es)=σ0:=⟨_,rfl⟩
 have h2:σ0 l2=some (.mp es):=by rw[←hσ0];exact aM _ _ _
 have h1:σ0 l=some (.row tm 1 [[.mapv l2]]):=by rw[←hσ0];simp[St.set,hne]
 rw[hσ0]
 refine⟨hent,fun Φ w vs hi hr=>?_⟩
 obtain⟨first,cap,e0,r1,r2⟩:=(hr.2 0 _ rfl).mP
 have hf0:first=#[]:=by have:=r1.1;simp at this;exact this
 subst hf0
 have hcs:cap.size=1:=r2.1
 obtain⟨p,R,hp,hR,hc⟩:=(r2.2 0 _ rfl).gQ
 have hbo:p.bo=0:=hi.fresh.1.2 l p hp
 have hcap:cap=#[.pointer (some ⟨R,0,none⟩)]:=by
  refine Array.ext (by simpa using hcs) fun i q1 q2=>?_
  have hi0:i=0:=by omega
  subst hi0
  have:=hc
  rw[hbo] at this
  simp[Array.getD,q1] at this
  exact this
 have hvs:vs=#[.func (.func (ρk.f 10)) #[] #[.pointer (some ⟨R,0,none⟩)]]:=by
  have hz:=hr.1
  simp at hz
  refine Array.ext (by simpa using hz) fun i q1 q2=>?_
  have hi0:i=0:=by omega
  subst hi0
  have:=e0
  rw[hcap] at this
  simp[Array.getD,q1] at this
  exact this
 subst hvs
 -- the map
 obtain⟨p2,b,D0,hp2,hb2,hown,hperm,hsz⟩:=NK (H:=Unit) (P:=P) (k:=ρk.t 26) (hi.own l2 _ h2) L10.t26 he hwf (Nat.le_trans hl (by decide))
 -- the box
 obtain⟨p',hp',hpe,hlen,hmax,hx,hmatch⟩:=hi.own l _ h1
 rw[hp] at hp'
 cases hp'
 rw[hR] at hmatch
 obtain⟨c,fz,hheap,_,_,hcell⟩:=hmatch
 obtain⟨_,v,hv,hrel⟩:=hcell 0 _ 0 _ rfl rfl
 obtain⟨p3,R3,hp3,hR3,rfl⟩:=hrel.qC
 rw[hp2] at hp3
 cases hp3
 rw[hb2] at hR3
 cases hR3
 have hRlt:R<w.heap.size:=by
  obtain⟨q,_⟩:=Array.getElem?_eq_some_iff.1 hheap;exact q
 have hcl:w.cell? ⟨R,0,none⟩=some (.map (some b)):=by
  simp only[World.cell?,hheap]
  rw[hbo] at hv
  simpa using hv
 have hseq:=AnyZI.keys_gives (H:=Unit) (ρ:=ρk) L10 Fence.wide 2 trivial rfl (by omega) R b es.length D0 w hRlt hcl hown
 have cS:=AnyZI.sorted_in L6 Fence.wide 5 trivial trivial trivial trivial rfl (by omega) (hs _) e9 (ρk.f 10) _ trivial eg _ (Maps.size D0) (by rw[hsz];exact Nat.le_trans hl (by decide)) (by rw[hsz];omega) w hseq
 refine(callsIn_wide.1 cS).mono ?_
 rintro e w' ⟨v,ss,rfl,hS,hrow,hnil,hb⟩
 obtain⟨i2,s2⟩:=hi.grow (w':=w') hb.os hb.tape hb.output (by simp[drw,DR]) hb.size hb.block
 have hpm:(ss.mergeSort (fun x y=>decide (x≤y))).Perm (dG es):=(List.mergeSort_perm ss _).trans (hS.trans hperm)
 have hpw:(ss.mergeSort (fun x y=>decide (x≤y))).Pairwise (fun a b=>a≤b):=(List.pairwise_mergeSort (le:=fun x y:Int=>decide (x≤y)) (fun a b c=>by simp;omega) (fun a b=>by simp;omega) ss).imp (fun h=>by simpa using h)
 generalize hns:ss.mergeSort (fun x y=>decide (x≤y))=ns at *
 have hnl:ns.length=ss.length:=by rw[←hns];exact List.length_mergeSort ss
 rcases hrow.2 with⟨rfl,hz⟩|⟨g,capn,cur,rfl,hbase,hgb,q1,q2,q3,q4⟩
 ·have hn0:ns=[]:=List.eq_nil_of_length_eq_zero (by omega)
  subst hn0
  exact⟨_,_,σ0,Φ,rfl,.lstn 1 false,i2,s2,⟨[],hpm,hpw,rfl⟩,rfl⟩
 ·obtain⟨i3,s3⟩:=hi.NT i2 s2 g hbase
  have h0:0<ss.length:=by
   rcases Nat.eq_zero_or_pos ss.length with h|h
   ·have:=hnil.2 (List.eq_nil_of_length_eq_zero h)
    cases this
   ·exact h
  refine⟨_,.lst 1 (ns.map fun n=>[.int .i64 n]) false,σ0,_,rfl,?_,i3,s3,⟨ns,hpm,hpw,rfl⟩,rfl⟩
  have hat:∀i,i<ns.length→w'.cell? ⟨g,i,none⟩=some (.int .i64 (ns.getD i 0)):=fun i hi'=>by
   have e1:(cur.toList.take (ss.length * 1))[i]?=(ns.map encZ)[i]?:=by rw[q4]
   rw[List.getElem?_take,if_pos (by omega),List.getElem?_map,List.getElem?_eq_getElem hi'] at e1
   simp only[World.cell?,hgb]
   simp at e1
   simp[e1,List.getD_eq_getElem?_getD,List.getElem?_eq_getElem hi',encZ]
  have hsn:∀i,i<ns.length→(Φ.pO w' (fun k=>k=g)).snap ⟨g,i,none⟩=some (.int .i64 (ns.getD i 0)):=fun i hi'=>by
   simp only[Phi.pO]
   split
   ·rename_i u hu
    have:=World.block_lt_of_cell? w _ (hi.snap _ _ hu)
    simp only at this
    omega
   ·simp[hat i hi']
  refine Rel.lst (vs:=fun i _=>.int .i64 (ns.getD i 0)) (by simpa using hnl) h0 q1 q2 (fun h=>by cases h) (fun i x hx=>?_) (fun i x j m hx hm=>?_) (fun i x j m hx hm=>?_)
  all_goals
   rw[List.getElem?_map,Option.map_eq_some_iff] at hx
   obtain⟨n,hn,rfl⟩:=hx
  ·rfl
  ·have hin:=(List.getElem?_eq_some_iff.1 hn).1
   have hj:j=0:=by
    have:=(List.getElem?_eq_some_iff.1 hm).1
    simpa using this
   subst hj
   simp at hm
   subst hm
   exact⟨rfl,by simpa using hsn i hin⟩
  ·have hj:j=0:=by
    have:=(List.getElem?_eq_some_iff.1 hm).1
    simpa using this
   subst hj
   simp at hm
   subst hm
   simp[List.getD_eq_getElem?_getD,hn]
   exact .int _ _
theorem L4(m:Nat):AnyZI.SortsIn Tryz.prog fT Fence.wide m :=
 ⟨fun blk off cap ss W hH hblk hsz=>callsIn_wide.2 (AnyM.slices_Sort_int zD blk off cap ss W hH hblk hsz),
  fun p cap W=>callsIn_wide.2 (AnyM.slices_Sort_int_none zD p cap W)⟩
theorem Bn{l l2:Nat}{es:List (MV × MV)}(hne:l≠l2)(he:(es.all fun p=>isK .i64 p.1)=true)(hwf:∀n∈dG es,(Lit.int .i64 n).wf=true)(hl:es.length≤1000000) :
  aA Tryz.prog 147 [.fn (.func 332) [] [.ptr l 0 0]] ((St.none.set l (.row 271 1 [[.mapv l2]])).set l2 (.mp es)) fun r σ' =>
   (∃ns:List Int,ns.Perm (dG es)∧ns.Pairwise (fun a b=>a≤b)∧r=.lst 1 (ns.map fun n=>[.int .i64 n]) false)∧σ'=(St.none.set l (.row 271 1 [[.mapv l2]])).set l2 (.mp es) :=
 s9 (ρ:=fT) (ρk:=oL) sL { HH with } L4 (enters_of Tryz.func239 (by kernel_rfl) rfl) (enters_of Tryz.func332 (by kernel_rfl) rfl) ⟨_,Tryz.func147,rfl,rfl⟩ hne he hwf hl
theorem yN{l l2:Nat}{es:List (MV × MV)}(hne:l≠l2)(he:(es.all fun p=>isK .i64 p.1)=true)(hwf:∀n∈dG es,(Lit.int .i64 n).wf=true)(hl:es.length≤1000000) :
  aA Tryz.prog 147 [.fn (.func 240) [] [.ptr l 0 0]] ((St.none.set l (.row 214 1 [[.mapv l2]])).set l2 (.mp es)) fun r σ' =>
   (∃ns:List Int,ns.Perm (dG es)∧ns.Pairwise (fun a b=>a≤b)∧r=.lst 1 (ns.map fun n=>[.int .i64 n]) false)∧σ'=(St.none.set l (.row 214 1 [[.mapv l2]])).set l2 (.mp es) :=
 s9 (ρ:=fT) (ρk:=oM) sL { HI with } L4 (enters_of Tryz.func239 (by kernel_rfl) rfl) (enters_of Tryz.func240 (by kernel_rfl) rfl) ⟨_,Tryz.func147,rfl,rfl⟩ hne he hwf hl
end
end Go.Proofs.YtojmhmejdihaaaaGreatDoor
