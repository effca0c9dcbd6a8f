/- Parts of the proof, joined; conditions: those that its theorems name. -/
import Derived.Test.YtppdgejjmhdjhaaGreatDoorMaj
import Derived.Test.YtppdgejjmhdjhaaGreatDoorMam
set_option linter.unusedVariables false
set_option linter.unusedSimpArgs false
set_option maxHeartbeats 4000000
namespace Go.Proofs.YtppdgejjmhdjhaaGreatDoor
section
set_option maxRecDepth 100000
set_option maxHeartbeats 4000000
abbrev bZ(L:List Nat):List (List MV):=L.map fun(i:Nat)=>[.int .i64 (i:Int)]
theorem EJ(s:Nat)(hs:s<256)(l:Nat):E8 Tryz.prog 273 [.ptr l 0 0] (St.none.set l (.row 23 1 [[.int .u32 (s:Int)]])) (bZ (a6 s)):=by
 refine E8.kO 14 Tryz.func273 rfl rfl rfl rfl fun C hC hspec=>?_
 have hxl:(bZ (a6 s)).length=(a6 s).length:=by simp[bZ]
 rw[hxl]
 refine iV (tM (HN (α:=Nat × Nat) (fun a=>⟨14,[(0,.fn (.yield C.l) [] []),(1,.ptr l 0 0)],[]⟩) (fun a=>St.none.set l (.row 23 1 [[.int .u32 (a.1:Int)]])) (fun a=>some a.2)
   (fun a=>a.1<256∧a6 a.1=(a6 s).drop a.2∧a.2≤(a6 s).length) (fun a=>(a6 a.1).length) ?_ ?_))
 ·refine .of (.less ?_ (St.le_refl _)) ⟨(s,0),rfl,rfl,rfl,hs,rfl,Nat.zero_le _⟩
  simp(maxSteps:=4000000) (disch:=first|exact ddL|fail) only[go_sem,simprocAttr,aJ,aG]
 ·rintro⟨x,j⟩ ⟨hx,hj,hjl⟩
  simp only at hx hj hjl ⊢
  by_cases h0:x=0
  ·subst h0
   rw[CR] at hj
   have hjj:(a6 s).length≤j:=by
    refine Classical.byContradiction fun h=>?_
    have:=congrArg List.length hj
    rw[List.length_drop] at this
    simp at this
    omega
   have hje:j=(a6 s).length:=by omega
   refine pA (Ac ?_)
   repeat' (first|(with_reducible first|(refine wN fun _ hnl=>?_;revert hnl;(repeat refine wS fun _ _=>?_);intro hnl)|refine wE ?_|(refine wK ?_ ?_<;>intro h)|(refine wB ?_ ?_<;>intro h<;>simp only[h]))|simp(maxSteps:=4000000) (disch:=first|exact ddL|fail) only[go_sem,simprocAttr,Tryz.f273])
   refine .inl ?_
   rw[hje]
  ·have hlow:=pE x hx h0
   have hh:=xG hx h0
   have hlt:j<(a6 s).length:=by
    refine Classical.byContradiction fun h=>?_
    rw[List.drop_eq_nil_of_le (by omega)] at hj
    rw[hj] at hlow
    cases hlow
   have hdrop:=List.drop_eq_getElem_cons hlt
   rw[←hj,hlow] at hdrop
   obtain⟨hd1,hd2⟩:=List.cons.inj hdrop
   have hnext:x &&& (x - 1)<256:=Nat.lt_of_le_of_lt Nat.and_le_left hx
   have htz:=G7 x (by omega) hx
   have ha:iW .u32 (x:Int) ((x:Int) - 1)=((x &&& (x - 1):Nat):Int):=by
    have:=vW x (x - 1) (by omega) (by omega)
    rwa [show((x - 1:Nat):Int)=(x:Int) - 1 by omega] at this
   have hlen:(a6 (x &&& (x - 1))).length<(a6 x).length:=by
    conv=>rhs;rw[hlow]
    simp
   obtain⟨d,hde⟩:∃d,(a6 x).headD 0=d:=⟨_,rfl⟩
   rw[hde] at htz hh hd1
   obtain⟨y,hy⟩:∃y,x &&& (x - 1)=y:=⟨_,rfl⟩
   rw[hy] at ha hnext hd2 hlen
   clear hlow hdrop hde
   refine pA (Ac ?_)
   repeat' (first|(with_reducible first|(refine wN fun _ hnl=>?_;revert hnl;(repeat refine wS fun _ _=>?_);intro hnl)|refine wE ?_|(refine wK ?_ ?_<;>intro h)|(refine wB ?_ ?_<;>intro h<;>simp only[h]))|simp(maxSteps:=4000000) (disch:=first|exact ddL|fail) only[go_sem,simprocAttr,Tryz.f273])
   refine iV (pA (tM (pA (E7 (ops:=#[_,_,_,_,_]) [_,_,_] _ [_] rfl rfl rfl rfl rfl (x:=[.int .i64 (d:Int)]) (by
    rw[hC]
    rw[List.getElem?_map,List.getElem?_eq_getElem hlt,←hd1];rfl) (fun m hm=>by simp at hm;subst hm;exact .flat (.int _ _)) hspec ?_))))
   repeat' (first|(with_reducible first|refine up htz ?_)|(with_reducible first|(refine wN fun _ hnl=>?_;revert hnl;(repeat refine wS fun _ _=>?_);intro hnl)|refine wE ?_|(refine wK ?_ ?_<;>intro h)|(refine wB ?_ ?_<;>intro h<;>simp only[h]))|simp(maxSteps:=4000000) (disch:=first|exact ddL|fail) only[go_sem,simprocAttr])
   refine⟨iV (Ac ?_),iV (Ac ?_)⟩
   ·repeat' (first|(with_reducible first|(refine wN fun _ hnl=>?_;revert hnl;(repeat refine wS fun _ _=>?_);intro hnl)|refine wE ?_|(refine wK ?_ ?_<;>intro h)|(refine wB ?_ ?_<;>intro h<;>simp only[h]))|simp(maxSteps:=4000000) (disch:=first|exact ddL|fail) only[go_sem,simprocAttr])
    refine iV (Ac ?_)
    repeat' (first|(with_reducible first|(refine wN fun _ hnl=>?_;revert hnl;(repeat refine wS fun _ _=>?_);intro hnl)|refine wE ?_|(refine wK ?_ ?_<;>intro h)|(refine wB ?_ ?_<;>intro h<;>simp only[h]))|simp(maxSteps:=4000000) (disch:=first|exact ddL|fail) only[go_sem,simprocAttr,ha])
    refine .of (.less ?_ (St.le_refl _)) ⟨(y,j+1),rfl,rfl,rfl,⟨hnext,hd2,by omega⟩,hlen⟩
    simp(maxSteps:=4000000) (disch:=first|exact ddL|fail) only[go_sem,simprocAttr,aJ,aG]
   ·repeat' (first|(with_reducible first|(refine wN fun _ hnl=>?_;revert hnl;(repeat refine wS fun _ _=>?_);intro hnl)|refine wE ?_|(refine wK ?_ ?_<;>intro h)|(refine wB ?_ ?_<;>intro h<;>simp only[h]))|simp(maxSteps:=4000000) (disch:=first|exact ddL|fail) only[go_sem,simprocAttr])
    exact .inr trivial
theorem Dv{L:List Nat}{j:Nat}(h:j<L.length):bZ (L.take (j+1))=bZ (L.take j)++[[.int .i64 ((L.getD j 0:Nat):Int)]]:=by
 rw[bZ,List.take_succ_eq_append_getElem h,List.map_append,cW 0 h];rfl
theorem u9(s:Nat)(hs:s<256)(l:Nat):aA Tryz.prog 235 [.aZ,.fn (.func 273) [] [.ptr l 0 0]] (St.none.set l (.row 23 1 [[.int .u32 (s:Int)]])) (fun r _=>r=.lst 1 (bZ (a6 s)) false):=by
 refine aA.seen (aA.body 13 [.tmp 4] Tryz.func235 rfl rfl rfl rfl ?_)
 repeat' (first|(with_reducible first|(refine wT ?_;(first|((fail_if_success (have:=nl1));refine wN fun nl1 hnl=>?_)|((fail_if_success (have:=nl2));refine wN fun nl2 hnl=>?_)|((fail_if_success (have:=nl3));refine wN fun nl3 hnl=>?_)|refine wN fun _ hnl=>?_);revert hnl;(repeat refine wS fun _ _=>?_);intro hnl)|refine wE ?_|(refine wK ?_ ?_<;>intro h)|(refine wB ?_ ?_<;>intro h<;>simp only[h]))|simp(maxSteps:=4000000) (disch:=first|exact ddL|fail) only[go_sem,simprocAttr,Tryz.f235])
 have d1:nl1≠l:=by assumption
 have hbl:=nC s
 refine iV (r5 (gf:=273) (xs:=bZ (a6 s)) rfl (σi:=St.none.set l (.row 23 1 [[.int .u32 (s:Int)]])) (St.aC (St.none_le _) (by simp[St.set, *])) (EJ s hs l) ?_ rfl rfl
  (fc:=⟨13,[(2,.ptr nl1 0 0)],[]⟩) rfl (α:=Nat × List (List MV))
  (fun j a=>(St.none.set nl1 (.row 75 1 [[.vec 1 a.1 0 j]])).set a.1 (.row 3 1 (bZ ((a6 s).take j)++a.2))) (fun j a=>a.1≠nl1) ?_ ?_ ?_)
 ·intro x hx
  obtain⟨y,_,rfl⟩:=List.mem_map.1 hx
  rfl
 ·refine Gh.CJ (b:=nl1) (t:=75) (e:=1) (pre:=[]) (post:=[]) 3 1 ?_ fun q hq=>?_
  ·simp[St.minus,St.set,St.none,d1]
  ·have q1:q≠nl1:=fun e=>by subst e;simp[St.minus,St.set,St.none,d1] at hq
   refine .of (.less ?_ (σ1:=(St.none.set nl1 (.row 75 1 [[.vec 1 q 0 0]])).set q (.row 3 1 [])) (le2 (by simp[St.set,q1,Ne.symm q1]) (by simp[St.set]))) ⟨rfl,(q,[]),rfl,q1⟩
   simp(maxSteps:=4000000) (disch:=first|exact ddL|fail) only[go_sem,simprocAttr,aJ,aG]
 ·rintro j x ⟨q,ex⟩ hx q1
  simp only at q1 ⊢
  have hjl:j<(a6 s).length:=by
   have:=(List.getElem?_eq_some_iff.1 hx).1
   simpa[bZ] using this
  have hxe:x=[.int .i64 (((a6 s).getD j 0:Nat):Int)]:=by
   rw[List.getElem?_map,List.getElem?_eq_getElem hjl,←cW 0 hjl] at hx
   exact(Option.some.inj hx).symm
  subst hxe
  have hsn:=Dv hjl
  obtain⟨d,hd⟩:∃d,(a6 s).getD j 0=d:=⟨_,rfl⟩
  rw[hd] at hsn ⊢
  have hlj:(bZ ((a6 s).take j)).length=j:=by rw[List.length_map,List.length_take];omega
  obtain⟨pre,hpre⟩:∃pre,bZ ((a6 s).take j)=pre:=⟨_,rfl⟩
  rw[hpre] at hsn hlj ⊢
  change mwp _ _ (FR.mk 13 [(7,.int .i64 (d:Int)),(2,.ptr nl1 0 0)] []) _ _
  have q2:=Ne.symm q1
  have htk:(pre++ex).take j=pre:=by rw[←hlj,List.take_left'];rfl
  have hdr:(pre++ex).drop (j+1)=ex.drop 1:=by
   rw[←List.drop_drop,←hlj,List.drop_left'];rfl
  refine lB ?_
  repeat' (first|(with_reducible first|(refine wT ?_;(first|((fail_if_success (have:=nl1));refine wN fun nl1 hnl=>?_)|((fail_if_success (have:=nl2));refine wN fun nl2 hnl=>?_)|((fail_if_success (have:=nl3));refine wN fun nl3 hnl=>?_)|refine wN fun _ hnl=>?_);revert hnl;(repeat refine wS fun _ _=>?_);intro hnl)|refine wE ?_|(refine wK ?_ ?_<;>intro h)|(refine wB ?_ ?_<;>intro h<;>simp only[h]))|simp(maxSteps:=4000000) (disch:=first|exact ddL|fail) only[go_sem,simprocAttr])
  refine iV (lB ?_)
  repeat' (first|(with_reducible first|(refine wT ?_;(first|((fail_if_success (have:=nl1));refine wN fun nl1 hnl=>?_)|((fail_if_success (have:=nl2));refine wN fun nl2 hnl=>?_)|((fail_if_success (have:=nl3));refine wN fun nl3 hnl=>?_)|refine wN fun _ hnl=>?_);revert hnl;(repeat refine wS fun _ _=>?_);intro hnl)|refine wE ?_|(refine wK ?_ ?_<;>intro h)|(refine wB ?_ ?_<;>intro h<;>simp only[h]))|simp(maxSteps:=4000000) (disch:=first|exact ddL|fail) only[go_sem,simprocAttr,htk,hdr])
  ·have hex:ex=[]:=List.eq_nil_of_length_eq_zero (by omega)
   subst hex
   clear h
   refine .of (.less (l1:=[]) (fun p hp=>by cases hp) (σ1:=(St.none.set nl1 (.row 75 1 [[.vec 1 nl3 0 (j+1)]])).set nl3 (.row 3 1 (bZ ((a6 s).take (j+1))++[]))) (le2 (by simp[St.set, *]) (by simp[St.set, *]))) ⟨(nl3,[]),rfl,by assumption⟩
  ·refine .of (.less (l1:=[]) (fun p hp=>by cases hp) (σ1:=(St.none.set nl1 (.row 75 1 [[.vec 1 nl3 0 (j+1)]])).set nl3 (.row 3 1 (bZ ((a6 s).take (j+1))++ex.drop 1))) (le2 (by simp[St.set, *]) (by simp[St.set, *]))) ⟨(nl3,ex.drop 1),rfl,by assumption⟩
 ·rintro⟨q,ex⟩ q1
  simp only at q1 ⊢
  have q2:=Ne.symm q1
  have hli:(bZ (a6 s)).length=(a6 s).length:=List.length_map _
  rw[hli,List.take_length]
  show R _
  repeat' (first|(with_reducible first|(refine wT ?_;(first|((fail_if_success (have:=nl1));refine wN fun nl1 hnl=>?_)|((fail_if_success (have:=nl2));refine wN fun nl2 hnl=>?_)|((fail_if_success (have:=nl3));refine wN fun nl3 hnl=>?_)|refine wN fun _ hnl=>?_);revert hnl;(repeat refine wS fun _ _=>?_);intro hnl)|refine wE ?_|(refine wK ?_ ?_<;>intro h)|(refine wB ?_ ?_<;>intro h<;>simp only[h]))|simp(maxSteps:=4000000) (disch:=first|exact ddL|fail) only[go_sem,simprocAttr])
  exact La (aH _ _ _)
theorem sB(s:Nat)(hs:s<256)(l:Nat):aA Tryz.prog 180 [.fn (.func 273) [] [.ptr l 0 0]] (St.none.set l (.row 23 1 [[.int .u32 (s:Int)]])) (fun r _=>r=.lst 1 (bZ (a6 s)) false):=by
 refine(aA.body 5 [.tmp 2] Tryz.func180 rfl rfl rfl rfl ?_)
 have h:=u9 s hs l
 repeat' (first|(with_reducible first|(refine wN fun _ hnl=>?_;revert hnl;(repeat refine wS fun _ _=>?_);intro hnl)|refine wE ?_|(refine wK ?_ ?_<;>intro h)|(refine wB ?_ ?_<;>intro h<;>simp only[h]))|simp(maxSteps:=4000000) (disch:=first|exact ddL|fail) only[go_sem,simprocAttr,Tryz.f180])
 refine bM h (St.le_refl _) ?_
 rintro v σ' rfl -
 repeat' (first|(with_reducible first|(refine wN fun _ hnl=>?_;revert hnl;(repeat refine wS fun _ _=>?_);intro hnl)|refine wE ?_|(refine wK ?_ ?_<;>intro h)|(refine wB ?_ ?_<;>intro h<;>simp only[h]))|simp(maxSteps:=4000000) (disch:=first|exact ddL|fail) only[go_sem,simprocAttr])
theorem mN(m:UInt32):aA Tryz.prog 156 [.int .u32 (m.toNat:Int)] St.none (fun r _=>r=.lst 1 (bZ (a6 m.toNat)) false):=by
 refine(aA.body 7 [.tmp 2] Tryz.func156 rfl rfl rfl rfl ?_)
 have ha:iW .u32 (m.toNat:Int) 255=_:=vW m.toNat 255 m.toNat_lt (by decide)
 have hlt:m.toNat &&& 255<256:=Nat.lt_of_le_of_lt Nat.and_le_right (by decide)
 have hb:=CQ m.toNat
 obtain⟨s,hs⟩:∃s,m.toNat &&& 255=s:=⟨_,rfl⟩
 rw[hs] at ha hlt hb
 have he:aA Tryz.prog 227 [.int .u32 (s:Int)] St.none (fun v σ'=>∃l,v=.fn (.func 273) [] [.ptr l 0 0]∧σ'=St.none.set l (.row 23 1 [[.int .u32 (s:Int)]])):=by
  refine(aA.body 4 [.tmp 2] Tryz.func227 rfl rfl rfl rfl ?_)
  repeat' (first|(with_reducible first|(refine wN fun _ hnl=>?_;revert hnl;(repeat refine wS fun _ _=>?_);intro hnl)|refine wE ?_|(refine wK ?_ ?_<;>intro h)|(refine wB ?_ ?_<;>intro h<;>simp only[h]))|simp(maxSteps:=4000000) (disch:=first|exact ddL|fail) only[go_sem,simprocAttr,Tryz.f227])
  exact⟨_,rfl,rfl⟩
 repeat' (first|(with_reducible first|(refine wN fun _ hnl=>?_;revert hnl;(repeat refine wS fun _ _=>?_);intro hnl)|refine wE ?_|(refine wK ?_ ?_<;>intro h)|(refine wB ?_ ?_<;>intro h<;>simp only[h]))|simp(maxSteps:=4000000) (disch:=first|exact ddL|fail) only[go_sem,simprocAttr,Tryz.f156,ha])
 refine vS he fun l hl=>?_
 repeat' (first|(with_reducible first|(refine wN fun _ hnl=>?_;revert hnl;(repeat refine wS fun _ _=>?_);intro hnl)|refine wE ?_|(refine wK ?_ ?_<;>intro h)|(refine wB ?_ ?_<;>intro h<;>simp only[h]))|simp(maxSteps:=4000000) (disch:=first|exact ddL|fail) only[go_sem,simprocAttr])
 have h:=sB s hlt l
 refine bM h (St.le_refl _) ?_
 rintro v σ' rfl -
 repeat' (first|(with_reducible first|(refine wN fun _ hnl=>?_;revert hnl;(repeat refine wS fun _ _=>?_);intro hnl)|refine wE ?_|(refine wK ?_ ?_<;>intro h)|(refine wB ?_ ?_<;>intro h<;>simp only[h]))|simp(maxSteps:=4000000) (disch:=first|exact ddL|fail) only[go_sem,simprocAttr])
 rw[hb]
end

section
set_option maxRecDepth 100000
set_option maxHeartbeats 4000000
theorem HR(s n:Nat):(s &&& 2 ^ n=0)=(s / 2 ^ n % 2=0):=by
 apply propext
 have h:s &&& 2 ^ n=2 ^ n * (s / 2 ^ n % 2):=by
  refine Nat.eq_of_testBit_eq fun i=>?_
  rw[Nat.testBit_and,Nat.testBit_two_pow]
  by_cases hi:n=i
  ·subst hi
   rcases Nat.mod_two_eq_zero_or_one (s / 2 ^ n) with h|h
   ·rw[h,Nat.mul_zero,Nat.zero_testBit]
    have:s.testBit n=false:=by rw[Nat.testBit_eq_decide_div_mod_eq,h];rfl
    rw[this];rfl
   ·rw[h,Nat.mul_one,Nat.testBit_two_pow_self]
    have:s.testBit n=true:=by rw[Nat.testBit_eq_decide_div_mod_eq,h];rfl
    rw[this];simp
  ·rw[decide_eq_false hi,Bool.and_false]
   rcases Nat.mod_two_eq_zero_or_one (s / 2 ^ n) with h|h
   ·rw[h,Nat.mul_zero,Nat.zero_testBit]
   ·rw[h,Nat.mul_one,Nat.testBit_two_pow_of_ne hi]
 rw[h,Nat.mul_eq_zero]
 have:=Nat.pos_of_ne_zero (n:=2 ^ n) (Nat.ne_of_gt (Nat.two_pow_pos n))
 constructor
 ·rintro(h|h)
  ·omega
  ·exact h
 ·exact .inr
theorem qM(s n:Nat)(hs:s<4294967296)(hn:n<32):aA Tryz.prog 253 [.int .u32 (s:Int),.int .i64 (n:Int)] St.none (fun r _=>r=.bool (hasB s n)):=by
 refine(aA.body 10 [.tmp 4] Tryz.func253 rfl rfl rfl rfl ?_)
 have h:=tF n hn
 have ha:=vW s (2 ^ n) hs (Nat.pow_lt_pow_right (a:=2) (n:=32) (by decide) hn)
 have hb:=HR s n
 have e:hasB s n=!decide (s &&& 2 ^ n=0):=by
  unfold hasB
  have h2:((n:Int)).toNat=n:=by simp
  have h3:0≤(n:Int)∧(n:Int)≤31:=by omega
  rcases Nat.mod_two_eq_zero_or_one (s / 2 ^ n) with h|h
  ·have h4:s &&& 2 ^ n=0:=by rw[hb];exact h
   simp[h4,h]
  ·have h4:¬(s &&& 2 ^ n=0):=by rw[hb];omega
   simp[h4,h]
   omega
 rw[e]
 generalize s &&& 2 ^ n=x at ha ⊢
 generalize ((2 ^ n:Nat):Int)=y at h ha
 repeat' (first|(with_reducible first|refine up h ?_)|(with_reducible first|(refine wN fun _ hnl=>?_;revert hnl;(repeat refine wS fun _ _=>?_);intro hnl)|refine wE ?_|(refine wK ?_ ?_<;>intro h)|(refine wB ?_ ?_<;>intro h<;>simp only[h]))|simp(maxSteps:=4000000) (disch:=first|exact ddL|fail) only[go_sem,simprocAttr,Tryz.f253,ha])
 all_goals first|(simp;done)|(by_cases hx:x=0<;>simp[hx])
theorem oK(a b:VA):aA Tryz.prog 258 [.agg a.c,.agg b.c] St.none (fun r _=>r=.bool (j8 a b)):=by
 refine aA.dF (aA.body 24 [.tmp 4] Tryz.func258 rfl rfl rfl rfl ?_)
 have h1:=sJ a b
 have hd:j8 a b=(decide (a.kd=b.kd)&&(decide (a.kd=1) || decide (a.kd=2))&&decide (nQ (cmpL a.key b.key)<0)):=rfl
 generalize nQ (cmpL a.key b.key)=o at h1 hd
 generalize j8 a b=out at hd ⊢
 by_cases e1:a.kd=b.kd
 ·by_cases e2:a.kd=1
  ·rw[decide_eq_true e1,decide_eq_true e2,Bool.true_or,Bool.true_and,Bool.true_and] at hd
   subst hd
   repeat' (first|(with_reducible first|refine up h1 ?_)|(with_reducible first|(refine wN fun _ hnl=>?_;revert hnl;(repeat refine wS fun _ _=>?_);intro hnl)|refine wE ?_|(refine wK ?_ ?_<;>intro h)|(refine wB ?_ ?_<;>intro h<;>simp only[h]))|simp(maxSteps:=4000000) (disch:=first|exact ddL|fail) only[go_sem,simprocAttr,Tryz.f258])
   all_goals first|exact⟨_,St.le_refl _,rfl⟩|exact⟨_,St.le_refl _⟩
  ·by_cases e3:a.kd=2
   ·rw[decide_eq_true e1,decide_eq_true e3,Bool.or_true,Bool.true_and,Bool.true_and] at hd
    subst hd
    repeat' (first|(with_reducible first|refine up h1 ?_)|(with_reducible first|(refine wN fun _ hnl=>?_;revert hnl;(repeat refine wS fun _ _=>?_);intro hnl)|refine wE ?_|(refine wK ?_ ?_<;>intro h)|(refine wB ?_ ?_<;>intro h<;>simp only[h]))|simp(maxSteps:=4000000) (disch:=first|exact ddL|fail) only[go_sem,simprocAttr,Tryz.f258])
    all_goals first|exact⟨_,St.le_refl _,rfl⟩|exact⟨_,St.le_refl _⟩
   ·rw[decide_eq_false e2,decide_eq_false e3,Bool.or_false,Bool.and_false,Bool.false_and] at hd
    subst hd
    repeat' (first|(with_reducible first|refine up h1 ?_)|(with_reducible first|(refine wN fun _ hnl=>?_;revert hnl;(repeat refine wS fun _ _=>?_);intro hnl)|refine wE ?_|(refine wK ?_ ?_<;>intro h)|(refine wB ?_ ?_<;>intro h<;>simp only[h]))|simp(maxSteps:=4000000) (disch:=first|exact ddL|fail) only[go_sem,simprocAttr,Tryz.f258])
    all_goals first|exact⟨_,St.le_refl _,rfl⟩|exact⟨_,St.le_refl _⟩
 ·rw[decide_eq_false e1,Bool.false_and,Bool.false_and] at hd
  subst hd
  repeat' (first|(with_reducible first|refine up h1 ?_)|(with_reducible first|(refine wN fun _ hnl=>?_;revert hnl;(repeat refine wS fun _ _=>?_);intro hnl)|refine wE ?_|(refine wK ?_ ?_<;>intro h)|(refine wB ?_ ?_<;>intro h<;>simp only[h]))|simp(maxSteps:=4000000) (disch:=first|exact ddL|fail) only[go_sem,simprocAttr,Tryz.f258])
  all_goals first|exact⟨_,St.le_refl _,rfl⟩|exact⟨_,St.le_refl _⟩
def jM(s:ByteArray)(i:Nat):List (List MV):=(s.toList.take i).map (fun c=>[.int .u8 (oT (c.toNat:Int))])++(s.toList.drop i).map (fun c=>[.int .u8 (c.toNat:Int)])
theorem nW(s:ByteArray):s.toList.length=s.size:=by
 rw[ByteArray.toList_eq,Array.length_toList]
 rfl
theorem Hd(s:ByteArray){i:Nat}(h:i≤s.size):(jM s i).length=s.size:=by
 have:=nW s
 simp[jM]
 omega
theorem I5{s:ByteArray}{i:Nat}(h:i<s.size):(jM s i).getD i []=[.int .u8 ((s.toList.getD i 0).toNat:Int)]:=by
 have hl:i<s.toList.length:=by rw[nW];exact h
 unfold jM
 rw[List.getD_eq_getElem?_getD,List.getElem?_append_right (by simp;omega)]
 simp[Nat.min_eq_left (Nat.le_of_lt hl),List.getElem?_eq_getElem hl,List.getD_eq_getElem?_getD]
theorem He{s:ByteArray}{i:Nat}(h:i<s.size):(jM s i).set i [.int .u8 (oT ((s.toList.getD i 0).toNat:Int))]=jM s (i+1):=by
 have hl:i<s.toList.length:=by rw[nW];exact h
 have e1:s.toList.drop i=s.toList[i]::s.toList.drop (i+1):=List.drop_eq_getElem_cons hl
 have e2:s.toList.take (i+1)=s.toList.take i++[s.toList[i]]:=List.take_succ_eq_append_getElem hl
 unfold jM
 rw[e1,e2,cW 0 hl,List.set_append_right _ _ (by rw[List.length_map,List.length_take];omega)]
 rw[List.map_cons,List.length_map,List.length_take,Nat.min_eq_left (Nat.le_of_lt hl),Nat.sub_self,List.set_cons_zero,List.map_append,List.map_cons,List.map_nil,List.append_assoc]
 rfl
theorem Hk{l:List (List MV)}{i:Nat}(h:i<l.length){x:List MV}(hx:l.getD i []=x):l.set i x=l:=by
 subst hx
 rw[List.getD_eq_getElem?_getD,List.getElem?_eq_getElem h]
 exact List.set_getElem_self h
theorem sT(s:ByteArray):∀i,i≤s.size→sS s i=bytesOf ((s.toList.take i).map (fun c=>[.int .u8 (oT (c.toNat:Int))]))
 | 0,_=>rfl
 | i+1,h=>by
  have hl:i<s.toList.length:=by rw[nW];omega
  rw[sS,sT s i (by omega),List.take_succ_eq_append_getElem hl,List.map_append,fch,cW 0 hl]
  unfold bytesOf
  exact ByteArray.ext (by rw[ByteArray.data_append];simp)
theorem Df(s:ByteArray):bytesOf (jM s s.size)=eV s:=by
 rw[eV,sT s s.size (Nat.le_refl _),jM,←nW,List.drop_length,List.map_nil,List.append_nil]
theorem EO(s:ByteArray):(jM s s.size).all isByte=true:=by
 rw[List.all_eq_true]
 intro x hx
 unfold jM at hx
 rw[←nW,List.drop_length,List.map_nil,List.append_nil] at hx
 obtain⟨b,_,rfl⟩:=List.mem_map.1 hx
 have:=AU (c:=(b.toNat:Int)) (by omega) (by have:=b.toNat_lt;omega)
 simp[isByte,this]
theorem qN(s:ByteArray)(h:s.size≤1000000):aA Tryz.prog 297 [.str s] St.none (fun r _=>r=.str (eV s)):=by
 refine aA.dF (aA.body 30 [.tmp 2] Tryz.func297 rfl rfl rfl rfl ?_)
 repeat' (first|(with_reducible first|(refine wT ?_;(first|((fail_if_success (have:=nl1));refine wN fun nl1 hnl=>?_)|refine wN fun _ hnl=>?_);revert hnl;(repeat refine wS fun _ _=>?_);intro hnl)|refine wE ?_|(refine wK ?_ ?_<;>intro h)|(refine wB ?_ ?_<;>intro h<;>simp only[h]))|simp(maxSteps:=4000000) (disch:=first|exact ddL|fail) only[go_sem,simprocAttr,Tryz.f297])
 refine aV (α:=Nat) (fun i=>⟨30,[(10,.int .i64 (i:Int)),(9,.int .i64 (s.size:Int)),(8,.vec 1 nl1 0 s.size),(3,.vec 1 nl1 0 s.size)],[]⟩)
  (fun i=>St.none.set nl1 (.row 5 1 (jM s i))) (fun i=>i≤s.size) (fun i=>s.size - i) ?_ ?_
 ·refine .of (.less ?_ (St.aC (St.none_le _) (by simp[St.set,jM]))) ⟨0,rfl,rfl,Nat.zero_le _⟩
  simp(maxSteps:=4000000) (disch:=first|exact ddL|fail) only[go_sem,simprocAttr,aJ,aG]
  all_goals first|rfl|(simp;done)
 ·intro i hi
  have hi:i≤s.size:=hi
  have hrl:=Hd s hi
  by_cases hlt:i<s.size
  ·have hat:=I5 hlt
   have hset:=He hlt
   have hc0:0≤((s.toList.getD i 0).toNat:Int):=by omega
   have hc1:((s.toList.getD i 0).toNat:Int)≤255:=by have:=(s.toList.getD i 0).toNat_lt;omega
   obtain⟨c,hc⟩:∃c:Int,((s.toList.getD i 0).toNat:Int)=c:=⟨_,rfl⟩
   rw[hc] at hc0 hc1 hat hset
   have hsame:oT c=c→(jM s i)=jM s (i+1):=fun e=>by rw[←hset,e,Hk (by rw[hrl];exact hlt) hat]
   by_cases hcc:65≤c∧c≤90
   ·obtain⟨g1,g2⟩:=hcc
    have e:oT c=c+97 - 65:=by unfold oT;rw[if_pos ⟨g1,g2⟩];omega
    rw[e] at hset
    repeat' (first|(with_reducible first|(refine wT ?_;(first|((fail_if_success (have:=nl1));refine wN fun nl1 hnl=>?_)|refine wN fun _ hnl=>?_);revert hnl;(repeat refine wS fun _ _=>?_);intro hnl)|refine wE ?_|(refine wK ?_ ?_<;>intro h)|(refine wB ?_ ?_<;>intro h<;>simp only[h]))|simp(maxSteps:=4000000) (disch:=first|exact ddL|fail) only[go_sem,simprocAttr,hat,hrl,g1,g2])
    refine .of (.less ?_ (σ1:=St.none.set nl1 (.row 5 1 (jM s (i+1)))) (by rw[hset];exact St.le_refl _)) ⟨i+1,rfl,rfl,by omega,by omega⟩
    simp(maxSteps:=4000000) (disch:=first|exact ddL|fail) only[go_sem,simprocAttr,aJ,aG]
    all_goals first|rfl|(simp;done)
   ·have e:oT c=c:=by unfold oT;rw[if_neg hcc]
    have hs':=hsame e
    repeat' (first|(with_reducible first|(refine wT ?_;(first|((fail_if_success (have:=nl1));refine wN fun nl1 hnl=>?_)|refine wN fun _ hnl=>?_);revert hnl;(repeat refine wS fun _ _=>?_);intro hnl)|refine wE ?_|(refine wK ?_ ?_<;>intro h)|(refine wB ?_ ?_<;>intro h<;>simp only[h]))|simp(maxSteps:=4000000) (disch:=first|exact ddL|fail) only[go_sem,simprocAttr,hat,hrl])
    all_goals first
     | (exfalso;omega)
     | refine .of (.less ?_ (σ1:=St.none.set nl1 (.row 5 1 (jM s (i+1)))) (by rw[hs'];exact St.le_refl _)) ⟨i+1,rfl,rfl,by omega,by omega⟩
    all_goals
     simp(maxSteps:=4000000) (disch:=first|exact ddL|fail) only[go_sem,simprocAttr,aJ,aG]
     all_goals first|rfl|(simp;done)
  ·have:i=s.size:=by omega
   subst this
   have hfb:=EO s
   have hfs:=Df s
   have htk:(jM s s.size).take s.size=jM s s.size:=List.take_of_length_le (by rw[hrl];exact Nat.le_refl _)
   repeat' (first|(with_reducible first|(refine wT ?_;(first|((fail_if_success (have:=nl1));refine wN fun nl1 hnl=>?_)|refine wN fun _ hnl=>?_);revert hnl;(repeat refine wS fun _ _=>?_);intro hnl)|refine wE ?_|(refine wK ?_ ?_<;>intro h)|(refine wB ?_ ?_<;>intro h<;>simp only[h]))|simp(maxSteps:=4000000) (disch:=first|exact ddL|fail) only[go_sem,simprocAttr,hrl,hfb,hfs,htk])
   all_goals first|exact⟨_,St.le_refl _,rfl⟩|exact⟨_,St.le_refl _⟩
end
end Go.Proofs.YtppdgejjmhdjhaaGreatDoor
