/- Parts of the proof, joined; conditions: those that its theorems name. -/
import Derived.Test.YtaojijkdamfbnaaGreatDoorMfj
import Derived.Test.YtaojijkdamfbnaaGreatDoorMfl
import Derived.Test.YtaojijkdamfbnaaGreatDoorMfn
import Derived.Test.YtaojijkdamfbnaaGreatDoorMfo
import Derived.Lib.IndexMore
import Derived.Laws.LoneSync
import Derived.Lib.SliceRun
import Derived.OwnWalk
set_option linter.unusedVariables false
set_option linter.unusedSimpArgs false
set_option maxHeartbeats 4000000
namespace Go.Proofs.YtaojijkdamfbnaaGreatDoor
section
set_option maxRecDepth 100000
set_option maxHeartbeats 4000000
abbrev cW(L:List Nat):List (List MV):=L.map fun(i:Nat)=>[.int .i64 (i:Int)]
theorem Hp(s:Nat)(hs:s<256)(l:Nat):HV Tryz.prog 181 [.ptr l 0 0] (St.none.set l (.row 28 1 [[.int .u32 (s:Int)]])) (cW (bJ s)):=by
 refine HV.k7 14 Tryz.func181 rfl rfl rfl rfl fun C hC hspec=>?_
 have hxl:(cW (bJ s)).length=(bJ s).length:=by simp[cW]
 rw[hxl]
 refine fD (nB (Cq (α:=Nat × Nat) (fun a=>⟨14,[(0,.fn (.yield C.l) [] []),(1,.ptr l 0 0)],[]⟩) (fun a=>St.none.set l (.row 28 1 [[.int .u32 (a.1:Int)]])) (fun a=>some a.2)
   (fun a=>a.1<256∧bJ a.1=(bJ s).drop a.2∧a.2≤(bJ s).length) (fun a=>(bJ a.1).length) ?_ ?_))
 ·refine .of (.less ?_ (St.le_refl _)) ⟨(s,0),rfl,rfl,rfl,hs,rfl,Nat.zero_le _⟩
  simp(maxSteps:=4000000) (disch:=first|exact ddL|fail) only[go_sem,simprocAttr,aC,aB]
 ·rintro⟨x,j⟩ ⟨hx,hj,hjl⟩
  simp only at hx hj hjl ⊢
  by_cases h0:x=0
  ·subst h0
   rw[Fw] at hj
   have hjj:(bJ s).length≤j:=by
    refine Classical.byContradiction fun h=>?_
    have:=congrArg List.length hj
    rw[List.length_drop] at this
    simp at this
    omega
   have hje:j=(bJ s).length:=by omega
   refine gH (jO ?_)
   repeat' (first|(with_reducible first|(refine wN fun _ hnl=>?_;revert hnl;(repeat refine wS fun _ _=>?_);intro hnl)|refine wE ?_|(refine wK ?_ ?_<;>intro h)|(refine wB ?_ ?_<;>intro h<;>simp only[h]))|simp(maxSteps:=4000000) (disch:=first|exact ddL|fail) only[go_sem,simprocAttr,Tryz.f181])
   refine .inl ?_
   rw[hje]
  ·have hlow:=sE x hx h0
   have hh:=AQ hx h0
   have hlt:j<(bJ s).length:=by
    refine Classical.byContradiction fun h=>?_
    rw[List.drop_eq_nil_of_le (by omega)] at hj
    rw[hj] at hlow
    cases hlow
   have hdrop:=List.drop_eq_getElem_cons hlt
   rw[←hj,hlow] at hdrop
   obtain⟨hd1,hd2⟩:=List.cons.inj hdrop
   have hnext:x &&& (x - 1)<256:=Nat.lt_of_le_of_lt Nat.and_le_left hx
   have htz:=JM x (by omega) hx
   have ha:kM .u32 (x:Int) ((x:Int) - 1)=((x &&& (x - 1):Nat):Int):=by
    have:=Am x (x - 1) (by omega) (by omega)
    rwa [show((x - 1:Nat):Int)=(x:Int) - 1 by omega] at this
   have hlen:(bJ (x &&& (x - 1))).length<(bJ x).length:=by
    conv=>rhs;rw[hlow]
    simp
   obtain⟨d,hde⟩:∃d,(bJ x).headD 0=d:=⟨_,rfl⟩
   rw[hde] at htz hh hd1
   obtain⟨y,hy⟩:∃y,x &&& (x - 1)=y:=⟨_,rfl⟩
   rw[hy] at ha hnext hd2 hlen
   clear hlow hdrop hde
   refine gH (jO ?_)
   repeat' (first|(with_reducible first|(refine wN fun _ hnl=>?_;revert hnl;(repeat refine wS fun _ _=>?_);intro hnl)|refine wE ?_|(refine wK ?_ ?_<;>intro h)|(refine wB ?_ ?_<;>intro h<;>simp only[h]))|simp(maxSteps:=4000000) (disch:=first|exact ddL|fail) only[go_sem,simprocAttr,Tryz.f181])
   refine fD (gH (nB (gH (HU (ops:=#[_,_,_,_,_]) [_,_,_] _ [_] rfl rfl rfl rfl rfl (x:=[.int .i64 (d:Int)]) (by
    rw[hC]
    rw[List.getElem?_map,List.getElem?_eq_getElem hlt,←hd1];rfl) (fun m hm=>by simp at hm;subst hm;exact .flat (.int _ _)) hspec ?_))))
   repeat' (first|(with_reducible first|refine up htz ?_)|(with_reducible first|(refine wN fun _ hnl=>?_;revert hnl;(repeat refine wS fun _ _=>?_);intro hnl)|refine wE ?_|(refine wK ?_ ?_<;>intro h)|(refine wB ?_ ?_<;>intro h<;>simp only[h]))|simp(maxSteps:=4000000) (disch:=first|exact ddL|fail) only[go_sem,simprocAttr])
   refine⟨fD (jO ?_),fD (jO ?_)⟩
   ·repeat' (first|(with_reducible first|(refine wN fun _ hnl=>?_;revert hnl;(repeat refine wS fun _ _=>?_);intro hnl)|refine wE ?_|(refine wK ?_ ?_<;>intro h)|(refine wB ?_ ?_<;>intro h<;>simp only[h]))|simp(maxSteps:=4000000) (disch:=first|exact ddL|fail) only[go_sem,simprocAttr])
    refine fD (jO ?_)
    repeat' (first|(with_reducible first|(refine wN fun _ hnl=>?_;revert hnl;(repeat refine wS fun _ _=>?_);intro hnl)|refine wE ?_|(refine wK ?_ ?_<;>intro h)|(refine wB ?_ ?_<;>intro h<;>simp only[h]))|simp(maxSteps:=4000000) (disch:=first|exact ddL|fail) only[go_sem,simprocAttr,ha])
    refine .of (.less ?_ (St.le_refl _)) ⟨(y,j+1),rfl,rfl,rfl,⟨hnext,hd2,by omega⟩,hlen⟩
    simp(maxSteps:=4000000) (disch:=first|exact ddL|fail) only[go_sem,simprocAttr,aC,aB]
   ·repeat' (first|(with_reducible first|(refine wN fun _ hnl=>?_;revert hnl;(repeat refine wS fun _ _=>?_);intro hnl)|refine wE ?_|(refine wK ?_ ?_<;>intro h)|(refine wB ?_ ?_<;>intro h<;>simp only[h]))|simp(maxSteps:=4000000) (disch:=first|exact ddL|fail) only[go_sem,simprocAttr])
    exact .inr trivial
theorem F5{L:List Nat}{j:Nat}(h:j<L.length):cW (L.take (j+1))=cW (L.take j)++[[.int .i64 ((L.getD j 0:Nat):Int)]]:=by
 rw[cW,List.take_succ_eq_append_getElem h,List.map_append,bH 0 h];rfl
theorem zP(s:Nat)(hs:s<256)(l:Nat):aA Tryz.prog 180 [.bC,.fn (.func 181) [] [.ptr l 0 0]] (St.none.set l (.row 28 1 [[.int .u32 (s:Int)]])) (fun r _=>r=.lst 1 (cW (bJ s)) false):=by
 refine aA.seen (aA.body 13 [.tmp 4] Tryz.func180 rfl rfl rfl rfl ?_)
 repeat' (first|(with_reducible first|(refine wT ?_;(first|((fail_if_success (have:=nl1));refine wN fun nl1 hnl=>?_)|((fail_if_success (have:=nl2));refine wN fun nl2 hnl=>?_)|((fail_if_success (have:=nl3));refine wN fun nl3 hnl=>?_)|refine wN fun _ hnl=>?_);revert hnl;(repeat refine wS fun _ _=>?_);intro hnl)|refine wE ?_|(refine wK ?_ ?_<;>intro h)|(refine wB ?_ ?_<;>intro h<;>simp only[h]))|simp(maxSteps:=4000000) (disch:=first|exact ddL|fail) only[go_sem,simprocAttr,Tryz.f180])
 have d1:nl1≠l:=by assumption
 have hbl:=pU s
 refine fD (vK (gf:=181) (xs:=cW (bJ s)) rfl (σi:=St.none.set l (.row 28 1 [[.int .u32 (s:Int)]])) (St.aD (St.none_le _) (by simp[St.set, *])) (Hp s hs l) ?_ rfl rfl
  (fc:=⟨13,[(2,.ptr nl1 0 0)],[]⟩) rfl (α:=Nat × List (List MV))
  (fun j a=>(St.none.set nl1 (.row 46 1 [[.vec 1 a.1 0 j]])).set a.1 (.row 3 1 (cW ((bJ s).take j)++a.2))) (fun j a=>a.1≠nl1) ?_ ?_ ?_)
 ·intro x hx
  obtain⟨y,_,rfl⟩:=List.mem_map.1 hx
  rfl
 ·refine Gh.rH (b:=nl1) (t:=46) (e:=1) (pre:=[]) (post:=[]) 3 1 ?_ fun q hq=>?_
  ·simp[St.minus,St.set,St.none,d1]
  ·have q1:q≠nl1:=fun e=>by subst e;simp[St.minus,St.set,St.none,d1] at hq
   refine .of (.less ?_ (σ1:=(St.none.set nl1 (.row 46 1 [[.vec 1 q 0 0]])).set q (.row 3 1 [])) (le2 (by simp[St.set,q1,Ne.symm q1]) (by simp[St.set]))) ⟨rfl,(q,[]),rfl,q1⟩
   simp(maxSteps:=4000000) (disch:=first|exact ddL|fail) only[go_sem,simprocAttr,aC,aB]
 ·rintro j x ⟨q,ex⟩ hx q1
  simp only at q1 ⊢
  have hjl:j<(bJ s).length:=by
   have:=(List.getElem?_eq_some_iff.1 hx).1
   simpa[cW] using this
  have hxe:x=[.int .i64 (((bJ s).getD j 0:Nat):Int)]:=by
   rw[List.getElem?_map,List.getElem?_eq_getElem hjl,←bH 0 hjl] at hx
   exact(Option.some.inj hx).symm
  subst hxe
  have hsn:=F5 hjl
  obtain⟨d,hd⟩:∃d,(bJ s).getD j 0=d:=⟨_,rfl⟩
  rw[hd] at hsn ⊢
  have hlj:(cW ((bJ s).take j)).length=j:=by rw[List.length_map,List.length_take];omega
  obtain⟨pre,hpre⟩:∃pre,cW ((bJ s).take j)=pre:=⟨_,rfl⟩
  rw[hpre] at hsn hlj ⊢
  change mwp _ _ (FR.mk 13 [(7,.int .i64 (d:Int)),(2,.ptr nl1 0 0)] []) _ _
  have q2:=Ne.symm q1
  have htk:(pre++ex).take j=pre:=by rw[←hlj,List.take_left'];rfl
  have hdr:(pre++ex).drop (j+1)=ex.drop 1:=by
   rw[←List.drop_drop,←hlj,List.drop_left'];rfl
  refine iR ?_
  repeat' (first|(with_reducible first|(refine wT ?_;(first|((fail_if_success (have:=nl1));refine wN fun nl1 hnl=>?_)|((fail_if_success (have:=nl2));refine wN fun nl2 hnl=>?_)|((fail_if_success (have:=nl3));refine wN fun nl3 hnl=>?_)|refine wN fun _ hnl=>?_);revert hnl;(repeat refine wS fun _ _=>?_);intro hnl)|refine wE ?_|(refine wK ?_ ?_<;>intro h)|(refine wB ?_ ?_<;>intro h<;>simp only[h]))|simp(maxSteps:=4000000) (disch:=first|exact ddL|fail) only[go_sem,simprocAttr])
  refine fD (iR ?_)
  repeat' (first|(with_reducible first|(refine wT ?_;(first|((fail_if_success (have:=nl1));refine wN fun nl1 hnl=>?_)|((fail_if_success (have:=nl2));refine wN fun nl2 hnl=>?_)|((fail_if_success (have:=nl3));refine wN fun nl3 hnl=>?_)|refine wN fun _ hnl=>?_);revert hnl;(repeat refine wS fun _ _=>?_);intro hnl)|refine wE ?_|(refine wK ?_ ?_<;>intro h)|(refine wB ?_ ?_<;>intro h<;>simp only[h]))|simp(maxSteps:=4000000) (disch:=first|exact ddL|fail) only[go_sem,simprocAttr,htk,hdr])
  ·have hex:ex=[]:=List.eq_nil_of_length_eq_zero (by omega)
   subst hex
   clear h
   refine .of (.less (l1:=[]) (fun p hp=>by cases hp) (σ1:=(St.none.set nl1 (.row 46 1 [[.vec 1 nl3 0 (j+1)]])).set nl3 (.row 3 1 (cW ((bJ s).take (j+1))++[]))) (le2 (by simp[St.set, *]) (by simp[St.set, *]))) ⟨(nl3,[]),rfl,by assumption⟩
  ·refine .of (.less (l1:=[]) (fun p hp=>by cases hp) (σ1:=(St.none.set nl1 (.row 46 1 [[.vec 1 nl3 0 (j+1)]])).set nl3 (.row 3 1 (cW ((bJ s).take (j+1))++ex.drop 1))) (le2 (by simp[St.set, *]) (by simp[St.set, *]))) ⟨(nl3,ex.drop 1),rfl,by assumption⟩
 ·rintro⟨q,ex⟩ q1
  simp only at q1 ⊢
  have q2:=Ne.symm q1
  have hli:(cW (bJ s)).length=(bJ s).length:=List.length_map _
  rw[hli,List.take_length]
  show R _
  repeat' (first|(with_reducible first|(refine wT ?_;(first|((fail_if_success (have:=nl1));refine wN fun nl1 hnl=>?_)|((fail_if_success (have:=nl2));refine wN fun nl2 hnl=>?_)|((fail_if_success (have:=nl3));refine wN fun nl3 hnl=>?_)|refine wN fun _ hnl=>?_);revert hnl;(repeat refine wS fun _ _=>?_);intro hnl)|refine wE ?_|(refine wK ?_ ?_<;>intro h)|(refine wB ?_ ?_<;>intro h<;>simp only[h]))|simp(maxSteps:=4000000) (disch:=first|exact ddL|fail) only[go_sem,simprocAttr])
  exact N9 (aF _ _ _)
theorem vR(s:Nat)(hs:s<256)(l:Nat):aA Tryz.prog 139 [.fn (.func 181) [] [.ptr l 0 0]] (St.none.set l (.row 28 1 [[.int .u32 (s:Int)]])) (fun r _=>r=.lst 1 (cW (bJ s)) false):=by
 refine(aA.body 5 [.tmp 2] Tryz.func139 rfl rfl rfl rfl ?_)
 have h:=zP s hs l
 repeat' (first|(with_reducible first|(refine wN fun _ hnl=>?_;revert hnl;(repeat refine wS fun _ _=>?_);intro hnl)|refine wE ?_|(refine wK ?_ ?_<;>intro h)|(refine wB ?_ ?_<;>intro h<;>simp only[h]))|simp(maxSteps:=4000000) (disch:=first|exact ddL|fail) only[go_sem,simprocAttr,Tryz.f139])
 refine cA h (St.le_refl _) ?_
 rintro v σ' rfl -
 repeat' (first|(with_reducible first|(refine wN fun _ hnl=>?_;revert hnl;(repeat refine wS fun _ _=>?_);intro hnl)|refine wE ?_|(refine wK ?_ ?_<;>intro h)|(refine wB ?_ ?_<;>intro h<;>simp only[h]))|simp(maxSteps:=4000000) (disch:=first|exact ddL|fail) only[go_sem,simprocAttr])
theorem pB(m:UInt32):aA Tryz.prog 98 [.int .u32 (m.toNat:Int)] St.none (fun r _=>r=.lst 1 (cW (bJ m.toNat)) false):=by
 refine(aA.body 7 [.tmp 2] Tryz.func98 rfl rfl rfl rfl ?_)
 have ha:kM .u32 (m.toNat:Int) 255=_:=Am m.toNat 255 m.toNat_lt (by decide)
 have hlt:m.toNat &&& 255<256:=Nat.lt_of_le_of_lt Nat.and_le_right (by decide)
 have hb:=Fv m.toNat
 obtain⟨s,hs⟩:∃s,m.toNat &&& 255=s:=⟨_,rfl⟩
 rw[hs] at ha hlt hb
 have he:aA Tryz.prog 140 [.int .u32 (s:Int)] St.none (fun v σ'=>∃l,v=.fn (.func 181) [] [.ptr l 0 0]∧σ'=St.none.set l (.row 28 1 [[.int .u32 (s:Int)]])):=by
  refine(aA.body 4 [.tmp 2] Tryz.func140 rfl rfl rfl rfl ?_)
  repeat' (first|(with_reducible first|(refine wN fun _ hnl=>?_;revert hnl;(repeat refine wS fun _ _=>?_);intro hnl)|refine wE ?_|(refine wK ?_ ?_<;>intro h)|(refine wB ?_ ?_<;>intro h<;>simp only[h]))|simp(maxSteps:=4000000) (disch:=first|exact ddL|fail) only[go_sem,simprocAttr,Tryz.f140])
  exact⟨_,rfl,rfl⟩
 repeat' (first|(with_reducible first|(refine wN fun _ hnl=>?_;revert hnl;(repeat refine wS fun _ _=>?_);intro hnl)|refine wE ?_|(refine wK ?_ ?_<;>intro h)|(refine wB ?_ ?_<;>intro h<;>simp only[h]))|simp(maxSteps:=4000000) (disch:=first|exact ddL|fail) only[go_sem,simprocAttr,Tryz.f98,ha])
 refine lH he fun l hl=>?_
 repeat' (first|(with_reducible first|(refine wN fun _ hnl=>?_;revert hnl;(repeat refine wS fun _ _=>?_);intro hnl)|refine wE ?_|(refine wK ?_ ?_<;>intro h)|(refine wB ?_ ?_<;>intro h<;>simp only[h]))|simp(maxSteps:=4000000) (disch:=first|exact ddL|fail) only[go_sem,simprocAttr])
 have h:=vR s hlt l
 refine cA h (St.le_refl _) ?_
 rintro v σ' rfl -
 repeat' (first|(with_reducible first|(refine wN fun _ hnl=>?_;revert hnl;(repeat refine wS fun _ _=>?_);intro hnl)|refine wE ?_|(refine wK ?_ ?_<;>intro h)|(refine wB ?_ ?_<;>intro h<;>simp only[h]))|simp(maxSteps:=4000000) (disch:=first|exact ddL|fail) only[go_sem,simprocAttr])
 rw[hb]
end

section
set_option maxRecDepth 100000
set_option maxHeartbeats 4000000
theorem vT(x:ND):aA Tryz.prog 85 [.agg x.c] St.none (fun r _=>r=.bool (!eH x)):=by
 refine aA.cI (aA.body 6 [.tmp 2] Tryz.func85 rfl rfl rfl rfl ?_)
 have h:=D7 x
 repeat' (first|(with_reducible first|refine up h ?_)|(with_reducible first|(refine wN fun _ hnl=>?_;revert hnl;(repeat refine wS fun _ _=>?_);intro hnl)|refine wE ?_|(refine wK ?_ ?_<;>intro h)|(refine wB ?_ ?_<;>intro h<;>simp only[h]))|simp(maxSteps:=4000000) (disch:=first|exact ddL|fail) only[go_sem,simprocAttr,Tryz.f85])
 all_goals first|exact⟨_,St.le_refl _,rfl⟩|exact⟨_,St.le_refl _⟩
theorem pE(l:List ND)(hl:l.length≤1000000)(t:Bool):aA Tryz.prog 44 [.lst 5 (l.map ND.c) t] St.none (fun r _=>r=.int .i64 (bI l)):=by
 refine(aA.body 25 [.tmp 2] Tryz.func44 rfl rfl rfl rfl ?_)
 have hc:=u9 (fun x=>!eH x) 85 l hl t (fun x _=>vT x)
 have hd:=BN l hl t
 have he:=xR l hl t 0
 have hall:(l.any fun x=>!eH x)=!l.all eH:=by
  rw[Bool.eq_iff_iff]
  simp
 rw[hall] at hc
 have hlen:l.length=0↔l=[]:=List.length_eq_zero_iff
 obtain⟨al,hal⟩:∃b,l.all eH=b:=⟨_,rfl⟩
 obtain⟨dd,hdd⟩:∃d,fT l=d:=⟨_,rfl⟩
 obtain⟨ee,hee⟩:∃d,fQ l 0=d:=⟨_,rfl⟩
 have e:bI l=if 31<l.length then 4 else if l.length=0∨ee≠l.length∨al=false then 1 else if 8<dd then 5 else 0:=by
  unfold bI;rw[hal,hdd,hee];simp only[hlen]
 rw[e]
 rw[hal] at hc
 rw[hdd] at hd
 rw[hee] at he
 clear e hlen hall hal hdd hee
 by_cases h31:31<l.length
 ·rw[if_pos h31]
  repeat' (first|(with_reducible first|(refine wN fun _ hnl=>?_;revert hnl;(repeat refine wS fun _ _=>?_);intro hnl)|refine wE ?_|(refine wK ?_ ?_<;>intro h)|(refine wB ?_ ?_<;>intro h<;>simp only[h]))|simp(maxSteps:=4000000) (disch:=first|exact ddL|fail) only[go_sem,simprocAttr,Tryz.f44])
 ·rw[if_neg h31]
  by_cases h0:l.length=0
  ·rw[if_pos (.inl h0)]
   repeat' (first|(with_reducible first|refine up he ?_)|(with_reducible first|(refine wN fun _ hnl=>?_;revert hnl;(repeat refine wS fun _ _=>?_);intro hnl)|refine wE ?_|(refine wK ?_ ?_<;>intro h)|(refine wB ?_ ?_<;>intro h<;>simp only[h]))|simp(maxSteps:=4000000) (disch:=first|exact ddL|fail) only[go_sem,simprocAttr,Tryz.f44])
  ·by_cases h1:ee=l.length
   ·subst h1
    cases al
    ·rw[if_pos (.inr (.inr rfl))]
     repeat' (first|(with_reducible first|refine up he ?_|refine up hc ?_)|(with_reducible first|(refine wN fun _ hnl=>?_;revert hnl;(repeat refine wS fun _ _=>?_);intro hnl)|refine wE ?_|(refine wK ?_ ?_<;>intro h)|(refine wB ?_ ?_<;>intro h<;>simp only[h]))|simp(maxSteps:=4000000) (disch:=first|exact ddL|fail) only[go_sem,simprocAttr,Tryz.f44])
    ·rw[if_neg (by simp[h0])]
     by_cases h8:8<dd
     ·rw[if_pos h8]
      repeat' (first|(with_reducible first|refine up he ?_|refine up hc ?_|refine up hd ?_)|(with_reducible first|(refine wN fun _ hnl=>?_;revert hnl;(repeat refine wS fun _ _=>?_);intro hnl)|refine wE ?_|(refine wK ?_ ?_<;>intro h)|(refine wB ?_ ?_<;>intro h<;>simp only[h]))|simp(maxSteps:=4000000) (disch:=first|exact ddL|fail) only[go_sem,simprocAttr,Tryz.f44])
     ·rw[if_neg h8]
      repeat' (first|(with_reducible first|refine up he ?_|refine up hc ?_|refine up hd ?_)|(with_reducible first|(refine wN fun _ hnl=>?_;revert hnl;(repeat refine wS fun _ _=>?_);intro hnl)|refine wE ?_|(refine wK ?_ ?_<;>intro h)|(refine wB ?_ ?_<;>intro h<;>simp only[h]))|simp(maxSteps:=4000000) (disch:=first|exact ddL|fail) only[go_sem,simprocAttr,Tryz.f44])
   ·rw[if_pos (.inr (.inl h1))]
    repeat' (first|(with_reducible first|refine up he ?_)|(with_reducible first|(refine wN fun _ hnl=>?_;revert hnl;(repeat refine wS fun _ _=>?_);intro hnl)|refine wE ?_|(refine wK ?_ ?_<;>intro h)|(refine wB ?_ ?_<;>intro h<;>simp only[h]))|simp(maxSteps:=4000000) (disch:=first|exact ddL|fail) only[go_sem,simprocAttr,Tryz.f44])
end

section
set_option maxRecDepth 100000
set_option maxHeartbeats 4000000
def fnG:List (FuncId × (List MV→MV))→b9
 | []=>fun _ _=>none
 | p::r=>fun g ms=>if p.1=g then some ⟨[],fun v=>v=p.2 ms,none⟩ else fnG r g ms
theorem ER{g:FuncId}{u:List MV→MV}{r:List (FuncId × (List MV→MV))}{ms:List MV}{x:MV}(h:u ms=x):fnG ((g,u)::r) g ms=some ⟨[],fun v=>v=x,none⟩:=by
 subst h
 simp[fnG]
theorem Im{g g':FuncId}{u:List MV→MV}{r:List (FuncId × (List MV→MV))}{ms:List MV}{F:Fact}(hne:(g'==g)=false)(h:fnG r g ms=some F):fnG ((g',u)::r) g ms=some F:=by
 have:g'≠g:=by simpa using hne
 simp[fnG,this,h]
theorem extract_eq(A B:ByteArray)(i:Nat):A.extract i (i+B.size)=B↔(A.data.toList.drop i).take B.size=B.data.toList:=by
 have e:(A.extract i (i+B.size)).data.toList=(A.data.toList.drop i).take B.size:=by
  simp[ByteArray.data_extract,Array.toList_extract,List.extract_eq_take_drop]
 constructor
 ·intro h
  rw[←e,h]
 ·intro h
  rw[←e] at h
  exact ByteArray.ext (Array.toList_inj.1 h)
theorem tQ(A B:ByteArray):tP A B=Go.Lib.contains A.data.toList B.data.toList:=by
 have hla:A.data.toList.length=A.size:=by rw[Array.length_toList];rfl
 have hlb:B.data.toList.length=B.size:=by rw[Array.length_toList];rfl
 have hocc:∀i,Go.Lib.occAt A.data.toList B.data.toList i=true↔(A.data.toList.drop i).take B.size=B.data.toList:=fun i=>by
  unfold Go.Lib.occAt
  rw[List.isPrefixOf_iff_prefix,List.prefix_iff_eq_take,hlb]
  exact eq_comm
 rw[Bool.eq_iff_iff]
 unfold tP Go.Lib.contains
 rw[List.any_eq_true,decide_eq_true_iff]
 constructor
 ·rintro⟨i,hi,h⟩
  have hi:=List.mem_range.1 hi
  have h:=(extract_eq A B i).1 (of_decide_eq_true h)
  rcases Go.Lib.index_spec A.data.toList B.data.toList with⟨_,h2⟩|⟨j,h1,_⟩
  ·have:=h2 i (by omega)
   rw[(hocc i).2 h] at this
   cases this
  ·omega
 ·intro h
  rcases Go.Lib.index_spec A.data.toList B.data.toList with⟨h1,_⟩|⟨j,h1,h2,h3,_⟩
  ·omega
  ·have h4:=(hocc j).1 h3
   have h5:=congrArg List.length h4
   rw[List.length_take,List.length_drop,hla,hlb] at h5
   refine⟨j,List.mem_range.2 (by omega),decide_eq_true ((extract_eq A B j).2 h4)⟩
theorem BR(a b:VA)(ha:a.s.size≤1000000)(hb:b.s.size≤1000000):aA Tryz.prog 173 [.agg a.c,.agg b.c] St.none (fun r _=>r=.bool (nY a b)):=by
 refine aA.cI (aA.body 22 [.tmp 4] Tryz.func173 rfl rfl rfl rfl ?_)
 have f1:=tV a.s ha
 have f2:=tV b.s hb
 have hc:=qP (gK a.s) (gK b.s) (by rw[CZ];exact ha)
 rw[←tQ] at hc
 have hd:nY a b=(decide (a.kd=2)&&decide (b.kd=2)&&tP (gK a.s) (gK b.s)):=rfl
 obtain⟨C,c1,c2⟩:∃C:b9,(∀s,C 198 [.str s]=some ⟨[],fun v=>v=.str (gK s),none⟩)∧(∀ms,C 197 ms=some ⟨[],fun v=>v=.bool (tP (gK a.s) (gK b.s)),none⟩) :=
  ⟨fnG [(198,fun ms=>match ms with|[.str s]=>.str (gK s)|_=>.junk),(197,fun _=>.bool (tP (gK a.s) (gK b.s)))],fun s=>ER rfl,fun _=>Im rfl (ER rfl)⟩
 have c1a:=c1 a.s
 have c1b:=c1 b.s
 clear c1
 generalize tP (gK a.s) (gK b.s)=p at hc hd c2
 generalize nY a b=out at hd ⊢
 by_cases e1:a.kd=2
 ·by_cases e2:b.kd=2
  ·rw[decide_eq_true e1,decide_eq_true e2,Bool.true_and,Bool.true_and] at hd
   subst hd
   repeat' (first|((with_reducible refine aZ mixed ?chk C ?_);(case chk=>decide +kernel))|(with_reducible refine aW c1a f1 ?_)|(with_reducible refine aW c1b f2 ?_)|(with_reducible refine aW (c2 _) hc ?_)|(with_reducible first|(refine wN fun _ hnl=>?_;revert hnl;(repeat refine wS fun _ _=>?_);intro hnl)|refine wE ?_|(refine wK ?_ ?_<;>intro h)|(refine wB ?_ ?_<;>intro h<;>simp only[h]))|simp(maxSteps:=4000000) (disch:=first|exact ddL|fail) only[go_sem,simprocAttr,Tryz.f173,e1,e2])
   all_goals first|exact⟨_,St.le_refl _,rfl⟩|exact⟨_,St.le_refl _⟩
  ·rw[decide_eq_false e2,Bool.and_false,Bool.false_and] at hd
   subst hd
   repeat' (first|((with_reducible refine aZ mixed ?chk C ?_);(case chk=>decide +kernel))|(with_reducible refine aW c1a f1 ?_)|(with_reducible refine aW c1b f2 ?_)|(with_reducible refine aW (c2 _) hc ?_)|(with_reducible first|(refine wN fun _ hnl=>?_;revert hnl;(repeat refine wS fun _ _=>?_);intro hnl)|refine wE ?_|(refine wK ?_ ?_<;>intro h)|(refine wB ?_ ?_<;>intro h<;>simp only[h]))|simp(maxSteps:=4000000) (disch:=first|exact ddL|fail) only[go_sem,simprocAttr,Tryz.f173,e1,e2])
   all_goals first|exact⟨_,St.le_refl _,rfl⟩|exact⟨_,St.le_refl _⟩
 ·rw[decide_eq_false e1,Bool.false_and,Bool.false_and] at hd
  subst hd
  repeat' (first|((with_reducible refine aZ mixed ?chk C ?_);(case chk=>decide +kernel))|(with_reducible refine aW c1a f1 ?_)|(with_reducible refine aW c1b f2 ?_)|(with_reducible refine aW (c2 _) hc ?_)|(with_reducible first|(refine wN fun _ hnl=>?_;revert hnl;(repeat refine wS fun _ _=>?_);intro hnl)|refine wE ?_|(refine wK ?_ ?_<;>intro h)|(refine wB ?_ ?_<;>intro h<;>simp only[h]))|simp(maxSteps:=4000000) (disch:=first|exact ddL|fail) only[go_sem,simprocAttr,Tryz.f173,e1])
  all_goals first|exact⟨_,St.le_refl _,rfl⟩|exact⟨_,St.le_refl _⟩
end

section
set_option maxRecDepth 100000
set_option maxHeartbeats 4000000
theorem pQ{P:Program}{g:FuncId}{ms:List MV}{σ:St}{om:aV}{ol:Nat→aV}{u:Nat→Nat→MV}{k:MV→St→Prop}(h:aA P g ms St.none fun v σ'=>∃m l,l≠m∧v=u l m∧σ'=(St.none.set m om).set l (ol m))
 (hk:∀m l,σ m=none→σ l=none→l≠m→R (bR (u l m) ((σ.set m om).set l (ol m)) k)):R (cX P g ms σ k) :=
 cA h (St.none_le σ) fun v σ' hv hf=>by
  obtain⟨m,l,hne,rfl,rfl⟩:=hv
  rw[gS,bU,bU,dS]
  refine hk m l ?_ ?_ hne
  ·rcases hf m om ((aG _ _ _ _ (Ne.symm hne)).trans (aF _ _ _)) with h|⟨o',h⟩
   ·exact h
   ·simp[St.none] at h
  ·rcases hf l _ (aF _ _ _) with h|⟨o',h⟩
   ·exact h
   ·simp[St.none] at h
theorem aA.Fi{P:Program}{g:FuncId}{ms:List MV}{σ τ:St}{X:MV}(h:aA P g ms σ fun v σ'=>∃σv:St,σv.le σ'∧τ.le σ'∧(∀k o,τ k=some o→σv k=none)∧View σv v X):aA P g ms σ fun v σ'=>v=X∧σ'=τ :=
 aA.ghost (h.mono fun v σ' ⟨σv,h1,h2,h3,h4⟩=>⟨X,τ,bD.freeze σv h1 h2 h3 (fun p hp=>by
  simp at hp
  subst hp
  simpa[bY] using h4),rfl,rfl⟩)
theorem JZ{τ:St}{q:Nat}{t:TypeId}{e n:Nat}{xs ex:List (List MV)}(hq:τ q=none)(hn:n=xs.length):∃σv:St,σv.le (τ.set q (.row t e (xs++ex)))∧τ.le (τ.set q (.row t e (xs++ex)))∧(∀k o,τ k=some o→σv k=none)∧View σv (.vec e q 0 n) (.lst e xs false) :=
 ⟨St.none.set q (.row t e (xs++ex)),St.aD (St.none_le _) (aF _ _ _),fun j o h=>(aG _ _ _ _ (fun h1=>by subst h1;rw[hq] at h;cases h)).trans h,fun j o h=>aG _ _ _ _ (fun h1=>by subst h1;rw[hq] at h;cases h),by
  have:=View.vec (σ:=St.none.set q (.row t e (xs++ex))) (lo:=0) (n:=n) (aF _ _ _) (by rw[List.length_append];omega)
  rwa [List.drop_zero,hn,List.take_append_of_le_length (Nat.le_refl _),List.take_length,←hn] at this⟩
theorem EY{A:St}{a b:Nat}{x y:aV}(ha:A a=none):(A.set b y).le ((A.set a x).set b y):=fun j o h=>by
 simp only[St.set] at h ⊢
 split
 ·rename_i e;rw[if_pos e] at h;exact h
 ·rename_i e
  rw[if_neg e] at h
  rw[if_neg (fun e=>by subst e;rw[ha] at h;cases h)]
  exact h
theorem sV{σ:St}{a:Nat}{x:aV}(ha:σ a=none):σ.le (σ.set a x):=fun j o h=>(aG _ _ _ _ (fun e=>by subst e;rw[ha] at h;cases h)).trans h
theorem eL{σ:St}{l k:Nat}{o:aV}(h:(σ.set l o) k=none):k≠l∧σ k=none:=by
 have e:k≠l:=fun e=>by subst e;simp[St.set] at h
 exact⟨e,by simpa[St.set,e] using h⟩
abbrev shO(next:Int)(m:Nat)(dead:MV):aV:=.row 145 3 [[.int .i64 next,.mapv m,dead]]
abbrev bV(seq:Int)(l:Nat)(groups:MV):aV:=.row 92 3 [[.int .i64 seq,.ptr l 0 0,groups]]
theorem uI:aA Tryz.prog 70 [] St.none (fun v σ'=>∃m l,l≠m∧v=.ptr l 0 0∧σ'=(St.none.set m (.mp [])).set l (shO 1 m .bC)):=by
 refine(aA.body 4 [.tmp 0] Tryz.func70 rfl rfl rfl rfl ?_)
 repeat' (first|(with_reducible first|(refine wN fun _ hnl=>?_;revert hnl;(repeat refine wS fun _ _=>?_);intro hnl)|refine wE ?_|(refine wK ?_ ?_<;>intro h)|(refine wB ?_ ?_<;>intro h<;>simp only[h]))|simp(maxSteps:=4000000) (disch:=first|exact ddL|fail) only[go_sem,simprocAttr,Tryz.f70])
 all_goals exact⟨_,_,by assumption,rfl,rfl⟩
theorem Cv:aA Tryz.prog 38 [] St.none (fun v σ'=>∃m l b,l≠m∧b≠m∧b≠l∧v=.ptr b 0 0∧σ'=((St.none.set m (.mp [])).set l (shO 1 m .bC)).set b (bV 0 l .bC)):=by
 refine(aA.body 4 [.tmp 0] Tryz.func38 rfl rfl rfl rfl ?_)
 repeat' (first|(refine pQ uI ?_;intro m l hm hl hlm)|(with_reducible first|(refine wN fun _ hnl=>?_;revert hnl;(repeat refine wS fun _ _=>?_);intro hnl)|refine wE ?_|(refine wK ?_ ?_<;>intro h)|(refine wB ?_ ?_<;>intro h<;>simp only[h]))|simp(maxSteps:=4000000) (disch:=first|exact ddL|fail) only[go_sem,simprocAttr,Tryz.f38])
 all_goals exact⟨_,_,_,by assumption,by assumption,by assumption,rfl,rfl⟩
theorem Dd(m:Nat):aA Tryz.prog 179 [.mapv m] St.none (fun v σ'=>∃l,v=.fn (.func 202) [] [.ptr l 0 0]∧σ'=St.none.set l (.row 143 1 [[.mapv m]])):=by
 refine(aA.body 4 [.tmp 2] Tryz.func179 rfl rfl rfl rfl ?_)
 repeat' (first|(with_reducible first|(refine wN fun _ hnl=>?_;revert hnl;(repeat refine wS fun _ _=>?_);intro hnl)|refine wE ?_|(refine wK ?_ ?_<;>intro h)|(refine wB ?_ ?_<;>intro h<;>simp only[h]))|simp(maxSteps:=4000000) (disch:=first|exact ddL|fail) only[go_sem,simprocAttr,Tryz.f179])
 all_goals exact⟨_,rfl,rfl⟩
end

section
set_option maxRecDepth 100000
set_option maxHeartbeats 4000000
def cEs(cs:List CA):List (MV × MV):=cs.map fun c=>(.int .i64 c.id,.agg c.c)
def HX(cs:List CA):Prop:=cs.Pairwise (fun a b=>a.id<b.id)∧(∀c,c∈cs→0≤c.id∧c.id≤1073741824)∧cs.length≤1000000
theorem xB(cs:List CA):gL (cEs cs)=cs.map CA.id:=by
 simp[gL,cEs,ME]
theorem oY(cs:List CA):((cEs cs).all fun p=>isK .i64 p.1)=true:=by
 simp[cEs,isK]
theorem Ko{n:Int}(h:0≤n∧n≤1099511627776):(Lit.int .i64 n).wf=true:=by
 simp[Lit.wf,IntKind.min,IntKind.signed,IntKind.bits]
 omega
theorem Ch{cs:List CA}(h:cs.Pairwise (fun a b=>a.id<b.id)){ns:List Int}(hp:ns.Perm (cs.map CA.id))(hs:ns.Pairwise (fun a b=>a≤b)):ns=cs.map CA.id :=
 List.Perm.eq_of_pairwise (le:=fun a b:Int=>a≤b) (fun a b _ _ h1 h2=>Int.le_antisymm h1 h2) hs ((List.pairwise_map.2 (h.imp fun h=>Int.le_of_lt h))) hp
theorem Ac{l m:Nat}{cs:List CA}(hne:l≠m)(hc:HX cs) :
  aA Tryz.prog 178 [.fn (.func 202) [] [.ptr l 0 0]] ((St.none.set l (.row 143 1 [[.mapv m]])).set m (.mp (cEs cs))) fun r σ' =>
   r=.lst 1 (cs.map fun c=>[.int .i64 c.id]) false∧σ'=(St.none.set l (.row 143 1 [[.mapv m]])).set m (.mp (cEs cs)):=by
 refine(Ab hne (oY cs) (fun n hn=>?_) (by simp[cEs];exact hc.2.2)).mono fun r σ' h=>?_
 ·rw[xB] at hn
  obtain⟨c,h1,rfl⟩:=List.mem_map.1 hn
  have:=hc.2.1 c h1
  exact Ko (by omega)
 ·obtain⟨⟨ns,h1,h2,rfl⟩,rfl⟩:=h
  rw[xB] at h1
  rw[Ch hc.1 h1 h2]
  simp
theorem Iw{cs:List CA}(h:cs.Pairwise (fun a b=>a.id<b.id)){i:Nat}{c:CA}(hi:cs[i]?=some c):eQ c.id (cEs cs)=some (.agg c.c):=by
 induction cs generalizing i with
 | nil=>simp at hi
 | cons d r ih =>
  obtain⟨h1,h2⟩:=List.pairwise_cons.1 h
  cases i with
  | zero =>
   simp at hi
   subst hi
   simp[cEs,eQ]
  | succ i =>
   have hi:r[i]?=some c:=by simpa using hi
   have:=h1 c (List.mem_of_getElem? hi)
   have h3:eQ c.id (cEs (d::r))=eQ c.id (cEs r):=by
    simp only[cEs,List.map_cons,eQ]
    rw[if_neg (by omega)]
   rw[h3]
   exact ih h2 hi
theorem z8(next:Int)(l m:Nat)(dead:MV)(cs:List CA)(hlm:l≠m)(hc:HX cs):aA Tryz.prog 138 [.ptr l 0 0] ((St.none.set m (.mp (cEs cs))).set l (shO next m dead)) (fun v σ'=>v=.lst 27 (cs.map CA.c) false∧σ'=(St.none.set m (.mp (cEs cs))).set l (shO next m dead)):=by
 refine aA.Fi (aA.body 30 [.tmp 2] Tryz.func138 rfl rfl rfl rfl ?_)
 have hk:=Dd m
 obtain⟨K,hK⟩:∃K:List (List MV),(cs.map fun c=>[MV.int .i64 c.id])=K:=⟨_,rfl⟩
 have hkl:K.length=cs.length:=by rw[←hK];simp
 have hnone:∀{b:Nat},(St.none.set m (.mp (cEs cs))).set l (shO next m dead) b=none→b≠m∧b≠l:=fun {b} hb =>
  ⟨fun e=>by subst e;simp[St.set,Ne.symm hlm] at hb,fun e=>by subst e;simp[St.set] at hb⟩
 have hs:∀{b:Nat},(St.none.set m (.mp (cEs cs))).set l (shO next m dead) b=none→aA Tryz.prog 178 [.fn (.func 202) [] [.ptr b 0 0]] ((St.none.set b (.row 143 1 [[.mapv m]])).set m (.mp (cEs cs))) fun r σ' =>
   r=.lst 1 K false∧σ'=(St.none.set b (.row 143 1 [[.mapv m]])).set m (.mp (cEs cs)):=fun {b} hb=>by rw[←hK];exact Ac (hnone hb).1 hc
 have hle:∀{b:Nat},(St.none.set m (.mp (cEs cs))).set l (shO next m dead) b=none→((St.none.set b (.row 143 1 [[.mapv m]])).set m (.mp (cEs cs))).le (((St.none.set m (.mp (cEs cs))).set l (shO next m dead)).set b (.row 143 1 [[.mapv m]])):=fun {b} hb =>
  le2 (aF _ _ _) ((aG _ _ _ _ (Ne.symm (hnone hb).1)).trans ((aG _ _ _ _ (Ne.symm hlm)).trans (aF _ _ _)))
 have hlen:=hc.2.2
 repeat' (first|(refine lH hk ?_;intro b hb)|((refine iK (hs (by assumption)) (hle (by assumption)) ?_))|(with_reducible first|(refine wT ?_;(first|((fail_if_success (have:=nl1));refine wN fun nl1 hnl=>?_)|((fail_if_success (have:=nl2));refine wN fun nl2 hnl=>?_)|refine wN fun _ hnl=>?_);revert hnl;(repeat refine wS fun _ _=>?_);intro hnl)|refine wE ?_|(refine wK ?_ ?_<;>intro h)|(refine wB ?_ ?_<;>intro h<;>simp only[h]))|simp(maxSteps:=4000000) (disch:=first|exact ddL|fail) only[go_sem,simprocAttr,Tryz.f138,hkl])
 refine aH (α:=Nat × Nat × List (List MV)) (fun a=>⟨30,[(15,.int .i64 (a.1:Int)),(14,.int .i64 (cs.length:Int)),(13,.lst 1 K false),(3,.vec 27 a.2.1 0 a.1),(0,.ptr l 0 0)],[]⟩)
  (fun a=>((St.none.set m (.mp (cEs cs))).set l (shO next m dead)).set a.2.1 (.row 42 27 ((cs.take a.1).map CA.c++a.2.2))) (fun a=>a.1≤cs.length∧a.2.1≠m∧a.2.1≠l) (fun a=>cs.length - a.1) ?_ ?_
 ·refine Gh.step (.drop (σ1:=(St.none.set m (.mp (cEs cs))).set l (shO next m dead)) fun j o h=>?_) (Gh.qJ 42 27 (fun q=>[(15,.int .i64 0),(14,.int .i64 (cs.length:Int)),(13,.lst 1 K false),(3,.vec 27 q 0 0),(0,.ptr l 0 0)]) (fun k=>by(repeat' (refine And.intro ?_ ?_))<;>first|exact trivial|exact .inl rfl|exact .inr ⟨rfl,.inl rfl⟩|exact .inr ⟨rfl,.inr rfl⟩) fun q hq=>?_)
  ·exact(aG _ _ _ _ (fun e=>by subst e;rw[hb] at h;cases h)).trans h
  ·obtain⟨q2,hq⟩:=eL hq
   obtain⟨q1,-⟩:=eL hq
   exact .done ⟨(0,q,[]),rfl,rfl,Nat.zero_le _,q1,q2⟩
 ·rintro⟨k,q,ex⟩ ⟨hk,q1,q2⟩
  simp only at hk q1 q2 ⊢
  have q1':=Ne.symm q1
  have q2':=Ne.symm q2
  have hml:=Ne.symm hlm
  by_cases h8:k<cs.length
  ·obtain⟨c,hck⟩:∃c,cs[k]?=some c:=⟨_,List.getElem?_eq_getElem h8⟩
   have hkk:K.getD k []=[.int .i64 c.id]:=by rw[←hK,List.getD_eq_getElem?_getD,List.getElem?_map,hck];rfl
   have hg:=Iw hc.1 hck
   have htake:cs.take (k+1)=cs.take k++[c]:=by rw[List.take_add_one,hck];rfl
   have hall:=oY cs
   have htl:(cs.take k).length=k:=by rw[List.length_take];omega
   obtain⟨L,hL⟩:∃L,cs.take k=L:=⟨_,rfl⟩
   rw[hL] at htl htake ⊢
   have htk:(L.map CA.c++ex).take k=L.map CA.c:=by rw[←htl];exact iP
   have hdr:(L.map CA.c++ex).drop (k+1)=ex.drop 1:=by rw[←htl];exact jF
   repeat' (first|(with_reducible first|(refine wT ?_;(first|((fail_if_success (have:=nl1));refine wN fun nl1 hnl=>?_)|((fail_if_success (have:=nl2));refine wN fun nl2 hnl=>?_)|refine wN fun _ hnl=>?_);revert hnl;(repeat refine wS fun _ _=>?_);intro hnl)|refine wE ?_|(refine wK ?_ ?_<;>intro h)|(refine wB ?_ ?_<;>intro h<;>simp only[h]))|simp(maxSteps:=4000000) (disch:=first|exact ddL|fail) only[go_sem,simprocAttr,Option.getD_some,FYs,hkk,hg,hall,htk,hdr,htl,hkl])
   ·have hex:ex=[]:=List.eq_nil_of_length_eq_zero (by omega)
    subst hex
    refine .of (.less ?_ (σ1:=((St.none.set m (.mp (cEs cs))).set l (shO next m dead)).set nl2 (.row 42 27 (L.map CA.c++[]++[c.c]))) (EY (by simp[St.set,St.none, *]))) ⟨(k+1,nl2,[]),rfl,by simp[htake],⟨by simp only;omega,by assumption,by assumption⟩,by simp only;omega⟩
    simp(maxSteps:=4000000) (disch:=first|exact ddL|fail) only[go_sem,simprocAttr,aC,aB]
    all_goals first|rfl|(simp;done)
   ·refine .of (.less ?_ (σ1:=((St.none.set m (.mp (cEs cs))).set l (shO next m dead)).set nl2 (.row 42 27 (L.map CA.c++[c.c]++ex.drop 1))) (EY (by simp[St.set,St.none, *]))) ⟨(k+1,nl2,ex.drop 1),rfl,by simp[htake],⟨by simp only;omega,by assumption,by assumption⟩,by simp only;omega⟩
    simp(maxSteps:=4000000) (disch:=first|exact ddL|fail) only[go_sem,simprocAttr,aC,aB]
    all_goals first|rfl|(simp;done)
  ·have:k=cs.length:=by omega
   subst this
   rw[List.take_length]
   repeat' (first|(with_reducible first|(refine wT ?_;(first|((fail_if_success (have:=nl1));refine wN fun nl1 hnl=>?_)|((fail_if_success (have:=nl2));refine wN fun nl2 hnl=>?_)|refine wN fun _ hnl=>?_);revert hnl;(repeat refine wS fun _ _=>?_);intro hnl)|refine wE ?_|(refine wK ?_ ?_<;>intro h)|(refine wB ?_ ?_<;>intro h<;>simp only[h]))|simp(maxSteps:=4000000) (disch:=first|exact ddL|fail) only[go_sem,simprocAttr,hkl])
   exact JZ ((aG _ _ _ _ q2).trans (aG _ _ _ _ q1)) (by rw[List.length_map])
end

section
set_option maxRecDepth 100000
set_option maxHeartbeats 4000000
def fnF:List (FuncId × Fact)→b9
 | []=>fun _ _=>none
 | (g',F)::r=>fun g ms=>if g=g' then some F else fnF r g ms
theorem gZ{g:FuncId}{F:Fact}{r:List (FuncId × Fact)}{ms:List MV}:fnF ((g,F)::r) g ms=some F:=by simp[fnF]
theorem AI{g g':FuncId}{F F':Fact}{r:List (FuncId × Fact)}{ms:List MV}(h:fnF r g ms=some F)(hne:(g==g')=false:=by rfl):fnF ((g',F')::r) g ms=some F:=by
 have:g≠g':=by simpa using hne
 simp[fnF,this,h]
theorem KW{P:Program}{C:b9}{g:FuncId}{ms:List MV}{σ:St}{k:MV→St→Prop}(rd:List Nat)(os:List aV){r:MV}(hC:C g ms=some ⟨rd,fun v=>v=r,none⟩)(hos:rd.map σ=os.map some)
 (h:aA P g ms (St.ofList rd os) fun v σ'=>v=r∧σ'=St.ofList rd os)(hk:R (bR r σ k)):R (qC P C g ms σ k) :=
 KV rd os hC hos h ⟨r,rfl⟩ fun v hv=>by subst hv;exact hk
end

section
set_option maxRecDepth 100000
set_option maxHeartbeats 4000000
theorem kQ{Φ:Phi}{w:World}{σ:St}(hi:Inv Φ w σ){l:Nat}{t:TypeId}{e o:Nat}{c0 m:MV}{x:List MV}(hs:σ l=some (.row t e [x]))(hx0:x[o]?=some c0)(hm:m.aP=true){v:Value}(hv:Rel Φ v m) :
  ∃p R v0,Φ.obj l=some p∧p.blk=some R∧w.cell? ⟨R,p.bo+o,none⟩=some v0∧Rel Φ v0 c0∧w.frozen? ⟨R,p.bo+o,none⟩=false ∧
   Inv Φ (w.setCell ⟨R,p.bo+o,none⟩ v) (σ.set l (.row t e [x.set o m]))∧Step Φ σ w Φ (σ.set l (.row t e [x.set o m])) (w.setCell ⟨R,p.bo+o,none⟩ v):=by
 obtain⟨p,hp,hpe,q1,q2,q3,q4⟩:=hi.own l _ hs
 have he:x.length=e:=q3 0 _ rfl
 have hol:o<x.length:=(List.getElem?_eq_some_iff.1 hx0).1
 simp only[List.length_cons,List.length_nil] at q1
 cases hb:p.blk with
 | none=>rw[hb] at q4;simp only at q4;omega
 | some R =>
  rw[hb] at q4
  obtain⟨c,fz,k1,k2,k3,k4⟩:=q4
  have hlt:R<w.heap.size:=(Array.getElem?_eq_some_iff.1 k1).1
  obtain⟨hc0,v0,hv0,hr0⟩:=k4 0 _ o c0 rfl hx0
  simp only[Nat.zero_mul,Nat.zero_add] at hv0
  have hbo:p.bo+o<c.size:=(Array.getElem?_eq_some_iff.1 hv0).1
  refine⟨p,R,v0,hp,hb,by simpa[World.cell?,k1] using hv0,hr0,?_,?_⟩
  ·obtain⟨f1,f2⟩:=fz
   simp only[World.frozen?,k1,Bool.and_eq_false_iff,decide_eq_false_iff_not]
   simp only at k2
   rcases k2 with k2|k2
   ·by_cases h:f1≤p.bo+o
    ·right;omega
    ·left;exact h
   ·left;omega
  ·rw[pK k1]
   refine hi.Ep l hs _ hp hb jC (fun k hk=>eP hk) rfl rfl rfl (Nat.le_refl _) ⟨p,hp,hpe,by simpa using q1,q2,fun i y hy=>?_,?_⟩
   ·match i with
    | 0=>simp only[List.getElem?_cons_zero,Option.some.injEq] at hy;subst hy;simpa using he
    | i+1=>simp at hy
   ·rw[hb]
    refine⟨_,fz,gW hlt,by simpa[xZ] using k2,by simpa using k3,fun i y j m' hy hm'=>?_⟩
    match i with
    | 0 =>
     simp only[List.getElem?_cons_zero,Option.some.injEq] at hy
     subst hy
     simp only[Nat.zero_mul,Nat.zero_add]
     rw[List.getElem?_set] at hm'
     by_cases hj:o=j
     ·subst hj
      rw[if_pos rfl,if_pos hol] at hm'
      cases hm'
      exact⟨hm,v,by simp[hbo],hv⟩
     ·rw[if_neg hj] at hm'
      have:=k4 0 _ j m' rfl hm'
      simp only[Nat.zero_mul,Nat.zero_add] at this
      rwa [Array.getElem?_setIfInBounds_ne (by omega)]
    | i+1=>simp at hy
theorem rZ{Φ:Phi}{vs:Array Value}{l i o:Nat}{r:List MV}(hr:fE Φ vs (.ptr l i o::r)):∃p R,Φ.obj l=some p∧p.blk=some R∧vs.getD 0 undef=.pointer (some ⟨R,p.bo+i * p.e+o,none⟩):=(hr.2 0 _ rfl).fZ
end

section
set_option maxRecDepth 100000
set_option maxHeartbeats 4000000
abbrev SA.v(s:SA)(q:Nat):List MV:=s.bk.c++[.lst 7 (s.subs.map SU.c) false,.vec 12 q 0 s.rows.length]
end

section
open Go.Shelf Go.RowKit Go.Lib
set_option maxRecDepth 100000
set_option maxHeartbeats 4000000
theorem jV{P:Program}{K e:Nat}{el:TypeId}{t tr:Bool}(hn:aA P K [.bC] St.none fun r _=>r=.bC)
 (hr:∀(a:Addr) (c:Nat) (w:World),Calls P K #[.slice (some a) 0 c] w fun e w'=>e=.returned (.slice (some ⟨w.heap.size,0,none⟩) 0 0)∧w'=w.alloc (.cells #[] el)):aA P K [.lst e [] t] St.none fun r _=>r=.lst e [] tr:=by
 refine⟨hn.1,fun Φ w vs hi hv=>?_⟩
 have h0:=hv.2 0 _ rfl
 have h1:vs=#[vs.getD 0 undef]:=by
  have hz:=hv.1
  refine Array.ext (by simpa using hz) fun i q1 q2=>?_
  have:i=0:=by simp at q2;omega
  subst this
  simp[Array.getD,q1]
 generalize vs.getD 0 undef=v at h0 h1
 subst h1
 cases h0 with
 | lstn =>
  refine(hn.2 Φ w _ hi ⟨rfl,fun i m hm=>?_⟩).mono ?_
  ·match i with
   | 0=>simp at hm;subst hm;exact .bC
   | i+1=>simp at hm
  ·rintro x w' ⟨v,mv,σ',Φ',rfl,r1,i1,s1,rfl⟩
   refine⟨v,_,σ',Φ',rfl,?_,i1,s1,rfl⟩
   cases r1
   exact .lstn _ _
 | lst0 a e c t ht hm =>
  refine(hr a c w).mono ?_
  rintro x w' ⟨rfl,rfl⟩
  obtain⟨i1,s1⟩:=hi.grow (w':=w.alloc (.cells #[] el)) rfl rfl rfl (Nat.le_refl _) (by simp) (fun k hk=>by
   show(w.heap.push _)[k]?=_
   rw[Array.getElem?_push,if_neg (by omega)])
  exact⟨_,_,_,Φ,rfl,.lst0 _ _ 0 _ (fun h=>rfl) (Nat.zero_le _),i1,s1,rfl⟩
 | lst hl h0=>simp at hl;omega
theorem CR(a:Addr)(c:Nat)(w:World):Calls Tryz.prog 45 #[.slice (some a) 0 c] w fun e w'=>e=.returned (.slice (some ⟨w.heap.size,0,none⟩) 0 0)∧w'=w.alloc (.cells #[] 84):=by
 have q22:∀(w:World) (a:Option Addr) (n c n' c':Nat),(binOp .eql 27 (.slice a n c) (.slice none n' c')).run Tryz.prog w=.ok (.bool a.isNone) w:=fun w a n c n' c'=>Lib.run_eql_slice_nil w _ _ a n c n' c' Tryz.underlying27
 have u22:∀w,Sem.run Tryz.prog (underlying 27) w=.ok (TypeDesc.slice 84) w:=run_underlying Tryz.underlying27
 go_enter Tryz.func45,Tryz.ntmps45
 go_wp2
 go_ret
 exact⟨rfl,rfl⟩
theorem Ax:aA Tryz.prog 45 [.bC] St.none (fun r _=>r=.bC):=by
 refine(aA.body 8 [.tmp 2] Tryz.func45 rfl rfl rfl rfl ?_)
 repeat' (first|(with_reducible first|(refine wN fun _ hnl=>?_;revert hnl;(repeat refine wS fun _ _=>?_);intro hnl)|refine wE ?_|(refine wK ?_ ?_<;>intro h)|(refine wB ?_ ?_<;>intro h<;>simp only[h]))|simp(maxSteps:=4000000) (disch:=first|exact ddL|fail) only[go_sem,simprocAttr,Tryz.f45])
theorem yE(e:Nat)(t:Bool):aA Tryz.prog 45 [.lst e [] t] St.none (fun r _=>r=.lst e [] false):=jV Ax CR
theorem sH(a:Addr)(c:Nat)(w:World):Calls Tryz.prog 43 #[.slice (some a) 0 c] w fun e w'=>e=.returned (.slice (some ⟨w.heap.size,0,none⟩) 0 0)∧w'=w.alloc (.cells #[] 3):=by
 have q22:∀(w:World) (a:Option Addr) (n c n' c':Nat),(binOp .eql 46 (.slice a n c) (.slice none n' c')).run Tryz.prog w=.ok (.bool a.isNone) w:=fun w a n c n' c'=>Lib.run_eql_slice_nil w _ _ a n c n' c' Tryz.underlying46
 have u22:∀w,Sem.run Tryz.prog (underlying 46) w=.ok (TypeDesc.slice 3) w:=run_underlying Tryz.underlying46
 go_enter Tryz.func43,Tryz.ntmps43
 go_wp2
 go_ret
 exact⟨rfl,rfl⟩
theorem qV:aA Tryz.prog 43 [.bC] St.none (fun r _=>r=.bC):=by
 refine(aA.body 8 [.tmp 2] Tryz.func43 rfl rfl rfl rfl ?_)
 repeat' (first|(with_reducible first|(refine wN fun _ hnl=>?_;revert hnl;(repeat refine wS fun _ _=>?_);intro hnl)|refine wE ?_|(refine wK ?_ ?_<;>intro h)|(refine wB ?_ ?_<;>intro h<;>simp only[h]))|simp(maxSteps:=4000000) (disch:=first|exact ddL|fail) only[go_sem,simprocAttr,Tryz.f43])
theorem yD(e:Nat)(t:Bool):aA Tryz.prog 43 [.lst e [] t] St.none (fun r _=>r=.lst e [] false):=jV qV sH
end
end Go.Proofs.YtaojijkdamfbnaaGreatDoor
