/- Parts of the proof, joined; conditions: those that its theorems name. -/
import Derived.Test.YtojmhmejdihaaaaGreatDoorStj
import Derived.Test.YtojmhmejdihaaaaGreatDoorStm
import Derived.Test.YtojmhmejdihaaaaGreatDoorStn
set_option linter.unusedVariables false
set_option linter.unusedSimpArgs false
set_option maxHeartbeats 4000000
namespace Go.Proofs.YtojmhmejdihaaaaGreatDoor
section
set_option maxRecDepth 100000
set_option maxHeartbeats 4000000
abbrev fL(L:List Nat):List (List MV):=L.map fun(i:Nat)=>[.int .i64 (i:Int)]
theorem IP(s:Nat)(hs:s<256)(l:Nat):DH Tryz.prog 330 [.ptr l 0 0] (St.none.set l (.row 39 1 [[.int .u32 (s:Int)]])) (fL (bU s)):=by
 refine DH.qL 14 Tryz.func330 rfl rfl rfl rfl fun C hC hspec=>?_
 have hxl:(fL (bU s)).length=(bU s).length:=by simp[fL]
 rw[hxl]
 refine jR (oD (DG (α:=Nat × Nat) (fun a=>⟨14,[(0,.fn (.yield C.l) [] []),(1,.ptr l 0 0)],[]⟩) (fun a=>St.none.set l (.row 39 1 [[.int .u32 (a.1:Int)]])) (fun a=>some a.2)
   (fun a=>a.1<256∧bU a.1=(bU s).drop a.2∧a.2≤(bU s).length) (fun a=>(bU a.1).length) ?_ ?_))
 ·refine .of (.less ?_ (St.le_refl _)) ⟨(s,0),rfl,rfl,rfl,hs,rfl,Nat.zero_le _⟩
  simp(maxSteps:=4000000) (disch:=first|exact ddL|fail) only[go_sem,simprocAttr,aC,aB]
 ·rintro⟨x,j⟩ ⟨hx,hj,hjl⟩
  simp only at hx hj hjl ⊢
  by_cases h0:x=0
  ·subst h0
   rw[G6] at hj
   have hjj:(bU s).length≤j:=by
    refine Classical.byContradiction fun h=>?_
    have:=congrArg List.length hj
    rw[List.length_drop] at this
    simp at this
    omega
   have hje:j=(bU s).length:=by omega
   refine hJ (kB ?_)
   repeat' (first|(with_reducible first|(refine wN fun _ hnl=>?_;revert hnl;(repeat refine wS fun _ _=>?_);intro hnl)|refine wE ?_|(refine wK ?_ ?_<;>intro h)|(refine wB ?_ ?_<;>intro h<;>simp only[h]))|simp(maxSteps:=4000000) (disch:=first|exact ddL|fail) only[go_sem,simprocAttr,Tryz.f330])
   refine .inl ?_
   rw[hje]
  ·have hlow:=uD x hx h0
   have hh:=BZ hx h0
   have hlt:j<(bU s).length:=by
    refine Classical.byContradiction fun h=>?_
    rw[List.drop_eq_nil_of_le (by omega)] at hj
    rw[hj] at hlow
    cases hlow
   have hdrop:=List.drop_eq_getElem_cons hlt
   rw[←hj,hlow] at hdrop
   obtain⟨hd1,hd2⟩:=List.cons.inj hdrop
   have hnext:x &&& (x - 1)<256:=Nat.lt_of_le_of_lt Nat.and_le_left hx
   have htz:=LA x (by omega) hx
   have ha:mE .u32 (x:Int) ((x:Int) - 1)=((x &&& (x - 1):Nat):Int):=by
    have:=F4 x (x - 1) (by omega) (by omega)
    rwa [show((x - 1:Nat):Int)=(x:Int) - 1 by omega] at this
   have hlen:(bU (x &&& (x - 1))).length<(bU x).length:=by
    conv=>rhs;rw[hlow]
    simp
   obtain⟨d,hde⟩:∃d,(bU x).headD 0=d:=⟨_,rfl⟩
   rw[hde] at htz hh hd1
   obtain⟨y,hy⟩:∃y,x &&& (x - 1)=y:=⟨_,rfl⟩
   rw[hy] at ha hnext hd2 hlen
   clear hlow hdrop hde
   refine hJ (kB ?_)
   repeat' (first|(with_reducible first|(refine wN fun _ hnl=>?_;revert hnl;(repeat refine wS fun _ _=>?_);intro hnl)|refine wE ?_|(refine wK ?_ ?_<;>intro h)|(refine wB ?_ ?_<;>intro h<;>simp only[h]))|simp(maxSteps:=4000000) (disch:=first|exact ddL|fail) only[go_sem,simprocAttr,Tryz.f330])
   refine jR (hJ (oD (hJ (JE (ops:=#[_,_,_,_,_]) [_,_,_] _ [_] rfl rfl rfl rfl rfl (x:=[.int .i64 (d:Int)]) (by
    rw[hC]
    rw[List.getElem?_map,List.getElem?_eq_getElem hlt,←hd1];rfl) (fun m hm=>by simp at hm;subst hm;exact .flat (.int _ _)) hspec ?_))))
   repeat' (first|(with_reducible first|refine up htz ?_)|(with_reducible first|(refine wN fun _ hnl=>?_;revert hnl;(repeat refine wS fun _ _=>?_);intro hnl)|refine wE ?_|(refine wK ?_ ?_<;>intro h)|(refine wB ?_ ?_<;>intro h<;>simp only[h]))|simp(maxSteps:=4000000) (disch:=first|exact ddL|fail) only[go_sem,simprocAttr])
   refine⟨jR (kB ?_),jR (kB ?_)⟩
   ·repeat' (first|(with_reducible first|(refine wN fun _ hnl=>?_;revert hnl;(repeat refine wS fun _ _=>?_);intro hnl)|refine wE ?_|(refine wK ?_ ?_<;>intro h)|(refine wB ?_ ?_<;>intro h<;>simp only[h]))|simp(maxSteps:=4000000) (disch:=first|exact ddL|fail) only[go_sem,simprocAttr])
    refine jR (kB ?_)
    repeat' (first|(with_reducible first|(refine wN fun _ hnl=>?_;revert hnl;(repeat refine wS fun _ _=>?_);intro hnl)|refine wE ?_|(refine wK ?_ ?_<;>intro h)|(refine wB ?_ ?_<;>intro h<;>simp only[h]))|simp(maxSteps:=4000000) (disch:=first|exact ddL|fail) only[go_sem,simprocAttr,ha])
    refine .of (.less ?_ (St.le_refl _)) ⟨(y,j+1),rfl,rfl,rfl,⟨hnext,hd2,by omega⟩,hlen⟩
    simp(maxSteps:=4000000) (disch:=first|exact ddL|fail) only[go_sem,simprocAttr,aC,aB]
   ·repeat' (first|(with_reducible first|(refine wN fun _ hnl=>?_;revert hnl;(repeat refine wS fun _ _=>?_);intro hnl)|refine wE ?_|(refine wK ?_ ?_<;>intro h)|(refine wB ?_ ?_<;>intro h<;>simp only[h]))|simp(maxSteps:=4000000) (disch:=first|exact ddL|fail) only[go_sem,simprocAttr])
    exact .inr trivial
theorem HF{L:List Nat}{j:Nat}(h:j<L.length):fL (L.take (j+1))=fL (L.take j)++[[.int .i64 ((L.getD j 0:Nat):Int)]]:=by
 rw[fL,List.take_succ_eq_append_getElem h,List.map_append,aZ 0 h];rfl
theorem A7(s:Nat)(hs:s<256)(l:Nat):aA Tryz.prog 301 [.aT,.fn (.func 330) [] [.ptr l 0 0]] (St.none.set l (.row 39 1 [[.int .u32 (s:Int)]])) (fun r _=>r=.lst 1 (fL (bU s)) false):=by
 refine aA.seen (aA.body 13 [.tmp 4] Tryz.func301 rfl rfl rfl rfl ?_)
 repeat' (first|(with_reducible first|(refine wT ?_;(first|((fail_if_success (have:=nl1));refine wN fun nl1 hnl=>?_)|((fail_if_success (have:=nl2));refine wN fun nl2 hnl=>?_)|((fail_if_success (have:=nl3));refine wN fun nl3 hnl=>?_)|refine wN fun _ hnl=>?_);revert hnl;(repeat refine wS fun _ _=>?_);intro hnl)|refine wE ?_|(refine wK ?_ ?_<;>intro h)|(refine wB ?_ ?_<;>intro h<;>simp only[h]))|simp(maxSteps:=4000000) (disch:=first|exact ddL|fail) only[go_sem,simprocAttr,Tryz.f301])
 have d1:nl1≠l:=by assumption
 have hbl:=yR s
 refine jR (oR (gf:=330) (xs:=fL (bU s)) rfl (σi:=St.none.set l (.row 39 1 [[.int .u32 (s:Int)]])) (St.aL (St.none_le _) (by simp[St.set, *])) (IP s hs l) ?_ rfl rfl
  (fc:=⟨13,[(2,.ptr nl1 0 0)],[]⟩) rfl (α:=Nat × List (List MV))
  (fun j a=>(St.none.set nl1 (.row 56 1 [[.vec 1 a.1 0 j]])).set a.1 (.row 3 1 (fL ((bU s).take j)++a.2))) (fun j a=>a.1≠nl1) ?_ ?_ ?_)
 ·intro x hx
  obtain⟨y,_,rfl⟩:=List.mem_map.1 hx
  rfl
 ·refine Gh.De (b:=nl1) (t:=56) (e:=1) (pre:=[]) (post:=[]) 3 1 ?_ fun q hq=>?_
  ·simp[St.minus,St.set,St.none,d1]
  ·have q1:q≠nl1:=fun e=>by subst e;simp[St.minus,St.set,St.none,d1] at hq
   refine .of (.less ?_ (σ1:=(St.none.set nl1 (.row 56 1 [[.vec 1 q 0 0]])).set q (.row 3 1 [])) (le2 (by simp[St.set,q1,Ne.symm q1]) (by simp[St.set]))) ⟨rfl,(q,[]),rfl,q1⟩
   simp(maxSteps:=4000000) (disch:=first|exact ddL|fail) only[go_sem,simprocAttr,aC,aB]
 ·rintro j x ⟨q,ex⟩ hx q1
  simp only at q1 ⊢
  have hjl:j<(bU s).length:=by
   have:=(List.getElem?_eq_some_iff.1 hx).1
   simpa[fL] using this
  have hxe:x=[.int .i64 (((bU s).getD j 0:Nat):Int)]:=by
   rw[List.getElem?_map,List.getElem?_eq_getElem hjl,←aZ 0 hjl] at hx
   exact(Option.some.inj hx).symm
  subst hxe
  have hsn:=HF hjl
  obtain⟨d,hd⟩:∃d,(bU s).getD j 0=d:=⟨_,rfl⟩
  rw[hd] at hsn ⊢
  have hlj:(fL ((bU s).take j)).length=j:=by rw[List.length_map,List.length_take];omega
  obtain⟨pre,hpre⟩:∃pre,fL ((bU s).take j)=pre:=⟨_,rfl⟩
  rw[hpre] at hsn hlj ⊢
  change mwp _ _ (FR.mk 13 [(7,.int .i64 (d:Int)),(2,.ptr nl1 0 0)] []) _ _
  have q2:=Ne.symm q1
  have htk:(pre++ex).take j=pre:=by rw[←hlj,List.take_left'];rfl
  have hdr:(pre++ex).drop (j+1)=ex.drop 1:=by
   rw[←List.drop_drop,←hlj,List.drop_left'];rfl
  refine qJ ?_
  repeat' (first|(with_reducible first|(refine wT ?_;(first|((fail_if_success (have:=nl1));refine wN fun nl1 hnl=>?_)|((fail_if_success (have:=nl2));refine wN fun nl2 hnl=>?_)|((fail_if_success (have:=nl3));refine wN fun nl3 hnl=>?_)|refine wN fun _ hnl=>?_);revert hnl;(repeat refine wS fun _ _=>?_);intro hnl)|refine wE ?_|(refine wK ?_ ?_<;>intro h)|(refine wB ?_ ?_<;>intro h<;>simp only[h]))|simp(maxSteps:=4000000) (disch:=first|exact ddL|fail) only[go_sem,simprocAttr])
  refine jR (qJ ?_)
  repeat' (first|(with_reducible first|(refine wT ?_;(first|((fail_if_success (have:=nl1));refine wN fun nl1 hnl=>?_)|((fail_if_success (have:=nl2));refine wN fun nl2 hnl=>?_)|((fail_if_success (have:=nl3));refine wN fun nl3 hnl=>?_)|refine wN fun _ hnl=>?_);revert hnl;(repeat refine wS fun _ _=>?_);intro hnl)|refine wE ?_|(refine wK ?_ ?_<;>intro h)|(refine wB ?_ ?_<;>intro h<;>simp only[h]))|simp(maxSteps:=4000000) (disch:=first|exact ddL|fail) only[go_sem,simprocAttr,htk,hdr])
  ·have hex:ex=[]:=List.eq_nil_of_length_eq_zero (by omega)
   subst hex
   clear h
   refine .of (.less (l1:=[]) (fun p hp=>by cases hp) (σ1:=(St.none.set nl1 (.row 56 1 [[.vec 1 nl3 0 (j+1)]])).set nl3 (.row 3 1 (fL ((bU s).take (j+1))++[]))) (le2 (by simp[St.set, *]) (by simp[St.set, *]))) ⟨(nl3,[]),rfl,by assumption⟩
  ·refine .of (.less (l1:=[]) (fun p hp=>by cases hp) (σ1:=(St.none.set nl1 (.row 56 1 [[.vec 1 nl3 0 (j+1)]])).set nl3 (.row 3 1 (fL ((bU s).take (j+1))++ex.drop 1))) (le2 (by simp[St.set, *]) (by simp[St.set, *]))) ⟨(nl3,ex.drop 1),rfl,by assumption⟩
 ·rintro⟨q,ex⟩ q1
  simp only at q1 ⊢
  have q2:=Ne.symm q1
  have hli:(fL (bU s)).length=(bU s).length:=List.length_map _
  rw[hli,List.take_length]
  show R _
  repeat' (first|(with_reducible first|(refine wT ?_;(first|((fail_if_success (have:=nl1));refine wN fun nl1 hnl=>?_)|((fail_if_success (have:=nl2));refine wN fun nl2 hnl=>?_)|((fail_if_success (have:=nl3));refine wN fun nl3 hnl=>?_)|refine wN fun _ hnl=>?_);revert hnl;(repeat refine wS fun _ _=>?_);intro hnl)|refine wE ?_|(refine wK ?_ ?_<;>intro h)|(refine wB ?_ ?_<;>intro h<;>simp only[h]))|simp(maxSteps:=4000000) (disch:=first|exact ddL|fail) only[go_sem,simprocAttr])
  exact QE (aM _ _ _)
theorem yB(s:Nat)(hs:s<256)(l:Nat):aA Tryz.prog 238 [.fn (.func 330) [] [.ptr l 0 0]] (St.none.set l (.row 39 1 [[.int .u32 (s:Int)]])) (fun r _=>r=.lst 1 (fL (bU s)) false):=by
 refine(aA.body 5 [.tmp 2] Tryz.func238 rfl rfl rfl rfl ?_)
 have h:=A7 s hs l
 repeat' (first|(with_reducible first|(refine wN fun _ hnl=>?_;revert hnl;(repeat refine wS fun _ _=>?_);intro hnl)|refine wE ?_|(refine wK ?_ ?_<;>intro h)|(refine wB ?_ ?_<;>intro h<;>simp only[h]))|simp(maxSteps:=4000000) (disch:=first|exact ddL|fail) only[go_sem,simprocAttr,Tryz.f238])
 refine cR h (St.le_refl _) ?_
 rintro v σ' rfl -
 repeat' (first|(with_reducible first|(refine wN fun _ hnl=>?_;revert hnl;(repeat refine wS fun _ _=>?_);intro hnl)|refine wE ?_|(refine wK ?_ ?_<;>intro h)|(refine wB ?_ ?_<;>intro h<;>simp only[h]))|simp(maxSteps:=4000000) (disch:=first|exact ddL|fail) only[go_sem,simprocAttr])
theorem A9(m:UInt32):aA Tryz.prog 199 [.int .u32 (m.toNat:Int)] St.none (fun r _=>r=.lst 1 (fL (bU m.toNat)) false):=by
 refine(aA.body 7 [.tmp 2] Tryz.func199 rfl rfl rfl rfl ?_)
 have ha:mE .u32 (m.toNat:Int) 255=_:=F4 m.toNat 255 m.toNat_lt (by decide)
 have hlt:m.toNat &&& 255<256:=Nat.lt_of_le_of_lt Nat.and_le_right (by decide)
 have hb:=G5 m.toNat
 obtain⟨s,hs⟩:∃s,m.toNat &&& 255=s:=⟨_,rfl⟩
 rw[hs] at ha hlt hb
 have he:aA Tryz.prog 280 [.int .u32 (s:Int)] St.none (fun v σ'=>∃l,v=.fn (.func 330) [] [.ptr l 0 0]∧σ'=St.none.set l (.row 39 1 [[.int .u32 (s:Int)]])):=by
  refine(aA.body 4 [.tmp 2] Tryz.func280 rfl rfl rfl rfl ?_)
  repeat' (first|(with_reducible first|(refine wN fun _ hnl=>?_;revert hnl;(repeat refine wS fun _ _=>?_);intro hnl)|refine wE ?_|(refine wK ?_ ?_<;>intro h)|(refine wB ?_ ?_<;>intro h<;>simp only[h]))|simp(maxSteps:=4000000) (disch:=first|exact ddL|fail) only[go_sem,simprocAttr,Tryz.f280])
  exact⟨_,rfl,rfl⟩
 repeat' (first|(with_reducible first|(refine wN fun _ hnl=>?_;revert hnl;(repeat refine wS fun _ _=>?_);intro hnl)|refine wE ?_|(refine wK ?_ ?_<;>intro h)|(refine wB ?_ ?_<;>intro h<;>simp only[h]))|simp(maxSteps:=4000000) (disch:=first|exact ddL|fail) only[go_sem,simprocAttr,Tryz.f199,ha])
 refine kP he fun l hl=>?_
 repeat' (first|(with_reducible first|(refine wN fun _ hnl=>?_;revert hnl;(repeat refine wS fun _ _=>?_);intro hnl)|refine wE ?_|(refine wK ?_ ?_<;>intro h)|(refine wB ?_ ?_<;>intro h<;>simp only[h]))|simp(maxSteps:=4000000) (disch:=first|exact ddL|fail) only[go_sem,simprocAttr])
 have h:=yB s hlt l
 refine cR h (St.le_refl _) ?_
 rintro v σ' rfl -
 repeat' (first|(with_reducible first|(refine wN fun _ hnl=>?_;revert hnl;(repeat refine wS fun _ _=>?_);intro hnl)|refine wE ?_|(refine wK ?_ ?_<;>intro h)|(refine wB ?_ ?_<;>intro h<;>simp only[h]))|simp(maxSteps:=4000000) (disch:=first|exact ddL|fail) only[go_sem,simprocAttr])
 rw[hb]
end

section
theorem zS{op:Int}(h:parts op=2):op=11∨op=12:=by
 unfold parts at h
 split at h
 ·omega
 ·split at h
  ·assumption
  ·omega
theorem zR{op:Int}(h:parts op=1):op=10:=by
 unfold parts at h
 split at h
 ·assumption
 ·split at h<;>omega
def Good(t:T):Prop:=t.ok∧∀x,x∈t.fl→eN x=true
theorem uP{x:ND}{a:T}:Good (.one x a)↔parts x.op=1∧eN x=true∧Good a:=by
 simp only[Good,T.ok,T.fl,List.mem_cons]
 exact⟨fun h=>⟨h.1.1,h.2 x (.inl rfl),h.1.2,fun y hy=>h.2 y (.inr hy)⟩,fun h=>⟨⟨h.1,h.2.2.1⟩,fun y hy=>hy.elim (fun e=>e ▸ h.2.1) (h.2.2.2 y)⟩⟩
theorem uQ{x:ND}{a b:T}:Good (.two x a b)↔parts x.op=2∧eN x=true∧Good a∧Good b:=by
 simp only[Good,T.ok,T.fl,List.mem_cons,List.mem_append]
 exact⟨fun h=>⟨h.1.1,h.2 x (.inl rfl),⟨h.1.2.1,fun y hy=>h.2 y (.inr (.inl hy))⟩,h.1.2.2,fun y hy=>h.2 y (.inr (.inr hy))⟩,
  fun h=>⟨⟨h.1,h.2.2.1.1,h.2.2.2.1⟩,fun y hy=>hy.elim (fun e=>e ▸ h.2.1) fun hy=>hy.elim (h.2.2.1.2 y) (h.2.2.2.2 y)⟩⟩
end

section
theorem G3{α:Type}(D ex Y:List α)(m y:Nat)(h1:D.length=m)(h2:Y.length=y):List.take m (D++ex)++Y++List.drop (m+y) (D++ex)=(D++Y)++ex.drop y:=by
 subst h1 h2
 rw[List.take_left,List.drop_append,List.drop_eq_nil_of_le (by omega),List.nil_append,Nat.add_sub_cancel_left]
abbrev T.kl(t:T):List (List MV):=t.kids.map fun k=>[.lst 5 (k.fl.map ND.c) false]
theorem M0{t:T}(h:t.ok){i:Nat}(hi:i<t.kids.length) :
  gK t.fl ((1+((t.kids.take i).map T.fl).flatten.length:Nat):Int)=((1+((t.kids.take (i+1)).map T.fl).flatten.length:Nat):Int) ∧
  (t.fl.take (1+((t.kids.take (i+1)).map T.fl).flatten.length)).drop (1+((t.kids.take i).map T.fl).flatten.length)=(t.kids.getD i (.leaf nd0)).fl ∧
  1+((t.kids.take i).map T.fl).flatten.length≤1+((t.kids.take (i+1)).map T.fl).flatten.length∧1+((t.kids.take (i+1)).map T.fl).flatten.length≤t.fl.length∧(t.kids.getD i (.leaf nd0)).fl.length≤t.fl.length:=by
 obtain⟨h1,h2⟩:=T.GG h
 obtain⟨k,hk⟩:∃k,t.kids.getD i (.leaf nd0)=k:=⟨_,rfl⟩
 have hg:t.kids[i]=k:=by rw[←hk,aZ _ hi]
 have hko:=h2 k (by rw[←hk];exact bK _ hi)
 have e1:((t.kids.take (i+1)).map T.fl).flatten=((t.kids.take i).map T.fl).flatten++k.fl:=by
  rw[List.take_succ_eq_append_getElem hi,hg];simp
 have e2:t.fl=(t.root::((t.kids.take i).map T.fl).flatten)++(k.fl++((t.kids.drop (i+1)).map T.fl).flatten):=by
  rw[T.Gj]
  conv=>lhs;rw[←List.take_append_drop i t.kids,List.drop_eq_getElem_cons hi,hg]
  simp
 have e3:(t.root::((t.kids.take i).map T.fl).flatten).length=1+((t.kids.take i).map T.fl).flatten.length:=by rw[List.length_cons];omega
 rw[e1,List.length_append,hk]
 generalize hA:t.root::((t.kids.take i).map T.fl).flatten=A at e2 e3
 have e4:=Ga hko A ((t.kids.drop (i+1)).map T.fl).flatten
 rw[←e2,e3] at e4
 refine⟨by rw[e4,Nat.add_assoc],?_,by omega,by rw[e2];simp only[List.length_append];omega,by rw[e2];simp only[List.length_append];omega⟩
 rw[←Nat.add_assoc,←e3,e2,←List.append_assoc,←List.length_append,List.take_left,List.drop_left]
set_option maxHeartbeats 2000000 in
theorem l3 (t:T) (h:t.ok) (hl:t.fl.length≤1000) (tt:Bool):aA Tryz.prog 194 [.lst 5 (t.fl.map ND.c) tt,.int .i64 0] St.none (fun r _=>r=.lst 1 t.kl false):=by
 refine aA.seen (aA.body 44 [.tmp 4] Tryz.func194 rfl rfl rfl rfl ?_)
 have hpos:=t.Aq
 have hf0:(t.fl.getD 0 nd0)=t.root:=by rw[T.Gj];rfl
 obtain⟨h1,h2⟩:=T.GG h
 have hb2:t.kids.length≤2:=by have:=iW t.root.op;omega
 repeat' (first|(with_reducible first|(refine wT ?_;(first|((fail_if_success (have:=nl1));refine wN fun nl1 hnl=>?_)|((fail_if_success (have:=nl2));refine wN fun nl2 hnl=>?_)|((fail_if_success (have:=nl3));refine wN fun nl3 hnl=>?_)|((fail_if_success (have:=nl4));refine wN fun nl4 hnl=>?_)|((fail_if_success (have:=nl5));refine wN fun nl5 hnl=>?_)|refine wN fun _ hnl=>?_);revert hnl;(repeat refine wS fun _ _=>?_);intro hnl)|refine wD (by decide +kernel) ?_|refine wI (fun h=>?_) fun h=>?_|refine wF (fun h=>?_) fun h=>?_|refine wG (fun h=>?_) fun h=>?_|refine wH (fun h=>?_) fun h=>?_|((first|refine aG (fun h=>?_) fun h=>?_|refine aE (fun h=>?_) fun h=>?_)<;>simp only[h]))|simp(maxSteps:=4000000) (disch:=first|exact ddL|fail) only[go_sem,simprocAttr,Tryz.f194,aU nd0])
 refine aD (α:=Nat × Nat × List (List MV)) (fun a=>⟨44,[(7,.int .i64 (a.1:Int)),(6,.int .i64 ((1+((t.kids.take a.1).map T.fl).flatten.length:Nat):Int)),(5,.vec 1 a.2.1 0 a.1),(0,.lst 5 (t.fl.map ND.c) tt),(1,.int .i64 0)],[]⟩)
  (fun a=>St.none.set a.2.1 (.row 38 1 ((t.kl.take a.1)++a.2.2))) (fun a=>a.1≤t.kids.length) (fun a=>t.kids.length - a.1) ?_ ?_
 ·refine .of (.less ?_ (St.le_refl _)) ⟨(0,nl1,[]),rfl,rfl,Nat.zero_le _⟩
  simp(maxSteps:=4000000) (disch:=first|exact ddL|fail) only[go_sem,simprocAttr,aC,aB]
  all_goals first|exact⟨rfl,rfl⟩|rfl
 ·rintro⟨i,q,ex⟩ hi
  simp only at hi ⊢
  by_cases hlt:i<t.kids.length
  ·obtain⟨k1,k2,k3,k4,k5⟩:=M0 h hlt
   have hm:min i t.kids.length=i:=Nat.min_eq_left hi
   have e1:List.map (fun k=>[MV.lst 5 (List.map ND.c k.fl) false]) (t.kids.take (i+1))=List.map (fun k=>[MV.lst 5 (List.map ND.c k.fl) false]) (t.kids.take i)++[[.lst 5 ((t.kids.getD i (.leaf nd0)).fl.map ND.c) false]]:=by
    rw[List.take_succ_eq_append_getElem hlt,List.map_append,←aZ (.leaf nd0) hlt];rfl
   repeat' (first|(with_reducible refine bB (nD _) ?_)|(with_reducible refine bB (oA _ (by omega) _ _) ?_)|(with_reducible first|(refine wT ?_;(first|((fail_if_success (have:=nl1));refine wN fun nl1 hnl=>?_)|((fail_if_success (have:=nl2));refine wN fun nl2 hnl=>?_)|((fail_if_success (have:=nl3));refine wN fun nl3 hnl=>?_)|((fail_if_success (have:=nl4));refine wN fun nl4 hnl=>?_)|((fail_if_success (have:=nl5));refine wN fun nl5 hnl=>?_)|refine wN fun _ hnl=>?_);revert hnl;(repeat refine wS fun _ _=>?_);intro hnl)|refine wD (by decide +kernel) ?_|refine wI (fun h=>?_) fun h=>?_|refine wF (fun h=>?_) fun h=>?_|refine wG (fun h=>?_) fun h=>?_|refine wH (fun h=>?_) fun h=>?_|((first|refine aG (fun h=>?_) fun h=>?_|refine aE (fun h=>?_) fun h=>?_)<;>simp only[h]))|simp(maxSteps:=4000000) (disch:=first|exact ddL|fail) only[go_sem,simprocAttr,aU nd0,hf0,k1,k2,hm])
   ·have hex:ex=[]:=List.eq_nil_of_length_eq_zero (by omega)
    subst hex
    refine .of (bV.nest (t:=38) (t1:=160) (e1:=5) (ys:=(t.kids.getD i (.leaf nd0)).fl.map ND.c) (n1:=(t.kids.getD i (.leaf nd0)).fl.length) (q:=nl5) (m:=nl3) (pre:=List.map (fun k=>[MV.lst 5 (List.map ND.c k.fl) false]) (t.kids.take i)) (post:=[]) St.none (by first|(simp(maxSteps:=4000000) (disch:=first|exact ddL|fail) only[go_sem,simprocAttr];done)|(simp(maxSteps:=4000000) (disch:=first|exact ddL|fail) only[go_sem,simprocAttr];rfl)) ((aM _ _ _).trans ?_) (by rw[List.length_map]) (St.none_le _) rfl (by assumption) ?_) ⟨(i+1,nl5,[]),rfl,?_,by simp only;omega,by simp only;omega⟩
    ·rw[List.append_nil]
    ·simp(maxSteps:=4000000) (disch:=first|exact ddL|fail) only[go_sem,simprocAttr,aC,aB]
     all_goals rfl
    ·simp only
     rw[e1,List.append_nil]
   ·refine .of (bV.nest (t:=38) (t1:=160) (e1:=5) (ys:=(t.kids.getD i (.leaf nd0)).fl.map ND.c) (n1:=(t.kids.getD i (.leaf nd0)).fl.length) (q:=nl5) (m:=nl3) (pre:=List.map (fun k=>[MV.lst 5 (List.map ND.c k.fl) false]) (t.kids.take i)) (post:=ex.drop 1) St.none (by first|(simp(maxSteps:=4000000) (disch:=first|exact ddL|fail) only[go_sem,simprocAttr];done)|(simp(maxSteps:=4000000) (disch:=first|exact ddL|fail) only[go_sem,simprocAttr];rfl)) ((aM _ _ _).trans ?_) (by rw[List.length_map]) (St.none_le _) rfl (by assumption) ?_) ⟨(i+1,nl5,ex.drop 1),rfl,?_,by simp only;omega,by simp only;omega⟩
    ·rw[G3 (List.map (fun k=>[MV.lst 5 (List.map ND.c (T.fl k)) false]) (t.kids.take i)) ex [[MV.vec 5 nl3 0 (t.kids.getD i (T.leaf nd0)).fl.length]] i 1 (by rw[List.length_map,List.length_take];omega) rfl,List.append_assoc]
     rfl
    ·simp(maxSteps:=4000000) (disch:=first|exact ddL|fail) only[go_sem,simprocAttr,aC,aB]
     all_goals rfl
    ·simp only
     rw[e1,List.append_assoc]
     rfl
  ·have:i=t.kids.length:=by omega
   subst this
   repeat' (first|(with_reducible refine bB (nD _) ?_)|(with_reducible first|(refine wT ?_;(first|((fail_if_success (have:=nl1));refine wN fun nl1 hnl=>?_)|((fail_if_success (have:=nl2));refine wN fun nl2 hnl=>?_)|((fail_if_success (have:=nl3));refine wN fun nl3 hnl=>?_)|((fail_if_success (have:=nl4));refine wN fun nl4 hnl=>?_)|((fail_if_success (have:=nl5));refine wN fun nl5 hnl=>?_)|refine wN fun _ hnl=>?_);revert hnl;(repeat refine wS fun _ _=>?_);intro hnl)|refine wD (by decide +kernel) ?_|refine wI (fun h=>?_) fun h=>?_|refine wF (fun h=>?_) fun h=>?_|refine wG (fun h=>?_) fun h=>?_|refine wH (fun h=>?_) fun h=>?_|((first|refine aG (fun h=>?_) fun h=>?_|refine aE (fun h=>?_) fun h=>?_)<;>simp only[h]))|simp(maxSteps:=4000000) (disch:=first|exact ddL|fail) only[go_sem,simprocAttr,aU nd0,hf0,List.take_length])
   have hv:=View.vec (σ:=St.none.set q (.row 38 1 (t.kl++ex))) (l:=q) (lo:=0) (n:=t.kids.length) (aM _ _ _) (by rw[List.length_append,List.length_map];omega)
   have e:((t.kl++ex).drop 0).take t.kids.length=t.kl:=by
    rw[List.drop_zero,List.take_append_of_le_length (by rw[List.length_map];omega),List.take_of_length_le (by rw[List.length_map];omega)]
   rw[e] at hv
   exact hv
end

section
structure DE where
 id:Int
 ver:Int
 sq:Int
 deriving DecidableEq
abbrev DE.c(d:DE):List MV:=[.int .i64 d.id,.int .i64 d.ver,.int .i64 d.sq]
abbrev aR(n:Int):List MV:=[.int .i64 n]
structure GR where
 no:Int
 mem:List Int
 deriving DecidableEq
abbrev GR.c(g:GR):List MV:=[.int .i64 g.no,.lst 1 (g.mem.map aR) false]
structure BK where
 sq:Int
 nx:Int
 cards:List CA
 dead:List DE
 gr:List GR
 deriving DecidableEq
abbrev BK.c(b:BK):List MV:=[.int .i64 b.sq,.int .i64 b.nx,.lst 27 (b.cards.map CA.c) false,.lst 3 (b.dead.map DE.c) false,.lst 2 (b.gr.map GR.c) false]
structure TU where
 sq:Int
 id:Int
 old:Int
 new:Int
 card:CA
 deriving DecidableEq
abbrev TU.c(t:TU):List MV:=.int .i64 t.sq::.int .i64 t.id::.int .i64 t.old::.int .i64 t.new::t.card.c
structure SU where
 dev:Int
 ep:Int
 fl:List ND
 mask:UInt32
 floor:Int
 mem:List Int
 log:List TU
 deriving DecidableEq
abbrev SU.c(s:SU):List MV:=[.int .i64 s.dev,.int .i64 s.ep,.lst 5 (s.fl.map ND.c) false,.int .u32 (s.mask.toNat:Int),.int .i64 s.floor,.lst 1 (s.mem.map aR) false,.lst 31 (s.log.map TU.c) false]
structure RW where
 last:Int
 ep:Int
 ans:RE
 deriving DecidableEq
abbrev RW.c(r:RW):List MV:=.int .i64 r.last::.int .i64 r.ep::r.ans.c
structure SA where
 bk:BK
 subs:List SU
 rows:List RW
 deriving DecidableEq
abbrev SA.c(s:SA):List MV:=s.bk.c++[.lst 7 (s.subs.map SU.c) false,.lst 12 (s.rows.map RW.c) false]
def bkZ:BK:=⟨0,1,[],[],[]⟩
def rwZ:RW:=⟨0,0,re0⟩
def oW:List RW:=List.replicate 6 rwZ
def saZ:SA:=⟨bkZ,[],oW⟩
def qU(i:Nat)(r:RW):Bool:=decide (0≤r.last∧r.last≤big∧0≤r.ep∧r.ep≤big∧(r.last=0→r.ans=re0)∧(0<r.last→nC r.ans=true∧r.ans.dev=i∧r.ans.req=r.last))
def cE(l:List RW):Bool:=decide (l.length=6)&&(List.range 6).all fun i=>qU i (l.getD i rwZ)
end

section
set_option maxRecDepth 100000
set_option maxHeartbeats 4000000
theorem Mw(s n:Nat):(s &&& 2 ^ n=0)=(s / 2 ^ n % 2=0):=by
 apply propext
 have h:s &&& 2 ^ n=2 ^ n * (s / 2 ^ n % 2):=by
  refine Nat.eq_of_testBit_eq fun i=>?_
  rw[Nat.testBit_and,Nat.testBit_two_pow]
  by_cases hi:n=i
  ·subst hi
   rcases Nat.mod_two_eq_zero_or_one (s / 2 ^ n) with h|h
   ·rw[h,Nat.mul_zero,Nat.zero_testBit]
    have:s.testBit n=false:=by rw[Nat.testBit_eq_decide_div_mod_eq,h];rfl
    rw[this];rfl
   ·rw[h,Nat.mul_one,Nat.testBit_two_pow_self]
    have:s.testBit n=true:=by rw[Nat.testBit_eq_decide_div_mod_eq,h];rfl
    rw[this];simp
  ·rw[decide_eq_false hi,Bool.and_false]
   rcases Nat.mod_two_eq_zero_or_one (s / 2 ^ n) with h|h
   ·rw[h,Nat.mul_zero,Nat.zero_testBit]
   ·rw[h,Nat.mul_one,Nat.testBit_two_pow_of_ne hi]
 rw[h,Nat.mul_eq_zero]
 have:=Nat.pos_of_ne_zero (n:=2 ^ n) (Nat.ne_of_gt (Nat.two_pow_pos n))
 constructor
 ·rintro(h|h)
  ·omega
  ·exact h
 ·exact .inr
theorem vO(s n:Nat)(hs:s<4294967296)(hn:n<32):aA Tryz.prog 317 [.int .u32 (s:Int),.int .i64 (n:Int)] St.none (fun r _=>r=.bool (hasB s n)):=by
 refine(aA.body 10 [.tmp 4] Tryz.func317 rfl rfl rfl rfl ?_)
 have h:=zT n hn
 have ha:=F4 s (2 ^ n) hs (Nat.pow_lt_pow_right (a:=2) (n:=32) (by decide) hn)
 have hb:=Mw s n
 have e:hasB s n=!decide (s &&& 2 ^ n=0):=by
  unfold hasB
  have h2:((n:Int)).toNat=n:=by simp
  have h3:0≤(n:Int)∧(n:Int)≤31:=by omega
  rcases Nat.mod_two_eq_zero_or_one (s / 2 ^ n) with h|h
  ·have h4:s &&& 2 ^ n=0:=by rw[hb];exact h
   simp[h4,h]
  ·have h4:¬(s &&& 2 ^ n=0):=by rw[hb];omega
   simp[h4,h]
   omega
 rw[e]
 generalize s &&& 2 ^ n=x at ha ⊢
 generalize ((2 ^ n:Nat):Int)=y at h ha
 repeat' (first|(with_reducible first|refine up h ?_)|(with_reducible first|(refine wN fun _ hnl=>?_;revert hnl;(repeat refine wS fun _ _=>?_);intro hnl)|refine wE ?_|(refine wK ?_ ?_<;>intro h)|(refine wB ?_ ?_<;>intro h<;>simp only[h]))|simp(maxSteps:=4000000) (disch:=first|exact ddL|fail) only[go_sem,simprocAttr,Tryz.f317,ha])
 all_goals first|(simp;done)|(by_cases hx:x=0<;>simp[hx])
theorem sR(a b:VA):aA Tryz.prog 322 [.agg a.c,.agg b.c] St.none (fun r _=>r=.bool (hY a b)):=by
 refine aA.bF (aA.body 24 [.tmp 4] Tryz.func322 rfl rfl rfl rfl ?_)
 have h1:=oZ a b
 have hd:hY a b=(decide (a.kd=b.kd)&&(decide (a.kd=1) || decide (a.kd=2))&&decide (dK (cmpL a.key b.key)<0)):=rfl
 generalize dK (cmpL a.key b.key)=o at h1 hd
 generalize hY a b=out at hd ⊢
 by_cases e1:a.kd=b.kd
 ·by_cases e2:a.kd=1
  ·rw[decide_eq_true e1,decide_eq_true e2,Bool.true_or,Bool.true_and,Bool.true_and] at hd
   subst hd
   repeat' (first|(with_reducible first|refine up h1 ?_)|(with_reducible first|(refine wN fun _ hnl=>?_;revert hnl;(repeat refine wS fun _ _=>?_);intro hnl)|refine wE ?_|(refine wK ?_ ?_<;>intro h)|(refine wB ?_ ?_<;>intro h<;>simp only[h]))|simp(maxSteps:=4000000) (disch:=first|exact ddL|fail) only[go_sem,simprocAttr,Tryz.f322])
   all_goals first|exact⟨_,St.le_refl _,rfl⟩|exact⟨_,St.le_refl _⟩
  ·by_cases e3:a.kd=2
   ·rw[decide_eq_true e1,decide_eq_true e3,Bool.or_true,Bool.true_and,Bool.true_and] at hd
    subst hd
    repeat' (first|(with_reducible first|refine up h1 ?_)|(with_reducible first|(refine wN fun _ hnl=>?_;revert hnl;(repeat refine wS fun _ _=>?_);intro hnl)|refine wE ?_|(refine wK ?_ ?_<;>intro h)|(refine wB ?_ ?_<;>intro h<;>simp only[h]))|simp(maxSteps:=4000000) (disch:=first|exact ddL|fail) only[go_sem,simprocAttr,Tryz.f322])
    all_goals first|exact⟨_,St.le_refl _,rfl⟩|exact⟨_,St.le_refl _⟩
   ·rw[decide_eq_false e2,decide_eq_false e3,Bool.or_false,Bool.and_false,Bool.false_and] at hd
    subst hd
    repeat' (first|(with_reducible first|refine up h1 ?_)|(with_reducible first|(refine wN fun _ hnl=>?_;revert hnl;(repeat refine wS fun _ _=>?_);intro hnl)|refine wE ?_|(refine wK ?_ ?_<;>intro h)|(refine wB ?_ ?_<;>intro h<;>simp only[h]))|simp(maxSteps:=4000000) (disch:=first|exact ddL|fail) only[go_sem,simprocAttr,Tryz.f322])
    all_goals first|exact⟨_,St.le_refl _,rfl⟩|exact⟨_,St.le_refl _⟩
 ·rw[decide_eq_false e1,Bool.false_and,Bool.false_and] at hd
  subst hd
  repeat' (first|(with_reducible first|refine up h1 ?_)|(with_reducible first|(refine wN fun _ hnl=>?_;revert hnl;(repeat refine wS fun _ _=>?_);intro hnl)|refine wE ?_|(refine wK ?_ ?_<;>intro h)|(refine wB ?_ ?_<;>intro h<;>simp only[h]))|simp(maxSteps:=4000000) (disch:=first|exact ddL|fail) only[go_sem,simprocAttr,Tryz.f322])
  all_goals first|exact⟨_,St.le_refl _,rfl⟩|exact⟨_,St.le_refl _⟩
def l4(s:ByteArray)(i:Nat):List (List MV):=(s.toList.take i).map (fun c=>[.int .u8 (l9 (c.toNat:Int))])++(s.toList.drop i).map (fun c=>[.int .u8 (c.toNat:Int)])
theorem sD(s:ByteArray):s.toList.length=s.size:=by
 rw[ByteArray.toList_eq,Array.length_toList]
 rfl
theorem LK(s:ByteArray){i:Nat}(h:i≤s.size):(l4 s i).length=s.size:=by
 have:=sD s
 simp[l4]
 omega
theorem NS{s:ByteArray}{i:Nat}(h:i<s.size):(l4 s i).getD i []=[.int .u8 ((s.toList.getD i 0).toNat:Int)]:=by
 have hl:i<s.toList.length:=by rw[sD];exact h
 unfold l4
 rw[List.getD_eq_getElem?_getD,List.getElem?_append_right (by simp;omega)]
 simp[Nat.min_eq_left (Nat.le_of_lt hl),List.getElem?_eq_getElem hl,List.getD_eq_getElem?_getD]
theorem LL{s:ByteArray}{i:Nat}(h:i<s.size):(l4 s i).set i [.int .u8 (l9 ((s.toList.getD i 0).toNat:Int))]=l4 s (i+1):=by
 have hl:i<s.toList.length:=by rw[sD];exact h
 have e1:s.toList.drop i=s.toList[i]::s.toList.drop (i+1):=List.drop_eq_getElem_cons hl
 have e2:s.toList.take (i+1)=s.toList.take i++[s.toList[i]]:=List.take_succ_eq_append_getElem hl
 unfold l4
 rw[e1,e2,aZ 0 hl,List.set_append_right _ _ (by rw[List.length_map,List.length_take];omega)]
 rw[List.map_cons,List.length_map,List.length_take,Nat.min_eq_left (Nat.le_of_lt hl),Nat.sub_self,List.set_cons_zero,List.map_append,List.map_cons,List.map_nil,List.append_assoc]
 rfl
theorem LW{l:List (List MV)}{i:Nat}(h:i<l.length){x:List MV}(hx:l.getD i []=x):l.set i x=l:=by
 subst hx
 rw[List.getD_eq_getElem?_getD,List.getElem?_eq_getElem h]
 exact List.set_getElem_self h
theorem yZ(s:ByteArray):∀i,i≤s.size→qA s i=bytesOf ((s.toList.take i).map (fun c=>[.int .u8 (l9 (c.toNat:Int))]))
 | 0,_=>rfl
 | i+1,h=>by
  have hl:i<s.toList.length:=by rw[sD];omega
  rw[qA,yZ s i (by omega),List.take_succ_eq_append_getElem hl,List.map_append,fch,aZ 0 hl]
  unfold bytesOf
  exact ByteArray.ext (by rw[ByteArray.data_append];simp)
theorem Hr(s:ByteArray):bytesOf (l4 s s.size)=eC s:=by
 rw[eC,yZ s s.size (Nat.le_refl _),l4,←sD,List.drop_length,List.map_nil,List.append_nil]
theorem Jd(s:ByteArray):(l4 s s.size).all isByte=true:=by
 rw[List.all_eq_true]
 intro x hx
 unfold l4 at hx
 rw[←sD,List.drop_length,List.map_nil,List.append_nil] at hx
 obtain⟨b,_,rfl⟩:=List.mem_map.1 hx
 have:=uX (c:=(b.toNat:Int)) (by omega) (by have:=b.toNat_lt;omega)
 simp[isByte,this]
theorem vP(s:ByteArray)(h:s.size≤1000000):aA Tryz.prog 356 [.str s] St.none (fun r _=>r=.str (eC s)):=by
 refine aA.bF (aA.body 30 [.tmp 2] Tryz.func356 rfl rfl rfl rfl ?_)
 repeat' (first|(with_reducible first|(refine wT ?_;(first|((fail_if_success (have:=nl1));refine wN fun nl1 hnl=>?_)|refine wN fun _ hnl=>?_);revert hnl;(repeat refine wS fun _ _=>?_);intro hnl)|refine wE ?_|(refine wK ?_ ?_<;>intro h)|(refine wB ?_ ?_<;>intro h<;>simp only[h]))|simp(maxSteps:=4000000) (disch:=first|exact ddL|fail) only[go_sem,simprocAttr,Tryz.f356])
 refine aD (α:=Nat) (fun i=>⟨30,[(10,.int .i64 (i:Int)),(9,.int .i64 (s.size:Int)),(8,.vec 1 nl1 0 s.size),(3,.vec 1 nl1 0 s.size)],[]⟩)
  (fun i=>St.none.set nl1 (.row 5 1 (l4 s i))) (fun i=>i≤s.size) (fun i=>s.size - i) ?_ ?_
 ·refine .of (.less ?_ (St.aL (St.none_le _) (by simp[St.set,l4]))) ⟨0,rfl,rfl,Nat.zero_le _⟩
  simp(maxSteps:=4000000) (disch:=first|exact ddL|fail) only[go_sem,simprocAttr,aC,aB]
  all_goals first|rfl|(simp;done)
 ·intro i hi
  have hi:i≤s.size:=hi
  have hrl:=LK s hi
  by_cases hlt:i<s.size
  ·have hat:=NS hlt
   have hset:=LL hlt
   have hc0:0≤((s.toList.getD i 0).toNat:Int):=by omega
   have hc1:((s.toList.getD i 0).toNat:Int)≤255:=by have:=(s.toList.getD i 0).toNat_lt;omega
   obtain⟨c,hc⟩:∃c:Int,((s.toList.getD i 0).toNat:Int)=c:=⟨_,rfl⟩
   rw[hc] at hc0 hc1 hat hset
   have hsame:l9 c=c→(l4 s i)=l4 s (i+1):=fun e=>by rw[←hset,e,LW (by rw[hrl];exact hlt) hat]
   by_cases hcc:65≤c∧c≤90
   ·obtain⟨g1,g2⟩:=hcc
    have e:l9 c=c+97 - 65:=by unfold l9;rw[if_pos ⟨g1,g2⟩];omega
    rw[e] at hset
    repeat' (first|(with_reducible first|(refine wT ?_;(first|((fail_if_success (have:=nl1));refine wN fun nl1 hnl=>?_)|refine wN fun _ hnl=>?_);revert hnl;(repeat refine wS fun _ _=>?_);intro hnl)|refine wE ?_|(refine wK ?_ ?_<;>intro h)|(refine wB ?_ ?_<;>intro h<;>simp only[h]))|simp(maxSteps:=4000000) (disch:=first|exact ddL|fail) only[go_sem,simprocAttr,hat,hrl,g1,g2])
    refine .of (.less ?_ (σ1:=St.none.set nl1 (.row 5 1 (l4 s (i+1)))) (by rw[hset];exact St.le_refl _)) ⟨i+1,rfl,rfl,by omega,by omega⟩
    simp(maxSteps:=4000000) (disch:=first|exact ddL|fail) only[go_sem,simprocAttr,aC,aB]
    all_goals first|rfl|(simp;done)
   ·have e:l9 c=c:=by unfold l9;rw[if_neg hcc]
    have hs':=hsame e
    repeat' (first|(with_reducible first|(refine wT ?_;(first|((fail_if_success (have:=nl1));refine wN fun nl1 hnl=>?_)|refine wN fun _ hnl=>?_);revert hnl;(repeat refine wS fun _ _=>?_);intro hnl)|refine wE ?_|(refine wK ?_ ?_<;>intro h)|(refine wB ?_ ?_<;>intro h<;>simp only[h]))|simp(maxSteps:=4000000) (disch:=first|exact ddL|fail) only[go_sem,simprocAttr,hat,hrl])
    all_goals first
     | (exfalso;omega)
     | refine .of (.less ?_ (σ1:=St.none.set nl1 (.row 5 1 (l4 s (i+1)))) (by rw[hs'];exact St.le_refl _)) ⟨i+1,rfl,rfl,by omega,by omega⟩
    all_goals
     simp(maxSteps:=4000000) (disch:=first|exact ddL|fail) only[go_sem,simprocAttr,aC,aB]
     all_goals first|rfl|(simp;done)
  ·have:i=s.size:=by omega
   subst this
   have hfb:=Jd s
   have hfs:=Hr s
   have htk:(l4 s s.size).take s.size=l4 s s.size:=List.take_of_length_le (by rw[hrl];exact Nat.le_refl _)
   repeat' (first|(with_reducible first|(refine wT ?_;(first|((fail_if_success (have:=nl1));refine wN fun nl1 hnl=>?_)|refine wN fun _ hnl=>?_);revert hnl;(repeat refine wS fun _ _=>?_);intro hnl)|refine wE ?_|(refine wK ?_ ?_<;>intro h)|(refine wB ?_ ?_<;>intro h<;>simp only[h]))|simp(maxSteps:=4000000) (disch:=first|exact ddL|fail) only[go_sem,simprocAttr,hrl,hfb,hfs,htk])
   all_goals first|exact⟨_,St.le_refl _,rfl⟩|exact⟨_,St.le_refl _⟩
end
end Go.Proofs.YtojmhmejdihaaaaGreatDoor
