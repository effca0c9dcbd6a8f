/- Parts of the proof; conditions: as its theorems name them. -/
import Derived.Test.YtppdgejjmhdjhaaGreatDoorMai
import Derived.Test.YtppdgejjmhdjhaaGreatDoorMaj
import Derived.Lib.IndexMore
import Derived.Shelf.SlIterI.Nil
import Derived.Shelf.SortM.Plain
import Derived.Shelf.SortM.SortNone
import Derived.Test.YtppdgejjmhdjhaaGreatDoorRows
import Derived.Laws.LoneSync
import Derived.Lib.SliceRun
import Derived.OwnWalk
set_option linter.unusedVariables false
set_option linter.unusedSimpArgs false
set_option maxHeartbeats 8000000
set_option maxRecDepth 100000
namespace Go.Proofs.YtppdgejjmhdjhaaGreatDoor
section
abbrev dX(L:List Nat):List (List MV):=L.map fun(i:Nat)=>[.int .i64 (i:Int)]
theorem Oi(s:Nat)(hs:s<256)(l:Nat):OU Tryz.prog 273 [.ptr l 0 0] (St.none.set l (.row 23 1 [[.int .u32 (s:Int)]])) (dX (bV s)):=by
 refine OU.gW 14 Tryz.func273 rfl rfl rfl rfl fun C hC hspec=>?_
 have hxl:(dX (bV s)).length=(bV s).length:=by simp[dX]
 rw[hxl]
 refine bL (Da (SF (α:=Nat × Nat) (fun a=>⟨14,[(0,.fn (.yield C.l) [] []),(1,.ptr l 0 0)],[]⟩) (fun a=>St.none.set l (.row 23 1 [[.int .u32 (a.1:Int)]])) (fun a=>some a.2)
   (fun a=>a.1<256∧bV a.1=(bV s).drop a.2∧a.2≤(bV s).length) (fun a=>(bV a.1).length) ?_ ?_))
 ·refine .of (.less ?_ (St.le_refl _)) ⟨(s,0),rfl,rfl,rfl,hs,rfl,Nat.zero_le _⟩
  simp(maxSteps:=4000000) (disch:=first|exact ddL|fail) only[go_sem,simprocAttr,aU,aN]
 ·rintro⟨x,j⟩ ⟨hx,hj,hjl⟩
  simp only at hx hj hjl ⊢
  by_cases h0:x=0
  ·subst h0
   rw[L8] at hj
   have hjj:(bV s).length≤j:=by
    refine Classical.byContradiction fun h=>?_
    have:=congrArg List.length hj
    rw[List.length_drop] at this
    simp at this
    omega
   have hje:j=(bV s).length:=by omega
   refine zA (H9 ?_)
   repeat' first|refine wZ1 @Tryz.f273.eq_1 ?_|fail
   refine .inl ?_
   rw[hje]
  ·have hlow:=zH x hx h0
   have hh:=FI hx h0
   have hlt:j<(bV s).length:=by
    refine Classical.byContradiction fun h=>?_
    rw[List.drop_eq_nil_of_le oM] at hj
    rw[hj] at hlow
    cases hlow
   have hdrop:=List.drop_eq_getElem_cons hlt
   rw[←hj,hlow] at hdrop
   obtain⟨hd1,hd2⟩:=List.cons.inj hdrop
   have hnext:x &&& (x - 1)<256:=Nat.lt_of_le_of_lt Nat.and_le_left hx
   have htz:=Rj x oM hx
   have ha:nX .u32 (x:Int) ((x:Int) - 1)=((x &&& (x - 1):Nat):Int):=by
    have:=E5 x (x - 1) oM oM
    rwa [show((x - 1:Nat):Int)=(x:Int) - 1 by omega] at this
   have hlen:(bV (x &&& (x - 1))).length<(bV x).length:=by
    conv=>rhs;rw[hlow]
    simp
   obtain⟨d,hde⟩:∃d,(bV x).headD 0=d:=⟨_,rfl⟩
   rw[hde] at htz hh hd1
   obtain⟨y,hy⟩:∃y,x &&& (x - 1)=y:=⟨_,rfl⟩
   rw[hy] at ha hnext hd2 hlen
   clear hlow hdrop hde
   refine zA (H9 ?_)
   repeat' first|refine wZ1 @Tryz.f273.eq_1 ?_|fail
   refine bL (zA (Da (zA (OT (ops:=#[_,_,_,_,_]) [_,_,_] _ [_] rfl rfl rfl rfl rfl (x:=[.int .i64 (d:Int)]) (by
    rw[hC]
    rw[List.getElem?_map,List.getElem?_eq_getElem hlt,←hd1];rfl) (fun m hm=>by simp at hm;subst hm;exact .flat (.int _ _)) hspec ?_))))
   repeat' first|(with_reducible first|refine up htz ?_)|refine wZ0 ?_|fail
   refine⟨bL (H9 ?_),bL (H9 ?_)⟩
   ·repeat' first|refine wZ0 ?_|fail
    refine bL (H9 ?_)
    repeat' first|refine wZ1 @ha ?_|fail
    refine .of (.less ?_ (St.le_refl _)) ⟨(y,j+1),rfl,rfl,rfl,⟨hnext,hd2,by omega⟩,hlen⟩
    simp(maxSteps:=4000000) (disch:=first|exact ddL|fail) only[go_sem,simprocAttr,aU,aN]
   ·repeat' first|refine wZ0 ?_|fail
    exact .inr trivial
theorem MP{L:List Nat}{j:Nat}(h:j<L.length):dX (L.take (j+1))=dX (L.take j)++[[.int .i64 ((L.getD j 0:Nat):Int)]]:=by
 rw[dX,List.take_succ_eq_append_getElem h,List.map_append,b9 0 h];rfl
theorem Eh(s:Nat)(hs:s<256)(l:Nat):aA Tryz.prog 235 [.aM,.fn (.func 273) [] [.ptr l 0 0]] (St.none.set l (.row 23 1 [[.int .u32 (s:Int)]])) (fun r _=>r=.lst 1 (dX (bV s)) false):=by
 refine aA.seen (mB 13 [.tmp 4] Tryz.func235 ?_)
 repeat' first|(refine wM ?_;(first|(have _:=nl1)|(intro nl1));intros)|refine wZ1 @Tryz.f235.eq_1 ?_|fail
 have d1:nl1≠l:=by assumption
 have hbl:=vC s
 refine bL (BB (gf:=273) (xs:=dX (bV s)) rfl (σi:=St.none.set l (.row 23 1 [[.int .u32 (s:Int)]])) (St.aB (St.none_le _) sS) (Oi s hs l) ?_ rfl rfl
  (fc:=⟨13,[(2,.ptr nl1 0 0)],[]⟩) rfl (α:=Nat × List (List MV))
  (fun j a=>(St.none.set nl1 (.row 75 1 [[.vec 1 a.1 0 j]])).set a.1 (.row 3 1 (dX ((bV s).take j)++a.2))) (fun j a=>a.1≠nl1) ?_ ?_ ?_)
 ·intro x hx
  obtain⟨y,_,rfl⟩:=List.mem_map.1 hx
  rfl
 ·refine Gh.LG (b:=nl1) (t:=75) (e:=1) (pre:=[]) (post:=[]) 3 1 ?_ fun q hq=>?_
  ·simp[St.minus,St.set,St.none,d1]
  ·have q1:q≠nl1:=fun e=>by subst e;simp[St.minus,St.set,St.none,d1] at hq
   refine .of (.less ?_ (σ1:=(St.none.set nl1 (.row 75 1 [[.vec 1 q 0 0]])).set q (.row 3 1 [])) (le2 (by simp[St.set,q1,Ne.symm q1]) (by simp[St.set]))) ⟨rfl,(q,[]),rfl,q1⟩
   simp(maxSteps:=4000000) (disch:=first|exact ddL|fail) only[go_sem,simprocAttr,aU,aN]
 ·rintro j x ⟨q,ex⟩ hx q1
  simp only at q1 ⊢
  have hjl:j<(bV s).length:=by
   have:=(List.getElem?_eq_some_iff.1 hx).1
   simpa[dX] using this
  have hxe:x=[.int .i64 (((bV s).getD j 0:Nat):Int)]:=by
   rw[List.getElem?_map,List.getElem?_eq_getElem hjl,←b9 0 hjl] at hx
   exact(Option.some.inj hx).symm
  subst hxe
  have hsn:=MP hjl
  obtain⟨d,hd⟩:∃d,(bV s).getD j 0=d:=⟨_,rfl⟩
  rw[hd] at hsn ⊢
  have hlj:(dX ((bV s).take j)).length=j:=by rw[List.length_map,List.length_take];omega
  obtain⟨pre,hpre⟩:∃pre,dX ((bV s).take j)=pre:=⟨_,rfl⟩
  rw[hpre] at hsn hlj ⊢
  change mwp _ _ (FR.mk 13 [(7,.int .i64 (d:Int)),(2,.ptr nl1 0 0)] []) _ _
  have q2:=Ne.symm q1
  have htk:(pre++ex).take j=pre:=by rw[←hlj,List.take_left'];rfl
  have hdr:(pre++ex).drop (j+1)=ex.drop 1:=by
   rw[←List.drop_drop,←hlj,List.drop_left'];rfl
  refine b5 ?_
  repeat' first|refine wZ0 ?_|fail
  refine bL (b5 ?_)
  repeat' first|(refine wM ?_;(first|(have _:=nl3)|(have _:=nl2;intro nl3)|(intro nl2));intros)|(refine wY ?_ ?_<;>intro h)|refine wZ2 @htk @hdr ?_|fail
  ·have hex:ex=[]:=List.eq_nil_of_length_eq_zero oM
   subst hex
   clear h
   refine .of (.less (l1:=[]) (fun p hp=>by cases hp) (σ1:=(St.none.set nl1 (.row 75 1 [[.vec 1 nl3 0 (j+1)]])).set nl3 (.row 3 1 (dX ((bV s).take (j+1))++[]))) (le2 sS sS)) ⟨(nl3,[]),rfl,by assumption⟩
  ·refine .of (.less (l1:=[]) (fun p hp=>by cases hp) (σ1:=(St.none.set nl1 (.row 75 1 [[.vec 1 nl3 0 (j+1)]])).set nl3 (.row 3 1 (dX ((bV s).take (j+1))++ex.drop 1))) (le2 sS sS)) ⟨(nl3,ex.drop 1),rfl,by assumption⟩
 ·rintro⟨q,ex⟩ q1
  simp only at q1 ⊢
  have q2:=Ne.symm q1
  have hli:(dX (bV s)).length=(bV s).length:=List.length_map _
  rw[hli,List.take_length]
  show R _
  repeat' first|refine wZ0 ?_|fail
  exact Xb (aD _ _ _)
theorem BI(s:Nat)(hs:s<256)(l:Nat):aA Tryz.prog 180 [.fn (.func 273) [] [.ptr l 0 0]] (St.none.set l (.row 23 1 [[.int .u32 (s:Int)]])) (fun r _=>r=.lst 1 (dX (bV s)) false):=by
 refine(mB 5 [.tmp 2] Tryz.func180 ?_)
 have h:=Eh s hs l
 repeat' first|refine wZ1 @Tryz.f180.eq_1 ?_|fail
 refine bK h (St.le_refl _) ?_
 rintro v σ' rfl -
 repeat' first|refine wZ0 ?_|exact wC0|fail
theorem uC(m:UInt32):aA Tryz.prog 156 [.int .u32 (m.toNat:Int)] St.none (fun r _=>r=.lst 1 (dX (bV m.toNat)) false):=by
 refine(mB 7 [.tmp 2] Tryz.func156 ?_)
 have ha:nX .u32 (m.toNat:Int) 255=_:=E5 m.toNat 255 m.toNat_lt (by decide)
 have hlt:m.toNat &&& 255<256:=Nat.lt_of_le_of_lt Nat.and_le_right (by decide)
 have hb:=L7 m.toNat
 obtain⟨s,hs⟩:∃s,m.toNat &&& 255=s:=⟨_,rfl⟩
 rw[hs] at ha hlt hb
 have he:aA Tryz.prog 227 [.int .u32 (s:Int)] St.none (fun v σ'=>∃l,v=.fn (.func 273) [] [.ptr l 0 0]∧σ'=St.none.set l (.row 23 1 [[.int .u32 (s:Int)]])):=by
  refine(mB 4 [.tmp 2] Tryz.func227 ?_)
  repeat' first|(refine wO ?_;intros)|refine wZ1 @Tryz.f227.eq_1 ?_|fail
  exact⟨_,rfl,rfl⟩
 repeat' first|refine wZ2 @Tryz.f156.eq_1 @ha ?_|fail
 refine gZ he fun l hl=>?_
 repeat' first|refine wZ0 ?_|fail
 have h:=BI s hlt l
 refine bK h (St.le_refl _) ?_
 rintro v σ' rfl -
 repeat' first|refine wZ0 ?_|fail
 rw[hb]
end

section
theorem BS(x:ND):aA Tryz.prog 198 [.agg x.c] St.none (fun r _=>r=.bool (!fM x)):=by
 refine aA.bS (mB 6 [.tmp 2] Tryz.func198 ?_)
 have h:=Kb x
 repeat' first|(with_reducible first|refine up h ?_)|(refine wO ?_;intros)|refine wZ1 @Tryz.f198.eq_1 ?_|fail
 all_goals exact lE
theorem Er(l:List ND)(hl:l.length≤1000000)(t:Bool):aA Tryz.prog 133 [.lst 5 (l.map ND.c) t] St.none (fun r _=>r=.int .i64 (cR l)):=by
 refine(mB 25 [.tmp 2] Tryz.func133 ?_)
 have hc:=Bn (fun x=>!fM x) 198 l hl t (fun x _=>BS x)
 have hd:=Hd l hl t
 have he:=CX l hl t 0
 have hall:(l.any fun x=>!fM x)=!l.all fM:=by
  rw[Bool.eq_iff_iff]
  simp
 rw[hall] at hc
 have hlen:l.length=0↔l=[]:=List.length_eq_zero_iff
 obtain⟨al,hal⟩:∃b,l.all fM=b:=⟨_,rfl⟩
 obtain⟨dd,hdd⟩:∃d,iU l=d:=⟨_,rfl⟩
 obtain⟨ee,hee⟩:∃d,iR l 0=d:=⟨_,rfl⟩
 have e:cR l=if 31<l.length then 4 else if l.length=0∨ee≠l.length∨al=false then 1 else if 8<dd then 5 else 0:=by
  unfold cR;rw[hal,hdd,hee];simp only[hlen]
 rw[e]
 rw[hal] at hc
 rw[hdd] at hd
 rw[hee] at he
 clear e hlen hall hal hdd hee
 by_cases h31:31<l.length
 ·rw[if_pos h31]
  repeat' first|refine wZ1 @Tryz.f133.eq_1 ?_|exact wC1 @Tryz.f133.eq_1|fail
 ·rw[if_neg h31]
  by_cases h0:l.length=0
  ·rw[if_pos (.inl h0)]
   repeat' first|(with_reducible first|refine up he ?_)|refine wZ1 @Tryz.f133.eq_1 ?_|exact wC1 @Tryz.f133.eq_1|fail
  ·by_cases h1:ee=l.length
   ·subst h1
    cases al
    ·rw[if_pos (.inr (.inr rfl))]
     repeat' first|(with_reducible first|refine up he ?_|refine up hc ?_)|refine wZ1 @Tryz.f133.eq_1 ?_|exact wC1 @Tryz.f133.eq_1|fail
    ·rw[if_neg (by simp[h0])]
     by_cases h8:8<dd
     ·rw[if_pos h8]
      repeat' first|(with_reducible first|refine up he ?_|refine up hc ?_|refine up hd ?_)|refine wZ1 @Tryz.f133.eq_1 ?_|exact wC1 @Tryz.f133.eq_1|fail
     ·rw[if_neg h8]
      repeat' first|(with_reducible first|refine up he ?_|refine up hc ?_|refine up hd ?_)|refine wZ1 @Tryz.f133.eq_1 ?_|exact wC1 @Tryz.f133.eq_1|fail
   ·rw[if_pos (.inr (.inl h1))]
    repeat' first|(with_reducible first|refine up he ?_)|refine wZ1 @Tryz.f133.eq_1 ?_|exact wC1 @Tryz.f133.eq_1|fail
end

section
def fnG:List (FuncId × (List MV→MV))→cD
 | []=>fun _ _=>none
 | p::r=>fun g ms=>if p.1=g then some ⟨[],fun v=>v=p.2 ms,none⟩ else fnG r g ms
theorem K8{g:FuncId}{u:List MV→MV}{r:List (FuncId × (List MV→MV))}{ms:List MV}{x:MV}(h:u ms=x):fnG ((g,u)::r) g ms=some ⟨[],fun v=>v=x,none⟩:=by
 subst h
 simp[fnG]
theorem Pu{g g':FuncId}{u:List MV→MV}{r:List (FuncId × (List MV→MV))}{ms:List MV}{F:Fact}(hne:(g'==g)=false)(h:fnG r g ms=some F):fnG ((g',u)::r) g ms=some F:=by
 have:g'≠g:=by simpa using hne
 simp[fnG,this,h]
theorem extract_eq(A B:ByteArray)(i:Nat):A.extract i (i+B.size)=B↔(A.data.toList.drop i).take B.size=B.data.toList:=by
 have e:(A.extract i (i+B.size)).data.toList=(A.data.toList.drop i).take B.size:=by
  simp[ByteArray.data_extract,Array.toList_extract,List.extract_eq_take_drop]
 constructor
 ·intro h
  rw[←e,h]
 ·intro h
  rw[←e] at h
  exact ByteArray.ext (Array.toList_inj.1 h)
theorem AF(A B:ByteArray):rV A B=Go.Lib.contains A.data.toList B.data.toList:=by
 have hla:A.data.toList.length=A.size:=by rw[Array.length_toList];rfl
 have hlb:B.data.toList.length=B.size:=by rw[Array.length_toList];rfl
 have hocc:∀i,Go.Lib.occAt A.data.toList B.data.toList i=true↔(A.data.toList.drop i).take B.size=B.data.toList:=fun i=>by
  unfold Go.Lib.occAt
  rw[List.isPrefixOf_iff_prefix,List.prefix_iff_eq_take,hlb]
  exact eq_comm
 rw[Bool.eq_iff_iff]
 unfold rV Go.Lib.contains
 rw[List.any_eq_true,decide_eq_true_iff]
 constructor
 ·rintro⟨i,hi,h⟩
  have hi:=List.mem_range.1 hi
  have h:=(extract_eq A B i).1 (of_decide_eq_true h)
  rcases Go.Lib.index_spec A.data.toList B.data.toList with⟨_,h2⟩|⟨j,h1,_⟩
  ·have:=h2 i oM
   rw[(hocc i).2 h] at this
   cases this
  ·omega
 ·intro h
  rcases Go.Lib.index_spec A.data.toList B.data.toList with⟨h1,_⟩|⟨j,h1,h2,h3,_⟩
  ·omega
  ·have h4:=(hocc j).1 h3
   have h5:=congrArg List.length h4
   rw[List.length_take,List.length_drop,hla,hlb] at h5
   refine⟨j,List.mem_range.2 oM,decide_eq_true ((extract_eq A B j).2 h4)⟩
theorem Hg(a b:VA)(ha:a.s.size≤1000000)(hb:b.s.size≤1000000):aA Tryz.prog 261 [.agg a.c,.agg b.c] St.none (fun r _=>r=.bool (lT a b)):=by
 refine aA.bS (mB 22 [.tmp 4] Tryz.func261 ?_)
 have f1:=AI a.s ha
 have f2:=AI b.s hb
 have hc:=wZ (fC a.s) (fC b.s) (by rw[sA];exact ha)
 rw[←AF] at hc
 have hd:lT a b=(decide (a.kd=2)&&decide (b.kd=2)&&rV (fC a.s) (fC b.s)):=rfl
 obtain⟨C,c1,c2⟩:∃C:cD,(∀s,C 297 [.str s]=some ⟨[],fun v=>v=.str (fC s),none⟩)∧(∀ms,C 296 ms=some ⟨[],fun v=>v=.bool (rV (fC a.s) (fC b.s)),none⟩) :=
  ⟨fnG [(297,fun ms=>match ms with|[.str s]=>.str (fC s)|_=>.junk),(296,fun _=>.bool (rV (fC a.s) (fC b.s)))],fun s=>K8 rfl,fun _=>Pu rfl (K8 rfl)⟩
 have c1a:=c1 a.s
 have c1b:=c1 b.s
 clear c1
 generalize rV (fC a.s) (fC b.s)=p at hc hd c2
 generalize lT a b=out at hd ⊢
 by_cases e1:a.kd=2
 ·by_cases e2:b.kd=2
  ·rw[decide_eq_true e1,decide_eq_true e2,Bool.true_and,Bool.true_and] at hd
   subst hd
   repeat' first|((with_reducible refine aJ mixed ?chk C ?_);(case chk=>decide +kernel))|(with_reducible refine aH c1a f1 ?_)|(with_reducible refine aH c1b f2 ?_)|(with_reducible refine aH (c2 _) hc ?_)|(refine wO ?_;intros)|refine wZ3 @Tryz.f261.eq_1 @e1 @e2 ?_|fail
   all_goals exact lE
  ·rw[decide_eq_false e2,Bool.and_false,Bool.false_and] at hd
   subst hd
   repeat' first|((with_reducible refine aJ mixed ?chk C ?_);(case chk=>decide +kernel))|(with_reducible refine aH c1a f1 ?_)|(with_reducible refine aH c1b f2 ?_)|(with_reducible refine aH (c2 _) hc ?_)|(refine wO ?_;intros)|refine wZ3 @Tryz.f261.eq_1 @e1 @e2 ?_|fail
   all_goals exact lE
 ·rw[decide_eq_false e1,Bool.false_and,Bool.false_and] at hd
  subst hd
  repeat' first|((with_reducible refine aJ mixed ?chk C ?_);(case chk=>decide +kernel))|(with_reducible refine aH c1a f1 ?_)|(with_reducible refine aH c1b f2 ?_)|(with_reducible refine aH (c2 _) hc ?_)|(refine wO ?_;intros)|refine wZ2 @Tryz.f261.eq_1 @e1 ?_|fail
  all_goals exact lE
end

section
open Go.Shelf
def rO:Go.Shelf.Ren:=⟨fun|7=>201|10=>246|n=>n,fun|23=>249|26=>3|3=>126|28=>169|0=>0|27=>168|33=>235|4=>4|n=>n,fun|n=>n⟩
theorem MW:Go.Proofs.SlLaysZI.n7 Tryz.prog rO:={
  mixed:=by kernel_rfl
  f7:=⟨Tryz.f201.name,by decide,Tryz.func201.trans (congrArg some (by kernel_rfl))⟩
  f10:=⟨Tryz.f246.name,by decide,Tryz.func246.trans (congrArg some (by kernel_rfl))⟩
  t0:=Tryz.underlying0
  a0:=Tryz.isAgg0
  z0:=Tryz.sizeOf0
  v0:=Tryz.zeroValue0
  t4:=Tryz.underlying4
  a4:=Tryz.isAgg4
  z4:=Tryz.sizeOf4
  v4:=Tryz.zeroValue4
  t23:=Tryz.underlying249
  a23:=Tryz.isAgg249
  z23:=Tryz.sizeOf249
  v23:=Tryz.zeroValue249
  t26:=Tryz.underlying3
  a26:=Tryz.isAgg3
  z26:=Tryz.sizeOf3
  v26:=Tryz.zeroValue3
  t27:=Tryz.underlying168
  a27:=Tryz.isAgg168
  z27:=Tryz.sizeOf168
  v27:=Tryz.zeroValue168
  t28:=Tryz.underlying169
  a28:=Tryz.isAgg169
  z28:=Tryz.sizeOf169
  v28:=Tryz.zeroValue169
  t33:=Tryz.underlying235
  a33:=Tryz.isAgg235
  z33:=Tryz.sizeOf235
  v33:=Tryz.zeroValue235 }
def rP:Go.Shelf.Ren:=⟨fun|7=>97|10=>182|n=>n,fun|23=>131|26=>3|3=>3|28=>169|0=>0|27=>168|33=>235|4=>4|n=>n,fun|n=>n⟩
theorem MX:Go.Proofs.SlLaysZI.n7 Tryz.prog rP:={
  mixed:=by kernel_rfl
  f7:=⟨Tryz.f97.name,by decide,Tryz.func97.trans (congrArg some (by kernel_rfl))⟩
  f10:=⟨Tryz.f182.name,by decide,Tryz.func182.trans (congrArg some (by kernel_rfl))⟩
  t0:=Tryz.underlying0
  a0:=Tryz.isAgg0
  z0:=Tryz.sizeOf0
  v0:=Tryz.zeroValue0
  t4:=Tryz.underlying4
  a4:=Tryz.isAgg4
  z4:=Tryz.sizeOf4
  v4:=Tryz.zeroValue4
  t23:=Tryz.underlying131
  a23:=Tryz.isAgg131
  z23:=Tryz.sizeOf131
  v23:=Tryz.zeroValue131
  t26:=Tryz.underlying3
  a26:=Tryz.isAgg3
  z26:=Tryz.sizeOf3
  v26:=Tryz.zeroValue3
  t27:=Tryz.underlying168
  a27:=Tryz.isAgg168
  z27:=Tryz.sizeOf168
  v27:=Tryz.zeroValue168
  t28:=Tryz.underlying169
  a28:=Tryz.isAgg169
  z28:=Tryz.sizeOf169
  v28:=Tryz.zeroValue169
  t33:=Tryz.underlying235
  a33:=Tryz.isAgg235
  z33:=Tryz.sizeOf235
  v33:=Tryz.zeroValue235 }
def gU:Go.Shelf.Ren:=⟨fun|6=>96|8=>180|9=>181|11=>235|13=>237|12=>236|23=>287|24=>288|14=>278|15=>279|16=>280|17=>281|18=>282|19=>283|20=>284|21=>285|22=>286|25=>305|26=>306|27=>307|28=>308|29=>309|30=>299|31=>322|n=>n,fun|26=>3|28=>169|24=>75|0=>0|3=>3|37=>263|48=>23|50=>318|4=>4|40=>312|39=>311|45=>239|5=>5|9=>9|51=>328|55=>332|57=>343|58=>344|33=>235|n=>n,fun|n=>n⟩
theorem xL:Go.Proofs.SlLaysZI.n6 Tryz.prog gU:={
  mixed:=by kernel_rfl
  f6:=⟨Tryz.f96.name,by decide,Tryz.func96.trans (congrArg some (by kernel_rfl))⟩
  f8:=⟨Tryz.f180.name,by decide,Tryz.func180.trans (congrArg some (by kernel_rfl))⟩
  f11:=⟨Tryz.f235.name,by decide,Tryz.func235.trans (congrArg some (by kernel_rfl))⟩
  t0:=Tryz.underlying0
  a0:=Tryz.isAgg0
  z0:=Tryz.sizeOf0
  v0:=Tryz.zeroValue0
  t24:=Tryz.underlying75
  a24:=Tryz.isAgg75
  z24:=Tryz.sizeOf75
  v24:=Tryz.zeroValue75
  t26:=Tryz.underlying3
  a26:=Tryz.isAgg3
  z26:=Tryz.sizeOf3
  v26:=Tryz.zeroValue3
  t28:=Tryz.underlying169
  a28:=Tryz.isAgg169
  z28:=Tryz.sizeOf169
  v28:=Tryz.zeroValue169
  i26:=by kernel_rfl }
def Bs:Go.Shelf.Ren:=⟨fun|5=>181|8=>237|7=>236|19=>287|20=>288|10=>278|11=>279|12=>280|13=>281|14=>282|15=>283|16=>284|17=>285|18=>286|30=>305|31=>306|32=>307|33=>308|34=>309|35=>299|40=>322|n=>n,fun|23=>75|25=>3|3=>3|32=>263|22=>75|0=>0|44=>23|46=>318|4=>4|36=>312|35=>311|41=>239|5=>5|9=>9|53=>328|57=>332|63=>343|64=>344|n=>n,fun|n=>n⟩
theorem Cx:Go.Proofs.SlLaysM.n5 Tryz.prog Bs:={
  mixed:=by kernel_rfl
  f5:=⟨Tryz.f181.name,by decide,Tryz.func181.trans (congrArg some (by kernel_rfl))⟩
  f7:=⟨Tryz.f236.name,by decide,Tryz.func236.trans (congrArg some (by kernel_rfl))⟩
  f8:=Tryz.func237.trans (congrArg some (by kernel_rfl))
  f10:=⟨Tryz.f278.name,by decide,Tryz.func278.trans (congrArg some (by kernel_rfl))⟩
  f11:=⟨Tryz.f279.name,by decide,Tryz.func279.trans (congrArg some (by kernel_rfl))⟩
  f12:=⟨Tryz.f280.name,by decide,Tryz.func280.trans (congrArg some (by kernel_rfl))⟩
  f13:=⟨Tryz.f281.name,by decide,Tryz.func281.trans (congrArg some (by kernel_rfl))⟩
  f14:=⟨Tryz.f282.name,by decide,Tryz.func282.trans (congrArg some (by kernel_rfl))⟩
  f15:=⟨Tryz.f283.name,by decide,Tryz.func283.trans (congrArg some (by kernel_rfl))⟩
  f16:=⟨Tryz.f284.name,by decide,Tryz.func284.trans (congrArg some (by kernel_rfl))⟩
  f17:=⟨Tryz.f285.name,by decide,Tryz.func285.trans (congrArg some (by kernel_rfl))⟩
  f18:=⟨Tryz.f286.name,by decide,Tryz.func286.trans (congrArg some (by kernel_rfl))⟩
  f19:=Tryz.func287.trans (congrArg some (by kernel_rfl))
  f20:=Tryz.func288.trans (congrArg some (by kernel_rfl))
  f30:=⟨Tryz.f305.name,by decide,Tryz.func305.trans (congrArg some (by kernel_rfl))⟩
  f31:=Tryz.func306.trans (congrArg some (by kernel_rfl))
  f32:=Tryz.func307.trans (congrArg some (by kernel_rfl))
  f33:=⟨Tryz.f308.name,by decide,Tryz.func308.trans (congrArg some (by kernel_rfl))⟩
  f34:=⟨Tryz.f309.name,by decide,Tryz.func309.trans (congrArg some (by kernel_rfl))⟩
  f35:=⟨Tryz.f299.name,by decide,Tryz.func299.trans (congrArg some (by kernel_rfl))⟩
  f40:=⟨Tryz.f322.name,by decide,Tryz.func322.trans (congrArg some (by kernel_rfl))⟩
  t0:=Tryz.underlying0
  a0:=Tryz.isAgg0
  z0:=Tryz.sizeOf0
  v0:=Tryz.zeroValue0
  t3:=Tryz.underlying3
  a3:=Tryz.isAgg3
  z3:=Tryz.sizeOf3
  v3:=Tryz.zeroValue3
  t4:=Tryz.underlying4
  a4:=Tryz.isAgg4
  z4:=Tryz.sizeOf4
  v4:=Tryz.zeroValue4
  t5:=Tryz.underlying5
  a5:=Tryz.isAgg5
  z5:=Tryz.sizeOf5
  v5:=Tryz.zeroValue5
  t9:=Tryz.underlying9
  a9:=Tryz.isAgg9
  z9:=Tryz.sizeOf9
  v9:=Tryz.zeroValue9
  t22:=Tryz.underlying75
  a22:=Tryz.isAgg75
  z22:=Tryz.sizeOf75
  v22:=Tryz.zeroValue75
  t23:=Tryz.underlying75
  a23:=Tryz.isAgg75
  z23:=Tryz.sizeOf75
  v23:=Tryz.zeroValue75
  t25:=Tryz.underlying3
  a25:=Tryz.isAgg3
  z25:=Tryz.sizeOf3
  v25:=Tryz.zeroValue3
  t32:=Tryz.underlying263
  a32:=Tryz.isAgg263
  z32:=Tryz.sizeOf263
  v32:=Tryz.zeroValue263
  t35:=Tryz.underlying311
  a35:=Tryz.isAgg311
  z35:=Tryz.sizeOf311
  v35:=Tryz.zeroValue311
  t36:=Tryz.underlying312
  a36:=Tryz.isAgg312
  z36:=Tryz.sizeOf312
  v36:=Tryz.zeroValue312
  t41:=Tryz.underlying239
  a41:=Tryz.isAgg239
  z41:=Tryz.sizeOf239
  v41:=Tryz.zeroValue239
  t44:=Tryz.underlying23
  a44:=Tryz.isAgg23
  z44:=Tryz.sizeOf23
  v44:=Tryz.zeroValue23
  t46:=Tryz.underlying318
  a46:=Tryz.isAgg318
  z46:=Tryz.sizeOf318
  v46:=Tryz.zeroValue318
  t53:=Tryz.underlying328
  a53:=Tryz.isAgg328
  z53:=Tryz.sizeOf328
  v53:=Tryz.zeroValue328
  t57:=Tryz.underlying332
  a57:=Tryz.isAgg332
  z57:=Tryz.sizeOf332
  v57:=Tryz.zeroValue332
  t63:=Tryz.underlying343
  a63:=Tryz.isAgg343
  z63:=Tryz.sizeOf343
  v63:=Tryz.zeroValue343
  t64:=Tryz.underlying344
  a64:=Tryz.isAgg344
  z64:=Tryz.sizeOf344
  v64:=Tryz.zeroValue344 }
end

section
open Go.MapKept Go.RowKit Go.Maps Go.Sort Go.Shelf
open Go.WideElems (Fit rd rg)
def Vm:MV→Int
 | .int _ n=>n
 | _=>0
def eV(es:List (MV × MV)):List Int:=es.map fun p=>Vm p.1
def p7{H:Type}(_:Value):Option (DataW H × List MemPlace):=some (.lit (.bool true),[])
theorem T8{H:Type}{P:Program}{Φ:Phi}{w:World}{l:Nat}{es:List (MV × MV)}{k:TypeId}(h:eY Φ w l (.mp es))(hk:P.underlying k=some (.int .i64))
 (he:(es.all fun p=>isK .i64 p.1)=true)(hwf:∀n∈eV es,(Lit.int .i64 n).wf=true)(hl:es.length≤maxLen) :
  ∃(p:Place) (b:Nat) (D0:DataW H),Φ.obj l=some p∧p.blk=some b∧w.ownsMap P k p7 b es.length D0∧(intKeys D0).Perm (eV es)∧Maps.size D0=es.length:=by
 obtain⟨p,R,c,clock,hp,hR,hh,hs,hst,hrel⟩:=h.F9
 have key:∀(i:Nat) (e:MapEntry),c.toList[i]?=some e→Go.WideElems.rd (H:=H) P k p7 e=some (Lit.int .i64 ((eV es).getD i 0),.lit (.bool true)):=fun i e hi=>by
  have hlt:i<es.length:=by
   have:=(List.getElem?_eq_some_iff.1 hi).1
   rw[←hs];simpa using this
  obtain⟨e',q1,q2,_⟩:=hrel i es[i] (List.getElem?_eq_getElem hlt)
  rw[hi] at q1;cases q1
  have hik:=List.all_eq_true.1 he es[i] (List.getElem_mem hlt)
  obtain⟨n,hn⟩:=mN hik
  rw[hn] at q2
  have hkn:(eV es).getD i 0=n:=by
   simp[eV,List.getD_eq_getElem?_getD,List.getElem?_eq_getElem hlt,hn,Vm]
  have hw:=hwf n (by
   rw[eV,List.mem_map]
   exact⟨es[i],List.getElem_mem hlt,by rw[hn];rfl⟩)
  rw[hkn]
  simp[Go.WideElems.rd,p7,q2.aS,keyOf,mapKey,hk,hw]
 have hF:Fit (H:=H) P k p7 c clock:=⟨by rw[hs];exact hl,hst,fun x hx=>by
  obtain⟨i,hi,rfl⟩:=List.mem_iff_getElem.1 hx
  exact⟨_,key i _ (List.getElem?_eq_getElem hi)⟩⟩
 have hmap:(c.toList.map (rg (H:=H) P k p7)).map (fun q=>Go.intOf q.1)=eV es:=by
  refine List.ext_getElem? fun i=>?_
  simp only[List.map_map,List.getElem?_map]
  rcases Nat.lt_or_ge i es.length with hi|hi
  ·have hc:i<c.toList.length:=by simpa[hs] using hi
   rw[List.getElem?_eq_getElem hc]
   have h1:=key i _ (List.getElem?_eq_getElem hc)
   simp only[Option.map_some,Function.comp,Go.WideElems.rg_of h1]
   have h2:i<(eV es).length:=by simpa[eV] using hi
   simp[Go.intOf,List.getD_eq_getElem?_getD,List.getElem?_eq_getElem h2]
  ·rw[List.getElem?_eq_none (by simpa[hs] using hi),List.getElem?_eq_none (by simpa[eV] using hi)]
   rfl
 refine⟨p,R,.map ((c.toList.map (rg P k p7)).foldr DataW.insert []),hp,hR,⟨c,clock,hh,hF,by omega,rfl⟩,?_,?_⟩
 ·show(((c.toList.map (rg P k p7)).foldr DataW.insert []).map fun q=>Go.intOf q.1).Perm _
  rw[←hmap]
  exact(Go.WideShapes.sorted_perm _).map _
 ·show((c.toList.map (rg P k p7)).foldr DataW.insert []).length=_
  rw[length_sorted];simp[hs]
theorem Inv.Ug{Φ:Phi}{w w':World}{σ:St}(hi:Inv Φ w σ)(hi':Inv Φ w' σ)(st:Step Φ σ w Φ σ w')(g:Nat)(hg:w.heap.size≤g) :
  Inv (Φ.sT w' (fun k=>k=g)) w' σ∧Step Φ σ w (Φ.sT w' (fun k=>k=g)) σ w':=by
 have hle:=y0 Φ w' (fun k=>k=g)
 refine⟨⟨fun l o h=>(hi'.own l o h).mono hle (fun _ _ _ _=>rfl),hi'.inj,fun a v hv=>?_,fun l o p R a v hl hp hR hv=>?_,hi.fresh.1,fun q i v h=>hle.snap _ _ (hi.fresh.2.1 q i v h),hi.fresh.2.2.mono hle.snap⟩,
  ⟨hle,st.os,st.tape,st.output,st.drawn,st.size,st.block,fun a v hv=>?_,st.locs,st.ownd⟩⟩
 ·rcases fV hv with q|⟨_,q⟩
  ·exact hi'.snap a v q
  ·exact q
 ·rcases fV hv with q|⟨q,_⟩
  ·exact hi'.apart l o p R a v hl hp hR q
  ·intro e
   obtain⟨p',hp',hlt⟩:=(hi.own l o hl).place
   rw[show Φ.obj l=some p from hp] at hp'
   cases hp'
   have:=hlt R hR
   have q:R=g:=by rw[←e];exact q
   omega
 ·rcases fV hv with q|⟨q,_⟩
  ·exact .inl q
  ·have q:a.block=g:=q
   exact .inr (.inl oM)
theorem yA{P:Program}{ρ ρk:Ren}(L6:SlLaysZI.n6 P ρ)(L10:SlLaysZI.n10 P ρk)(hs:∀m,AnyZI.SortsIn P ρ Fence.wide m)
 (e9:∀args w,(callFunc (ρ.f 9) args).run P w=.ok (.enter (ρ.f 9) args) w)(eg:∀args w,(callFunc (ρk.f 10) args).run P w=.ok (.enter (ρk.f 10) args) w)(hent:Enters P (ρ.f 6))
 {l l2:Nat}{tm:TypeId}{es:List (MV × MV)}(hne:l≠l2)(he:(es.all fun p=>isK .i64 p.1)=true)(hwf:∀n∈eV es,(Lit.int .i64 n).wf=true)(hl:es.length≤1000000) :
  aA P (ρ.f 6) [.fn (.func (ρk.f 10)) [] [.ptr l 0 0]] ((St.none.set l (.row tm 1 [[.mapv l2]])).set l2 (.mp es)) fun r σ' =>
   (∃ns:List Int,ns.Perm (eV es)∧ns.Pairwise (fun a b=>a≤b)∧r=.lst 1 (ns.map fun n=>[.int .i64 n]) false)∧σ'=(St.none.set l (.row tm 1 [[.mapv l2]])).set l2 (.mp es):=by
 obtain⟨σ0,hσ0⟩:∃σ0:St,(St.none.set l (.row tm 1 [[.mapv l2]])).set l2 (.mp es)=σ0:=⟨_,rfl⟩
 have h2:σ0 l2=some (.mp es):=by rw[←hσ0];exact aD _ _ _
 have h1:σ0 l=some (.row tm 1 [[.mapv l2]]):=by rw[←hσ0];simp[St.set,hne]
 rw[hσ0]
 refine⟨hent,fun Φ w vs hi hr=>?_⟩
 obtain⟨first,cap,e0,r1,r2⟩:=(hr.2 0 _ rfl).sC
 have hf0:first=#[]:=by have:=r1.1;simp at this;exact this
 subst hf0
 have hcs:cap.size=1:=r2.1
 obtain⟨p,R,hp,hR,hc⟩:=(r2.2 0 _ rfl).iZ
 have hbo:p.bo=0:=hi.fresh.1.2 l p hp
 have hcap:cap=#[.pointer (some ⟨R,0,none⟩)]:=by
  refine Array.ext (by simpa using hcs) fun i q1 q2=>?_
  have hi0:i=0:=by omega
  subst hi0
  have:=hc
  rw[hbo] at this
  simp[Array.getD,q1] at this
  exact this
 have hvs:vs=#[.func (.func (ρk.f 10)) #[] #[.pointer (some ⟨R,0,none⟩)]]:=by
  have hz:=hr.1
  simp at hz
  refine Array.ext (by simpa using hz) fun i q1 q2=>?_
  have hi0:i=0:=by omega
  subst hi0
  have:=e0
  rw[hcap] at this
  simp[Array.getD,q1] at this
  exact this
 subst hvs
 -- the map
 obtain⟨p2,b,D0,hp2,hb2,hown,hperm,hsz⟩:=T8 (H:=Unit) (P:=P) (k:=ρk.t 26) (hi.own l2 _ h2) L10.t26 he hwf (Nat.le_trans hl (by decide))
 -- the box
 obtain⟨p',hp',hpe,hlen,hmax,hx,hmatch⟩:=hi.own l _ h1
 rw[hp] at hp'
 cases hp'
 rw[hR] at hmatch
 obtain⟨c,fz,hheap,_,_,hcell⟩:=hmatch
 obtain⟨_,v,hv,hrel⟩:=hcell 0 _ 0 _ rfl rfl
 obtain⟨p3,R3,hp3,hR3,rfl⟩:=hrel.nI
 rw[hp2] at hp3
 cases hp3
 rw[hb2] at hR3
 cases hR3
 have hRlt:R<w.heap.size:=by
  obtain⟨q,_⟩:=Array.getElem?_eq_some_iff.1 hheap;exact q
 have hcl:w.cell? ⟨R,0,none⟩=some (.map (some b)):=by
  simp only[World.cell?,hheap]
  rw[hbo] at hv
  simpa using hv
 have hseq:=AnyZI.keys_gives (H:=Unit) (ρ:=ρk) L10 Fence.wide 2 trivial rfl oM R b es.length D0 w hRlt hcl hown
 have cS:=AnyZI.sorted_in L6 Fence.wide 5 trivial trivial trivial trivial rfl oM (hs _) e9 (ρk.f 10) _ trivial eg _ (Maps.size D0) (by rw[hsz];exact Nat.le_trans hl (by decide)) (by rw[hsz];omega) w hseq
 refine(callsIn_wide.1 cS).mono ?_
 rintro e w' ⟨v,ss,rfl,hS,hrow,hnil,hb⟩
 obtain⟨i2,s2⟩:=hi.grow (w':=w') hb.os hb.tape hb.output (by simp[drw,DR]) hb.size hb.block
 have hpm:(ss.mergeSort (fun x y=>decide (x≤y))).Perm (eV es):=(List.mergeSort_perm ss _).trans (hS.trans hperm)
 have hpw:(ss.mergeSort (fun x y=>decide (x≤y))).Pairwise (fun a b=>a≤b):=(List.pairwise_mergeSort (le:=fun x y:Int=>decide (x≤y)) (fun a b c=>by simp;omega) (fun a b=>by simp;omega) ss).imp (fun h=>by simpa using h)
 generalize hns:ss.mergeSort (fun x y=>decide (x≤y))=ns at *
 have hnl:ns.length=ss.length:=by rw[←hns];exact List.length_mergeSort ss
 rcases hrow.2 with⟨rfl,hz⟩|⟨g,capn,cur,rfl,hbase,hgb,q1,q2,q3,q4⟩
 ·have hn0:ns=[]:=List.eq_nil_of_length_eq_zero oM
  subst hn0
  exact⟨_,_,σ0,Φ,rfl,.lstn 1 false,i2,s2,⟨[],hpm,hpw,rfl⟩,rfl⟩
 ·obtain⟨i3,s3⟩:=hi.Ug i2 s2 g hbase
  have h0:0<ss.length:=by
   rcases Nat.eq_zero_or_pos ss.length with h|h
   ·have:=hnil.2 (List.eq_nil_of_length_eq_zero h)
    cases this
   ·exact h
  refine⟨_,.lst 1 (ns.map fun n=>[.int .i64 n]) false,σ0,_,rfl,?_,i3,s3,⟨ns,hpm,hpw,rfl⟩,rfl⟩
  have hat:∀i,i<ns.length→w'.cell? ⟨g,i,none⟩=some (.int .i64 (ns.getD i 0)):=fun i hi'=>by
   have e1:(cur.toList.take (ss.length * 1))[i]?=(ns.map encZ)[i]?:=by rw[q4]
   rw[List.getElem?_take,if_pos oM,List.getElem?_map,List.getElem?_eq_getElem hi'] at e1
   simp only[World.cell?,hgb]
   simp at e1
   simp[e1,List.getD_eq_getElem?_getD,List.getElem?_eq_getElem hi',encZ]
  have hsn:∀i,i<ns.length→(Φ.sT w' (fun k=>k=g)).snap ⟨g,i,none⟩=some (.int .i64 (ns.getD i 0)):=fun i hi'=>by
   simp only[Phi.sT]
   split
   ·rename_i u hu
    have:=World.block_lt_of_cell? w _ (hi.snap _ _ hu)
    simp only at this
    omega
   ·simp[hat i hi']
  refine Rel.lst (vs:=fun i _=>.int .i64 (ns.getD i 0)) (by simpa using hnl) h0 q1 q2 (fun h=>by cases h) (fun i x hx=>?_) (fun i x j m hx hm=>?_) (fun i x j m hx hm=>?_)
  all_goals
   rw[List.getElem?_map,Option.map_eq_some_iff] at hx
   obtain⟨n,hn,rfl⟩:=hx
  ·rfl
  ·have hin:=(List.getElem?_eq_some_iff.1 hn).1
   have hj:j=0:=by
    have:=(List.getElem?_eq_some_iff.1 hm).1
    simpa using this
   subst hj
   simp at hm
   subst hm
   exact⟨rfl,by simpa using hsn i hin⟩
  ·have hj:j=0:=by
    have:=(List.getElem?_eq_some_iff.1 hm).1
    simpa using this
   subst hj
   simp at hm
   subst hm
   simp[List.getD_eq_getElem?_getD,hn]
   exact .int _ _
theorem R5(m:Nat):AnyZI.SortsIn Tryz.prog gU Fence.wide m :=
 ⟨fun blk off cap ss W hH hblk hsz=>callsIn_wide.2 (AnyM.slices_Sort_int Cx blk off cap ss W hH hblk hsz),
  fun p cap W=>callsIn_wide.2 (AnyM.slices_Sort_int_none Cx p cap W)⟩
theorem ER{l l2:Nat}{es:List (MV × MV)}(hne:l≠l2)(he:(es.all fun p=>isK .i64 p.1)=true)(hwf:∀n∈eV es,(Lit.int .i64 n).wf=true)(hl:es.length≤1000000) :
  aA Tryz.prog 96 [.fn (.func 246) [] [.ptr l 0 0]] ((St.none.set l (.row 249 1 [[.mapv l2]])).set l2 (.mp es)) fun r σ' =>
   (∃ns:List Int,ns.Perm (eV es)∧ns.Pairwise (fun a b=>a≤b)∧r=.lst 1 (ns.map fun n=>[.int .i64 n]) false)∧σ'=(St.none.set l (.row 249 1 [[.mapv l2]])).set l2 (.mp es) :=
 yA (ρ:=gU) (ρk:=rO) xL { MW with } R5 (enters_of Tryz.func181 (by kernel_rfl) rfl) (enters_of Tryz.func246 (by kernel_rfl) rfl) ⟨_,Tryz.func96,rfl,rfl⟩ hne he hwf hl
theorem BZ{l l2:Nat}{es:List (MV × MV)}(hne:l≠l2)(he:(es.all fun p=>isK .i64 p.1)=true)(hwf:∀n∈eV es,(Lit.int .i64 n).wf=true)(hl:es.length≤1000000) :
  aA Tryz.prog 96 [.fn (.func 182) [] [.ptr l 0 0]] ((St.none.set l (.row 131 1 [[.mapv l2]])).set l2 (.mp es)) fun r σ' =>
   (∃ns:List Int,ns.Perm (eV es)∧ns.Pairwise (fun a b=>a≤b)∧r=.lst 1 (ns.map fun n=>[.int .i64 n]) false)∧σ'=(St.none.set l (.row 131 1 [[.mapv l2]])).set l2 (.mp es) :=
 yA (ρ:=gU) (ρk:=rP) xL { MX with } R5 (enters_of Tryz.func181 (by kernel_rfl) rfl) (enters_of Tryz.func182 (by kernel_rfl) rfl) ⟨_,Tryz.func96,rfl,rfl⟩ hne he hwf hl
end

section
theorem Su{P:Program}{g:FuncId}{ms:List MV}{σ:St}{om:aT}{ol:Nat→aT}{u:Nat→Nat→MV}{k:MV→St→Prop}(h:aA P g ms St.none fun v σ'=>∃m l,l≠m∧v=u l m∧σ'=(St.none.set m om).set l (ol m))
 (hk:∀m l,σ m=none→σ l=none→l≠m→R (bT (u l m) ((σ.set m om).set l (ol m)) k)):R (cW P g ms σ k) :=
 bK h (St.none_le σ) fun v σ' hv hf=>by
  obtain⟨m,l,hne,rfl,rfl⟩:=hv
  rw[lY,bE,bE,dC]
  refine hk m l ?_ ?_ hne
  ·rcases hf m om ((aG _ _ _ _ (Ne.symm hne)).trans (aD _ _ _)) with h|⟨o',h⟩
   ·exact h
   ·simp[St.none] at h
  ·rcases hf l _ (aD _ _ _) with h|⟨o',h⟩
   ·exact h
   ·simp[St.none] at h
theorem aA.C0{P:Program}{g:FuncId}{ms:List MV}{σ τ:St}{X:MV}(h:aA P g ms σ fun v σ'=>∃σv:St,σv.le σ'∧τ.le σ'∧(∀k o,τ k=some o→σv k=none)∧View σv v X):aA P g ms σ fun v σ'=>v=X∧σ'=τ :=
 aA.ghost (h.mono fun v σ' ⟨σv,h1,h2,h3,h4⟩=>⟨X,τ,bA.freeze σv h1 h2 h3 (fun p hp=>by
  simp at hp
  subst hp
  simpa[cQ] using h4),rfl,rfl⟩)
theorem RN{τ:St}{q:Nat}{t:TypeId}{e n:Nat}{xs ex:List (List MV)}(hq:τ q=none)(hn:n=xs.length):∃σv:St,σv.le (τ.set q (.row t e (xs++ex)))∧τ.le (τ.set q (.row t e (xs++ex)))∧(∀k o,τ k=some o→σv k=none)∧View σv (.vec e q 0 n) (.lst e xs false) :=
 ⟨St.none.set q (.row t e (xs++ex)),St.aB (St.none_le _) (aD _ _ _),fun j o h=>(aG _ _ _ _ (fun h1=>by subst h1;rw[hq] at h;cases h)).trans h,fun j o h=>aG _ _ _ _ (fun h1=>by subst h1;rw[hq] at h;cases h),by
  have:=View.vec (σ:=St.none.set q (.row t e (xs++ex))) (lo:=0) (n:=n) (aD _ _ _) (by rw[List.length_append];omega)
  rwa [List.drop_zero,hn,List.take_append_of_le_length (Nat.le_refl _),List.take_length,←hn] at this⟩
theorem Lj{A:St}{a b:Nat}{x y:aT}(ha:A a=none):(A.set b y).le ((A.set a x).set b y):=fun j o h=>by
 simp only[St.set] at h ⊢
 split
 ·rename_i e;rw[if_pos e] at h;exact h
 ·rename_i e
  rw[if_neg e] at h
  rw[if_neg (fun e=>by subst e;rw[ha] at h;cases h)]
  exact h
theorem i6{σ:St}{a:Nat}{x:aT}(ha:σ a=none):σ.le (σ.set a x):=fun j o h=>(aG _ _ _ _ (fun e=>by subst e;rw[ha] at h;cases h)).trans h
theorem yW{σ:St}{l k:Nat}{o:aT}(h:(σ.set l o) k=none):k≠l∧σ k=none:=by
 have e:k≠l:=fun e=>by subst e;simp[St.set] at h
 exact⟨e,by simpa[St.set,e] using h⟩
abbrev shO(next:Int)(m:Nat)(dead:MV):aT:=.row 251 3 [[.int .i64 next,.mapv m,dead]]
abbrev bG(seq:Int)(l:Nat)(groups:MV):aT:=.row 140 3 [[.int .i64 seq,.ptr l 0 0,groups]]
theorem Kt:aA Tryz.prog 132 [] St.none (fun v σ'=>∃m l,l≠m∧v=.ptr l 0 0∧σ'=(St.none.set m (.mp [])).set l (shO 1 m .aM)):=by
 refine(mB 4 [.tmp 0] Tryz.func132 ?_)
 repeat' first|(refine wO ?_;intros)|refine wZ1 @Tryz.f132.eq_1 ?_|fail
 all_goals exact⟨_,_,by assumption,rfl,rfl⟩
theorem Ih:aA Tryz.prog 60 [] St.none (fun v σ'=>∃m l b,l≠m∧b≠m∧b≠l∧v=.ptr b 0 0∧σ'=((St.none.set m (.mp [])).set l (shO 1 m .aM)).set b (bG 0 l .aM)):=by
 refine(mB 4 [.tmp 0] Tryz.func60 ?_)
 repeat' first|(refine Su Kt ?_;intro m l hm hl hlm)|(refine wO ?_;intros)|refine wZ1 @Tryz.f60.eq_1 ?_|fail
 all_goals exact⟨_,_,_,by assumption,by assumption,by assumption,rfl,rfl⟩
theorem IX(m:Nat):aA Tryz.prog 201 [.mapv m] St.none (fun v σ'=>∃l,v=.fn (.func 246) [] [.ptr l 0 0]∧σ'=St.none.set l (.row 249 1 [[.mapv m]])):=by
 refine(mB 4 [.tmp 2] Tryz.func201 ?_)
 repeat' first|(refine wO ?_;intros)|refine wZ1 @Tryz.f201.eq_1 ?_|fail
 all_goals exact⟨_,rfl,rfl⟩
theorem IY(m:Nat):aA Tryz.prog 97 [.mapv m] St.none (fun v σ'=>∃l,v=.fn (.func 182) [] [.ptr l 0 0]∧σ'=St.none.set l (.row 131 1 [[.mapv m]])):=by
 refine(mB 4 [.tmp 2] Tryz.func97 ?_)
 repeat' first|(refine wO ?_;intros)|refine wZ1 @Tryz.f97.eq_1 ?_|fail
 all_goals exact⟨_,rfl,rfl⟩
end

section
def cEs(cs:List CA):List (MV × MV):=cs.map fun c=>(.int .i64 c.id,.agg c.c)
def SJ(cs:List CA):Prop:=cs.Pairwise (fun a b=>a.id<b.id)∧(∀c,c∈cs→0≤c.id∧c.id≤1073741824)∧cs.length≤1000000
theorem Cv(cs:List CA):eV (cEs cs)=cs.map CA.id:=by
 simp[eV,cEs,Vm]
theorem qV(cs:List CA):((cEs cs).all fun p=>isK .i64 p.1)=true:=by
 simp[cEs,isK]
theorem H8{n:Int}(h:0≤n∧n≤1099511627776):(Lit.int .i64 n).wf=true:=by
 simp[Lit.wf,IntKind.min,IntKind.signed,IntKind.bits]
 omega
theorem HV{cs:List CA}(h:cs.Pairwise (fun a b=>a.id<b.id)){ns:List Int}(hp:ns.Perm (cs.map CA.id))(hs:ns.Pairwise (fun a b=>a≤b)):ns=cs.map CA.id :=
 List.Perm.eq_of_pairwise (le:=fun a b:Int=>a≤b) (fun a b _ _ h1 h2=>Int.le_antisymm h1 h2) hs ((List.pairwise_map.2 (h.imp fun h=>Int.le_of_lt h))) hp
theorem ES{l m:Nat}{cs:List CA}(hne:l≠m)(hc:SJ cs) :
  aA Tryz.prog 96 [.fn (.func 246) [] [.ptr l 0 0]] ((St.none.set l (.row 249 1 [[.mapv m]])).set m (.mp (cEs cs))) fun r σ' =>
   r=.lst 1 (cs.map fun c=>[.int .i64 c.id]) false∧σ'=(St.none.set l (.row 249 1 [[.mapv m]])).set m (.mp (cEs cs)):=by
 refine(ER hne (qV cs) (fun n hn=>?_) (by simp[cEs];exact hc.2.2)).mono fun r σ' h=>?_
 ·rw[Cv] at hn
  obtain⟨c,h1,rfl⟩:=List.mem_map.1 hn
  have:=hc.2.1 c h1
  exact H8 oM
 ·obtain⟨⟨ns,h1,h2,rfl⟩,rfl⟩:=h
  rw[Cv] at h1
  rw[HV hc.1 h1 h2]
  simp
theorem PK{cs:List CA}(h:cs.Pairwise (fun a b=>a.id<b.id)){i:Nat}{c:CA}(hi:cs[i]?=some c):dQ c.id (cEs cs)=some (.agg c.c):=by
 induction cs generalizing i with
 | nil=>simp at hi
 | cons d r ih =>
  obtain⟨h1,h2⟩:=List.pairwise_cons.1 h
  cases i with
  | zero =>
   simp at hi
   subst hi
   simp[cEs,dQ]
  | succ i =>
   have hi:r[i]?=some c:=by simpa using hi
   have:=h1 c (List.mem_of_getElem? hi)
   have h3:dQ c.id (cEs (d::r))=dQ c.id (cEs r):=by
    simp only[cEs,List.map_cons,dQ]
    rw[if_neg oM]
   rw[h3]
   exact ih h2 hi
theorem EN(next:Int)(l m:Nat)(dead:MV)(cs:List CA)(hlm:l≠m)(hc:SJ cs):aA Tryz.prog 135 [.ptr l 0 0] ((St.none.set m (.mp (cEs cs))).set l (shO next m dead)) (fun v σ'=>v=.lst 27 (cs.map CA.c) false∧σ'=(St.none.set m (.mp (cEs cs))).set l (shO next m dead)):=by
 refine aA.C0 (mB 30 [.tmp 2] Tryz.func135 ?_)
 have hk:=IX m
 obtain⟨K,hK⟩:∃K:List (List MV),(cs.map fun c=>[MV.int .i64 c.id])=K:=⟨_,rfl⟩
 have hkl:K.length=cs.length:=by rw[←hK];simp
 have hnone:∀{b:Nat},(St.none.set m (.mp (cEs cs))).set l (shO next m dead) b=none→b≠m∧b≠l:=fun {b} hb =>
  ⟨fun e=>by subst e;simp[St.set,Ne.symm hlm] at hb,fun e=>by subst e;simp[St.set] at hb⟩
 have hs:∀{b:Nat},(St.none.set m (.mp (cEs cs))).set l (shO next m dead) b=none→aA Tryz.prog 96 [.fn (.func 246) [] [.ptr b 0 0]] ((St.none.set b (.row 249 1 [[.mapv m]])).set m (.mp (cEs cs))) fun r σ' =>
   r=.lst 1 K false∧σ'=(St.none.set b (.row 249 1 [[.mapv m]])).set m (.mp (cEs cs)):=fun {b} hb=>by rw[←hK];exact ES (hnone hb).1 hc
 have hle:∀{b:Nat},(St.none.set m (.mp (cEs cs))).set l (shO next m dead) b=none→((St.none.set b (.row 249 1 [[.mapv m]])).set m (.mp (cEs cs))).le (((St.none.set m (.mp (cEs cs))).set l (shO next m dead)).set b (.row 249 1 [[.mapv m]])):=fun {b} hb =>
  le2 (aD _ _ _) ((aG _ _ _ _ (Ne.symm (hnone hb).1)).trans ((aG _ _ _ _ (Ne.symm hlm)).trans (aD _ _ _)))
 have hlen:=hc.2.2
 repeat' first|(refine gZ hk ?_;intro b hb)|((refine b6 (hs (by assumption)) (hle (by assumption)) ?_))|refine wZ2 @Tryz.f135.eq_1 @hkl ?_|fail
 refine aF (α:=Nat × Nat × List (List MV)) (fun a=>⟨30,[(15,.int .i64 (a.1:Int)),(14,.int .i64 (cs.length:Int)),(13,.lst 1 K false),(3,.vec 27 a.2.1 0 a.1),(0,.ptr l 0 0)],[]⟩)
  (fun a=>((St.none.set m (.mp (cEs cs))).set l (shO next m dead)).set a.2.1 (.row 126 27 ((cs.take a.1).map CA.c++a.2.2))) (fun a=>a.1≤cs.length∧a.2.1≠m∧a.2.1≠l) (fun a=>cs.length - a.1) ?_ ?_
 ·refine Gh.step (.drop (σ1:=(St.none.set m (.mp (cEs cs))).set l (shO next m dead)) fun j o h=>?_) (Gh.AU 126 27 (fun q=>[(15,.int .i64 0),(14,.int .i64 (cs.length:Int)),(13,.lst 1 K false),(3,.vec 27 q 0 0),(0,.ptr l 0 0)]) (fun k=>by(repeat' (refine And.intro ?_ ?_))<;>first|exact trivial|exact .inl rfl|exact .inr ⟨rfl,.inl rfl⟩|exact .inr ⟨rfl,.inr rfl⟩) fun q hq=>?_)
  ·exact(aG _ _ _ _ (fun e=>by subst e;rw[hb] at h;cases h)).trans h
  ·obtain⟨q2,hq⟩:=yW hq
   obtain⟨q1,-⟩:=yW hq
   exact .done ⟨(0,q,[]),rfl,rfl,Nat.zero_le _,q1,q2⟩
 ·rintro⟨k,q,ex⟩ ⟨hk,q1,q2⟩
  simp only at hk q1 q2 ⊢
  have q1':=Ne.symm q1
  have q2':=Ne.symm q2
  have hml:=Ne.symm hlm
  by_cases h8:k<cs.length
  ·obtain⟨c,hck⟩:∃c,cs[k]?=some c:=⟨_,List.getElem?_eq_getElem h8⟩
   have hkk:K.getD k []=[.int .i64 c.id]:=by rw[←hK,List.getD_eq_getElem?_getD,List.getElem?_map,hck];rfl
   have hg:=PK hc.1 hck
   have htake:cs.take (k+1)=cs.take k++[c]:=by rw[List.take_add_one,hck];rfl
   have hall:=qV cs
   have htl:(cs.take k).length=k:=by rw[List.length_take];omega
   obtain⟨L,hL⟩:∃L,cs.take k=L:=⟨_,rfl⟩
   rw[hL] at htl htake ⊢
   have htk:(L.map CA.c++ex).take k=L.map CA.c:=by rw[←htl];exact sU
   have hdr:(L.map CA.c++ex).drop (k+1)=ex.drop 1:=by rw[←htl];exact vG
   repeat' first|(refine wM ?_;(first|(have _:=nl2)|(have _:=nl1;intro nl2)|(intro nl1));intros)|(refine wY ?_ ?_<;>intro h)|refine wZ9 @Option.getD_some.{0} @FYs @hkk @hg @hall @htk @hdr @htl @hkl ?_|fail
   ·have hex:ex=[]:=List.eq_nil_of_length_eq_zero oM
    subst hex
    refine .of (.less ?_ (σ1:=((St.none.set m (.mp (cEs cs))).set l (shO next m dead)).set nl2 (.row 126 27 (L.map CA.c++[]++[c.c]))) (Lj (by simp[St.set,St.none, *]))) ⟨(k+1,nl2,[]),rfl,by simp[htake],⟨by simp only;omega,by assumption,by assumption⟩,by simp only;omega⟩
    exact wW
   ·refine .of (.less ?_ (σ1:=((St.none.set m (.mp (cEs cs))).set l (shO next m dead)).set nl2 (.row 126 27 (L.map CA.c++[c.c]++ex.drop 1))) (Lj (by simp[St.set,St.none, *]))) ⟨(k+1,nl2,ex.drop 1),rfl,by simp[htake],⟨by simp only;omega,by assumption,by assumption⟩,by simp only;omega⟩
    exact wW
  ·have:k=cs.length:=by omega
   subst this
   rw[List.take_length]
   repeat' first|refine wZ1 @hkl ?_|fail
   exact RN ((aG _ _ _ _ q2).trans (aG _ _ _ _ q1)) (by rw[List.length_map])
end

section
def fnF:List (FuncId × Fact)→cD
 | []=>fun _ _=>none
 | (g',F)::r=>fun g ms=>if g=g' then some F else fnF r g ms
theorem fJ{g:FuncId}{F:Fact}{r:List (FuncId × Fact)}{ms:List MV}:fnF ((g,F)::r) g ms=some F:=by simp[fnF]
theorem zX{g g':FuncId}{F F':Fact}{r:List (FuncId × Fact)}{ms:List MV}(h:fnF r g ms=some F)(hne:(g==g')=false:=by rfl):fnF ((g',F')::r) g ms=some F:=by
 have:g≠g':=by simpa using hne
 simp[fnF,this,h]
theorem kw1(g:FuncId)(F:Fact):∃C:cD,∀ms,C g ms=some F:=⟨fnF ([(g,F)]),fun _=>fJ⟩
theorem kw2(g1:FuncId)(F1:Fact)(g2:FuncId)(F2:Fact)(h12:(g2==g1)=false:=by rfl):∃C:cD,(∀ms,C g1 ms=some F1)∧(∀ms,C g2 ms=some F2):=⟨fnF ([(g1,F1),(g2,F2)]),fun _=>fJ,fun _=>zX (fJ) h12⟩
theorem mO{P:Program}{C:cD}{g:FuncId}{ms:List MV}{σ:St}{k:MV→St→Prop}(rd:List Nat)(os:List aT){r:MV}(hC:C g ms=some ⟨rd,fun v=>v=r,none⟩)(hos:rd.map σ=os.map some)
 (h:aA P g ms (St.ofList rd os) fun v σ'=>v=r∧σ'=St.ofList rd os)(hk:R (bT r σ k)):R (pT P C g ms σ k) :=
 Tm rd os hC hos h ⟨r,rfl⟩ fun v hv=>by subst hv;exact hk
end

section
theorem oA{Φ:Phi}{w:World}{σ:St}(hi:Inv Φ w σ){l:Nat}{t:TypeId}{e o:Nat}{c0 m:MV}{x:List MV}(hs:σ l=some (.row t e [x]))(hx0:x[o]?=some c0)(hm:m.aL=true){v:Value}(hv:Rel Φ v m) :
  ∃p R v0,Φ.obj l=some p∧p.blk=some R∧w.cell? ⟨R,p.bo+o,none⟩=some v0∧Rel Φ v0 c0∧w.frozen? ⟨R,p.bo+o,none⟩=false ∧
   Inv Φ (w.setCell ⟨R,p.bo+o,none⟩ v) (σ.set l (.row t e [x.set o m]))∧Step Φ σ w Φ (σ.set l (.row t e [x.set o m])) (w.setCell ⟨R,p.bo+o,none⟩ v):=by
 obtain⟨p,hp,hpe,q1,q2,q3,q4⟩:=hi.own l _ hs
 have he:x.length=e:=q3 0 _ rfl
 have hol:o<x.length:=(List.getElem?_eq_some_iff.1 hx0).1
 simp only[List.length_cons,List.length_nil] at q1
 cases hb:p.blk with
 | none=>rw[hb] at q4;simp only at q4;omega
 | some R =>
  rw[hb] at q4
  obtain⟨c,fz,k1,k2,k3,k4⟩:=q4
  have hlt:R<w.heap.size:=(Array.getElem?_eq_some_iff.1 k1).1
  obtain⟨hc0,v0,hv0,hr0⟩:=k4 0 _ o c0 rfl hx0
  simp only[Nat.zero_mul,Nat.zero_add] at hv0
  have hbo:p.bo+o<c.size:=(Array.getElem?_eq_some_iff.1 hv0).1
  refine⟨p,R,v0,hp,hb,by simpa[World.cell?,k1] using hv0,hr0,?_,?_⟩
  ·obtain⟨f1,f2⟩:=fz
   simp only[World.frozen?,k1,Bool.and_eq_false_iff,decide_eq_false_iff_not]
   simp only at k2
   rcases k2 with k2|k2
   ·by_cases h:f1≤p.bo+o
    ·right;omega
    ·left;exact h
   ·left;omega
  ·rw[uK k1]
   refine hi.EX l hs _ hp hb iQ (fun k hk=>eT hk) rfl rfl rfl (Nat.le_refl _) ⟨p,hp,hpe,by simpa using q1,q2,fun i y hy=>?_,?_⟩
   ·match i with
    | 0=>simp only[List.getElem?_cons_zero,Option.some.injEq] at hy;subst hy;simpa using he
    | i+1=>simp at hy
   ·rw[hb]
    refine⟨_,fz,gS hlt,by simpa[zC] using k2,by simpa using k3,fun i y j m' hy hm'=>?_⟩
    match i with
    | 0 =>
     simp only[List.getElem?_cons_zero,Option.some.injEq] at hy
     subst hy
     simp only[Nat.zero_mul,Nat.zero_add]
     rw[List.getElem?_set] at hm'
     by_cases hj:o=j
     ·subst hj
      rw[if_pos rfl,if_pos hol] at hm'
      cases hm'
      exact⟨hm,v,by simp[hbo],hv⟩
     ·rw[if_neg hj] at hm'
      have:=k4 0 _ j m' rfl hm'
      simp only[Nat.zero_mul,Nat.zero_add] at this
      rwa [Array.getElem?_setIfInBounds_ne oM]
    | i+1=>simp at hy
theorem yX{Φ:Phi}{vs:Array Value}{l i o:Nat}{r:List MV}(hr:iS Φ vs (.ptr l i o::r)):∃p R,Φ.obj l=some p∧p.blk=some R∧vs.getD 0 undef=.pointer (some ⟨R,p.bo+i * p.e+o,none⟩):=(hr.2 0 _ rfl).iZ
end

section
abbrev SA.v(s:SA)(q:Nat):List MV:=s.bk.c++[.lst 7 (s.subs.map SU.c) false,.vec 12 q 0 s.rows.length]
end

section
open Go.Shelf Go.RowKit Go.Lib
theorem kG{P:Program}{K e:Nat}{el:TypeId}{t tr:Bool}(hn:aA P K [.aM] St.none fun r _=>r=.aM)
 (hr:∀(a:Addr) (c:Nat) (w:World),Calls P K #[.slice (some a) 0 c] w fun e w'=>e=.returned (.slice (some ⟨w.heap.size,0,none⟩) 0 0)∧w'=w.alloc (.cells #[] el)):aA P K [.lst e [] t] St.none fun r _=>r=.lst e [] tr:=by
 refine⟨hn.1,fun Φ w vs hi hv=>?_⟩
 have h0:=hv.2 0 _ rfl
 have h1:vs=#[vs.getD 0 undef]:=by
  have hz:=hv.1
  refine Array.ext (by simpa using hz) fun i q1 q2=>?_
  have:i=0:=by simp at q2;omega
  subst this
  simp[Array.getD,q1]
 generalize vs.getD 0 undef=v at h0 h1
 subst h1
 cases h0 with
 | lstn =>
  refine(hn.2 Φ w _ hi ⟨rfl,fun i m hm=>?_⟩).mono ?_
  ·match i with
   | 0=>simp at hm;subst hm;exact .aM
   | i+1=>simp at hm
  ·rintro x w' ⟨v,mv,σ',Φ',rfl,r1,i1,s1,rfl⟩
   refine⟨v,_,σ',Φ',rfl,?_,i1,s1,rfl⟩
   cases r1
   exact .lstn _ _
 | lst0 a e c t ht hm =>
  refine(hr a c w).mono ?_
  rintro x w' ⟨rfl,rfl⟩
  obtain⟨i1,s1⟩:=hi.grow (w':=w.alloc (.cells #[] el)) rfl rfl rfl (Nat.le_refl _) (by simp) (fun k hk=>by
   show(w.heap.push _)[k]?=_
   rw[Array.getElem?_push,if_neg oM])
  exact⟨_,_,_,Φ,rfl,.lst0 _ _ 0 _ (fun h=>rfl) (Nat.zero_le _),i1,s1,rfl⟩
 | lst hl h0=>simp at hl;omega
theorem Iy(a:Addr)(c:Nat)(w:World):Calls Tryz.prog 104 #[.slice (some a) 0 c] w fun e w'=>e=.returned (.slice (some ⟨w.heap.size,0,none⟩) 0 0)∧w'=w.alloc (.cells #[] 121):=by
 have q22:∀(w:World) (a:Option Addr) (n c n' c':Nat),(binOp .eql 22 (.slice a n c) (.slice none n' c')).run Tryz.prog w=.ok (.bool a.isNone) w:=fun w a n c n' c'=>Lib.run_eql_slice_nil w _ _ a n c n' c' Tryz.underlying22
 have u22:∀w,Sem.run Tryz.prog (underlying 22) w=.ok (TypeDesc.slice 121) w:=run_underlying Tryz.underlying22
 go_enter Tryz.func104,Tryz.ntmps104
 go_wp2
 go_ret
 exact⟨rfl,rfl⟩
theorem Fj:aA Tryz.prog 104 [.aM] St.none (fun r _=>r=.aM):=by
 refine(mB 8 [.tmp 2] Tryz.func104 ?_)
 repeat' first|refine wZ1 @Tryz.f104.eq_1 ?_|exact wC1 @Tryz.f104.eq_1|fail
theorem Dj(e:Nat)(t:Bool):aA Tryz.prog 104 [.lst e [] t] St.none (fun r _=>r=.lst e [] false):=kG Fj Iy
theorem zM(a:Addr)(c:Nat)(w:World):Calls Tryz.prog 114 #[.slice (some a) 0 c] w fun e w'=>e=.returned (.slice (some ⟨w.heap.size,0,none⟩) 0 0)∧w'=w.alloc (.cells #[] 3):=by
 have q22:∀(w:World) (a:Option Addr) (n c n' c':Nat),(binOp .eql 75 (.slice a n c) (.slice none n' c')).run Tryz.prog w=.ok (.bool a.isNone) w:=fun w a n c n' c'=>Lib.run_eql_slice_nil w _ _ a n c n' c' Tryz.underlying75
 have u22:∀w,Sem.run Tryz.prog (underlying 75) w=.ok (TypeDesc.slice 3) w:=run_underlying Tryz.underlying75
 go_enter Tryz.func114,Tryz.ntmps114
 go_wp2
 go_ret
 exact⟨rfl,rfl⟩
theorem xH:aA Tryz.prog 114 [.aM] St.none (fun r _=>r=.aM):=by
 refine(mB 8 [.tmp 2] Tryz.func114 ?_)
 repeat' first|refine wZ1 @Tryz.f114.eq_1 ?_|exact wC1 @Tryz.f114.eq_1|fail
theorem Di(e:Nat)(t:Bool):aA Tryz.prog 114 [.lst e [] t] St.none (fun r _=>r=.lst e [] false):=kG xH zM
end

section
theorem Fi(l:List ND)(hl:l.length≤1000000)(t:Bool):aA Tryz.prog 104 [.lst 5 (l.map ND.c) t] St.none (fun r _=>r=.lst 5 (l.map ND.c) false):=by
 cases l with
 | nil=>exact Dj 5 t
 | cons x m =>
  refine aA.seen (mB 8 [.tmp 2] Tryz.func104 ?_)
  simp only[List.length_cons] at hl
  repeat' first|(refine wO ?_;intros)|refine wZ1 @Tryz.f104.eq_1 ?_|fail
  exact .vecAll (aD _ _ _) (by simp only[List.length_map,List.length_cons])
theorem pC(l:List Int)(hl:l.length≤1000000)(t:Bool):aA Tryz.prog 114 [.lst 1 (l.map aP) t] St.none (fun r _=>r=.lst 1 (l.map aP) false):=by
 cases l with
 | nil=>exact Di 1 t
 | cons x m =>
  refine aA.seen (mB 8 [.tmp 2] Tryz.func114 ?_)
  simp only[List.length_cons] at hl
  repeat' first|(refine wO ?_;intros)|refine wZ1 @Tryz.f114.eq_1 ?_|fail
  exact .vecAll (aD _ _ _) (by simp only[List.length_map,List.length_cons])
end
end Go.Proofs.YtppdgejjmhdjhaaGreatDoor
