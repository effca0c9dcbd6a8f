/- Parts of the proof, joined; conditions: those that its theorems name. -/
import Derived.Test.YtaojijkdamfbnaaGreatDoorMczi
set_option linter.unusedVariables false
set_option linter.unusedSimpArgs false
set_option maxHeartbeats 4000000
namespace Go.Proofs.YtaojijkdamfbnaaGreatDoor
section
set_option maxRecDepth 100000
set_option maxHeartbeats 8000000
theorem zT(cs:List CA)(x:CA)(hl:cs.length≤1000000)(hlt:∀c,c∈cs→c.id<x.id)(t:Bool):aA Tryz.prog 64 [.lst 27 (cs.map CA.c) t,.agg (IT.mk 1 x).k] St.none (fun r _=>r=.tup [.lst 27 ((cs++[x]).map CA.c) false,.bool true]):=by
 refine aA.seen (aA.body 85 [.tmp 4,.tmp 5] Tryz.func64 rfl rfl rfl rfl ?_)
 have hcl:(cs.map CA.c).length=cs.length:=List.length_map _
 have htk:(cs.map CA.c).take cs.length=cs.map CA.c:=by rw[←hcl];exact List.take_length
 have hdr:(cs.map CA.c).drop cs.length=[]:=by rw[←hcl];exact List.drop_length
 have hsn:(cs++[x]).map CA.c=cs.map CA.c++[x.c]:=by simp
 have hlx:(cs.map CA.c++[x.c]).length=cs.length+1:=by simp
 repeat' (first|(with_reducible first|(refine wT ?_;(first|((fail_if_success (have:=nl1));refine wN fun nl1 hnl=>?_)|refine wN fun _ hnl=>?_);revert hnl;(repeat refine wS fun _ _=>?_);intro hnl)|refine wE ?_|(refine wK ?_ ?_<;>intro h)|(refine wB ?_ ?_<;>intro h<;>simp only[h]))|simp(maxSteps:=4000000) (disch:=first|exact ddL|fail) only[go_sem,simprocAttr,Tryz.f64,FXs])
 refine aG (α:=Nat) (fun i=>⟨85,[(6,.int .i64 (i:Int)),(3,.ptr nl1 0 0),(0,.lst 27 (cs.map CA.c) t)],[]⟩) (fun _=>St.none.set nl1 (.row 132 28 [(IT.mk 1 x).k])) (fun i=>i≤cs.length) (fun i=>cs.length - i) (.of (.less ?_ (St.le_refl _)) ⟨0,rfl,rfl,Nat.zero_le _⟩) ?_
 ·simp(maxSteps:=4000000) (disch:=first|exact ddL|fail) only[go_sem,simprocAttr,aC,aB]
  all_goals first|rfl|(simp;done)
 ·intro i hi
  have hi:i≤cs.length:=hi
  by_cases hlt':i<cs.length
  ·obtain⟨y,hy⟩:=bN cs hlt'
   have hat:=bK (f:=CA.c) hy
   have hyx:=hlt y (cH hy)
   repeat' (first|(with_reducible first|(refine wT ?_;(first|((fail_if_success (have:=nl1));refine wN fun nl1 hnl=>?_)|refine wN fun _ hnl=>?_);revert hnl;(repeat refine wS fun _ _=>?_);intro hnl)|refine wE ?_|(refine wK ?_ ?_<;>intro h)|(refine wB ?_ ?_<;>intro h<;>simp only[h]))|simp(maxSteps:=4000000) (disch:=first|exact ddL|fail) only[go_sem,simprocAttr,FXs,hat,hcl])
   all_goals (try (exfalso;omega))
   all_goals
    refine .of (.less ?_ (St.le_refl _)) ⟨i+1,rfl,rfl,(by omega:i+1≤cs.length),by omega⟩
    simp(maxSteps:=4000000) (disch:=first|exact ddL|fail) only[go_sem,simprocAttr,aC,aB]
    all_goals first|rfl|(simp;done)
  ·have:i=cs.length:=by omega
   subst this
   repeat' (first|(with_reducible first|(refine wT ?_;(first|((fail_if_success (have:=nl1));refine wN fun nl1 hnl=>?_)|refine wN fun _ hnl=>?_);revert hnl;(repeat refine wS fun _ _=>?_);intro hnl)|refine wE ?_|(refine wK ?_ ?_<;>intro h)|(refine wB ?_ ?_<;>intro h<;>simp only[h]))|simp(maxSteps:=4000000) (disch:=first|exact ddL|fail) only[go_sem,simprocAttr,FXs,hcl,htk,hdr])
   all_goals (try (exfalso;omega))
   rw[hsn]
   exact mY (View.vecAll (aJ _ _ _) hlx.symm)
theorem BM(cs l:List CA)(hl:cs.length+l.length≤1000000)(hu:UpI ((cs++l).map CA.id))(tc tl:Bool):aA Tryz.prog 30 [.lst 27 (cs.map CA.c) tc,.lst 28 (IT.ks (inI l)) tl] St.none (fun r _=>r=.tup [.lst 27 ((cs++l).map CA.c) false,.bool true]):=by
 refine aA.cP (aA.body 32 [.tmp 4,.tmp 5] Tryz.func30 rfl rfl rfl rfl ?_)
 have hcl:(cs.map CA.c).length=cs.length:=List.length_map _
 have hkl:=p7 l
 have hka:∀{i:Nat} {x:CA},l[i]?=some x→(IT.ks (inI l)).getD i []=(IT.mk 1 x).k:=fun h=>by simp[IT.ks,inI,h]
 obtain⟨I,hI⟩:∃I,IT.ks (inI l)=I:=⟨_,rfl⟩
 rw[hI] at hkl ⊢
 simp only[hI] at hka
 repeat' (first|(with_reducible first|(refine wN fun _ hnl=>?_;revert hnl;(repeat refine wS fun _ _=>?_);intro hnl)|refine wE ?_|(refine wK ?_ ?_<;>intro h)|(refine wB ?_ ?_<;>intro h<;>simp only[h]))|simp(maxSteps:=4000000) (disch:=first|exact ddL|fail) only[go_sem,simprocAttr,Tryz.f30,hcl])
 all_goals (try (exfalso;omega))
 refine aG (α:=Nat) (fun i=>⟨32,[(7,.int .i64 (i:Int)),(6,.lst 27 ((cs++l.take i).map CA.c) false),(1,.lst 28 I tl)],[]⟩) (fun _=>St.none) (fun i=>i≤l.length) (fun i=>l.length - i) ?_ ?_
 ·have e0:cs++l.take 0=cs:=by simp
  refine .of (bD.freeze (l1:=[(7,.int .i64 0),(6,.lst 27 ((cs++l.take 0).map CA.c) false),(1,.lst 28 I tl)]) (σ1:=St.none) _ (St.le_refl _) (St.none_le _) (fun k o hk=>by cases hk) (fun p hp=>?_)) ⟨0,rfl,rfl,Nat.zero_le _⟩
  simp only[List.mem_cons,List.not_mem_nil,or_false] at hp
  rcases hp with rfl|rfl|rfl
  ·exact .same _
  ·rw[e0]
   exact View.vecAll (aJ _ _ _) hcl.symm
  ·exact .same _
 ·intro i hi
  have hi:i≤l.length:=hi
  by_cases hlt:i<l.length
  ·obtain⟨x,hx⟩:=bN l hlt
   have hat:=hka hx
   have htk:=bB hx
   have hone:=zT (cs++l.take i) x (by rw[List.length_append,List.length_take];omega) (fun c hc=>?_) false
   ·rw[List.append_assoc,←htk] at hone
    repeat' (first|(with_reducible refine aO hone ?_)|(with_reducible first|(refine wN fun _ hnl=>?_;revert hnl;(repeat refine wS fun _ _=>?_);intro hnl)|refine wE ?_|(refine wK ?_ ?_<;>intro h)|(refine wB ?_ ?_<;>intro h<;>simp only[h]))|simp(maxSteps:=4000000) (disch:=first|exact ddL|fail) only[go_sem,simprocAttr,FXs,hat,hkl])
    all_goals (try (exfalso;omega))
    all_goals
     refine .of (.less ?_ (St.le_refl _)) ⟨i+1,rfl,rfl,(by omega:i+1≤l.length),by omega⟩
     simp(maxSteps:=4000000) (disch:=first|exact ddL|fail) only[go_sem,simprocAttr,aC,aB]
     all_goals first|rfl|(simp;done)
   ·have h1:cs++l=(cs++l.take i)++x::l.drop (i+1):=by
     rw[List.append_assoc]
     congr 1
     exact mH l hx
    rw[h1,List.map_append,List.map_cons] at hu
    have:=List.pairwise_append.1 hu
    exact this.2.2 c.id (List.mem_map_of_mem hc) x.id (List.mem_cons_self ..)
  ·have:i=l.length:=by omega
   subst this
   rw[List.take_length]
   repeat' (first|(with_reducible first|(refine wN fun _ hnl=>?_;revert hnl;(repeat refine wS fun _ _=>?_);intro hnl)|refine wE ?_|(refine wK ?_ ?_<;>intro h)|(refine wB ?_ ?_<;>intro h<;>simp only[h]))|simp(maxSteps:=4000000) (disch:=first|exact ddL|fail) only[go_sem,simprocAttr,hkl])
   all_goals (try (exfalso;omega))
   all_goals first|exact⟨_,St.le_refl _,rfl⟩|exact⟨_,St.le_refl _⟩
end

section
set_option maxHeartbeats 8000000
def leW(W:List CA)(c:Int):List CA:=W.filter fun x=>decide (x.id≤c)
abbrev Af(W:List CA):Prop:=W.Pairwise fun a b=>a.id<b.id
theorem C1{W:List CA}{c:Int}(h:∀x,x∈W→x.id≤c):leW W c=W:=List.filter_eq_self.2 fun x hx=>decide_eq_true (h x hx)
theorem le_none{W:List CA}{c:Int}(h:∀x,x∈W→c<x.id):leW W c=[]:=List.filter_eq_nil_iff.2 fun x hx=>by have:=h x hx;simp;omega
theorem Iq(A B:List CA)(c:Int):leW (A++B) c=leW A c++leW B c:=List.filter_append ..
theorem BT(A B:List CA)(c:Int):bZ (A++B) c=bZ A c++bZ B c:=List.filter_append ..
theorem BS{W:List CA}{c:Int}(h:∀x,x∈W→max c 0<x.id):bZ W c=W:=List.filter_eq_self.2 fun x hx=>decide_eq_true (h x hx)
theorem xP{W:List CA}{c:Int}(h:∀x,x∈W→x.id≤max c 0):bZ W c=[]:=List.filter_eq_nil_iff.2 fun x hx=>by have:=h x hx;simp;omega
theorem yK{c:Int}(hc:0≤c):∀{W:List CA},Af W→leW W c++bZ W c=W
 | [],_=>rfl
 | x::r,h=>by
  obtain⟨h1,h2⟩:=List.pairwise_cons.1 h
  have hm:max c 0=c:=by omega
  by_cases hx:x.id≤c
  ·have e1:leW (x::r) c=x::leW r c:=List.filter_cons_of_pos (by simpa using hx)
   have e2:bZ (x::r) c=bZ r c:=List.filter_cons_of_neg (by simp[hm];omega)
   rw[e1,e2,List.cons_append,yK hc h2]
  ·have e1:leW (x::r) c=[]:=le_none fun y hy=>by
    rcases List.mem_cons.1 hy with rfl|hy
    ·omega
    ·have:=h1 y hy;omega
   have e2:bZ (x::r) c=x::r:=BS fun y hy=>by
    rw[hm]
    rcases List.mem_cons.1 hy with rfl|hy
    ·omega
    ·have:=h1 y hy;omega
   rw[e1,e2];rfl
theorem G8{W:List CA}{c:Int}(hc:0≤c)(hW:Af W){n:Nat}(hn:1≤n){y:CA}(hy:(bZ W c)[n - 1]?=some y) :
  c<y.id∧leW W y.id=leW W c++(bZ W c).take n∧bZ W y.id=(bZ W c).drop n:=by
 have hdec:=yK hc hW
 have hm:max c 0=c:=by omega
 have hR:Af (bZ W c):=List.Pairwise.filter _ hW
 have hRm:∀x,x∈bZ W c→c<x.id:=fun x hx=>by
  have:=(List.mem_filter.1 hx).2
  rw[hm] at this
  simpa using this
 have hPm:∀x,x∈leW W c→x.id≤c:=fun x hx=>by simpa using(List.mem_filter.1 hx).2
 have hy1:=hRm y (cH hy)
 have hmy:max y.id 0=y.id:=by omega
 obtain⟨R,hRe⟩:∃R,bZ W c=R:=⟨_,rfl⟩
 obtain⟨P,hPe⟩:∃P,leW W c=P:=⟨_,rfl⟩
 rw[hRe] at hdec hR hRm hy ⊢
 rw[hPe] at hdec hPm ⊢
 have hnl:=(List.getElem?_eq_some_iff.1 hy).1
 have hye:=(List.getElem?_eq_some_iff.1 hy).2
 have ht:∀x,x∈R.take n→x.id≤y.id:=fun x hx=>by
  obtain⟨k,hk⟩:=List.mem_iff_getElem?.1 hx
  rw[List.getElem?_take] at hk
  split at hk
  ·obtain⟨k1,k2⟩:=List.getElem?_eq_some_iff.1 hk
   rcases Nat.lt_or_ge k (n - 1) with h|h
   ·have:=List.pairwise_iff_getElem.1 hR k (n - 1) k1 hnl h
    rw[k2,hye] at this;omega
   ·have:k=n - 1:=by omega
    subst this
    rw[hye] at k2;rw[k2];exact Int.le_refl _
  ·cases hk
 have hd:∀x,x∈R.drop n→y.id<x.id:=fun x hx=>by
  obtain⟨k,hk⟩:=List.mem_iff_getElem?.1 hx
  rw[List.getElem?_drop] at hk
  obtain⟨k1,k2⟩:=List.getElem?_eq_some_iff.1 hk
  have:=List.pairwise_iff_getElem.1 hR (n - 1) (n+k) hnl k1 (by omega)
  rw[k2,hye] at this;exact this
 refine⟨hy1,?_,?_⟩
 ·rw[←hdec,Iq,C1 fun x hx=>by have:=hPm x hx;omega]
  congr 1
  conv=>lhs;rw[←List.take_append_drop n R]
  rw[Iq,C1 ht,le_none hd,List.append_nil]
 ·rw[←hdec,BT,xP fun x hx=>by have:=hPm x hx;omega,List.nil_append]
  conv=>lhs;rw[←List.take_append_drop n R]
  rw[BT,xP fun x hx=>by have:=ht x hx;omega,BS fun x hx=>by have:=hd x hx;omega,List.nil_append]
theorem Kv{W:List CA}(hW:Af W)(hm:∀x,x∈W→x.id≤1073741824){cur:Int}(h0:0≤cur)(h1:cur≤1073741824)(room:Int) :
  cur≤(eI W cur room).2∧(eI W cur room).2≤1073741824∧((eI W cur room).1.length:Int)≤max room 0∧leW W cur++(eI W cur room).1=leW W (eI W cur room).2:=by
 have hmx:max cur 0=cur:=by omega
 have hmem:∀x,x∈bZ W cur→x.id≤1073741824:=fun x hx=>hm x (List.mem_filter.1 hx).1
 unfold eI
 split
 ·rw[hmx];exact⟨Int.le_refl _,h1,by simp;omega,List.append_nil _⟩
 ·rename_i hr
  split
  ·rename_i hl
   refine⟨h1,Int.le_refl _,by simp only;omega,?_⟩
   rw[yK h0 hW,C1 hm]
  ·rename_i hl
   obtain⟨y,hy⟩:=bN (bZ W cur) (show room.toNat - 1<(bZ W cur).length by omega)
   obtain⟨q1,q2,q3⟩:=G8 h0 hW (show 1≤room.toNat by omega) hy
   have e:(bZ W cur).getD (room.toNat - 1) ca0=y:=by rw[List.getD_eq_getElem?_getD,hy];rfl
   rw[e]
   refine⟨by simp only;omega,hmem y (cH hy),?_,q2.symm⟩
   simp only[List.length_take]
   omega
theorem Ic{B:BK}(hb:BkR B)(fl:List ND)(mk:UInt32)(c:Int):dB B fl mk c=leW (dB B fl mk 1073741824) c:=by
 unfold dB leW
 rw[List.filter_map,List.filter_filter]
 congr 1
 refine List.filter_congr fun x hx=>?_
 have h:=(oN hb hx).2.2
 have hp:(gE x mk).id=x.id:=rfl
 simp only[Function.comp,hp]
 rw[decide_eq_true (by omega:x.id≤1073741824),Bool.true_and]
theorem CU{B:BK}(hb:BkR B)(fl:List ND)(mk:UInt32):Af (dB B fl mk 1073741824)∧∀x,x∈dB B fl mk 1073741824→x.id≤1073741824:=by
 rw[pY hb]
 have h:=tW hb fl
 refine⟨List.pairwise_map.2 h.1,fun x hx=>?_⟩
 obtain⟨y,hy,rfl⟩:=List.mem_map.1 hx
 exact(h.2.1 y hy).2
end

section
open Go.ChangeShapes Go.WideShapes Go.RowKit
set_option maxRecDepth 100000
theorem Ir:PC.mayEnter=true:=by kernel_rfl
theorem KM:PC.mainIs=some (Rows.memberTellsCard.stood.harness.1,Rows.memberTellsCard.stood.harness.2.toList):=by kernel_rfl
theorem Iw:false=PC.looks []:=by kernel_rfl
end
end Go.Proofs.YtaojijkdamfbnaaGreatDoor
