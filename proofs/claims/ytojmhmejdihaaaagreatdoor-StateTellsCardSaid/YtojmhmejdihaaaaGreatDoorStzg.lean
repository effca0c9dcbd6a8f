/- Parts of the proof, joined; conditions: those that its theorems name. -/
import Derived.Test.YtojmhmejdihaaaaGreatDoorStzb
set_option linter.unusedVariables false
set_option linter.unusedSimpArgs false
set_option maxHeartbeats 4000000
namespace Go.Proofs.YtojmhmejdihaaaaGreatDoor
section
theorem qD{n:Int}{v:MV}:∀{es:List (MV × MV)},(es.all fun p=>isK .i64 p.1)=true→((dJ .i64 n v es).all fun p=>isK .i64 p.1)=true
 | [],_=>by simp[dJ,isK]
 | (x,u)::es,h=>by
  simp only[List.all_cons,Bool.and_eq_true] at h
  obtain⟨m,rfl⟩:=jH h.1
  by_cases hm:m=n
  ·subst hm
   simp only[dJ,if_true,List.all_cons,Bool.and_eq_true]
   exact⟨by simp[isK],h.2⟩
  ·simp only[dJ,if_neg hm,List.all_cons,Bool.and_eq_true]
   exact⟨by simp[isK],qD h.2⟩
theorem rM{n m:Int}{v:MV}:∀{es:List (MV × MV)},(es.all fun p=>isK .i64 p.1)=true→cJ m (dJ .i64 n v es)=if m=n then some v else cJ m es
 | [],_=>by
  by_cases h:m=n
  ·subst h;simp[dJ,cJ]
  ·rw[if_neg h];simp[dJ,cJ,Ne.symm h]
 | (x,u)::es,h=>by
  simp only[List.all_cons,Bool.and_eq_true] at h
  obtain⟨k,rfl⟩:=jH h.1
  have ih:=rM (n:=n) (m:=m) (v:=v) h.2
  by_cases hk:k=n
  ·subst hk
   by_cases hm:m=k
   ·subst hm;simp[dJ,cJ]
   ·simp[dJ,cJ,hm,Ne.symm hm]
  ·by_cases hm:m=n
   ·subst hm
    rw[if_pos rfl] at ih ⊢
    simp only[dJ,if_neg hk,cJ,ih]
   ·rw[if_neg hm] at ih ⊢
    simp only[dJ,if_neg hk,cJ,ih]
theorem uS{n:Int}{v:MV}:∀{es:List (MV × MV)},(dJ .i64 n v es).length≤es.length+1
 | []=>by simp[dJ]
 | (.int k m,u)::es=>by
  simp only[dJ]
  split
  ·simp
  ·simpa using uS (es:=es)
 | (.junk,u)::es|(.bool _,u)::es|(.str _,u)::es|(.nilp,u)::es|(.ptr _ _ _,u)::es|(.cptr _,u)::es|(.aT,u)::es|(.lst _ _ _,u)::es|(.vec _ _ _ _,u)::es|(.nilm,u)::es|(.mapv _,u)::es|(.nilfn,u)::es|(.fn _ _ _,u)::es|(.nili,u)::es|(.iface _ _,u)::es|(.agg _,u)::es|(.tup _,u)::es=>by
  simpa[dJ] using uS (es:=es)
def DJ(es:List (MV × MV)):Prop:=(dG es).Nodup
theorem rO{es:List (MV × MV)}(h:(es.all fun p=>isK .i64 p.1)=true){n:Int}:n∈dG es↔cJ n es≠none:=by
 induction es with
 | nil=>simp[dG,cJ]
 | cons p es ih =>
  obtain⟨x,u⟩:=p
  simp only[List.all_cons,Bool.and_eq_true] at h
  obtain⟨k,rfl⟩:=jH h.1
  have ih:=ih h.2
  have e:dG ((MV.int .i64 k,u)::es)=k::dG es:=rfl
  rw[e,List.mem_cons,cJ]
  by_cases hk:k=n
  ·subst hk;simp
  ·rw[if_neg hk,←ih]
   exact⟨fun h=>h.elim (fun e=>absurd e.symm hk) id,.inr⟩
theorem MW{es:List (MV × MV)}(h:(es.all fun p=>isK .i64 p.1)=true)(ho:DJ es){i:Nat}{z:MV × MV}(hi:es[i]?=some z):∃n,z.1=.int .i64 n∧cJ n es=some z.2:=by
 induction es generalizing i with
 | nil=>simp at hi
 | cons p es ih =>
  obtain⟨x,u⟩:=p
  simp only[List.all_cons,Bool.and_eq_true] at h
  obtain⟨k,rfl⟩:=jH h.1
  have e:dG ((MV.int .i64 k,u)::es)=k::dG es:=rfl
  unfold DJ at ho
  rw[e] at ho
  obtain⟨h1,h2⟩:=List.nodup_cons.1 ho
  cases i with
  | zero =>
   simp at hi
   subst hi
   exact⟨k,rfl,by simp[cJ]⟩
  | succ i =>
   obtain⟨n,h3,h4⟩:=ih h.2 h2 (by simpa using hi)
   refine⟨n,h3,?_⟩
   have:k≠n:=fun e=>by
    subst e
    exact h1 ((rO h.2).2 (by rw[h4];simp))
   rw[cJ,if_neg this,h4]
theorem zQ{n:Int}{v:MV}:∀{es:List (MV × MV)},(es.all fun p=>isK .i64 p.1)=true→DJ es→DJ (dJ .i64 n v es)
 | [],_,_=>by simp[DJ,dJ,dG]
 | (x,u)::es,h,ho=>by
  simp only[List.all_cons,Bool.and_eq_true] at h
  obtain⟨k,rfl⟩:=jH h.1
  have e:∀(u:MV) (es:List (MV × MV)),dG ((MV.int .i64 k,u)::es)=k::dG es:=fun _ _=>rfl
  unfold DJ at ho ⊢
  rw[e] at ho
  obtain⟨h1,h2⟩:=List.nodup_cons.1 ho
  by_cases hk:k=n
  ·simp only[dJ,if_pos hk]
   rw[e]
   exact List.nodup_cons.2 ⟨h1,h2⟩
  ·simp only[dJ,if_neg hk]
   rw[e]
   refine List.nodup_cons.2 ⟨fun hm=>?_,zQ h.2 h2⟩
   rw[rO (qD h.2),rM h.2,if_neg hk,←rO h.2] at hm
   exact h1 hm
def vEs(cs:List CA):List (MV × MV):=cs.map fun c=>(.int .i64 c.id,.int .i64 c.ver)
theorem AB(cs:List CA):((vEs cs).all fun p=>isK .i64 p.1)=true:=by
 simp[vEs,isK]
theorem zC(cs:List CA):dG (vEs cs)=cs.map CA.id:=by
 simp[dG,vEs,MZ]
theorem B7{c:CA}:∀{cs:List CA},c.id∉cs.map CA.id→dJ .i64 c.id (.int .i64 c.ver) (vEs cs)=vEs (cs++[c])
 | [],_=>rfl
 | d::cs,h=>by
  simp only[List.map_cons,List.mem_cons,not_or] at h
  have ih:=B7 h.2
  simp only[vEs,List.map_cons,List.cons_append,dJ] at ih ⊢
  rw[if_neg (Ne.symm h.1),ih]
theorem B3{id:Int}:∀cs:List CA,cJ id (vEs cs)=(cs.find? fun c=>decide (c.id=id)).map fun c=>.int .i64 c.ver
 | []=>rfl
 | c::cs=>by
  have ih:=B3 (id:=id) cs
  simp only[vEs,List.map_cons,cJ,List.find?_cons] at ih ⊢
  by_cases h:c.id=id
  ·simp[h]
  ·simp[h,ih]
end

section
set_option maxRecDepth 100000
set_option maxHeartbeats 8000000
def j4(f:F8)(L:List Nat):F8:=L.foldl (fun g i=>g.set i (f.get i)) f80
theorem vS(f:F8)(m:Nat):∀k,jC f m k=j4 f ((List.range k).filter fun i=>bit m i)
 | 0=>rfl
 | k+1=>by
  rw[jC,vS f m k,List.range_succ,List.filter_append,j4,j4,List.foldl_append]
  by_cases h:bit m k=true
  ·rw[if_pos h];simp[h]
  ·rw[if_neg h];simp[h]
theorem Fq(f:F8)(m:Nat):Oh f m=j4 f (bU m):=vS f m 8
theorem vR(c:CA)(m:UInt32):aA Tryz.prog 108 [.agg c.c,.int .u32 (m.toNat:Int)] St.none (fun r _=>r=.agg (cW c m).c):=by
 refine aA.bF (aA.body 34 [.cell 4 52] Tryz.func108 rfl rfl rfl rfl ?_)
 have hml:=Fo m
 have hfl:=A9 m
 have hbl:=yR m.toNat
 obtain⟨ml,hm8⟩:∃b,bit m.toNat 8=b:=⟨_,rfl⟩
 rw[hm8] at hml
 have hlab:(cW c m).c=.int .i64 c.id::.int .i64 c.ver::.int .u32 (((if ml=true then c.lab else 0:UInt32).toNat:Nat):Int)::fc (j4 c.f (bU m.toNat)):=by rw[←hm8,←Fq];rfl
 rw[hlab]
 clear hm8 hlab
 obtain⟨lb,hlb⟩:∃lb:UInt32,(if ml=true then c.lab else 0)=lb:=⟨_,rfl⟩
 rw[hlb]
 have hlt:∀i,i∈bU m.toNat→i<8:=fun i=>Bx
 obtain⟨L,hL⟩:∃L,bU m.toNat=L:=⟨_,rfl⟩
 rw[hL] at hfl hbl hlt ⊢
 have hll:(fL L).length=L.length:=List.length_map _
 cases ml
 all_goals simp only[Bool.false_eq_true,if_false,if_true] at hlb
 ·subst hlb
  repeat' (first|(with_reducible first|refine up hml ?_|refine up hfl ?_)|(with_reducible first|(refine wT ?_;(first|((fail_if_success (have:=nl1));refine wN fun nl1 hnl=>?_)|((fail_if_success (have:=nl2));refine wN fun nl2 hnl=>?_)|((fail_if_success (have:=nl3));refine wN fun nl3 hnl=>?_)|refine wN fun _ hnl=>?_);revert hnl;(repeat refine wS fun _ _=>?_);intro hnl)|refine wE ?_|(refine wK ?_ ?_<;>intro h)|(refine wB ?_ ?_<;>intro h<;>simp only[h]))|simp(maxSteps:=4000000) (disch:=first|exact ddL|fail) only[go_sem,simprocAttr,Tryz.f108,FXs,hll])
  refine aD (α:=Nat) (fun i=>⟨34,[(21,.int .i64 (i:Int)),(20,.int .i64 (L.length:Int)),(19,.lst 1 (fL L) false),(5,.ptr nl3 0 0),(4,.ptr nl2 0 0),(2,.ptr nl1 0 0)],[]⟩)
   (fun i=>((St.none.set nl1 (.row 52 27 [c.c])).set nl2 (.row 52 27 [ca0.c])).set nl3 (.row 52 27 [.int .i64 c.id::.int .i64 c.ver::.int .u32 ((0:UInt32).toNat:Int)::fc (j4 c.f (L.take i))])) (fun i=>i≤L.length) (fun i=>L.length - i) (.of (.less ?_ (St.le_refl _)) ⟨0,rfl,rfl,Nat.zero_le _⟩) ?_
  ·simp(maxSteps:=4000000) (disch:=first|exact ddL|fail) only[go_sem,simprocAttr,aC,aB]
   all_goals first|rfl|(simp;done)
  ·intro i hi
   have hi:i≤L.length:=hi
   by_cases hlt':i<L.length
   ·obtain⟨k,hk⟩:=bC L hlt'
    have hat:(fL L).getD i []=[.int .i64 (k:Int)]:=by rw[List.getD_eq_getElem?_getD,List.getElem?_map,hk];rfl
    have hk8:=hlt k (bR hk)
    have hsucc:j4 c.f (L.take (i+1))=(j4 c.f (L.take i)).set k (c.f.get k):=by rw[aO hk,j4,List.foldl_append];rfl
    obtain⟨g,hg⟩:∃g,j4 c.f (L.take i)=g:=⟨_,rfl⟩
    rw[hg] at hsucc ⊢
    repeat' (first|(with_reducible first|(refine wT ?_;(first|((fail_if_success (have:=nl1));refine wN fun nl1 hnl=>?_)|((fail_if_success (have:=nl2));refine wN fun nl2 hnl=>?_)|((fail_if_success (have:=nl3));refine wN fun nl3 hnl=>?_)|refine wN fun _ hnl=>?_);revert hnl;(repeat refine wS fun _ _=>?_);intro hnl)|refine wE ?_|(refine wK ?_ ?_<;>intro h)|(refine wB ?_ ?_<;>intro h<;>simp only[h]))|simp(maxSteps:=4000000) (disch:=first|exact ddL|fail) only[go_sem,simprocAttr,FXs,hat,hll])
    all_goals (try (exfalso;omega))
    all_goals
     refine .of (.less ?_ (St.le_refl _)) ⟨i+1,rfl,by rw[hsucc];first|rfl|skip,(by omega:i+1≤L.length),by omega⟩
     simp(maxSteps:=4000000) (disch:=first|exact ddL|fail) only[go_sem,simprocAttr,aC,aB]
     all_goals first|rfl|(simp;done)
   ·have:i=L.length:=by omega
    subst this
    rw[List.take_length]
    repeat' (first|(with_reducible first|(refine wT ?_;(first|((fail_if_success (have:=nl1));refine wN fun nl1 hnl=>?_)|((fail_if_success (have:=nl2));refine wN fun nl2 hnl=>?_)|((fail_if_success (have:=nl3));refine wN fun nl3 hnl=>?_)|refine wN fun _ hnl=>?_);revert hnl;(repeat refine wS fun _ _=>?_);intro hnl)|refine wE ?_|(refine wK ?_ ?_<;>intro h)|(refine wB ?_ ?_<;>intro h<;>simp only[h]))|simp(maxSteps:=4000000) (disch:=first|exact ddL|fail) only[go_sem,simprocAttr,FXs])
    all_goals first|exact⟨_,St.le_refl _,rfl⟩|exact⟨_,St.le_refl _⟩
 ·subst hlb
  repeat' (first|(with_reducible first|refine up hml ?_|refine up hfl ?_)|(with_reducible first|(refine wT ?_;(first|((fail_if_success (have:=nl1));refine wN fun nl1 hnl=>?_)|((fail_if_success (have:=nl2));refine wN fun nl2 hnl=>?_)|((fail_if_success (have:=nl3));refine wN fun nl3 hnl=>?_)|refine wN fun _ hnl=>?_);revert hnl;(repeat refine wS fun _ _=>?_);intro hnl)|refine wE ?_|(refine wK ?_ ?_<;>intro h)|(refine wB ?_ ?_<;>intro h<;>simp only[h]))|simp(maxSteps:=4000000) (disch:=first|exact ddL|fail) only[go_sem,simprocAttr,Tryz.f108,FXs,hll])
  refine aD (α:=Nat) (fun i=>⟨34,[(21,.int .i64 (i:Int)),(20,.int .i64 (L.length:Int)),(19,.lst 1 (fL L) false),(5,.ptr nl3 0 0),(4,.ptr nl2 0 0),(2,.ptr nl1 0 0)],[]⟩)
   (fun i=>((St.none.set nl1 (.row 52 27 [c.c])).set nl2 (.row 52 27 [ca0.c])).set nl3 (.row 52 27 [.int .i64 c.id::.int .i64 c.ver::.int .u32 (c.lab.toNat:Int)::fc (j4 c.f (L.take i))])) (fun i=>i≤L.length) (fun i=>L.length - i) (.of (.less ?_ (St.le_refl _)) ⟨0,rfl,rfl,Nat.zero_le _⟩) ?_
  ·simp(maxSteps:=4000000) (disch:=first|exact ddL|fail) only[go_sem,simprocAttr,aC,aB]
   all_goals first|rfl|(simp;done)
  ·intro i hi
   have hi:i≤L.length:=hi
   by_cases hlt':i<L.length
   ·obtain⟨k,hk⟩:=bC L hlt'
    have hat:(fL L).getD i []=[.int .i64 (k:Int)]:=by rw[List.getD_eq_getElem?_getD,List.getElem?_map,hk];rfl
    have hk8:=hlt k (bR hk)
    have hsucc:j4 c.f (L.take (i+1))=(j4 c.f (L.take i)).set k (c.f.get k):=by rw[aO hk,j4,List.foldl_append];rfl
    obtain⟨g,hg⟩:∃g,j4 c.f (L.take i)=g:=⟨_,rfl⟩
    rw[hg] at hsucc ⊢
    repeat' (first|(with_reducible first|(refine wT ?_;(first|((fail_if_success (have:=nl1));refine wN fun nl1 hnl=>?_)|((fail_if_success (have:=nl2));refine wN fun nl2 hnl=>?_)|((fail_if_success (have:=nl3));refine wN fun nl3 hnl=>?_)|refine wN fun _ hnl=>?_);revert hnl;(repeat refine wS fun _ _=>?_);intro hnl)|refine wE ?_|(refine wK ?_ ?_<;>intro h)|(refine wB ?_ ?_<;>intro h<;>simp only[h]))|simp(maxSteps:=4000000) (disch:=first|exact ddL|fail) only[go_sem,simprocAttr,FXs,hat,hll])
    all_goals (try (exfalso;omega))
    all_goals
     refine .of (.less ?_ (St.le_refl _)) ⟨i+1,rfl,by rw[hsucc];first|rfl|skip,(by omega:i+1≤L.length),by omega⟩
     simp(maxSteps:=4000000) (disch:=first|exact ddL|fail) only[go_sem,simprocAttr,aC,aB]
     all_goals first|rfl|(simp;done)
   ·have:i=L.length:=by omega
    subst this
    rw[List.take_length]
    repeat' (first|(with_reducible first|(refine wT ?_;(first|((fail_if_success (have:=nl1));refine wN fun nl1 hnl=>?_)|((fail_if_success (have:=nl2));refine wN fun nl2 hnl=>?_)|((fail_if_success (have:=nl3));refine wN fun nl3 hnl=>?_)|refine wN fun _ hnl=>?_);revert hnl;(repeat refine wS fun _ _=>?_);intro hnl)|refine wE ?_|(refine wK ?_ ?_<;>intro h)|(refine wB ?_ ?_<;>intro h<;>simp only[h]))|simp(maxSteps:=4000000) (disch:=first|exact ddL|fail) only[go_sem,simprocAttr,FXs])
    all_goals first|exact⟨_,St.le_refl _,rfl⟩|exact⟨_,St.le_refl _⟩
end
end Go.Proofs.YtojmhmejdihaaaaGreatDoor
