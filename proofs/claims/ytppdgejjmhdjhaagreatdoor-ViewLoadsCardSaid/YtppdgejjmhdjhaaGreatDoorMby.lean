/- Parts of the proof, joined; conditions: those that its theorems name. -/
import Derived.Test.YtppdgejjmhdjhaaGreatDoorMbw
set_option linter.unusedVariables false
set_option linter.unusedSimpArgs false
set_option maxHeartbeats 4000000
namespace Go.Proofs.YtppdgejjmhdjhaaGreatDoor
section
def dD(kl kb kr:Bool):List Int→List Int→List Int
 | [],b=>if kr=true then b else[]
 | x::a,[]=>if kl=true then x::a else[]
 | x::a,y::b=>if x<y then(if kl=true then[x] else[])++dD kl kb kr a (y::b) else if y<x then(if kr=true then[y] else[])++dD kl kb kr (x::a) b else(if kb=true then[x] else[])++dD kl kb kr a b
termination_by a b=>a.length+b.length
theorem qO{kl kb kr:Bool}{b:List Int}:dD kl kb kr [] b=if kr=true then b else[]:=by rw[dD]
theorem l8{kl kb kr:Bool}:∀{a:List Int},dD kl kb kr a []=if kl=true then a else[]
 | []=>by rw[dD];split<;>simp
 | x::a=>by rw[dD]
theorem tH{kl kb kr:Bool}{x y:Int}{a b:List Int}(h:x<y):dD kl kb kr (x::a) (y::b)=(if kl=true then[x] else[])++dD kl kb kr a (y::b):=by rw[dD,if_pos h]
theorem tG{kl kb kr:Bool}{x y:Int}{a b:List Int}(h:y<x):dD kl kb kr (x::a) (y::b)=(if kr=true then[y] else[])++dD kl kb kr (x::a) b:=by rw[dD,if_neg (by omega),if_pos h]
theorem tF{kl kb kr:Bool}{x y:Int}{a b:List Int}(h1:¬x<y)(h2:¬y<x):dD kl kb kr (x::a) (y::b)=(if kb=true then[x] else[])++dD kl kb kr a b:=by rw[dD,if_neg h1,if_neg h2]
theorem nG{kl kb kr:Bool}:∀(n:Nat) (a b:List Int),a.length+b.length≤n→(dD kl kb kr a b).length≤a.length+b.length
 | n,[],b,h=>by rw[qO];split<;>simp
 | n,x::a,[],h=>by rw[l8];split<;>simp
 | 0,x::a,y::b,h=>by simp at h
 | n+1,x::a,y::b,h=>by
  simp only[List.length_cons] at h
  by_cases h1:x<y
  ·rw[tH h1,List.length_append]
   have:=nG (kl:=kl) (kb:=kb) (kr:=kr) n a (y::b) (by simp;omega)
   simp only[List.length_cons] at this ⊢
   have h3:(if kl=true then[x] else[]).length≤1:=by split<;>simp
   omega
  ·by_cases h2:y<x
   ·rw[tG h2,List.length_append]
    have:=nG (kl:=kl) (kb:=kb) (kr:=kr) n (x::a) b (by simp;omega)
    simp only[List.length_cons] at this ⊢
    have h3:(if kr=true then[y] else[]).length≤1:=by split<;>simp
    omega
   ·rw[tF h1 h2,List.length_append]
    have:=nG (kl:=kl) (kb:=kb) (kr:=kr) n a b (by omega)
    simp only[List.length_cons] at this ⊢
    have h3:(if kb=true then[x] else[]).length≤1:=by split<;>simp
    omega
abbrev UpI(l:List Int):Prop:=l.Pairwise (·<·)
theorem jZ:∀(n:Nat) (a b:List Int),a.length+b.length≤n→UpI a→UpI b→dD true false false a b=b9 a b
 | n,[],b,h,_,_=>by rw[qO];rfl
 | n,x::a,[],h,_,_=>by
  rw[l8,b9,if_pos rfl]
  exact(List.filter_eq_self.2 fun _ _=>rfl).symm
 | 0,x::a,y::b,h,_,_=>by simp at h
 | n+1,x::a,y::b,h,ha,hb=>by
  simp only[List.length_cons] at h
  obtain⟨ha1,ha2⟩:=List.pairwise_cons.1 ha
  obtain⟨hb1,hb2⟩:=List.pairwise_cons.1 hb
  by_cases h1:x<y
  ·rw[tH h1,jZ n a (y::b) (by simp;omega) ha2 hb,if_pos rfl]
   have hx:x∉y::b:=fun hm=>by
    rcases List.mem_cons.1 hm with e|hm
    ·omega
    ·have:=hb1 x hm;omega
   simp only[b9,List.filter_cons,hx,decide_false,Bool.not_false,if_true]
   rfl
  ·by_cases h2:y<x
   ·rw[tG h2,jZ n (x::a) b (by simp;omega) ha hb2,if_neg (by simp),List.nil_append]
    unfold b9
    refine List.filter_congr fun z hz=>?_
    have:z≠y:=fun e=>by
     rcases List.mem_cons.1 hz with e'|hz
     ·omega
     ·have:=ha1 z hz;omega
    simp[this]
   ·have e:x=y:=by omega
    subst e
    rw[tF h1 h2,jZ n a b (by omega) ha2 hb2,if_neg (by simp),List.nil_append]
    have h3:b9 a (x::b)=b9 a b:=by
     unfold b9
     refine List.filter_congr fun z hz=>?_
     have:z≠x:=fun e=>by have:=ha1 z hz;omega
     simp[this]
    rw[←h3]
    simp[b9]
theorem FI:∀{last:Int} {l:List Int},fL last l=true→UpI l∧∀x,x∈l→last<x∧1≤x∧x<1073741824
 | _,[],_=>⟨.nil,by simp⟩
 | last,x::l,h=>by
  rw[fL,Bool.and_eq_true,decide_eq_true_eq] at h
  obtain⟨⟨h1,h2,h3⟩,h4⟩:=h
  unfold eU at h3
  obtain⟨i1,i2⟩:=FI h4
  refine⟨List.pairwise_cons.2 ⟨fun y hy=>(i2 y hy).1,i1⟩,fun y hy=>?_⟩
  rcases List.mem_cons.1 hy with rfl|hy
  ·exact⟨h1,h2,h3⟩
  ·obtain⟨a,b,c⟩:=i2 y hy
   exact⟨by omega,b,c⟩
theorem L1{nx last:Int}{cs:List CA}(h:dH nx last cs=true):UpI (cs.map CA.id):=List.pairwise_map.2 (iK h).2
end

section
theorem uE{n:Int}{v:MV}:∀{es:List (MV × MV)},(es.all fun p=>isK .i64 p.1)=true→((cM .i64 n v es).all fun p=>isK .i64 p.1)=true
 | [],_=>by simp[cM,isK]
 | (x,u)::es,h=>by
  simp only[List.all_cons,Bool.and_eq_true] at h
  obtain⟨m,rfl⟩:=iE h.1
  by_cases hm:m=n
  ·subst hm
   simp only[cM,if_true,List.all_cons,Bool.and_eq_true]
   exact⟨by simp[isK],h.2⟩
  ·simp only[cM,if_neg hm,List.all_cons,Bool.and_eq_true]
   exact⟨by simp[isK],uE h.2⟩
theorem qY{n m:Int}{v:MV}:∀{es:List (MV × MV)},(es.all fun p=>isK .i64 p.1)=true→cB m (cM .i64 n v es)=if m=n then some v else cB m es
 | [],_=>by
  by_cases h:m=n
  ·subst h;simp[cM,cB]
  ·rw[if_neg h];simp[cM,cB,Ne.symm h]
 | (x,u)::es,h=>by
  simp only[List.all_cons,Bool.and_eq_true] at h
  obtain⟨k,rfl⟩:=iE h.1
  have ih:=qY (n:=n) (m:=m) (v:=v) h.2
  by_cases hk:k=n
  ·subst hk
   by_cases hm:m=k
   ·subst hm;simp[cM,cB]
   ·simp[cM,cB,hm,Ne.symm hm]
  ·by_cases hm:m=n
   ·subst hm
    rw[if_pos rfl] at ih ⊢
    simp only[cM,if_neg hk,cB,ih]
   ·rw[if_neg hm] at ih ⊢
    simp only[cM,if_neg hk,cB,ih]
theorem uD{n:Int}{v:MV}:∀{es:List (MV × MV)},(cM .i64 n v es).length≤es.length+1
 | []=>by simp[cM]
 | (.int k m,u)::es=>by
  simp only[cM]
  split
  ·simp
  ·simpa using uD (es:=es)
 | (.junk,u)::es|(.bool _,u)::es|(.str _,u)::es|(.nilp,u)::es|(.ptr _ _ _,u)::es|(.cptr _,u)::es|(.aZ,u)::es|(.lst _ _ _,u)::es|(.vec _ _ _ _,u)::es|(.nilm,u)::es|(.mapv _,u)::es|(.nilfn,u)::es|(.fn _ _ _,u)::es|(.nili,u)::es|(.iface _ _,u)::es|(.agg _,u)::es|(.tup _,u)::es=>by
  simpa[cM] using uD (es:=es)
def DP(es:List (MV × MV)):Prop:=(cY es).Nodup
theorem q0{es:List (MV × MV)}(h:(es.all fun p=>isK .i64 p.1)=true){n:Int}:n∈cY es↔cB n es≠none:=by
 induction es with
 | nil=>simp[cY,cB]
 | cons p es ih =>
  obtain⟨x,u⟩:=p
  simp only[List.all_cons,Bool.and_eq_true] at h
  obtain⟨k,rfl⟩:=iE h.1
  have ih:=ih h.2
  have e:cY ((MV.int .i64 k,u)::es)=k::cY es:=rfl
  rw[e,List.mem_cons,cB]
  by_cases hk:k=n
  ·subst hk;simp
  ·rw[if_neg hk,←ih]
   exact⟨fun h=>h.elim (fun e=>absurd e.symm hk) id,.inr⟩
theorem MJ{es:List (MV × MV)}(h:(es.all fun p=>isK .i64 p.1)=true)(ho:DP es){i:Nat}{z:MV × MV}(hi:es[i]?=some z):∃n,z.1=.int .i64 n∧cB n es=some z.2:=by
 induction es generalizing i with
 | nil=>simp at hi
 | cons p es ih =>
  obtain⟨x,u⟩:=p
  simp only[List.all_cons,Bool.and_eq_true] at h
  obtain⟨k,rfl⟩:=iE h.1
  have e:cY ((MV.int .i64 k,u)::es)=k::cY es:=rfl
  unfold DP at ho
  rw[e] at ho
  obtain⟨h1,h2⟩:=List.nodup_cons.1 ho
  cases i with
  | zero =>
   simp at hi
   subst hi
   exact⟨k,rfl,by simp[cB]⟩
  | succ i =>
   obtain⟨n,h3,h4⟩:=ih h.2 h2 (by simpa using hi)
   refine⟨n,h3,?_⟩
   have:k≠n:=fun e=>by
    subst e
    exact h1 ((q0 h.2).2 (by rw[h4];simp))
   rw[cB,if_neg this,h4]
theorem zH{n:Int}{v:MV}:∀{es:List (MV × MV)},(es.all fun p=>isK .i64 p.1)=true→DP es→DP (cM .i64 n v es)
 | [],_,_=>by simp[DP,cM,cY]
 | (x,u)::es,h,ho=>by
  simp only[List.all_cons,Bool.and_eq_true] at h
  obtain⟨k,rfl⟩:=iE h.1
  have e:∀(u:MV) (es:List (MV × MV)),cY ((MV.int .i64 k,u)::es)=k::cY es:=fun _ _=>rfl
  unfold DP at ho ⊢
  rw[e] at ho
  obtain⟨h1,h2⟩:=List.nodup_cons.1 ho
  by_cases hk:k=n
  ·simp only[cM,if_pos hk]
   rw[e]
   exact List.nodup_cons.2 ⟨h1,h2⟩
  ·simp only[cM,if_neg hk]
   rw[e]
   refine List.nodup_cons.2 ⟨fun hm=>?_,zH h.2 h2⟩
   rw[q0 (uE h.2),qY h.2,if_neg hk,←q0 h.2] at hm
   exact h1 hm
def vEs(cs:List CA):List (MV × MV):=cs.map fun c=>(.int .i64 c.id,.int .i64 c.ver)
theorem Ao(cs:List CA):((vEs cs).all fun p=>isK .i64 p.1)=true:=by
 simp[vEs,isK]
theorem yZ(cs:List CA):cY (vEs cs)=cs.map CA.id:=by
 simp[cY,vEs,MN]
theorem B0{c:CA}:∀{cs:List CA},c.id∉cs.map CA.id→cM .i64 c.id (.int .i64 c.ver) (vEs cs)=vEs (cs++[c])
 | [],_=>rfl
 | d::cs,h=>by
  simp only[List.map_cons,List.mem_cons,not_or] at h
  have ih:=B0 h.2
  simp only[vEs,List.map_cons,List.cons_append,cM] at ih ⊢
  rw[if_neg (Ne.symm h.1),ih]
theorem BW{id:Int}:∀cs:List CA,cB id (vEs cs)=(cs.find? fun c=>decide (c.id=id)).map fun c=>.int .i64 c.ver
 | []=>rfl
 | c::cs=>by
  have ih:=BW (id:=id) cs
  simp only[vEs,List.map_cons,cB,List.find?_cons] at ih ⊢
  by_cases h:c.id=id
  ·simp[h]
  ·simp[h,ih]
end

section
set_option maxRecDepth 100000
set_option maxHeartbeats 8000000
def jT(f:F8)(L:List Nat):F8:=L.foldl (fun g i=>g.set i (f.get i)) f80
theorem vM(f:F8)(m:Nat):∀k,iV f m k=jT f ((List.range k).filter fun i=>bit m i)
 | 0=>rfl
 | k+1=>by
  rw[iV,vM f m k,List.range_succ,List.filter_append,jT,jT,List.foldl_append]
  by_cases h:bit m k=true
  ·rw[if_pos h];simp[h]
  ·rw[if_neg h];simp[h]
theorem Fl(f:F8)(m:Nat):N4 f m=jT f (bJ m):=vM f m 8
theorem vL(c:CA)(m:UInt32):aA Tryz.prog 78 [.agg c.c,.int .u32 (m.toNat:Int)] St.none (fun r _=>r=.agg (cC c m).c):=by
 refine aA.bZ (aA.body 34 [.cell 4 126] Tryz.func78 rfl rfl rfl rfl ?_)
 have hml:=o6 m
 have hfl:=p8 m
 have hbl:=qQ m.toNat
 obtain⟨ml,hm8⟩:∃b,bit m.toNat 8=b:=⟨_,rfl⟩
 rw[hm8] at hml
 have hlab:(cC c m).c=.int .i64 c.id::.int .i64 c.ver::.int .u32 (((if ml=true then c.lab else 0:UInt32).toNat:Nat):Int)::fc (jT c.f (bJ m.toNat)):=by rw[←hm8,←Fl];rfl
 rw[hlab]
 clear hm8 hlab
 obtain⟨lb,hlb⟩:∃lb:UInt32,(if ml=true then c.lab else 0)=lb:=⟨_,rfl⟩
 rw[hlb]
 have hlt:∀i,i∈bJ m.toNat→i<8:=fun i=>tJ
 obtain⟨L,hL⟩:∃L,bJ m.toNat=L:=⟨_,rfl⟩
 rw[hL] at hfl hbl hlt ⊢
 have hll:(cX L).length=L.length:=List.length_map _
 cases ml
 all_goals simp only[Bool.false_eq_true,if_false,if_true] at hlb
 ·subst hlb
  repeat' (first|(with_reducible first|refine up hml ?_|refine up hfl ?_)|(with_reducible first|(refine wT ?_;(first|((fail_if_success (have:=nl1));refine wN fun nl1 hnl=>?_)|((fail_if_success (have:=nl2));refine wN fun nl2 hnl=>?_)|((fail_if_success (have:=nl3));refine wN fun nl3 hnl=>?_)|refine wN fun _ hnl=>?_);revert hnl;(repeat refine wS fun _ _=>?_);intro hnl)|refine wE ?_|(refine wK ?_ ?_<;>intro h)|(refine wB ?_ ?_<;>intro h<;>simp only[h]))|simp(maxSteps:=4000000) (disch:=first|exact ddL|fail) only[go_sem,simprocAttr,Tryz.f78,FXs,hll])
  refine aF (α:=Nat) (fun i=>⟨34,[(21,.int .i64 (i:Int)),(20,.int .i64 (L.length:Int)),(19,.lst 1 (cX L) false),(5,.ptr nl3 0 0),(4,.ptr nl2 0 0),(2,.ptr nl1 0 0)],[]⟩)
   (fun i=>((St.none.set nl1 (.row 126 27 [c.c])).set nl2 (.row 126 27 [ca0.c])).set nl3 (.row 126 27 [.int .i64 c.id::.int .i64 c.ver::.int .u32 ((0:UInt32).toNat:Int)::fc (jT c.f (L.take i))])) (fun i=>i≤L.length) (fun i=>L.length - i) (.of (.less ?_ (St.le_refl _)) ⟨0,rfl,rfl,Nat.zero_le _⟩) ?_
  ·simp(maxSteps:=4000000) (disch:=first|exact ddL|fail) only[go_sem,simprocAttr,aC,aB]
   all_goals first|rfl|(simp;done)
  ·intro i hi
   have hi:i≤L.length:=hi
   by_cases hlt':i<L.length
   ·obtain⟨k,hk⟩:=bI L hlt'
    have hat:(cX L).getD i []=[.int .i64 (k:Int)]:=by rw[List.getD_eq_getElem?_getD,List.getElem?_map,hk];rfl
    have hk8:=hlt k (cZ hk)
    have hsucc:jT c.f (L.take (i+1))=(jT c.f (L.take i)).set k (c.f.get k):=by rw[aV hk,jT,List.foldl_append];rfl
    obtain⟨g,hg⟩:∃g,jT c.f (L.take i)=g:=⟨_,rfl⟩
    rw[hg] at hsucc ⊢
    repeat' (first|(with_reducible first|(refine wT ?_;(first|((fail_if_success (have:=nl1));refine wN fun nl1 hnl=>?_)|((fail_if_success (have:=nl2));refine wN fun nl2 hnl=>?_)|((fail_if_success (have:=nl3));refine wN fun nl3 hnl=>?_)|refine wN fun _ hnl=>?_);revert hnl;(repeat refine wS fun _ _=>?_);intro hnl)|refine wE ?_|(refine wK ?_ ?_<;>intro h)|(refine wB ?_ ?_<;>intro h<;>simp only[h]))|simp(maxSteps:=4000000) (disch:=first|exact ddL|fail) only[go_sem,simprocAttr,FXs,hat,hll])
    all_goals (try (exfalso;omega))
    all_goals
     refine .of (.less ?_ (St.le_refl _)) ⟨i+1,rfl,by rw[hsucc];first|rfl|skip,(by omega:i+1≤L.length),by omega⟩
     simp(maxSteps:=4000000) (disch:=first|exact ddL|fail) only[go_sem,simprocAttr,aC,aB]
     all_goals first|rfl|(simp;done)
   ·have:i=L.length:=by omega
    subst this
    rw[List.take_length]
    repeat' (first|(with_reducible first|(refine wT ?_;(first|((fail_if_success (have:=nl1));refine wN fun nl1 hnl=>?_)|((fail_if_success (have:=nl2));refine wN fun nl2 hnl=>?_)|((fail_if_success (have:=nl3));refine wN fun nl3 hnl=>?_)|refine wN fun _ hnl=>?_);revert hnl;(repeat refine wS fun _ _=>?_);intro hnl)|refine wE ?_|(refine wK ?_ ?_<;>intro h)|(refine wB ?_ ?_<;>intro h<;>simp only[h]))|simp(maxSteps:=4000000) (disch:=first|exact ddL|fail) only[go_sem,simprocAttr,FXs])
    all_goals first|exact⟨_,St.le_refl _,rfl⟩|exact⟨_,St.le_refl _⟩
 ·subst hlb
  repeat' (first|(with_reducible first|refine up hml ?_|refine up hfl ?_)|(with_reducible first|(refine wT ?_;(first|((fail_if_success (have:=nl1));refine wN fun nl1 hnl=>?_)|((fail_if_success (have:=nl2));refine wN fun nl2 hnl=>?_)|((fail_if_success (have:=nl3));refine wN fun nl3 hnl=>?_)|refine wN fun _ hnl=>?_);revert hnl;(repeat refine wS fun _ _=>?_);intro hnl)|refine wE ?_|(refine wK ?_ ?_<;>intro h)|(refine wB ?_ ?_<;>intro h<;>simp only[h]))|simp(maxSteps:=4000000) (disch:=first|exact ddL|fail) only[go_sem,simprocAttr,Tryz.f78,FXs,hll])
  refine aF (α:=Nat) (fun i=>⟨34,[(21,.int .i64 (i:Int)),(20,.int .i64 (L.length:Int)),(19,.lst 1 (cX L) false),(5,.ptr nl3 0 0),(4,.ptr nl2 0 0),(2,.ptr nl1 0 0)],[]⟩)
   (fun i=>((St.none.set nl1 (.row 126 27 [c.c])).set nl2 (.row 126 27 [ca0.c])).set nl3 (.row 126 27 [.int .i64 c.id::.int .i64 c.ver::.int .u32 (c.lab.toNat:Int)::fc (jT c.f (L.take i))])) (fun i=>i≤L.length) (fun i=>L.length - i) (.of (.less ?_ (St.le_refl _)) ⟨0,rfl,rfl,Nat.zero_le _⟩) ?_
  ·simp(maxSteps:=4000000) (disch:=first|exact ddL|fail) only[go_sem,simprocAttr,aC,aB]
   all_goals first|rfl|(simp;done)
  ·intro i hi
   have hi:i≤L.length:=hi
   by_cases hlt':i<L.length
   ·obtain⟨k,hk⟩:=bI L hlt'
    have hat:(cX L).getD i []=[.int .i64 (k:Int)]:=by rw[List.getD_eq_getElem?_getD,List.getElem?_map,hk];rfl
    have hk8:=hlt k (cZ hk)
    have hsucc:jT c.f (L.take (i+1))=(jT c.f (L.take i)).set k (c.f.get k):=by rw[aV hk,jT,List.foldl_append];rfl
    obtain⟨g,hg⟩:∃g,jT c.f (L.take i)=g:=⟨_,rfl⟩
    rw[hg] at hsucc ⊢
    repeat' (first|(with_reducible first|(refine wT ?_;(first|((fail_if_success (have:=nl1));refine wN fun nl1 hnl=>?_)|((fail_if_success (have:=nl2));refine wN fun nl2 hnl=>?_)|((fail_if_success (have:=nl3));refine wN fun nl3 hnl=>?_)|refine wN fun _ hnl=>?_);revert hnl;(repeat refine wS fun _ _=>?_);intro hnl)|refine wE ?_|(refine wK ?_ ?_<;>intro h)|(refine wB ?_ ?_<;>intro h<;>simp only[h]))|simp(maxSteps:=4000000) (disch:=first|exact ddL|fail) only[go_sem,simprocAttr,FXs,hat,hll])
    all_goals (try (exfalso;omega))
    all_goals
     refine .of (.less ?_ (St.le_refl _)) ⟨i+1,rfl,by rw[hsucc];first|rfl|skip,(by omega:i+1≤L.length),by omega⟩
     simp(maxSteps:=4000000) (disch:=first|exact ddL|fail) only[go_sem,simprocAttr,aC,aB]
     all_goals first|rfl|(simp;done)
   ·have:i=L.length:=by omega
    subst this
    rw[List.take_length]
    repeat' (first|(with_reducible first|(refine wT ?_;(first|((fail_if_success (have:=nl1));refine wN fun nl1 hnl=>?_)|((fail_if_success (have:=nl2));refine wN fun nl2 hnl=>?_)|((fail_if_success (have:=nl3));refine wN fun nl3 hnl=>?_)|refine wN fun _ hnl=>?_);revert hnl;(repeat refine wS fun _ _=>?_);intro hnl)|refine wE ?_|(refine wK ?_ ?_<;>intro h)|(refine wB ?_ ?_<;>intro h<;>simp only[h]))|simp(maxSteps:=4000000) (disch:=first|exact ddL|fail) only[go_sem,simprocAttr,FXs])
    all_goals first|exact⟨_,St.le_refl _,rfl⟩|exact⟨_,St.le_refl _⟩
end

section
set_option maxRecDepth 100000
set_option maxHeartbeats 8000000
theorem I1(t:TU):aA Tryz.prog 191 [.agg t.c] St.none (fun r _=>r=.bool (wZ t)):=by
 refine aA.bZ (aA.body 68 [.tmp 2] Tryz.func191 rfl rfl rfl rfl ?_)
 obtain⟨res,hres⟩:∃b,wZ t=b:=⟨_,rfl⟩
 rw[hres]
 unfold wZ eU big at hres
 have hc:=p6 t.card
 have hm:bT Tryz.prog 126 .eql (.agg t.card.c) (.agg (.int .i64 0::.int .i64 0::.int .u32 0::fc f80))=some (True,.bool (decide (t.card=ca0))):=Ce t.card ca0
 have hi:=zN [t.id] false (by simp)
 have hid:fL 0 [t.id]=decide (1≤t.id∧t.id<1073741824):=by
  simp only[fL,Bool.and_true,eU]
  exact decide_eq_decide.mpr (by omega)
 rw[hid] at hi
 clear hid
 obtain⟨io,hio⟩:∃io,decide (1≤t.id∧t.id<1073741824)=io:=⟨_,rfl⟩
 rw[hio] at hi
 have hmin:((if t.new<t.old then t.new else t.old)<0)=(t.old<0∨t.new<0):=propext (by split<;>omega)
 have hmax:(1099511627776<(if t.new > t.old then t.new else t.old))=(1099511627776<t.old∨1099511627776<t.new):=propext (by split<;>omega)
 by_cases hr:1≤t.sq∧t.sq≤1099511627776∧1≤t.id∧t.id<1073741824∧0≤t.old∧t.old≤1099511627776∧0≤t.new∧t.new≤1099511627776∧t.old≠t.new
 ·rw[decide_eq_true hr,Bool.true_and] at hres
  obtain⟨r1,r2,r3,r4,r5,r6,r7,r8,r9⟩:=hr
  have:io=true:=by rw[←hio];exact decide_eq_true ⟨r3,r4⟩
  subst this
  by_cases h0:t.new=0
  ·rw[if_pos h0] at hres
   rw[hres] at hm
   repeat' (first|(refine gR [.lst 1 ([t.id].map aP) false] hi (by constructor) rfl (gB (.vecAll (aJ _ _ _) rfl)) ?_)|(with_reducible first|(refine wN fun _ hnl=>?_;revert hnl;(repeat refine wS fun _ _=>?_);intro hnl)|refine wE ?_|(refine wK ?_ ?_<;>intro h)|(refine wB ?_ ?_<;>intro h<;>simp only[h]))|simp(maxSteps:=4000000) (disch:=first|exact ddL|fail) only[go_sem,simprocAttr,Tryz.f191,FXs,hm,hmin,hmax])
   all_goals first|exact⟨_,St.le_refl _,rfl⟩|exact⟨_,St.le_refl _⟩|(exfalso;omega)
  ·rw[if_neg h0] at hres
   obtain⟨ok,hok⟩:∃b,cW t.card=b:=⟨_,rfl⟩
   rw[hok] at hc hres
   have hh:res=(ok&&decide (t.card.id=t.id)&&decide (t.card.ver=t.new)):=by
    rw[←hres,Bool.and_assoc,Bool.decide_and]
   clear hres
   subst hh
   cases ok
   ·repeat' (first|(refine gR [.lst 1 ([t.id].map aP) false] hi (by constructor) rfl (gB (.vecAll (aJ _ _ _) rfl)) ?_)|(with_reducible first|refine up hc ?_)|(with_reducible first|(refine wN fun _ hnl=>?_;revert hnl;(repeat refine wS fun _ _=>?_);intro hnl)|refine wE ?_|(refine wK ?_ ?_<;>intro h)|(refine wB ?_ ?_<;>intro h<;>simp only[h]))|simp(maxSteps:=4000000) (disch:=first|exact ddL|fail) only[go_sem,simprocAttr,Tryz.f191,FXs,hmin,hmax])
    all_goals first|exact⟨_,St.le_refl _,rfl⟩|exact⟨_,St.le_refl _⟩|(exfalso;omega)|(refine⟨_,St.le_refl _,?_⟩;simp[*])
   ·repeat' (first|(refine gR [.lst 1 ([t.id].map aP) false] hi (by constructor) rfl (gB (.vecAll (aJ _ _ _) rfl)) ?_)|(with_reducible first|refine up hc ?_)|(with_reducible first|(refine wN fun _ hnl=>?_;revert hnl;(repeat refine wS fun _ _=>?_);intro hnl)|refine wE ?_|(refine wK ?_ ?_<;>intro h)|(refine wB ?_ ?_<;>intro h<;>simp only[h]))|simp(maxSteps:=4000000) (disch:=first|exact ddL|fail) only[go_sem,simprocAttr,Tryz.f191,FXs,hmin,hmax])
    all_goals first|exact⟨_,St.le_refl _,rfl⟩|exact⟨_,St.le_refl _⟩|(exfalso;omega)|(refine⟨_,St.le_refl _,?_⟩;simp[*])
 ·rw[decide_eq_false hr,Bool.false_and] at hres
  subst hres
  cases io
  ·have hio:¬(1≤t.id∧t.id<1073741824):=by simpa using hio
   clear hr
   repeat' (first|(refine gR [.lst 1 ([t.id].map aP) false] hi (by constructor) rfl (gB (.vecAll (aJ _ _ _) rfl)) ?_)|(with_reducible first|(refine wN fun _ hnl=>?_;revert hnl;(repeat refine wS fun _ _=>?_);intro hnl)|refine wE ?_|(refine wK ?_ ?_<;>intro h)|(refine wB ?_ ?_<;>intro h<;>simp only[h]))|simp(maxSteps:=4000000) (disch:=first|exact ddL|fail) only[go_sem,simprocAttr,Tryz.f191,FXs])
   all_goals first|exact⟨_,St.le_refl _,rfl⟩|exact⟨_,St.le_refl _⟩|(exfalso;omega)
  ·have hio:1≤t.id∧t.id<1073741824:=by simpa using hio
   repeat' (first|(refine gR [.lst 1 ([t.id].map aP) false] hi (by constructor) rfl (gB (.vecAll (aJ _ _ _) rfl)) ?_)|(with_reducible first|(refine wN fun _ hnl=>?_;revert hnl;(repeat refine wS fun _ _=>?_);intro hnl)|refine wE ?_|(refine wK ?_ ?_<;>intro h)|(refine wB ?_ ?_<;>intro h<;>simp only[h]))|simp(maxSteps:=4000000) (disch:=first|exact ddL|fail) only[go_sem,simprocAttr,Tryz.f191,FXs,hmin,hmax])
   all_goals first|exact⟨_,St.le_refl _,rfl⟩|exact⟨_,St.le_refl _⟩|(exfalso;omega)
structure JE (l:List TU) (es:List (MV × MV)):Prop where
 k:(es.all fun p=>isK .i64 p.1)=true
 o:DP es
 g:∀id,cB id es=(cJ l id).map fun n=>.int .i64 n
 n:es.length≤l.length
theorem CQ:JE [] []:=⟨rfl,List.nodup_nil,fun _=>rfl,Nat.le_refl _⟩
theorem zG{l:List TU}{es:List (MV × MV)}(h:JE l es)(t:TU):JE (l++[t]) (cM .i64 t.id (.int .i64 t.new) es):=by
 refine⟨uE h.k,zH h.k h.o,fun id=>?_,?_⟩
 ·rw[qY h.k,jS]
  by_cases e:id=t.id
  ·subst e;simp
  ·rw[if_neg e,if_neg (Ne.symm e)];exact h.g id
 ·have:=uD (n:=t.id) (v:=.int .i64 t.new) (es:=es)
  have:=h.n
  rw[List.length_append]
  simp
  omega
theorem I2(l:List TU)(hl:l.length≤1000000)(tt:Bool):aA Tryz.prog 115 [.lst 31 (l.map TU.c) tt] St.none (fun r _=>r=.bool (eR [] l)):=by
 refine aA.bZ (aA.body 47 [.tmp 2] Tryz.func115 rfl rfl rfl rfl ?_)
 obtain⟨res,hres⟩:∃b,eR [] l=b:=⟨_,rfl⟩
 rw[hres]
 repeat' (first|(with_reducible first|(refine wT ?_;(first|((fail_if_success (have:=nl1));refine wN fun nl1 hnl=>?_)|refine wN fun _ hnl=>?_);revert hnl;(repeat refine wS fun _ _=>?_);intro hnl)|refine wE ?_|(refine wK ?_ ?_<;>intro h)|(refine wB ?_ ?_<;>intro h<;>simp only[h]))|simp(maxSteps:=4000000) (disch:=first|exact ddL|fail) only[go_sem,simprocAttr,Tryz.f115])
 refine aF (α:=Nat × List (MV × MV)) (fun z=>⟨47,[(12,.int .i64 (z.1:Int)),(11,.int .i64 (l.length:Int)),(10,.lst 31 (l.map TU.c) tt),(4,.mapv nl1),(3,.int .i64 (oK (l.take z.1)))],[]⟩)
  (fun z=>St.none.set nl1 (.mp z.2)) (fun z=>z.1≤l.length∧JE (l.take z.1) z.2∧res=eR (l.take z.1) (l.drop z.1)) (fun z=>l.length - z.1) (.of (.less ?_ (St.le_refl _)) ⟨(0,[]),rfl,rfl,Nat.zero_le _,CQ,hres.symm⟩) ?_
 ·simp(maxSteps:=4000000) (disch:=first|exact ddL|fail) only[go_sem,simprocAttr,aC,aB]
  all_goals first|rfl|(simp;done)
 ·rintro⟨i,es⟩ ⟨hi,hM,hq⟩
  simp only at hi hM hq ⊢
  by_cases hlt:i<l.length
  ·obtain⟨x,hx⟩:=bI l hlt
   rw[dT hx,eR,←aV hx] at hq
   unfold FH at hq
   have hat:=bB (f:=TU.c) hx
   have hc:=I1 x
   have hN:=zG hM x
   rw[←aV hx] at hN
   have hg:=hM.g x.id
   have hall:=hM.k
   have hsn:oK (l.take (i+1))=x.sq:=by rw[aV hx,pC]
   obtain⟨s,hs⟩:∃s,oK (l.take i)=s:=⟨_,rfl⟩
   rw[hs] at hq ⊢
   obtain⟨tk,htk⟩:∃b,wZ x=b:=⟨_,rfl⟩
   rw[htk] at hc hq
   obtain⟨nw,hnw⟩:∃o,cJ (l.take i) x.id=o:=⟨_,rfl⟩
   rw[hnw] at hq hg
   cases tk
   ·rw[Bool.false_and,Bool.false_and,Bool.false_and] at hq
    subst hq
    repeat' (first|(with_reducible first|refine up hc ?_)|(with_reducible first|(refine wT ?_;(first|((fail_if_success (have:=nl1));refine wN fun nl1 hnl=>?_)|refine wN fun _ hnl=>?_);revert hnl;(repeat refine wS fun _ _=>?_);intro hnl)|refine wE ?_|(refine wK ?_ ?_<;>intro h)|(refine wB ?_ ?_<;>intro h<;>simp only[h]))|simp(maxSteps:=4000000) (disch:=first|exact ddL|fail) only[go_sem,simprocAttr,FXs,hat])
    all_goals first|exact⟨_,St.le_refl _,rfl⟩|exact⟨_,St.le_refl _⟩|(exfalso;omega)
   ·rw[Bool.true_and] at hq
    by_cases hseq:s<x.sq
    ·rw[decide_eq_true hseq,Bool.true_and] at hq
     cases nw with
     | none =>
      rw[Option.getD_none,decide_eq_true rfl,Bool.true_and] at hq
      rw[Option.map_none] at hg
      repeat' (first|(with_reducible first|refine up hc ?_)|(with_reducible first|(refine wT ?_;(first|((fail_if_success (have:=nl1));refine wN fun nl1 hnl=>?_)|refine wN fun _ hnl=>?_);revert hnl;(repeat refine wS fun _ _=>?_);intro hnl)|refine wE ?_|(refine wK ?_ ?_<;>intro h)|(refine wB ?_ ?_<;>intro h<;>simp only[h]))|simp(maxSteps:=4000000) (disch:=first|exact ddL|fail) only[go_sem,simprocAttr,FXs,hat,hg,hall,Option.getD_some,Option.getD_none,Option.isSome_some,Option.isSome_none])
      all_goals (try (exfalso;omega))
      all_goals
       refine .of (.less ?_ (σ1:=St.none.set nl1 (.mp (cM .i64 x.id (.int .i64 x.new) es))) (St.aD (St.none_le _) (by simp[St.set, *]))) ⟨(i+1,cM .i64 x.id (.int .i64 x.new) es),rfl,rfl,⟨by simp only;omega,hN,hq⟩,by simp only;omega⟩
       rw[hsn]
       simp(maxSteps:=4000000) (disch:=first|exact ddL|fail) only[go_sem,simprocAttr,aC,aB]
       all_goals first|rfl|(simp;done)
     | some n =>
      rw[Option.getD_some] at hq
      rw[Option.map_some] at hg
      by_cases hn:n=x.old
      ·rw[decide_eq_true hn,Bool.true_and] at hq
       repeat' (first|(with_reducible first|refine up hc ?_)|(with_reducible first|(refine wT ?_;(first|((fail_if_success (have:=nl1));refine wN fun nl1 hnl=>?_)|refine wN fun _ hnl=>?_);revert hnl;(repeat refine wS fun _ _=>?_);intro hnl)|refine wE ?_|(refine wK ?_ ?_<;>intro h)|(refine wB ?_ ?_<;>intro h<;>simp only[h]))|simp(maxSteps:=4000000) (disch:=first|exact ddL|fail) only[go_sem,simprocAttr,FXs,hat,hg,hall,Option.getD_some,Option.getD_none,Option.isSome_some,Option.isSome_none])
       all_goals (try (exfalso;omega))
       all_goals
        refine .of (.less ?_ (σ1:=St.none.set nl1 (.mp (cM .i64 x.id (.int .i64 x.new) es))) (St.aD (St.none_le _) (by simp[St.set, *]))) ⟨(i+1,cM .i64 x.id (.int .i64 x.new) es),rfl,rfl,⟨by simp only;omega,hN,hq⟩,by simp only;omega⟩
        rw[hsn]
        simp(maxSteps:=4000000) (disch:=first|exact ddL|fail) only[go_sem,simprocAttr,aC,aB]
        all_goals first|rfl|(simp;done)
      ·rw[decide_eq_false hn,Bool.false_and] at hq
       subst hq
       repeat' (first|(with_reducible first|refine up hc ?_)|(with_reducible first|(refine wT ?_;(first|((fail_if_success (have:=nl1));refine wN fun nl1 hnl=>?_)|refine wN fun _ hnl=>?_);revert hnl;(repeat refine wS fun _ _=>?_);intro hnl)|refine wE ?_|(refine wK ?_ ?_<;>intro h)|(refine wB ?_ ?_<;>intro h<;>simp only[h]))|simp(maxSteps:=4000000) (disch:=first|exact ddL|fail) only[go_sem,simprocAttr,FXs,hat,hg,hall,Option.getD_some,Option.getD_none,Option.isSome_some,Option.isSome_none])
       all_goals first|exact⟨_,St.le_refl _,rfl⟩|exact⟨_,St.le_refl _⟩|(exfalso;omega)
    ·rw[decide_eq_false hseq,Bool.false_and,Bool.false_and] at hq
     subst hq
     repeat' (first|(with_reducible first|refine up hc ?_)|(with_reducible first|(refine wT ?_;(first|((fail_if_success (have:=nl1));refine wN fun nl1 hnl=>?_)|refine wN fun _ hnl=>?_);revert hnl;(repeat refine wS fun _ _=>?_);intro hnl)|refine wE ?_|(refine wK ?_ ?_<;>intro h)|(refine wB ?_ ?_<;>intro h<;>simp only[h]))|simp(maxSteps:=4000000) (disch:=first|exact ddL|fail) only[go_sem,simprocAttr,FXs,hat])
     all_goals first|exact⟨_,St.le_refl _,rfl⟩|exact⟨_,St.le_refl _⟩|(exfalso;omega)
  ·have:i=l.length:=by omega
   subst this
   rw[List.drop_length,eR] at hq
   subst hq
   repeat' (first|(with_reducible first|(refine wT ?_;(first|((fail_if_success (have:=nl1));refine wN fun nl1 hnl=>?_)|refine wN fun _ hnl=>?_);revert hnl;(repeat refine wS fun _ _=>?_);intro hnl)|refine wE ?_|(refine wK ?_ ?_<;>intro h)|(refine wB ?_ ?_<;>intro h<;>simp only[h]))|simp(maxSteps:=4000000) (disch:=first|exact ddL|fail) only[go_sem,simprocAttr])
   all_goals first|exact⟨_,St.le_refl _,rfl⟩|exact⟨_,St.le_refl _⟩
end

section
set_option maxRecDepth 100000
set_option maxHeartbeats 8000000
abbrev kpO(kl kb kr:Bool):aW:=.row 254 3 [[.bool kl,.bool kb,.bool kr]]
abbrev tkO(q n:Nat):aW:=.row 75 1 [[.vec 1 q 0 n]]
abbrev tkR(L:List Int)(ex:List (List MV)):aW:=.row 3 1 (L.map aP++ex)
def NX(x:Int)(b:Bool)(l q:Nat)(L L':List Int)(ex:List (List MV)):Prop :=
 aA Tryz.prog 243 [.int .i64 x,.bool b,.ptr l 0 0] ((St.none.set l (tkO q L.length)).set q (tkR L ex)) (fun v σ'=>v=.tup []∧∃q' ex',q'≠l∧σ'=(St.none.set l (tkO q' L'.length)).set q' (tkR L' ex'))
theorem rO(x:Int)(b:Bool){l q:Nat}(hql:q≠l)(L:List Int)(hL:L.length≤3000000)(ex:List (List MV)):NX x b l q L (L++(if b=true then[x] else[])) ex:=by
 refine aA.less (Q':=fun v σ'=>v=.tup []∧∃q' ex',q'≠l∧((St.none.set l (tkO q' (L++(if b=true then[x] else[])).length)).set q' (tkR (L++(if b=true then[x] else[])) ex')).le σ') (aA.body 10 [] Tryz.func243 rfl rfl rfl rfl ?_) fun v σ' ⟨h1,q',ex',h2,h3⟩=>⟨_,h3,h1,q',ex',h2,rfl⟩
 have hlq:=Ne.symm hql
 cases b
 ·simp only[Bool.false_eq_true,if_false,List.append_nil]
  repeat' (first|(with_reducible first|(refine wT ?_;(first|((fail_if_success (have:=nl1));refine wN fun nl1 hnl=>?_)|((fail_if_success (have:=nl2));refine wN fun nl2 hnl=>?_)|refine wN fun _ hnl=>?_);revert hnl;(repeat refine wS fun _ _=>?_);intro hnl)|refine wE ?_|(refine wK ?_ ?_<;>intro h)|(refine wB ?_ ?_<;>intro h<;>simp only[h]))|simp(maxSteps:=4000000) (disch:=first|exact ddL|fail) only[go_sem,simprocAttr,Tryz.f243])
  all_goals exact⟨q,ex,hql,St.le_refl _⟩
 ·simp only[if_true,List.length_append,List.length_singleton]
  have hLm:(L.map aP).length=L.length:=List.length_map _
  obtain⟨n,hn⟩:∃n,L.length=n:=⟨_,rfl⟩
  have hdr:(L.map aP++ex).drop (n+1)=ex.drop 1:=by rw[←hn];exact kI
  have htk':(L.map aP++ex).take n=L.map aP:=by rw[←hn];exact jV
  have hfin:∀{σ:St} {q':Nat} {ex':List (List MV)},q'≠l→σ l=some (tkO q' (n+1))→σ q'=some (tkR (L++[x]) ex')→∃q' ex',¬q'=l∧((St.none.set l (tkO q' (n+1))).set q' (tkR (L++[x]) ex')).le σ:=fun h1 h2 h3=>⟨_,_,h1,le2 h2 h3⟩
  rw[hn] at hLm ⊢
  repeat' (first|(with_reducible first|(refine wT ?_;(first|((fail_if_success (have:=nl1));refine wN fun nl1 hnl=>?_)|((fail_if_success (have:=nl2));refine wN fun nl2 hnl=>?_)|refine wN fun _ hnl=>?_);revert hnl;(repeat refine wS fun _ _=>?_);intro hnl)|refine wE ?_|(refine wK ?_ ?_<;>intro h)|(refine wB ?_ ?_<;>intro h<;>simp only[h]))|simp(maxSteps:=4000000) (disch:=first|exact ddL|fail) only[go_sem,simprocAttr,Tryz.f243,FYs,htk',hdr,hLm])
  all_goals
   have d1:nl2≠l:=by assumption
   have d2:=Ne.symm d1
  ·have hex:ex=[]:=List.eq_nil_of_length_eq_zero (by omega)
   subst hex
   clear h
   exact hfin (ex':=[]) d1 (by simp[St.set, *]) (by simp[St.set, *])
  ·exact hfin (ex':=ex.drop 1) d1 (by simp[St.set, *]) (by simp[St.set, *])
end

section
set_option maxRecDepth 100000
set_option maxHeartbeats 8000000
abbrev alS(k l q:Nat)(K:aW)(L:List Int)(ex:List (List MV)):St:=((St.none.set k K).set l (tkO q L.length)).set q (tkR L ex)
theorem nB{k l q:Nat}{K:aW}{x:Int}{b:Bool}{L L':List Int}{ex:List (List MV)}{kk:MV→St→Prop}(hkl:k≠l)(hkq:k≠q)(hql:q≠l)(h:NX x b l q L L' ex)
 (hk:∀q' ex',q'≠l→q'≠k→R (bQ (.tup []) (alS k l q' K L' ex') kk)):R (cQ Tryz.prog 243 [.int .i64 x,.bool b,.ptr l 0 0] (alS k l q K L ex) kk) :=
 bX h (le2 (by simp[St.set,Ne.symm hql]) (by simp[St.set])) fun v σ' hv hf=>by
  obtain⟨rfl,q',ex',h1,rfl⟩:=hv
  have hqk:q'≠k:=fun e=>by
   subst e
   rcases hf q' _ (aJ _ _ _) with h|⟨o',h⟩
   ·simp[St.set,hkl,hkq] at h
   ·simp[St.set,hkl,hkq,St.none] at h
  have e:((St.none.set l (tkO q' L'.length)).set q' (tkR L' ex')).over ((alS k l q K L ex).minus ((St.none.set l (tkO q L.length)).set q (tkR L ex)))=alS k l q' K L' ex':=by
   funext j
   by_cases j1:j=q'
   ·subst j1;simp[St.over,St.set]
   ·by_cases j2:j=l
    ·subst j2;simp[St.over,St.set,j1]
    ·by_cases j3:j=q
     ·subst j3;simp[St.over,St.set,St.minus,St.none,j1,j2,Ne.symm hkq]
     ·simp[St.over,St.set,St.minus,St.none,j1,j2,j3]
  rw[e]
  exact hk q' ex' h1 hqk
theorem CU(a b:List Int)(ha:a.length≤1000000)(hb:b.length≤1000000)(kl kb kr:Bool)(ta tb:Bool) :
  aA Tryz.prog 190 [.lst 1 (a.map aP) ta,.lst 1 (b.map aP) tb,.agg [.bool kl,.bool kb,.bool kr]] St.none (fun r _=>r=.lst 1 ((dD kl kb kr a b).map aP) false):=by
 refine aA.seen (aA.body 103 [.tmp 6] Tryz.func190 rfl rfl rfl rfl ?_)
 repeat' (first|(with_reducible first|(refine wT ?_;(first|((fail_if_success (have:=nl1));refine wN fun nl1 hnl=>?_)|((fail_if_success (have:=nl2));refine wN fun nl2 hnl=>?_)|refine wN fun _ hnl=>?_);revert hnl;(repeat refine wS fun _ _=>?_);intro hnl)|refine wE ?_|(refine wK ?_ ?_<;>intro h)|(refine wB ?_ ?_<;>intro h<;>simp only[h]))|simp(maxSteps:=4000000) (disch:=first|decide|assumption|omega|(simp only[wL];omega)) only[go_sem,simprocAttr,Tryz.f190])
 have d1:nl1≠nl2:=by assumption
 have d2:=Ne.symm d1
 have hlen:=nG (kl:=kl) (kb:=kb) (kr:=kr) _ a b (Nat.le_refl _)
 obtain⟨res,hres⟩:∃res,dD kl kb kr a b=res:=⟨_,rfl⟩
 rw[hres] at hlen ⊢
 refine aF (α:=Nat × Nat × List Int × Nat × List (List MV)) (fun z=>⟨103,[(10,.int .i64 (z.2.1:Int)),(9,.int .i64 (z.1:Int)),(8,.fn (.func 243) [] [.ptr nl2 0 0]),(7,.ptr nl2 0 0),(5,.ptr nl1 0 0),(1,.lst 1 (b.map aP) tb),(0,.lst 1 (a.map aP) ta)],[]⟩)
  (fun z=>alS nl1 nl2 z.2.2.2.1 (kpO kl kb kr) z.2.2.1 z.2.2.2.2) (fun z=>z.1≤a.length∧z.2.1≤b.length∧z.2.2.2.1≠nl1∧z.2.2.2.1≠nl2∧res=z.2.2.1++dD kl kb kr (a.drop z.1) (b.drop z.2.1)) (fun z=>a.length - z.1+(b.length - z.2.1)) ?_ ?_
 ·refine Gh.vW (b:=nl2) (t:=75) (e:=1) (pre:=[]) (post:=[]) 3 1 (by simp[St.set]) fun q hq=>?_
  have q1:q≠nl1∧q≠nl2:=⟨fun e=>by subst e;simp[St.set,d1] at hq,fun e=>by subst e;simp[St.set] at hq⟩
  obtain⟨q1,q2⟩:=q1
  have q1':=Ne.symm q1
  have q2':=Ne.symm q2
  refine .of (.less ?_ (St.aD (le2 (by simp[St.set, *]) (by simp[St.set, *])) (by simp[St.set]))) ⟨(0,0,[],q,[]),rfl,rfl,⟨Nat.zero_le _,Nat.zero_le _,q1,q2,hres.symm⟩⟩
  simp(maxSteps:=4000000) (disch:=first|decide|assumption|omega|(simp only[wL];omega)) only[go_sem,simprocAttr,aC,aB]
  all_goals first|rfl|(simp;done)
 ·rintro⟨i,j,L,q,ex⟩ ⟨hi,hj,q1,q2,hq⟩
  simp only at hi hj q1 q2 hq ⊢
  have q1':=Ne.symm q1
  have q2':=Ne.symm q2
  have hL:L.length≤3000000:=by rw[hq,List.length_append] at hlen;omega
  have tk:=fun(x:Int) (c:Bool)=>rO x c q2 L hL ex
  by_cases hlt:i<a.length∧j<b.length
  ·obtain⟨h1,h2⟩:=hlt
   obtain⟨x,hx⟩:=bI a h1
   obtain⟨y,hy⟩:=bI b h2
   rw[dT hx,dT hy] at hq
   have hax:=bB (f:=aP) hx
   have hay:=bB (f:=aP) hy
   by_cases hc:x<y
   ·rw[tH hc,←dT hy,←List.append_assoc] at hq
    repeat' (first|(refine dN mixed (fun _ _=>none) [_,_,_,_,_,_,_] [] rfl (by decide +kernel) ?_)|((refine nB d1 q1' q2 (tk _ _) ?_;intro q' ex' p2 p1))|(with_reducible first|(refine wT ?_;(first|((fail_if_success (have:=nl1));refine wN fun nl1 hnl=>?_)|((fail_if_success (have:=nl2));refine wN fun nl2 hnl=>?_)|refine wN fun _ hnl=>?_);revert hnl;(repeat refine wS fun _ _=>?_);intro hnl)|refine wE ?_|(refine wK ?_ ?_<;>intro h)|(refine wB ?_ ?_<;>intro h<;>simp only[h]))|simp(maxSteps:=4000000) (disch:=first|decide|assumption|omega|(simp only[wL];omega)) only[go_sem,simprocAttr,hax,hay])
    all_goals (try (exfalso;omega))
    refine .of (.less ?_ (St.le_refl _)) ⟨(i+1,j,_,q',ex'),rfl,rfl,⟨by simp only;omega,hj,p1,p2,hq⟩,by simp only;omega⟩
    simp(maxSteps:=4000000) (disch:=first|decide|assumption|omega|(simp only[wL];omega)) only[go_sem,simprocAttr,aC,aB]
    all_goals first|rfl|(simp;done)
   ·by_cases hd:y<x
    ·rw[tG hd,←dT hx,←List.append_assoc] at hq
     repeat' (first|(refine dN mixed (fun _ _=>none) [_,_,_,_,_,_,_] [] rfl (by decide +kernel) ?_)|((refine nB d1 q1' q2 (tk _ _) ?_;intro q' ex' p2 p1))|(with_reducible first|(refine wT ?_;(first|((fail_if_success (have:=nl1));refine wN fun nl1 hnl=>?_)|((fail_if_success (have:=nl2));refine wN fun nl2 hnl=>?_)|refine wN fun _ hnl=>?_);revert hnl;(repeat refine wS fun _ _=>?_);intro hnl)|refine wE ?_|(refine wK ?_ ?_<;>intro h)|(refine wB ?_ ?_<;>intro h<;>simp only[h]))|simp(maxSteps:=4000000) (disch:=first|decide|assumption|omega|(simp only[wL];omega)) only[go_sem,simprocAttr,hax,hay])
     all_goals (try (exfalso;omega))
     refine .of (.less ?_ (St.le_refl _)) ⟨(i,j+1,_,q',ex'),rfl,rfl,⟨hi,by simp only;omega,p1,p2,hq⟩,by simp only;omega⟩
     simp(maxSteps:=4000000) (disch:=first|decide|assumption|omega|(simp only[wL];omega)) only[go_sem,simprocAttr,aC,aB]
     all_goals first|rfl|(simp;done)
    ·rw[tF hc hd,←List.append_assoc] at hq
     repeat' (first|(refine dN mixed (fun _ _=>none) [_,_,_,_,_,_,_] [] rfl (by decide +kernel) ?_)|((refine nB d1 q1' q2 (tk _ _) ?_;intro q' ex' p2 p1))|(with_reducible first|(refine wT ?_;(first|((fail_if_success (have:=nl1));refine wN fun nl1 hnl=>?_)|((fail_if_success (have:=nl2));refine wN fun nl2 hnl=>?_)|refine wN fun _ hnl=>?_);revert hnl;(repeat refine wS fun _ _=>?_);intro hnl)|refine wE ?_|(refine wK ?_ ?_<;>intro h)|(refine wB ?_ ?_<;>intro h<;>simp only[h]))|simp(maxSteps:=4000000) (disch:=first|decide|assumption|omega|(simp only[wL];omega)) only[go_sem,simprocAttr,hax,hay])
     all_goals (try (exfalso;omega))
     refine .of (.less ?_ (St.le_refl _)) ⟨(i+1,j+1,_,q',ex'),rfl,rfl,⟨by simp only;omega,by simp only;omega,p1,p2,hq⟩,by simp only;omega⟩
     simp(maxSteps:=4000000) (disch:=first|decide|assumption|omega|(simp only[wL];omega)) only[go_sem,simprocAttr,aC,aB]
     all_goals first|rfl|(simp;done)
  ·have hr1:i<a.length→b.drop j=[]:=fun h=>List.drop_eq_nil_of_le (by omega)
   have hst:res=L++((if kl=true then a.drop i else[])++(if kr=true then b.drop j else[])):=by
    by_cases h:i<a.length
    ·rw[hq,hr1 h,l8];simp
    ·rw[hq,List.drop_eq_nil_of_le (by omega:a.length≤i),qO];simp
   clear hq hr1
   repeat' (first|(with_reducible first|(refine wT ?_;(first|((fail_if_success (have:=nl1));refine wN fun nl1 hnl=>?_)|((fail_if_success (have:=nl2));refine wN fun nl2 hnl=>?_)|refine wN fun _ hnl=>?_);revert hnl;(repeat refine wS fun _ _=>?_);intro hnl)|refine wE ?_|(refine wK ?_ ?_<;>intro h)|(refine wB ?_ ?_<;>intro h<;>simp only[h]))|simp(maxSteps:=4000000) (disch:=first|decide|assumption|omega|(simp only[wL];omega)) only[go_sem,simprocAttr])
   all_goals (try (exfalso;omega))
   all_goals
    refine aF (α:=Nat × List Int × Nat × List (List MV)) (fun z=>⟨103,[(10,.int .i64 (j:Int)),(9,.int .i64 (z.1:Int)),(8,.fn (.func 243) [] [.ptr nl2 0 0]),(7,.ptr nl2 0 0),(5,.ptr nl1 0 0),(1,.lst 1 (b.map aP) tb),(0,.lst 1 (a.map aP) ta)],[]⟩)
     (fun z=>alS nl1 nl2 z.2.2.1 (kpO kl kb kr) z.2.1 z.2.2.2) (fun z=>z.1≤a.length∧z.2.2.1≠nl1∧z.2.2.1≠nl2∧res=z.2.1++((if kl=true then a.drop z.1 else[])++(if kr=true then b.drop j else[]))) (fun z=>a.length - z.1) (.of (.less ?_ (St.le_refl _)) ⟨(i,L,q,ex),rfl,rfl,⟨hi,q1,q2,hst⟩⟩) ?_
    ·simp(maxSteps:=4000000) (disch:=first|decide|assumption|omega|(simp only[wL];omega)) only[go_sem,simprocAttr,aC,aB]
     all_goals first|rfl|(simp;done)
    ·clear hst q1 q2 q1' q2' tk hL hi hlt
     rintro⟨i,L,q,ex⟩ ⟨hi,q1,q2,hq⟩
     simp only at hi q1 q2 hq ⊢
     have q1':=Ne.symm q1
     have q2':=Ne.symm q2
     have hL:L.length≤3000000:=by rw[hq,List.length_append] at hlen;omega
     have tk:=fun(x:Int) (c:Bool)=>rO x c q2 L hL ex
     by_cases hlt:i<a.length
     ·obtain⟨x,hx⟩:=bI a hlt
      have hax:=bB (f:=aP) hx
      have hq:res=(L++if kl=true then[x] else[])++((if kl=true then a.drop (i+1) else[])++(if kr=true then b.drop j else[])):=by
       rw[hq,dT hx]
       cases kl<;>simp
      repeat' (first|(refine dN mixed (fun _ _=>none) [_,_,_,_,_,_,_] [] rfl (by decide +kernel) ?_)|((refine nB d1 q1' q2 (tk _ _) ?_;intro q' ex' p2 p1))|(with_reducible first|(refine wT ?_;(first|((fail_if_success (have:=nl1));refine wN fun nl1 hnl=>?_)|((fail_if_success (have:=nl2));refine wN fun nl2 hnl=>?_)|refine wN fun _ hnl=>?_);revert hnl;(repeat refine wS fun _ _=>?_);intro hnl)|refine wE ?_|(refine wK ?_ ?_<;>intro h)|(refine wB ?_ ?_<;>intro h<;>simp only[h]))|simp(maxSteps:=4000000) (disch:=first|decide|assumption|omega|(simp only[wL];omega)) only[go_sem,simprocAttr,hax])
      all_goals (try (exfalso;omega))
      refine .of (.less ?_ (St.le_refl _)) ⟨(i+1,_,q',ex'),rfl,rfl,⟨by simp only;omega,p1,p2,hq⟩,by simp only;omega⟩
      simp(maxSteps:=4000000) (disch:=first|decide|assumption|omega|(simp only[wL];omega)) only[go_sem,simprocAttr,aC,aB]
      all_goals first|rfl|(simp;done)
     ·have hq:res=L++(if kr=true then b.drop j else[]):=by
       rw[hq,List.drop_eq_nil_of_le (by omega:a.length≤i)];simp
      repeat' (first|(with_reducible first|(refine wT ?_;(first|((fail_if_success (have:=nl1));refine wN fun nl1 hnl=>?_)|((fail_if_success (have:=nl2));refine wN fun nl2 hnl=>?_)|refine wN fun _ hnl=>?_);revert hnl;(repeat refine wS fun _ _=>?_);intro hnl)|refine wE ?_|(refine wK ?_ ?_<;>intro h)|(refine wB ?_ ?_<;>intro h<;>simp only[h]))|simp(maxSteps:=4000000) (disch:=first|decide|assumption|omega|(simp only[wL];omega)) only[go_sem,simprocAttr])
      all_goals (try (exfalso;omega))
      refine aF (α:=Nat × List Int × Nat × List (List MV)) (fun z=>⟨103,[(10,.int .i64 (z.1:Int)),(8,.fn (.func 243) [] [.ptr nl2 0 0]),(7,.ptr nl2 0 0),(5,.ptr nl1 0 0),(1,.lst 1 (b.map aP) tb),(0,.lst 1 (a.map aP) ta)],[]⟩)
       (fun z=>alS nl1 nl2 z.2.2.1 (kpO kl kb kr) z.2.1 z.2.2.2) (fun z=>z.1≤b.length∧z.2.2.1≠nl1∧z.2.2.1≠nl2∧res=z.2.1++(if kr=true then b.drop z.1 else[])) (fun z=>b.length - z.1) (.of (.less ?_ (St.le_refl _)) ⟨(j,L,q,ex),rfl,rfl,⟨hj,q1,q2,hq⟩⟩) ?_
      ·simp(maxSteps:=4000000) (disch:=first|decide|assumption|omega|(simp only[wL];omega)) only[go_sem,simprocAttr,aC,aB]
       all_goals first|rfl|(simp;done)
      ·clear hq q1 q2 q1' q2' tk hL hi hlt hj
       rintro⟨j,L,q,ex⟩ ⟨hj,q1,q2,hq⟩
       simp only at hj q1 q2 hq ⊢
       have q1':=Ne.symm q1
       have q2':=Ne.symm q2
       have hL:L.length≤3000000:=by rw[hq,List.length_append] at hlen;omega
       have tk:=fun(x:Int) (c:Bool)=>rO x c q2 L hL ex
       by_cases hlt:j<b.length
       ·obtain⟨x,hx⟩:=bI b hlt
        have hax:=bB (f:=aP) hx
        have hq:res=(L++if kr=true then[x] else[])++(if kr=true then b.drop (j+1) else[]):=by
         rw[hq,dT hx]
         cases kr<;>simp
        repeat' (first|(refine dN mixed (fun _ _=>none) [_,_,_,_,_,_,_] [] rfl (by decide +kernel) ?_)|((refine nB d1 q1' q2 (tk _ _) ?_;intro q' ex' p2 p1))|(with_reducible first|(refine wT ?_;(first|((fail_if_success (have:=nl1));refine wN fun nl1 hnl=>?_)|((fail_if_success (have:=nl2));refine wN fun nl2 hnl=>?_)|refine wN fun _ hnl=>?_);revert hnl;(repeat refine wS fun _ _=>?_);intro hnl)|refine wE ?_|(refine wK ?_ ?_<;>intro h)|(refine wB ?_ ?_<;>intro h<;>simp only[h]))|simp(maxSteps:=4000000) (disch:=first|decide|assumption|omega|(simp only[wL];omega)) only[go_sem,simprocAttr,hax])
        all_goals (try (exfalso;omega))
        refine .of (.less ?_ (St.le_refl _)) ⟨(j+1,_,q',ex'),rfl,rfl,⟨by simp only;omega,p1,p2,hq⟩,by simp only;omega⟩
        simp(maxSteps:=4000000) (disch:=first|decide|assumption|omega|(simp only[wL];omega)) only[go_sem,simprocAttr,aC,aB]
        all_goals first|rfl|(simp;done)
       ·have hq:res=L:=by
         rw[hq,List.drop_eq_nil_of_le (by omega:b.length≤j)];simp
        repeat' (first|(with_reducible first|(refine wT ?_;(first|((fail_if_success (have:=nl1));refine wN fun nl1 hnl=>?_)|((fail_if_success (have:=nl2));refine wN fun nl2 hnl=>?_)|refine wN fun _ hnl=>?_);revert hnl;(repeat refine wS fun _ _=>?_);intro hnl)|refine wE ?_|(refine wK ?_ ?_<;>intro h)|(refine wB ?_ ?_<;>intro h<;>simp only[h]))|simp(maxSteps:=4000000) (disch:=first|decide|assumption|omega|(simp only[wL];omega)) only[go_sem,simprocAttr])
        all_goals (try (exfalso;omega))
        all_goals
         rw[hq]
         exact eH (aJ _ _ _) (by simp)
theorem C5(a b:List Int)(ha:a.length≤1000000)(hb:b.length≤1000000)(ha':UpI a)(hb':UpI b)(ta tb:Bool):aA Tryz.prog 113 [.lst 1 (a.map aP) ta,.lst 1 (b.map aP) tb] St.none (fun r _=>r=.lst 1 ((b9 a b).map aP) false):=by
 refine(aA.body 9 [.tmp 4] Tryz.func113 rfl rfl rfl rfl ?_)
 have h:=CU a b ha hb true false false ta tb
 rw[jZ _ a b (Nat.le_refl _) ha' hb'] at h
 repeat' (first|(with_reducible first|refine up h ?_)|(with_reducible first|(refine wN fun _ hnl=>?_;revert hnl;(repeat refine wS fun _ _=>?_);intro hnl)|refine wE ?_|(refine wK ?_ ?_<;>intro h)|(refine wB ?_ ?_<;>intro h<;>simp only[h]))|simp(maxSteps:=4000000) (disch:=first|decide|assumption|omega|(simp only[wL];omega)) only[go_sem,simprocAttr,Tryz.f113])
end
end Go.Proofs.YtppdgejjmhdjhaaGreatDoor
