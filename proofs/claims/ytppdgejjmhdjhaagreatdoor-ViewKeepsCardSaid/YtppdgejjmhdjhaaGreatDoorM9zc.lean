/- Parts of the proof; conditions: as its theorems name them. -/
import Derived.Test.YtppdgejjmhdjhaaGreatDoorM9zb
set_option linter.unusedVariables false
set_option linter.unusedSimpArgs false
set_option maxHeartbeats 8000000
set_option maxRecDepth 100000
namespace Go.Proofs.YtppdgejjmhdjhaaGreatDoor
section
theorem Ed(v f sm:Nat)(mk:UInt32)(floor now:Int)(log:MV):aA Tryz.prog 22 [.ptr v 0 0] (St.none.set v (vwO f mk sm floor now log)) (fun r σ'=>r=.int .i64 floor∧σ'=St.none.set v (vwO f mk sm floor now log)):=by
 refine(mB 9 [.tmp 2] Tryz.func22 ?_)
 repeat' first|refine wZ1 @Tryz.f22.eq_1 ?_|exact wC1 @Tryz.f22.eq_1|fail
 all_goals exact⟨rfl,rfl⟩
theorem Kb(v f sm:Nat)(mk:UInt32)(floor now:Int)(log:MV):aA Tryz.prog 30 [.ptr v 0 0] (St.none.set v (vwO f mk sm floor now log)) (fun r σ'=>r=.int .i64 now∧σ'=St.none.set v (vwO f mk sm floor now log)):=by
 refine(mB 9 [.tmp 2] Tryz.func30 ?_)
 repeat' first|refine wZ1 @Tryz.f30.eq_1 ?_|exact wC1 @Tryz.f30.eq_1|fail
 all_goals exact⟨rfl,rfl⟩
theorem Hg(v f sm:Nat)(mk:UInt32)(floor now:Int)(log:MV):aA Tryz.prog 32 [.ptr v 0 0] (St.none.set v (vwO f mk sm floor now log)) (fun r σ'=>r=.int .u32 (mk.toNat:Int)∧σ'=St.none.set v (vwO f mk sm floor now log)):=by
 refine(mB 9 [.tmp 2] Tryz.func32 ?_)
 repeat' first|refine wZ1 @Tryz.f32.eq_1 ?_|exact wC1 @Tryz.f32.eq_1|fail
 all_goals exact⟨rfl,rfl⟩
structure S2 where
 bk:BK
 fl:List ND
 mask:UInt32
abbrev S2.c(s:S2):List MV:=s.bk.c++[.lst 5 (s.fl.map ND.c) false,.int .u32 (s.mask.toNat:Int)]
end

section
theorem Ht(l:List TU)(hl:l.length≤1000000)(i:Nat){x:TU}(hx:l[i]?=some x)(tt:Bool):aA Tryz.prog 239 [.lst 31 (l.map TU.c) tt,.int .i64 (i:Int)] St.none (fun r _=>r=.bool (decide (x.id∉(l.take i).map TU.id))):=by
 refine aA.bR (mB 22 [.tmp 4] Tryz.func239 ?_)
 obtain⟨res,hres⟩:∃b,decide (x.id∉(l.take i).map TU.id)=b:=⟨_,rfl⟩
 rw[hres]
 have hil:=(List.getElem?_eq_some_iff.1 hx).1
 have hatx:=bF (f:=TU.c) hx
 have hml:(l.map TU.c).length=l.length:=List.length_map _
 repeat' first|refine wZ1 @Tryz.f239.eq_1 ?_|fail
 refine aE (α:=Nat) (fun j=>⟨22,[(5,.int .i64 (j:Int)),(0,.lst 31 (l.map TU.c) tt),(1,.int .i64 (i:Int))],[]⟩) (fun _=>St.none) (fun j=>j≤i∧∀y,y∈l.take j→y.id≠x.id) (fun j=>i - j) (.of (.less ?_ (St.le_refl _)) ⟨0,rfl,rfl,Nat.zero_le _,by simp⟩) ?_
 ·exact wW
 ·rintro j ⟨hj,hall⟩
  by_cases hlt:j<i
  ·obtain⟨y,hy⟩:=bW l (by omega:j<l.length)
   have hat:=bF (f:=TU.c) hy
   by_cases he:y.id=x.id
   ·have hk:res=false:=by
     rw[←hres]
     refine decide_eq_false fun h=>h ?_
     exact List.mem_map.2 ⟨y,List.mem_of_getElem? (by rw[List.getElem?_take,if_pos hlt];exact hy:(l.take i)[j]?=some y),he⟩
    subst hk
    repeat' first|(refine wO ?_;intros)|refine wZ4 @FXs @hat @hatx @hml ?_|fail
    all_goals exact lE
   ·have hnew:∀z,z∈l.take (j+1)→z.id≠x.id:=fun z hz=>by
     rw[aP hy,List.mem_append,List.mem_singleton] at hz
     rcases hz with hz|rfl
     ·exact hall z hz
     ·exact he
    repeat' first|(refine wO ?_;intros)|refine wZ4 @FXs @hat @hatx @hml ?_|fail
    all_goals (try (exfalso;omega))
    all_goals
     refine .of (.less ?_ (St.none_le _)) ⟨j+1,rfl,rfl,⟨by omega,hnew⟩,by omega⟩
     exact wW
  ·obtain rfl:j=i:=by omega
   have hk:res=true:=by
    rw[←hres]
    refine decide_eq_true fun h=>?_
    obtain⟨y,hy,e⟩:=List.mem_map.1 h
    exact hall y hy e
   subst hk
   repeat' first|refine wZ0 ?_|fail
   all_goals exact lE
theorem Ou(A:List IT)(hA:A.length≤1000000)(x:IT)(n:Nat)(hn:n≤A.length)(h1:∀y,y∈A.take n→y.c.id<x.c.id)(h2:∀y,y∈A.drop n→x.c.id<y.c.id)(tt:Bool) :
  aA Tryz.prog 240 [.lst 28 (A.map IT.k) tt,.agg x.k] St.none (fun r _=>r=.lst 28 ((A.take n++x::A.drop n).map IT.k) false):=by
 refine aA.seen (mB 39 [.tmp 4] Tryz.func240 ?_)
 have hfin:(A.take n++x::A.drop n).map IT.k=(A.map IT.k).take n++x.k::(A.map IT.k).drop n:=by rw[List.map_append,List.map_cons,List.map_take,List.map_drop]
 rw[hfin]
 have hml:(A.map IT.k).length=A.length:=List.length_map _
 have hat:=fun(i:Nat) (y:IT) (h:A[i]?=some y)=>bF (f:=IT.k) h
 obtain⟨L,hLe⟩:∃L,A.map IT.k=L:=⟨_,rfl⟩
 rw[hLe] at hml hat ⊢
 have hfc:=tP x.c.f
 repeat' first|(refine wM ?_;(first|(have _:=nl1)|(intro nl1));intros)|refine wZ3 @Tryz.f240.eq_1 @FXs @hfc ?_|fail
 have hlo:∀i y,A[i]?=some y→i<n→y.c.id<x.c.id:=fun i y h hi=>h1 y (List.mem_of_getElem? (by rw[List.getElem?_take,if_pos hi];exact h:(A.take n)[i]?=some y))
 have hhi:∀y,A[n]?=some y→x.c.id<y.c.id:=fun y h=>h2 y (by rw[tO h];exact List.mem_cons_self ..)
 clear hfin h1 h2
 refine aE (α:=Nat) (fun i=>⟨39,[(5,.int .i64 (i:Int)),(0,.lst 28 L tt),(3,.ptr nl1 0 0)],[]⟩) (fun _=>St.none.set nl1 (.row 164 28 [x.k])) (fun i=>i≤n) (fun i=>n - i) (.of (.less ?_ (St.le_refl _)) ⟨0,rfl,rfl,Nat.zero_le _⟩) ?_
 ·exact wW
 ·intro i hi
  have hi:i≤n:=hi
  by_cases hlt:i<n
  ·obtain⟨y,hy⟩:=bW A (by omega:i<A.length)
   have hay:=hat i y hy
   have hlt':=hlo i y hy hlt
   repeat' first|refine wV ?_|refine wZ3 @FXs @hay @hml ?_|fail
   all_goals (try (exfalso;omega))
   all_goals
    refine .of (.less ?_ (St.le_refl _)) ⟨i+1,rfl,rfl,(by omega:i+1≤n),by omega⟩
    exact wW
  ·obtain rfl:i=n:=by omega
   have hL:(L.take i).length=i:=by rw[List.length_take];omega
   have hln:(L.take i++x.k::L.drop i).length=A.length+1:=by rw[List.length_append,List.length_cons,List.length_take,List.length_drop,hml];omega
   by_cases hend:i=A.length
   ·repeat' first|(refine wM ?_;intros)|refine wV ?_|refine wZ4 @FXs @hml @hL @hfc ?_|fail
    all_goals (try (exfalso;omega))
    all_goals
     have e:L.take i++x.k::L.drop i=L.take i++[x.k]++L.drop i:=by simp
     rw[e] at hln ⊢
     exact View.vecAll (aD _ _ _) (by rw[hln];omega)
   ·obtain⟨y,hy⟩:=bW A (by omega:i<A.length)
    have hay:=hat i y hy
    have hlt':=hhi y hy
    repeat' first|(refine wM ?_;intros)|refine wV ?_|refine wZ5 @FXs @hay @hml @hL @hfc ?_|fail
    all_goals (try (exfalso;omega))
    all_goals
     have e:L.take i++x.k::L.drop i=L.take i++[x.k]++L.drop i:=by simp
     rw[e] at hln ⊢
     exact View.vecAll (aD _ _ _) (by rw[hln];omega)
end

section
theorem JG{l:List TU}{i:Nat}{x:TU}(hx:l[i]?=some x)(hm:x.id∉(l.take i).map TU.id):kN l x.id=some x.old:=by
 have:l=l.take i++x::l.drop (i+1):=by rw[←tO hx,List.take_append_drop]
 rw[this]
 generalize l.take i=a at hm
 clear this hx
 induction a with
 | nil=>simp[kN]
 | cons t a ih =>
  rw[List.map_cons,List.mem_cons] at hm
  have h1:¬t.id=x.id:=fun e=>hm (.inl e.symm)
  rw[List.cons_append,kN,if_neg h1]
  exact ih fun h=>hm (.inr h)
theorem Ps{f:Int→List IT}(ids:List Int)(k:Nat):((ids.take k).flatMap f).length≤(ids.flatMap f).length:=by
 have:(ids.flatMap f).length=((ids.take k).flatMap f++(ids.drop k).flatMap f).length:=by rw[←List.flatMap_append,List.take_append_drop]
 rw[this,List.length_append]
 omega
theorem CP(l:List TU)(hl:l.length≤1000000)(hT:∀t,t∈l→TOk t)(tt:Bool):aA Tryz.prog 185 [.lst 31 (l.map TU.c) tt] St.none (fun r _=>r=.lst 28 ((lW l).map IT.k) false):=by
 refine aA.bR (mB 76 [.tmp 2] Tryz.func185 ?_)
 have hml:(l.map TU.c).length=l.length:=List.length_map _
 repeat' first|(refine wM ?_;(first|(have _:=nl1)|(intro nl1));intros)|refine wZ1 @Tryz.f185.eq_1 ?_|fail
 refine aE (α:=Nat) (fun i=>⟨76,[(4,.int .i64 (i:Int)),(3,.lst 28 (((eQ (l.take i)).flatMap (itS l)).map IT.k) false),(0,.lst 31 (l.map TU.c) tt)],[]⟩) (fun _=>St.none) (fun i=>i≤l.length) (fun i=>l.length - i) (.of (aV.S4 rfl ?_) ⟨0,rfl,rfl,Nat.zero_le _⟩) ?_
 ·intro p hp
  simp only[List.mem_cons,List.not_mem_nil,or_false] at hp
  rcases hp with rfl|rfl|rfl
  ·exact .same _
  ·exact(View.vecAll (aD _ _ _) rfl:View _ (.vec 28 _ 0 0) (.lst 28 [] false))
  ·exact .same _
 ·intro i hi
  have hi:i≤l.length:=hi
  by_cases hlt:i<l.length
  ·obtain⟨x,hx⟩:=bW l hlt
   have hat:=bF (f:=TU.c) hx
   have hf:=Ht l hl i hx tt
   by_cases hm:x.id∈(l.take i).map TU.id
   ·rw[decide_eq_false (fun h=>h hm)] at hf
    have hids:eQ (l.take (i+1))=eQ (l.take i):=by rw[aP hx,jJ];exact if_pos ((nC _).2 hm)
    repeat' first|(with_reducible first|refine up hf ?_)|refine wZ1 @FXs ?_|fail
    all_goals (try (exfalso;omega))
    all_goals
     refine .of (.less ?_ (St.none_le _)) ⟨i+1,rfl,rfl,(by omega:i+1≤l.length),by omega⟩
     rw[hids]
     exact wW
   ·rw[decide_eq_true hm] at hf
    have hn:x.id∉eQ (l.take i):=fun h=>hm ((nC _).1 h)
    have hids:eQ (l.take (i+1))=gT (eQ (l.take i)) x.id:=by rw[aP hx,jJ]
    have ho:=JG hx hm
    have hl0:fT (l.take i) x.id=none:=(oE _).2 hm
    have hup:=Dm (l.take i)
    have hfi:∀j y,y∈itS l j→y.c.id=j:=fun j y hy=>U9 hT hy
    have hXl:((eQ (l.take i)).flatMap (itS l)).length≤1000000:=by
     have h1:∀ids:List Int,(ids.flatMap (itS l)).length≤ids.length:=fun ids=>by
      induction ids with
      | nil=>simp
      | cons a r ih =>
       rw[List.flatMap_cons,List.length_append,List.length_cons]
       have:=Dq l a
       omega
     have h2:=h1 (eQ (l.take i))
     have h3:=tW (l.take i)
     rw[List.length_take] at h3
     omega
    obtain⟨t,ht⟩:∃t,fT l x.id=some t:=by
     cases h:fT l x.id with
     | none=>exact absurd (List.mem_map.2 ⟨x,List.mem_of_getElem? hx,rfl⟩) ((oE l).1 h)
     | some t=>exact⟨t,rfl⟩
    have hit:itS l x.id=(kO x.old t).toList:=by unfold itS;rw[ho,ht]
    have hput:∀y:IT,itS l x.id=[y]→aA Tryz.prog 240 [.lst 28 (((eQ (l.take i)).flatMap (itS l)).map IT.k) false,.agg y.k] St.none (fun r _=>r=.lst 28 (((eQ (l.take (i+1))).flatMap (itS l)).map IT.k) false):=fun y hy=>by
     have hid:y.c.id=x.id:=hfi x.id y (by rw[hy];exact List.mem_singleton.2 rfl)
     obtain⟨e,u1,u2⟩:=Pr hfi hup hn hy
     rw[hids,e]
     exact Ou _ hXl y _ (Ps _ _) (fun z hz=>by rw[hid];exact u1 z hz) (fun z hz=>by rw[hid];exact u2 z hz) false
    have hput0:=fun(hy:itS l x.id=[])=>Mt (ids:=eQ (l.take i)) hy
    obtain⟨X,hX⟩:∃X,(eQ (l.take i)).flatMap (itS l)=X:=⟨_,rfl⟩
    obtain⟨X2,hX2⟩:∃X2,(eQ (l.take (i+1))).flatMap (itS l)=X2:=⟨_,rfl⟩
    have hnext:∀(f1:FR),f1=⟨76,[(4,.int .i64 (((i+1:Nat):Int))),(3,.lst 28 (X2.map IT.k) false),(0,.lst 31 (l.map TU.c) tt)],[]⟩→f1=⟨76,[(4,.int .i64 (((i+1:Nat):Int))),(3,.lst 28 (((eQ (l.take (i+1))).flatMap (itS l)).map IT.k) false),(0,.lst 31 (l.map TU.c) tt)],[]⟩:=fun f1 h=>by rw[hX2];exact h
    rw[←hids] at hput0
    rw[hX,hX2] at hput hput0
    rw[hX]
    clear hids hup hn hXl
    repeat' first|(with_reducible first|refine up hf ?_)|(refine wM ?_;(first|(have _:=nl2)|(intro nl2));intros)|refine wZ2 @FXs @hat ?_|fail
    all_goals (try (exfalso;omega))
    refine aE (α:=Nat) (fun k=>⟨76,[(6,.int .i64 (k:Int)),(5,.ptr nl2 0 0),(4,.int .i64 (i:Int)),(3,.lst 28 (X.map IT.k) false),(0,.lst 31 (l.map TU.c) tt)],[]⟩) (fun k=>St.none.set nl2 (.row 128 31 [((fT (l.take k) x.id).getD x).c])) (fun k=>i≤k∧k≤l.length) (fun k=>l.length - k) (.of (.less ?_ (St.le_refl _)) ⟨i,rfl,by rw[hl0];rfl,Nat.le_refl _,hi⟩) ?_
    ·exact wW
    ·rintro k ⟨hk1,hk2⟩
     have hk1:i≤k:=hk1
     have hk2:k≤l.length:=hk2
     by_cases hkl:k<l.length
     ·obtain⟨y,hy⟩:=bW l hkl
      have haty:=bF (f:=TU.c) hy
      have hls:fT (l.take (k+1)) x.id=if y.id=x.id then some y else fT (l.take k) x.id:=by rw[aP hy,fO]
      obtain⟨z,hz⟩:∃z,(fT (l.take k) x.id).getD x=z:=⟨_,rfl⟩
      by_cases he:y.id=x.id
      ·rw[if_pos he] at hls
       rw[hz]
       repeat' first|refine wV ?_|refine wZ4 @FXs @hat @haty @hml ?_|fail
       all_goals (try (exfalso;omega))
       all_goals
        refine .of (.less ?_ (σ1:=St.none.set nl2 (.row 128 31 [y.c])) (St.aB (St.none_le _) sS)) ⟨k+1,rfl,by rw[hls];rfl,⟨by omega,by omega⟩,by omega⟩
        exact wW
      ·rw[if_neg he] at hls
       rw[hz]
       repeat' first|refine wV ?_|refine wZ4 @FXs @hat @haty @hml ?_|fail
       all_goals (try (exfalso;omega))
       all_goals
        refine .of (.less ?_ (σ1:=St.none.set nl2 (.row 128 31 [z.c])) (St.aB (St.none_le _) sS)) ⟨k+1,rfl,by rw[hls,hz],⟨by omega,by omega⟩,by omega⟩
        exact wW
     ·obtain rfl:k=l.length:=by omega
      rw[List.take_length,ht,Option.getD_some]
      have hfc:=tP t.card.f
      unfold kO at hit
      by_cases c1:x.old=t.new
      ·rw[if_pos c1] at hit
       have e:=hput0 hit
       repeat' first|refine wZ3 @FXs @hat @hml ?_|fail
       all_goals (try (exfalso;omega))
       all_goals
        refine .of (.less ?_ (St.none_le _)) ⟨i+1,hnext _ rfl,rfl,(by omega:i+1≤l.length),by omega⟩
        rw[e]
        exact wW
      ·rw[if_neg c1] at hit
       by_cases c2:x.old=0
       ·rw[if_pos c2] at hit
        have hp:=hput _ hit
        repeat' first|(with_reducible first|refine up hp ?_)|refine wZ4 @FXs @hat @hml @hfc ?_|fail
        all_goals (try (exfalso;omega))
        all_goals
         refine .of (.less ?_ (St.none_le _)) ⟨i+1,hnext _ rfl,rfl,(by omega:i+1≤l.length),by omega⟩
         exact wW
       ·rw[if_neg c2] at hit
        by_cases c3:t.new=0
        ·rw[if_pos c3] at hit
         have hp:=hput _ hit
         repeat' first|(refine aC hp ?_)|refine wZ4 @FXs @hat @hml @hfc ?_|fail
         all_goals (try (exfalso;omega))
         all_goals
          refine .of (.less ?_ (St.none_le _)) ⟨i+1,hnext _ rfl,rfl,(by omega:i+1≤l.length),by omega⟩
          exact wW
        ·rw[if_neg c3] at hit
         have hp:=hput _ hit
         repeat' first|(with_reducible first|refine up hp ?_)|refine wZ4 @FXs @hat @hml @hfc ?_|fail
         all_goals (try (exfalso;omega))
         all_goals
          refine .of (.less ?_ (St.none_le _)) ⟨i+1,hnext _ rfl,rfl,(by omega:i+1≤l.length),by omega⟩
          exact wW
  ·obtain rfl:i=l.length:=by omega
   rw[List.take_length]
   repeat' first|refine wZ0 ?_|fail
   all_goals exact lE
end

section
structure EM (l:List TU) (es:List (MV × MV)):Prop where
 k:(es.all fun p=>isK .i64 p.1)=true
 o:LW es
 g:∀id,dT id es=(kN l id).map fun n=>.int .i64 n
 n:es.length≤l.length
structure KC (l:List TU) (es:List (MV × MV)):Prop where
 k:(es.all fun p=>isK .i64 p.1)=true
 g:∀id,dT id es=(fT l id).map fun t=>.agg t.c
theorem GC:EM [] []:=⟨rfl,List.nodup_nil,fun _=>rfl,Nat.le_refl _⟩
theorem MM:KC [] []:=⟨rfl,fun _=>rfl⟩
theorem GB{l:List TU}{es:List (MV × MV)}(h:EM l es){t:TU}(ht:kN l t.id=none):EM (l++[t]) (dG .i64 t.id (.int .i64 t.old) es):=by
 refine⟨tX h.k,CG h.k h.o,fun id=>?_,?_⟩
 ·rw[qV h.k,lI]
  by_cases e:id=t.id
  ·subst e;rw[if_pos rfl,ht,if_pos rfl];rfl
  ·rw[if_neg e,if_neg (Ne.symm e),Option.or_none];exact h.g id
 ·have:=zZ (n:=t.id) (v:=.int .i64 t.old) (es:=es)
  have:=h.n
  rw[List.length_append,List.length_singleton]
  omega
theorem GD{l:List TU}{es:List (MV × MV)}(h:EM l es){t:TU}{o:Int}(ht:kN l t.id=some o):EM (l++[t]) es:=by
 refine⟨h.k,h.o,fun id=>?_,?_⟩
 ·rw[h.g,lI]
  by_cases e:t.id=id
  ·subst e;rw[ht];rfl
  ·rw[if_neg e,Option.or_none]
 ·have:=h.n
  rw[List.length_append,List.length_singleton]
  omega
theorem IV{l:List TU}{es:List (MV × MV)}(h:KC l es)(t:TU):KC (l++[t]) (dG .i64 t.id (.agg t.c) es):=by
 refine⟨tX h.k,fun id=>?_⟩
 rw[qV h.k,fO]
 by_cases e:id=t.id
 ·subst e;simp
 ·rw[if_neg e,if_neg (Ne.symm e)];exact h.g id
theorem Si{a b:List Int}(ha:UpI a)(hb:UpI b)(h:∀x,x∈a↔x∈b):a=b:=by
 have nd:∀{l:List Int},UpI l→l.Nodup:=fun h=>h.imp fun h=>by omega
 have hp:a.Perm b:=(List.perm_ext_iff_of_nodup (nd ha) (nd hb)).2 h
 exact List.Perm.eq_of_pairwise (le:=fun a b:Int=>a≤b) (fun a b _ _ h1 h2=>Int.le_antisymm h1 h2) (ha.imp fun h=>by omega) (hb.imp fun h=>by omega) hp
theorem NZ{l:List TU}{es:List (MV × MV)}(h:EM l es){ns:List Int}(hp:ns.Perm (eF es))(hs:ns.Pairwise (fun a b=>a≤b)):ns=eQ l:=by
 have hn:ns.Nodup:=hp.nodup_iff.2 h.o
 refine Si ?_ (Dm l) fun x=>?_
 ·have:=hs.and hn
  exact this.imp fun⟨h1,h2⟩=>by omega
 ·rw[hp.mem_iff,qY h.k,h.g,nC]
  simp only[ne_eq,Option.map_eq_none_iff,lH,Classical.not_not]
theorem Vp{l:List TU}{i:Nat}{id:Int}(h:(eQ l)[i]?=some id):∃o t,kN l id=some o∧fT l id=some t∧itS l id=(kO o t).toList:=by
 have hm:id∈l.map TU.id:=(nC l).1 (List.mem_of_getElem? h)
 obtain⟨o,ho⟩:∃o,kN l id=some o:=by
  cases h:kN l id with
  | none=>exact absurd hm (lH.1 h)
  | some o=>exact⟨o,rfl⟩
 obtain⟨u,hu⟩:∃u,fT l id=some u:=by
  cases h:fT l id with
  | none=>exact absurd hm ((oE l).1 h)
  | some o=>exact⟨o,rfl⟩
 exact⟨o,u,ho,hu,by unfold itS;rw[ho,hu]⟩
theorem QS(l:List TU)(ids:List Int):(ids.flatMap (itS l)).length≤ids.length:=by
 induction ids with
 | nil=>simp
 | cons a r ih =>
  rw[List.flatMap_cons,List.length_append,List.length_cons]
  have:=Dq l a
  omega
theorem Ob(l:List TU)(hl:l.length≤1000000)(hid:∀t,t∈l→1≤t.id∧t.id<1073741824)(tt:Bool):aA Tryz.prog 174 [.lst 31 (l.map TU.c) tt] St.none (fun r _=>r=.lst 28 ((lW l).map IT.k) false):=by
 refine aA.seen (mB 66 [.tmp 2] Tryz.func174 ?_)
 repeat' first|(refine wM ?_;(first|(have _:=nl2)|(have _:=nl1;intro nl2)|(intro nl1));intros)|refine wZ1 @Tryz.f174.eq_1 ?_|fail
 have n21:nl2≠nl1:=by assumption
 have n12:=Ne.symm n21
 refine aE (α:=Nat × List (MV × MV) × List (MV × MV)) (fun z=>⟨66,[(18,.int .i64 (z.1:Int)),(17,.int .i64 (l.length:Int)),(16,.lst 31 (l.map TU.c) tt),(3,.mapv nl1),(4,.mapv nl2)],[]⟩)
  (fun z=>(St.none.set nl1 (.mp z.2.1)).set nl2 (.mp z.2.2)) (fun z=>z.1≤l.length∧EM (l.take z.1) z.2.1∧KC (l.take z.1) z.2.2) (fun z=>l.length - z.1) (.of (.less ?_ (St.le_refl _)) ⟨(0,[],[]),rfl,rfl,Nat.zero_le _,GC,MM⟩) ?_
 ·exact wW
 ·rintro⟨i,e1,e2⟩ ⟨hi,hM,hL⟩
  simp only at hi hM hL ⊢
  by_cases hlt:i<l.length
  ·obtain⟨x,hx⟩:=bW l hlt
   have hat:=bF (f:=TU.c) hx
   have hN:=IV hL x
   rw[←aP hx] at hN
   have hg:=hM.g x.id
   have hk1:=hM.k
   have hk2:=hL.k
   cases ho:kN (l.take i) x.id with
   | none =>
    rw[ho,Option.map_none] at hg
    have hO:=GB hM ho
    rw[←aP hx] at hO
    repeat' first|(refine wM ?_;(first|(have _:=nl3)|(intro nl3));intros)|refine wZ9 @FXs @hat @hg @hk1 @hk2 @Option.getD_some.{0} @Option.getD_none.{0} @Option.isSome_some.{0} @Option.isSome_none.{0} ?_|fail
    all_goals (try (exfalso;omega))
    all_goals
     refine .of (.less ?_ (σ1:=(St.none.set nl1 (.mp (dG .i64 x.id (.int .i64 x.old) e1))).set nl2 (.mp (dG .i64 x.id (.agg x.c) e2))) (le2 sS sS)) ⟨(i+1,dG .i64 x.id (.int .i64 x.old) e1,dG .i64 x.id (.agg x.c) e2),rfl,rfl,⟨by simp only;omega,hO,hN⟩,by simp only;omega⟩
     exact wW
   | some o =>
    rw[ho,Option.map_some] at hg
    have hO:=GD hM ho
    rw[←aP hx] at hO
    repeat' first|(refine wM ?_;(first|(have _:=nl3)|(intro nl3));intros)|refine wZ9 @FXs @hat @hg @hk1 @hk2 @Option.getD_some.{0} @Option.getD_none.{0} @Option.isSome_some.{0} @Option.isSome_none.{0} ?_|fail
    all_goals (try (exfalso;omega))
    all_goals
     refine .of (.less ?_ (σ1:=(St.none.set nl1 (.mp e1)).set nl2 (.mp (dG .i64 x.id (.agg x.c) e2))) (le2 sS sS)) ⟨(i+1,e1,dG .i64 x.id (.agg x.c) e2),rfl,rfl,⟨by simp only;omega,hO,hN⟩,by simp only;omega⟩
     exact wW
  ·obtain rfl:i=l.length:=by omega
   rw[List.take_length] at hM hL
   have hk:=z6 nl1
   have hs:∀{b:Nat},b≠nl1→aA Tryz.prog 96 [.fn (.func 182) [] [.ptr b 0 0]] ((St.none.set b (.row 131 1 [[.mapv nl1]])).set nl1 (.mp e1)) fun r σ' =>
     r=.lst 1 ((eQ l).map aM) false∧σ'=(St.none.set b (.row 131 1 [[.mapv nl1]])).set nl1 (.mp e1):=fun {b} hb=>by
    refine(r6 hb hM.k (fun n hn=>?_) (by have:=hM.n;omega)).mono fun r σ' h=>?_
    ·have:n∈l.map TU.id:=Classical.byContradiction fun hnn=>by
      have:=(qY hM.k).1 hn
      rw[hM.g,lH.2 hnn] at this
      exact this rfl
     obtain⟨t,h1,rfl⟩:=List.mem_map.1 this
     have:=hid t h1
     exact Bd oM
    ·obtain⟨⟨ns,h1,h2,rfl⟩,rfl⟩:=h
     rw[NZ hM h1 h2]
     exact⟨rfl,rfl⟩
   have hil:=tW l
   have hnat:=fun {i:Nat} {id:Int}=>Vp (l:=l) (i:=i) (id:=id)
   unfold lW
   obtain⟨ids,hids⟩:∃ids,eQ l=ids:=⟨_,rfl⟩
   rw[hids] at hs hil ⊢
   rw[hids] at hnat
   have hM1:=hM.g
   have hL1:=hL.g
   have hpl:=QS l
   have hk1:=hM.k
   have hk2:=hL.k
   clear hM hL
   repeat' first|(refine fQ hk ?_;(intro b hb;simp only[aU] at hb;obtain⟨b1,b2,-⟩:=hb;have b1':=Ne.symm b1;have b2':=Ne.symm b2))|((refine cQ (hs (by assumption)) (le2 sS sS) ?_))|refine wZ0 ?_|fail
   refine aE (α:=Nat × Nat × List (List MV)) (fun s=>⟨66,[(45,.int .i64 (s.1:Int)),(44,.int .i64 (ids.length:Int)),(43,.lst 1 (ids.map aM) false),(3,.mapv nl1),(4,.mapv nl2),(9,.vec 28 s.2.1 0 ((ids.take s.1).flatMap (itS l)).length)],[]⟩)
    (fun s=>((St.none.set nl1 (.mp e1)).set nl2 (.mp e2)).set s.2.1 (.row 164 28 (((ids.take s.1).flatMap (itS l)).map IT.k++s.2.2))) (fun s=>s.1≤ids.length∧s.2.1≠nl1∧s.2.1≠nl2) (fun s=>ids.length - s.1) ?_ ?_
   ·refine Gh.AO 164 28 (fun r=>[(45,.int .i64 0),(44,.int .i64 (ids.length:Int)),(43,.lst 1 (ids.map aM) false),(42,.fn (.func 182) [] [.ptr b 0 0]),(41,.mapv nl1),(9,.vec 28 r 0 0),(19,.bool (decide ((l.length:Int)<l.length))),(18,.int .i64 (l.length:Int)),(17,.int .i64 (l.length:Int)),(16,.lst 31 (l.map TU.c) tt),(3,.mapv nl1),(4,.mapv nl2)]) (fun k=>by(repeat' (refine And.intro ?_ ?_))<;>first|exact trivial|exact .inl rfl|exact .inr ⟨rfl,.inl rfl⟩|exact .inr ⟨rfl,.inr rfl⟩) fun r hr=>?_
    simp only[aU] at hr
    obtain⟨r1,r2,r3,-⟩:=hr
    have r2':=Ne.symm r2
    have r3':=Ne.symm r3
    refine .of (.less ?_ ?_) ⟨(0,r,[]),rfl,rfl,Nat.zero_le _,by assumption,by assumption⟩
    ·exact wW
    ·exact St.aB (le2 sS sS) sS
   ·rintro⟨j,q,ex⟩ ⟨hj,q1,q2⟩
    simp only at hj q1 q2 ⊢
    have q1':=Ne.symm q1
    have q2':=Ne.symm q2
    by_cases hlt:j<ids.length
    ·obtain⟨id,hx⟩:=bW ids hlt
     have hat:=bF (f:=aM) hx
     obtain⟨o,t,ho,ht,hit⟩:=hnat hx
     have hg1:=hM1 id
     have hg2:=hL1 id
     rw[ho,Option.map_some] at hg1
     rw[ht,Option.map_some] at hg2
     have hw:=JX o t
     have hsn:(ids.take (j+1)).flatMap (itS l)=(ids.take j).flatMap (itS l)++(kO o t).toList:=by
      rw[aP hx,List.flatMap_append,←hit];simp
     have hfl:((ids.take j).flatMap (itS l)).length≤j:=Nat.le_trans (hpl _) (by rw[List.length_take];omega)
     obtain⟨L,hL⟩:∃L,(ids.take j).flatMap (itS l)=L:=⟨_,rfl⟩
     rw[hL] at hsn hfl ⊢
     have htk:(L.map IT.k++ex).take L.length=L.map IT.k:=mZ
     have hdr:(L.map IT.k++ex).drop (L.length+1)=ex.drop 1:=nZ
     have hLl:(L.map IT.k).length=L.length:=List.length_map _
     have hmi:(ids.map aM).length=ids.length:=List.length_map _
     clear hM1 hL1 hnat hit hs
     cases hi:kO o t with
     | none =>
      rw[hi] at hw hsn
      simp only[Option.getD_none,Option.isSome_none,Option.toList_none,List.append_nil] at hw hsn
      repeat' first|(with_reducible first|refine up hw ?_)|(refine wM ?_;(first|(have _:=nl3)|(intro nl3));intros)|refine wZ11 @FXs @hat @hmi @hk1 @hk2 @hg1 @hg2 @Option.getD_some.{0} @Option.getD_none.{0} @Option.isSome_some.{0} @Option.isSome_none.{0} ?_|fail
      all_goals (try (exfalso;omega))
      all_goals
       refine .of (.less ?_ (σ1:=((St.none.set nl1 (.mp e1)).set nl2 (.mp e2)).set q (.row 164 28 (L.map IT.k++ex))) (St.aB (le2 sS sS) sS)) ⟨(j+1,q,ex),rfl,by simp only[hsn],⟨by simp only;omega,q1,q2⟩,by simp only;omega⟩
       simp only[hsn]
       exact wW
     | some x =>
      rw[hi] at hw hsn
      simp only[Option.getD_some,Option.isSome_some,Option.toList_some] at hw hsn
      have hnm:(L++[x]).map IT.k=L.map IT.k++[x.k]:=List.map_append
      repeat' first|(with_reducible first|refine up hw ?_)|(refine wM ?_;(first|(have _:=nl5)|(have _:=nl4;intro nl5)|(have _:=nl3;intro nl4)|(intro nl3));intros)|(refine wY ?_ ?_<;>intro h)|refine wZ14 @FXs @hat @hmi @hk1 @hk2 @hg1 @hg2 @hLl @htk @hdr @Option.getD_some.{0} @Option.getD_none.{0} @Option.isSome_some.{0} @Option.isSome_none.{0} ?_|fail
      all_goals (try (exfalso;omega))
      ·skip
       obtain rfl:ex=[]:=List.eq_nil_of_length_eq_zero oM
       clear h
       refine .of (.less ?_ (σ1:=((St.none.set nl1 (.mp e1)).set nl2 (.mp e2)).set nl5 (.row 164 28 ((L++[x]).map IT.k++[]))) ?_) ⟨(j+1,nl5,[]),rfl,by simp only[hsn],⟨by simp only;omega,by assumption,by assumption⟩,by simp only;omega⟩
       ·simp only[hsn,List.length_append,List.length_singleton]
        exact wW
       ·rw[hnm]
        exact St.aB (le2 sS sS) sS
      ·clear h
       refine .of (.less ?_ (σ1:=((St.none.set nl1 (.mp e1)).set nl2 (.mp e2)).set nl5 (.row 164 28 ((L++[x]).map IT.k++ex.drop 1))) ?_) ⟨(j+1,nl5,ex.drop 1),rfl,by simp only[hsn],⟨by simp only;omega,by assumption,by assumption⟩,by simp only;omega⟩
       ·simp only[hsn,List.length_append,List.length_singleton]
        exact wW
       ·rw[hnm]
        exact St.aB (le2 sS sS) sS
    ·obtain rfl:j=ids.length:=by omega
     rw[List.take_length]
     repeat' first|refine wZ0 ?_|fail
     all_goals exact cX (aD _ _ _) (by rw[List.length_map])
end

section
theorem MP{σ:St}{q:Nat}{o:aW}(h:σ q=none):σ.le (σ.set q o):=fun k o' hk=>by
 unfold St.set
 rw[if_neg (fun e=>by subst e;rw[h] at hk;cases hk)]
 exact hk
theorem He(g:Nat)(l:List TU)(hl:l.length≤1000000)(ex0:List (List MV))(f n c:Int):aA Tryz.prog 173 [.vec 31 g 0 l.length,.int .i64 f,.int .i64 n,.int .i64 c] (St.none.set g (lgO l ex0)) (fun r σ'=>r=.lst 31 ((upS l f n c).map TU.c) false∧σ'=St.none.set g (lgO l ex0)):=by
 refine aA.RJ (Q:=fun σ'=>σ'=St.none.set g (lgO l ex0)) (mB 29 [.tmp 8] Tryz.func173 ?_)
 have hlm:(l.map TU.c).length=l.length:=List.length_map _
 unfold upS
 obtain⟨P,hP⟩:∃P:TU→Bool,(fun t:TU=>decide (f<t.sq∧t.sq≤n∧t.id≤c))=P:=⟨_,rfl⟩
 have hPx:∀t:TU,P t=decide (f<t.sq∧t.sq≤n∧t.id≤c):=fun t=>by rw[←hP]
 rw[hP]
 clear hP
 repeat' first|refine wZ1 @Tryz.f173.eq_1 ?_|fail
 refine aE (α:=Nat × Nat × List (List MV)) (fun s=>⟨29,[(14,.int .i64 (s.1:Int)),(13,.int .i64 (l.length:Int)),(12,.vec 31 g 0 l.length),(9,.vec 31 s.2.1 0 ((l.take s.1).filter P).length),(1,.int .i64 f),(2,.int .i64 n),(3,.int .i64 c)],[]⟩)
  (fun s=>(St.none.set g (lgO l ex0)).set s.2.1 (.row 128 31 (((l.take s.1).filter P).map TU.c++s.2.2))) (fun s=>s.1≤l.length∧s.2.1≠g) (fun s=>l.length - s.1) ?_ ?_
 ·refine Gh.AO 128 31 (fun r=>[(14,.int .i64 0),(13,.int .i64 (l.length:Int)),(12,.vec 31 g 0 l.length),(9,.vec 31 r 0 0),(1,.int .i64 f),(2,.int .i64 n),(3,.int .i64 c)]) (fun k=>by(repeat' (refine And.intro ?_ ?_))<;>first|exact trivial|exact .inl rfl|exact .inr ⟨rfl,.inl rfl⟩|exact .inr ⟨rfl,.inr rfl⟩) fun r hr=>?_
  simp only[aU] at hr
  exact .done ⟨(0,r,[]),rfl,rfl,Nat.zero_le _,hr.1⟩
 ·rintro⟨i,q,ex⟩ ⟨hi,hqg⟩
  simp only at hi hqg ⊢
  have hgq:=Ne.symm hqg
  by_cases hlt:i<l.length
  ·obtain⟨x,hx⟩:=bW l hlt
   have hat:(l.map TU.c++ex0).getD i []=x.c:=by rw[List.getD_eq_getElem?_getD,List.getElem?_append_left (by rw[List.length_map];omega),List.getElem?_map,hx];rfl
   have hln:(l.map TU.c++ex0).length=l.length+ex0.length:=by rw[List.length_append,List.length_map]
   have hsn:=pN (p:=P) hx
   have hw:=BN x f n c
   rw[←hPx] at hw
   obtain⟨sb,hsb⟩:∃z,P x=z:=⟨_,rfl⟩
   rw[hsb] at hw hsn
   have hfl:((l.take i).filter P).length≤i:=Nat.le_trans (List.length_filter_le _ _) (by rw[List.length_take];omega)
   obtain⟨L,hL⟩:∃L,(l.take i).filter P=L:=⟨_,rfl⟩
   rw[hL] at hsn hfl ⊢
   have htk:(L.map TU.c++ex).take L.length=L.map TU.c:=mZ
   have hdr:(L.map TU.c++ex).drop (L.length+1)=ex.drop 1:=nZ
   have hLl:(L.map TU.c).length=L.length:=List.length_map _
   cases sb
   ·rw[if_neg (by simp),List.append_nil] at hsn
    repeat' first|(with_reducible first|refine up hw ?_)|(refine wM ?_;(first|(have _:=nl1)|(intro nl1));intros)|refine wZ3 @FXs @hat @hln ?_|fail
    all_goals (try (exfalso;omega))
    all_goals
     refine .of (.less ?_ (σ1:=(St.none.set g (lgO l ex0)).set q (.row 128 31 (L.map TU.c++ex))) (le2 sS sS)) ⟨(i+1,q,ex),rfl,by simp only[hsn],⟨by simp only;omega,hqg⟩,by simp only;omega⟩
     simp only[hsn]
     exact wW
   ·rw[if_pos rfl] at hsn
    have hnm:(L++[x]).map TU.c=L.map TU.c++[x.c]:=List.map_append
    repeat' first|(with_reducible first|refine up hw ?_)|(refine wM ?_;(first|(have _:=nl3)|(have _:=nl2;intro nl3)|(have _:=nl1;intro nl2)|(intro nl1));intros)|(refine wY ?_ ?_<;>intro h)|refine wZ6 @FXs @hat @hln @hLl @htk @hdr ?_|fail
    all_goals (try (exfalso;omega))
    ·obtain rfl:ex=[]:=List.eq_nil_of_length_eq_zero oM
     clear h
     refine .of (.less ?_ (σ1:=(St.none.set g (lgO l ex0)).set nl3 (.row 128 31 ((L++[x]).map TU.c++[]))) ?_) ⟨(i+1,nl3,[]),rfl,by simp only[hsn],⟨by simp only;omega,by assumption⟩,by simp only;omega⟩
     ·simp only[hsn,List.length_append,List.length_singleton]
      exact wW
     ·rw[hnm]
      exact le2 sS sS
    ·clear h
     refine .of (.less ?_ (σ1:=(St.none.set g (lgO l ex0)).set nl3 (.row 128 31 ((L++[x]).map TU.c++ex.drop 1))) ?_) ⟨(i+1,nl3,ex.drop 1),rfl,by simp only[hsn],⟨by simp only;omega,by assumption⟩,by simp only;omega⟩
     ·simp only[hsn,List.length_append,List.length_singleton]
      exact wW
     ·rw[hnm]
      exact le2 sS sS
  ·have:i=l.length:=by omega
   subst this
   rw[List.take_length]
   repeat' first|refine wZ0 ?_|fail
   all_goals exact RL (Q:=fun σ'=>σ'=St.none.set g (lgO l ex0)) rfl (aD _ _ _) (MP (by simp[St.set,St.none,hqg])) (by simp[St.set,St.none,hqg]) (by rw[List.length_map])
end
end Go.Proofs.YtppdgejjmhdjhaaGreatDoor
