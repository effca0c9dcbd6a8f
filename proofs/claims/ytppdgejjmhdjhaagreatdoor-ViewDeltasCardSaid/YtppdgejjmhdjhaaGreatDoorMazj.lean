/- Parts of the proof; conditions: as its theorems name them. -/
import Derived.Test.YtppdgejjmhdjhaaGreatDoorMazh
set_option linter.unusedVariables false
set_option linter.unusedSimpArgs false
set_option maxHeartbeats 8000000
set_option maxRecDepth 100000
namespace Go.Proofs.YtppdgejjmhdjhaaGreatDoor
theorem UK:∀(cs:List CA) (id:Int),nB cs id≤cs.length:=fun cs id=>by
 unfold nB
 exact(List.takeWhile_prefix _).length_le
theorem UL:∀{cs:List CA} {id:Int} {i:Nat} {y:CA},cs[i]?=some y→i<nB cs id→y.id<id
 | [],_,i,y,h,_=>by simp at h
 | x::l,id,i,y,h,hi=>by
  unfold nB at hi
  rw[List.takeWhile_cons] at hi
  by_cases hx:x.id<id
  ·rw[if_pos (decide_eq_true hx),List.length_cons] at hi
   cases i with
   | zero=>simp at h;subst h;exact hx
   | succ i=>rw[List.getElem?_cons_succ] at h;exact UL h (by unfold nB;omega)
  ·rw[if_neg (by simpa using hx)] at hi;simp at hi
theorem UJ:∀{cs:List CA} {id:Int} {y:CA},cs[nB cs id]?=some y→id≤y.id
 | [],_,y,h=>by simp at h
 | x::l,id,y,h=>by
  unfold nB at h
  rw[List.takeWhile_cons] at h
  by_cases hx:x.id<id
  ·rw[if_pos (decide_eq_true hx),List.length_cons,List.getElem?_cons_succ] at h
   exact UJ h
  ·rw[if_neg (by simpa using hx)] at h
   simp at h
   subst h;omega
def T5(cs:List CA)(x:IT):MV:=if x.kd≠1∧(cs[nB cs x.c.id]?).any (fun c=>decide (c.id=x.c.id))=false then .aM else .lst 27 ((nP cs x).1.map CA.c) false
theorem Kn(cs:List CA)(x:IT)(hl:cs.length≤1000000)(t:Bool):aA Tryz.prog 93 [.lst 27 (cs.map CA.c) t,.agg x.k] St.none (fun r _=>r=.tup [T5 cs x,.bool (nP cs x).2]):=by
 refine aA.seen (mB 85 [.tmp 4,.tmp 5] Tryz.func93 ?_)
 have hcl:(cs.map CA.c).length=cs.length:=List.length_map _
 have hat:=fun(i:Nat) (y:CA) (h:cs[i]?=some y)=>bN (f:=CA.c) h
 have hnl:=UK cs x.c.id
 have hlo:=fun(i:Nat) (y:CA) (h:cs[i]?=some y)=>UL (id:=x.c.id) h
 have hhi:=fun(y:CA) (h:cs[nB cs x.c.id]?=some y)=>UJ h
 unfold T5 nP
 have hm1:(cs.take (nB cs x.c.id)++x.c::cs.drop (nB cs x.c.id)).map CA.c=(cs.map CA.c).take (nB cs x.c.id)++x.c.c::(cs.map CA.c).drop (nB cs x.c.id):=by rw[List.map_append,List.map_cons,List.map_take,List.map_drop]
 have hm3:(cs.take (nB cs x.c.id)++[x.c]++cs.drop (nB cs x.c.id+1)).map CA.c=(cs.map CA.c).take (nB cs x.c.id)++x.c.c::(cs.map CA.c).drop (nB cs x.c.id+1):=by rw[List.append_assoc,List.map_append,List.map_append,List.map_take,List.map_drop];rfl
 have hm2:(cs.take (nB cs x.c.id)++[]++cs.drop (nB cs x.c.id+1)).map CA.c=(cs.map CA.c).take (nB cs x.c.id)++(cs.map CA.c).drop (nB cs x.c.id+1):=by rw[List.append_nil,List.map_append,List.map_take,List.map_drop]
 obtain⟨n,hn⟩:∃n,nB cs x.c.id=n:=⟨_,rfl⟩
 rw[hn] at hnl hhi hm1 hm2 hm3 ⊢
 simp only[hn] at hlo
 have hfc:=Fy x.c.f
 obtain⟨L,hL⟩:∃L,cs.map CA.c=L:=⟨_,rfl⟩
 rw[hL] at hm1 hm2 hm3 hcl ⊢
 simp only[hL] at hat
 repeat' first|(refine wM ?_;(first|(have _:=nl1)|(intro nl1));intros)|refine wV ?_|(refine wY ?_ ?_<;>intro h)|refine wZ3 @Tryz.f93.eq_1 @FXs @hfc ?_|exact wC3 @Tryz.f93.eq_1 @FXs @hfc|fail
 refine aF (α:=Nat) (fun i=>⟨85,[(6,.int .i64 (i:Int)),(3,.ptr nl1 0 0),(0,.lst 27 L t)],[]⟩) (fun _=>St.none.set nl1 (.row 164 28 [x.k])) (fun i=>i≤n) (fun i=>n - i) (.of (.less ?_ (St.le_refl _)) ⟨0,rfl,rfl,Nat.zero_le _⟩) ?_
 ·exact wW
 ·intro i hi
  have hi:i≤n:=hi
  by_cases hlt:i<n
  ·obtain⟨y,hy⟩:=bU cs (by omega:i<cs.length)
   have hay:=hat i y hy
   have hly:=hlo i y hy hlt
   repeat' first|(refine wM ?_;(first|(have _:=nl1)|(intro nl1));intros)|refine wV ?_|(refine wY ?_ ?_<;>intro h)|refine wZ3 @FXs @hay @hcl ?_|exact wC3 @FXs @hay @hcl|fail
   all_goals (try (exfalso;omega))
   all_goals
    refine .of (.less ?_ (St.le_refl _)) ⟨i+1,rfl,rfl,(by omega:i+1≤n),by omega⟩
    exact wW
  ·obtain rfl:i=n:=by omega
   have hLt:(L.take i).length=i:=by rw[List.length_take];omega
   by_cases hend:i=cs.length
   ·have hno:cs[i]?=none:=List.getElem?_eq_none oM
    rw[hno]
    clear hat hlo hhi hm3 hm2 hn
    by_cases k1:x.kd=1
    ·rw[if_pos k1,if_neg (by simp[k1])]
     simp only[hm1]
     clear hm1
     have hln:(L.take i++x.c.c::L.drop i).length=cs.length+1:=by rw[List.length_append,List.length_cons,List.length_take,List.length_drop,hcl];omega
     repeat' first|(refine wM ?_;(first|(have _:=nl1)|(intro nl1));intros)|refine wV ?_|(refine wY ?_ ?_<;>intro h)|refine wZ5 @FXs @hcl @hLt @hfc @k1 ?_|exact wC5 @FXs @hcl @hLt @hfc @k1|fail
     all_goals (try (exfalso;omega))
     all_goals
      have e:L.take i++x.c.c::L.drop i=L.take i++[x.c.c]++L.drop i:=by simp
      rw[e] at hln ⊢
      exact cN (View.vecAll (aD _ _ _) (by rw[hln];omega))
    ·rw[if_neg k1,if_pos ⟨k1,rfl⟩,if_neg (by simp)]
     clear hm1
     repeat' first|(refine wM ?_;(first|(have _:=nl1)|(intro nl1));intros)|refine wV ?_|(refine wY ?_ ?_<;>intro h)|refine wZ4 @FXs @hcl @hLt @hfc ?_|exact wC4 @FXs @hcl @hLt @hfc|fail
     all_goals (try (exfalso;omega))
     all_goals exact cN (.same _)
   ·obtain⟨y,hy⟩:=bU cs (by omega:i<cs.length)
    have hay:=hat i y hy
    have hly:=hhi y hy
    rw[hy,Option.any_some]
    clear hat hlo hhi hn
    have hln:∀z:List MV,(L.take i++z::L.drop i).length=cs.length+1:=fun z=>by rw[List.length_append,List.length_cons,List.length_take,List.length_drop,hcl];omega
    have hln3:∀z:List MV,(L.take i++z::L.drop (i+1)).length=cs.length:=fun z=>by rw[List.length_append,List.length_cons,List.length_take,List.length_drop,hcl];omega
    have hln2:(L.take i++L.drop (i+1)).length=cs.length - 1:=by rw[List.length_append,List.length_take,List.length_drop,hcl];omega
    by_cases hid:y.id=x.c.id
    ·have hdn:decide (¬y.id=x.c.id)=false:=by simp[hid]
     rw[decide_eq_true hid]
     by_cases k1:x.kd=1
     ·rw[if_pos k1,if_neg (by simp)]
      simp only[hm1]
      clear hm1 hm2 hm3
      repeat' first|(refine wM ?_;(first|(have _:=nl1)|(intro nl1));intros)|refine wV ?_|(refine wY ?_ ?_<;>intro h)|refine wZ7 @FXs @hay @hcl @hLt @hfc @k1 @hdn ?_|exact wC7 @FXs @hay @hcl @hLt @hfc @k1 @hdn|fail
      all_goals (try (exfalso;omega))
      all_goals
       have e:L.take i++x.c.c::L.drop i=L.take i++[x.c.c]++L.drop i:=by simp
       have hln:=hln x.c.c
       rw[e] at hln ⊢
       exact cN (View.vecAll (aD _ _ _) (by rw[hln];omega))
     ·rw[if_neg k1,if_neg (by simp),if_pos rfl]
      by_cases k3:x.kd=3
      ·rw[if_pos k3]
       simp only[hm3]
       clear hm1 hm2 hm3
       repeat' first|(refine wM ?_;(first|(have _:=nl1)|(intro nl1));intros)|refine wV ?_|(refine wY ?_ ?_<;>intro h)|refine wZ6 @FXs @hay @hcl @hLt @hfc @k3 ?_|exact wC6 @FXs @hay @hcl @hLt @hfc @k3|fail
       all_goals (try (exfalso;omega))
       all_goals
        have e:L.take i++x.c.c::L.drop (i+1)=L.take i++[x.c.c]++L.drop (i+1):=by simp
        have hln3:=hln3 x.c.c
        rw[e] at hln3 ⊢
        exact cN (View.vecAll (aD _ _ _) (by rw[hln3];omega))
      ·rw[if_neg k3]
       simp only[hm2]
       clear hm1 hm2 hm3
       repeat' first|(refine wM ?_;(first|(have _:=nl1)|(intro nl1));intros)|refine wV ?_|(refine wY ?_ ?_<;>intro h)|refine wZ5 @FXs @hay @hcl @hLt @hfc ?_|exact wC5 @FXs @hay @hcl @hLt @hfc|fail
       all_goals (try (exfalso;omega))
       all_goals exact cN (View.vecAll (aD _ _ _) (by rw[hln2];omega))
    ·have hdn:decide (¬y.id=x.c.id)=true:=by simp[hid]
     rw[decide_eq_false hid]
     by_cases k1:x.kd=1
     ·rw[if_pos k1,if_neg (by simp[k1])]
      simp only[hm1]
      clear hm1 hm2 hm3
      repeat' first|(refine wM ?_;(first|(have _:=nl1)|(intro nl1));intros)|refine wV ?_|(refine wY ?_ ?_<;>intro h)|refine wZ7 @FXs @hay @hcl @hLt @hfc @k1 @hdn ?_|exact wC7 @FXs @hay @hcl @hLt @hfc @k1 @hdn|fail
      all_goals (try (exfalso;omega))
      all_goals
       have e:L.take i++x.c.c::L.drop i=L.take i++[x.c.c]++L.drop i:=by simp
       have hln:=hln x.c.c
       rw[e] at hln ⊢
       exact cN (View.vecAll (aD _ _ _) (by rw[hln];omega))
     ·rw[if_neg k1,if_pos ⟨k1,rfl⟩,if_neg (by simp)]
      clear hm1 hm2 hm3
      repeat' first|(refine wM ?_;(first|(have _:=nl1)|(intro nl1));intros)|refine wV ?_|(refine wY ?_ ?_<;>intro h)|refine wZ5 @FXs @hay @hcl @hLt @hfc ?_|exact wC5 @FXs @hay @hcl @hLt @hfc|fail
      all_goals (try (exfalso;omega))
      all_goals exact cN (.same _)
theorem zG:∀(l:List IT) (cs:List CA) (x:IT),dB cs (l++[x])=if (dB cs l).2=true then(if (nP (dB cs l).1 x).2=true then((nP (dB cs l).1 x).1,true) else([],false)) else([],false)
 | [],cs,x=>by rw[List.nil_append,dB,dB,dB,if_pos rfl]
 | y::l,cs,x=>by
  rw[List.cons_append,dB,dB]
  by_cases h:(nP cs y).2=true
  ·rw[if_pos h,if_pos h,zG l]
  ·rw[if_neg h,if_neg h];simp
theorem E7:∀(l m:List IT) (cs:List CA),(dB cs l).2=false→dB cs (l++m)=([],false)
 | [],m,cs,h=>by simp[dB] at h
 | y::l,m,cs,h=>by
  rw[List.cons_append,dB]
  rw[dB] at h
  by_cases k:(nP cs y).2=true
  ·rw[if_pos k] at h ⊢
   exact E7 l m _ h
  ·rw[if_neg k]
theorem T6(cs:List CA)(x:IT):(nP cs x).1.length≤cs.length+1:=by
 have h:=UK cs x.c.id
 unfold nP
 split
 ·simp only[List.length_append,List.length_cons,List.length_take,List.length_drop];omega
 ·split
  ·simp only[List.length_append,List.length_take,List.length_drop]
   split<;>simp<;>omega
  ·simp
theorem B7:∀(l:List IT) (cs:List CA),(dB cs l).1.length≤cs.length+l.length
 | [],cs=>by simp[dB]
 | x::l,cs=>by
  rw[dB]
  split
  ·have:=B7 l (nP cs x).1
   have:=T6 cs x
   rw[List.length_cons];omega
  ·simp
def Df(cs:List CA)(l:List IT):MV:=if (dB cs l).2=true then .tup [.lst 27 ((dB cs l).1.map CA.c) false,.bool true] else .tup [.aM,.bool false]
theorem Ez(cs:List CA)(l:List IT)(hl:cs.length+l.length≤1000000)(tc tl:Bool):aA Tryz.prog 24 [.lst 27 (cs.map CA.c) tc,.lst 28 (l.map IT.k) tl] St.none (fun r _=>r=Df cs l):=by
 refine aA.bS (mB 32 [.tmp 4,.tmp 5] Tryz.func24 ?_)
 have hcl:(cs.map CA.c).length=cs.length:=List.length_map _
 have hkl:(l.map IT.k).length=l.length:=List.length_map _
 have hka:=fun(i:Nat) (x:IT) (h:l[i]?=some x)=>bN (f:=IT.k) h
 obtain⟨I,hI⟩:∃I,l.map IT.k=I:=⟨_,rfl⟩
 rw[hI] at hkl ⊢
 simp only[hI] at hka
 repeat' first|(refine wO ?_;intros)|(refine wY ?_ ?_<;>intro h)|refine wZ2 @Tryz.f24.eq_1 @hcl ?_|exact wC2 @Tryz.f24.eq_1 @hcl|fail
 all_goals (try (exfalso;omega))
 refine aF (α:=Nat) (fun i=>⟨32,[(7,.int .i64 (i:Int)),(6,.lst 27 ((dB cs (l.take i)).1.map CA.c) false),(1,.lst 28 I tl)],[]⟩) (fun _=>St.none) (fun i=>i≤l.length∧(dB cs (l.take i)).2=true) (fun i=>l.length - i) ?_ ?_
 ·refine .of (bA.freeze (l1:=[(7,.int .i64 0),(6,.lst 27 (cs.map CA.c) false),(1,.lst 28 I tl)]) (σ1:=St.none) _ (St.le_refl _) (St.none_le _) (fun k o hk=>by cases hk) (fun p hp=>?_)) ⟨0,rfl,rfl,Nat.zero_le _,rfl⟩
  simp only[List.mem_cons,List.not_mem_nil,or_false] at hp
  rcases hp with rfl|rfl|rfl
  ·exact .same _
  ·exact View.vecAll (aD _ _ _) hcl.symm
  ·exact .same _
 ·rintro i ⟨hi,hok⟩
  have hi:i≤l.length:=hi
  by_cases hlt:i<l.length
  ·obtain⟨x,hx⟩:=bU l hlt
   have hat:=hka i x hx
   have hsn:=zG (l.take i) cs x
   rw[←aZ hx,if_pos hok] at hsn
   have hlen:=B7 (l.take i) cs
   rw[List.length_take] at hlen
   have hone:=Kn (dB cs (l.take i)).1 x oM false
   have hno:=E7 (l.take (i+1)) (l.drop (i+1)) cs
   rw[List.take_append_drop] at hno
   obtain⟨A,hA⟩:∃A,(dB cs (l.take i)).1=A:=⟨_,rfl⟩
   rw[hA] at hsn hone ⊢
   obtain⟨V,hV⟩:∃V,T5 A x=V:=⟨_,rfl⟩
   rw[hV] at hone
   by_cases hb:(nP A x).2=true
   ·rw[if_pos hb] at hsn
    have hVe:V=.lst 27 ((nP A x).1.map CA.c) false:=by
     rw[←hV]
     unfold T5
     rw[if_neg]
     rintro⟨q1,q2⟩
     unfold nP at hb
     rw[if_neg q1,q2] at hb
     simp at hb
    rw[hb,hVe] at hone
    clear hno hka
    repeat' first|(with_reducible refine aC hone ?_)|(refine wO ?_;intros)|(refine wY ?_ ?_<;>intro h)|refine wZ3 @FXs @hat @hkl ?_|exact wC3 @FXs @hat @hkl|fail
    all_goals (try (exfalso;omega))
    all_goals
     refine .of (.less ?_ (St.le_refl _)) ⟨i+1,rfl,rfl,⟨by omega,by rw[hsn]⟩,by omega⟩
     rw[hsn]
     exact wW
   ·rw[if_neg hb] at hsn
    rw[hsn] at hno
    have hno:=hno rfl
    have hb':(nP A x).2=false:=by simpa using hb
    rw[hb'] at hone
    unfold Df
    rw[hno]
    clear hka
    repeat' first|(with_reducible refine aC hone ?_)|(refine wO ?_;intros)|(refine wY ?_ ?_<;>intro h)|refine wZ3 @FXs @hat @hkl ?_|exact wC3 @FXs @hat @hkl|fail
    all_goals (try (exfalso;omega))
    all_goals exact lE
  ·obtain rfl:i=l.length:=by omega
   rw[List.take_length] at hok ⊢
   unfold Df
   rw[if_pos hok]
   repeat' first|(refine wO ?_;intros)|(refine wY ?_ ?_<;>intro h)|refine wZ1 @hkl ?_|exact wC1 @hkl|fail
   all_goals (try (exfalso;omega))
   all_goals exact lE
def pM(cs:List CA)(id:Int):Bool:=cs.any fun c=>decide (c.id=id)
theorem PH(cs:List CA)(id:Int):pM cs id=(lkC cs id).isSome:=by
 unfold pM lkC
 rw[Bool.eq_iff_iff,List.find?_isSome]
 simp
theorem FH{cs:List CA}{i:Nat}{y:CA}(h:cs[i]?=some y)(id:Int):pM (cs.take (i+1)) id=(pM (cs.take i) id || decide (y.id=id)):=by
 unfold pM
 rw[aZ h,List.any_append]
 simp
theorem IZ(was now:List CA)(l:List IT)(h1:was.length≤1000000)(h2:now.length≤1000000)(h3:l.length≤1000000)
 (hk:∀x,x∈l→decide (x.kd=1)=(!pM was x.c.id&&pM now x.c.id)∧decide (x.kd=2)=(pM was x.c.id&&!pM now x.c.id)∧decide (x.kd=3)=(pM was x.c.id&&pM now x.c.id))(ta tb tc:Bool) :
  aA Tryz.prog 26 [.lst 27 (was.map CA.c) ta,.lst 27 (now.map CA.c) tb,.lst 28 (l.map IT.k) tc] St.none (fun r _=>r=.bool true):=by
 refine aA.bS (mB 99 [.tmp 6] Tryz.func26 ?_)
 have hwl:(was.map CA.c).length=was.length:=List.length_map _
 have hnl:(now.map CA.c).length=now.length:=List.length_map _
 have hll:(l.map IT.k).length=l.length:=List.length_map _
 have hwa:=fun(i:Nat) (x:CA) (h:was[i]?=some x)=>bN (f:=CA.c) h
 have hna:=fun(i:Nat) (x:CA) (h:now[i]?=some x)=>bN (f:=CA.c) h
 have hla:=fun(i:Nat) (x:IT) (h:l[i]?=some x)=>bN (f:=IT.k) h
 obtain⟨A,hA⟩:∃A,was.map CA.c=A:=⟨_,rfl⟩
 obtain⟨B,hB⟩:∃B,now.map CA.c=B:=⟨_,rfl⟩
 obtain⟨I,hI⟩:∃I,l.map IT.k=I:=⟨_,rfl⟩
 rw[hA] at hwl ⊢
 rw[hB] at hnl ⊢
 rw[hI] at hll ⊢
 simp only[hA] at hwa
 simp only[hB] at hna
 simp only[hI] at hla
 repeat' first|(refine wO ?_;intros)|(refine wY ?_ ?_<;>intro h)|refine wZ1 @Tryz.f26.eq_1 ?_|exact wC1 @Tryz.f26.eq_1|fail
 refine aF (α:=Nat) (fun i=>⟨99,[(7,.int .i64 (i:Int)),(0,.lst 27 A ta),(1,.lst 27 B tb),(2,.lst 28 I tc)],[]⟩) (fun _=>St.none) (fun i=>i≤l.length) (fun i=>l.length - i) (.of (.less ?_ (St.le_refl _)) ⟨0,rfl,rfl,Nat.zero_le _⟩) ?_
 ·simp(maxSteps:=4000000) (disch:=first|decide|assumption|omega|(simp only[wL];omega)) only[go_sem,simprocAttr,aU,aN]
  all_goals (try refine⟨by omega,?_⟩)
  all_goals first|exact .same _|(rw[decide_eq_true he];exact .same _)|(rw[decide_eq_false he];exact .same _)|(simp;done)
 ·intro i hi
  have hi:i≤l.length:=hi
  by_cases hlt:i<l.length
  ·obtain⟨x,hx⟩:=bU l hlt
   have hatx:=hla i x hx
   obtain⟨g1,g2,g3⟩:=hk x (List.mem_of_getElem? hx)
   clear hk hla
   obtain⟨ob,hob⟩:∃ob,pM was x.c.id=ob:=⟨_,rfl⟩
   obtain⟨nb,hnb⟩:∃nb,pM now x.c.id=nb:=⟨_,rfl⟩
   rw[hob,hnb] at g1 g2 g3
   repeat' first|(refine wO ?_;intros)|(refine wY ?_ ?_<;>intro h)|refine wZ2 @FXs @hll ?_|exact wC2 @FXs @hll|fail
   all_goals (try (exfalso;omega))
   refine aF (α:=Nat) (fun k=>⟨99,[(10,.int .i64 (k:Int)),(9,.bool false),(8,.bool (pM (was.take k) x.c.id)),(7,.int .i64 (i:Int)),(0,.lst 27 A ta),(1,.lst 27 B tb),(2,.lst 28 I tc)],[]⟩) (fun _=>St.none) (fun k=>k≤was.length) (fun k=>was.length - k) (.of (.less ?_ (St.le_refl _)) ⟨0,rfl,rfl,Nat.zero_le _⟩) ?_
   ·(try simp(maxSteps:=4000000) (disch:=first|decide|assumption|omega|(simp only[wL];omega)) only[go_sem,simprocAttr,aU,aN])
    all_goals (try refine⟨by omega,?_⟩)
    all_goals first|exact .same _|(rw[decide_eq_true he];exact .same _)|(rw[decide_eq_false he];exact .same _)|(simp;done)
   ·intro k hk
    have hk:k≤was.length:=hk
    by_cases hkl:k<was.length
    ·obtain⟨y,hy⟩:=bU was hkl
     have haty:=hwa k y hy
     have hsn:=FH hy x.c.id
     obtain⟨o1,ho1⟩:∃o1,pM (was.take k) x.c.id=o1:=⟨_,rfl⟩
     rw[ho1] at hsn ⊢
     cases o1 with
     | true =>
      repeat' first|(refine wO ?_;intros)|(refine wY ?_ ?_<;>intro h)|refine wZ5 @FXs @hatx @haty @hwl @hll ?_|exact wC5 @FXs @hatx @haty @hwl @hll|fail
      all_goals (try (exfalso;omega))
      all_goals
       refine .of (.less ?_ (St.le_refl _)) ⟨k+1,rfl,rfl,(by omega:k+1≤was.length),by omega⟩
       rw[hsn]
       simp(maxSteps:=4000000) (disch:=first|decide|assumption|omega|(simp only[wL];omega)) only[go_sem,simprocAttr,aU,aN]
       all_goals (try refine⟨by omega,?_⟩)
       all_goals first|exact .same _|(rw[decide_eq_true he];exact .same _)|(rw[decide_eq_false he];exact .same _)|(simp;done)
     | false =>
      by_cases he:y.id=x.c.id
      ·rw[decide_eq_true he] at hsn
       repeat' first|(refine wO ?_;intros)|(refine wY ?_ ?_<;>intro h)|refine wZ5 @FXs @hatx @haty @hwl @hll ?_|exact wC5 @FXs @hatx @haty @hwl @hll|fail
       all_goals (try (exfalso;omega))
       all_goals
        refine .of (.less ?_ (St.le_refl _)) ⟨k+1,rfl,rfl,(by omega:k+1≤was.length),by omega⟩
        rw[hsn]
        simp(maxSteps:=4000000) (disch:=first|decide|assumption|omega|(simp only[wL];omega)) only[go_sem,simprocAttr,aU,aN]
        all_goals (try refine⟨by omega,?_⟩)
        all_goals first|exact .same _|(rw[decide_eq_true he];exact .same _)|(rw[decide_eq_false he];exact .same _)|(simp;done)
      ·rw[decide_eq_false he] at hsn
       repeat' first|(refine wO ?_;intros)|(refine wY ?_ ?_<;>intro h)|refine wZ5 @FXs @hatx @haty @hwl @hll ?_|exact wC5 @FXs @hatx @haty @hwl @hll|fail
       all_goals (try (exfalso;omega))
       all_goals
        refine .of (.less ?_ (St.le_refl _)) ⟨k+1,rfl,rfl,(by omega:k+1≤was.length),by omega⟩
        rw[hsn]
        simp(maxSteps:=4000000) (disch:=first|decide|assumption|omega|(simp only[wL];omega)) only[go_sem,simprocAttr,aU,aN]
        all_goals (try refine⟨by omega,?_⟩)
        all_goals first|exact .same _|(rw[decide_eq_true he];exact .same _)|(rw[decide_eq_false he];exact .same _)|(simp;done)
    ·obtain rfl:k=was.length:=by omega
     rw[List.take_length,hob]
     repeat' first|(refine wO ?_;intros)|(refine wY ?_ ?_<;>intro h)|refine wZ2 @FXs @hwl ?_|exact wC2 @FXs @hwl|fail
     all_goals (try (exfalso;omega))
     refine aF (α:=Nat) (fun k=>⟨99,[(11,.int .i64 (k:Int)),(9,.bool (pM (now.take k) x.c.id)),(8,.bool ob),(7,.int .i64 (i:Int)),(0,.lst 27 A ta),(1,.lst 27 B tb),(2,.lst 28 I tc)],[]⟩) (fun _=>St.none) (fun k=>k≤now.length) (fun k=>now.length - k) (.of (.less ?_ (St.le_refl _)) ⟨0,rfl,rfl,Nat.zero_le _⟩) ?_
     ·(try simp(maxSteps:=4000000) (disch:=first|decide|assumption|omega|(simp only[wL];omega)) only[go_sem,simprocAttr,aU,aN])
      all_goals (try refine⟨by omega,?_⟩)
      all_goals first|exact .same _|(rw[decide_eq_true he];exact .same _)|(rw[decide_eq_false he];exact .same _)|(simp;done)
     ·intro k hk
      have hk:k≤now.length:=hk
      by_cases hkl:k<now.length
      ·obtain⟨y,hy⟩:=bU now hkl
       have haty:=hna k y hy
       have hsn:=FH hy x.c.id
       obtain⟨o1,ho1⟩:∃o1,pM (now.take k) x.c.id=o1:=⟨_,rfl⟩
       rw[ho1] at hsn ⊢
       cases o1 with
       | true =>
        repeat' first|(refine wO ?_;intros)|(refine wY ?_ ?_<;>intro h)|refine wZ5 @FXs @hatx @haty @hnl @hll ?_|exact wC5 @FXs @hatx @haty @hnl @hll|fail
        all_goals (try (exfalso;omega))
        all_goals
         refine .of (.less ?_ (St.le_refl _)) ⟨k+1,rfl,rfl,(by omega:k+1≤now.length),by omega⟩
         rw[hsn]
         simp(maxSteps:=4000000) (disch:=first|decide|assumption|omega|(simp only[wL];omega)) only[go_sem,simprocAttr,aU,aN]
         all_goals (try refine⟨by omega,?_⟩)
         all_goals first|exact .same _|(rw[decide_eq_true he];exact .same _)|(rw[decide_eq_false he];exact .same _)|(simp;done)
       | false =>
        by_cases he:y.id=x.c.id
        ·rw[decide_eq_true he] at hsn
         repeat' first|(refine wO ?_;intros)|(refine wY ?_ ?_<;>intro h)|refine wZ5 @FXs @hatx @haty @hnl @hll ?_|exact wC5 @FXs @hatx @haty @hnl @hll|fail
         all_goals (try (exfalso;omega))
         all_goals
          refine .of (.less ?_ (St.le_refl _)) ⟨k+1,rfl,rfl,(by omega:k+1≤now.length),by omega⟩
          rw[hsn]
          simp(maxSteps:=4000000) (disch:=first|decide|assumption|omega|(simp only[wL];omega)) only[go_sem,simprocAttr,aU,aN]
          all_goals (try refine⟨by omega,?_⟩)
          all_goals first|exact .same _|(rw[decide_eq_true he];exact .same _)|(rw[decide_eq_false he];exact .same _)|(simp;done)
        ·rw[decide_eq_false he] at hsn
         repeat' first|(refine wO ?_;intros)|(refine wY ?_ ?_<;>intro h)|refine wZ5 @FXs @hatx @haty @hnl @hll ?_|exact wC5 @FXs @hatx @haty @hnl @hll|fail
         all_goals (try (exfalso;omega))
         all_goals
          refine .of (.less ?_ (St.le_refl _)) ⟨k+1,rfl,rfl,(by omega:k+1≤now.length),by omega⟩
          rw[hsn]
          simp(maxSteps:=4000000) (disch:=first|decide|assumption|omega|(simp only[wL];omega)) only[go_sem,simprocAttr,aU,aN]
          all_goals (try refine⟨by omega,?_⟩)
          all_goals first|exact .same _|(rw[decide_eq_true he];exact .same _)|(rw[decide_eq_false he];exact .same _)|(simp;done)
      ·obtain rfl:k=now.length:=by omega
       rw[List.take_length,hnb]
       have hkd:(x.kd=1∧ob=false∧nb=true)∨(x.kd=2∧ob=true∧nb=false)∨(x.kd=3∧ob=true∧nb=true)∨(x.kd≠1∧x.kd≠2∧x.kd≠3∧ob=false∧nb=false):=by
        cases ob<;>cases nb
        ·exact .inr (.inr (.inr ⟨of_decide_eq_false g1,of_decide_eq_false g2,of_decide_eq_false g3,rfl,rfl⟩))
        ·exact .inl ⟨of_decide_eq_true g1,rfl,rfl⟩
        ·exact .inr (.inl ⟨of_decide_eq_true g2,rfl,rfl⟩)
        ·exact .inr (.inr (.inl ⟨of_decide_eq_true g3,rfl,rfl⟩))
       rcases hkd with⟨q,rfl,rfl⟩|⟨q,rfl,rfl⟩|⟨q,rfl,rfl⟩|⟨q1,q2,q3,rfl,rfl⟩
       ·repeat' first|(refine wO ?_;intros)|(refine wY ?_ ?_<;>intro h)|refine wZ5 @FXs @hatx @hnl @hll @q ?_|exact wC5 @FXs @hatx @hnl @hll @q|fail
        all_goals (try (exfalso;omega))
        all_goals
         refine .of (.less ?_ (St.le_refl _)) ⟨i+1,rfl,rfl,(by omega:i+1≤l.length),by omega⟩
         simp(maxSteps:=4000000) (disch:=first|decide|assumption|omega|(simp only[wL];omega)) only[go_sem,simprocAttr,aU,aN]
         all_goals (try refine⟨by omega,?_⟩)
         all_goals first|exact .same _|(rw[decide_eq_true he];exact .same _)|(rw[decide_eq_false he];exact .same _)|(simp;done)
       ·repeat' first|(refine wO ?_;intros)|(refine wY ?_ ?_<;>intro h)|refine wZ5 @FXs @hatx @hnl @hll @q ?_|exact wC5 @FXs @hatx @hnl @hll @q|fail
        all_goals (try (exfalso;omega))
        all_goals
         refine .of (.less ?_ (St.le_refl _)) ⟨i+1,rfl,rfl,(by omega:i+1≤l.length),by omega⟩
         simp(maxSteps:=4000000) (disch:=first|decide|assumption|omega|(simp only[wL];omega)) only[go_sem,simprocAttr,aU,aN]
         all_goals (try refine⟨by omega,?_⟩)
         all_goals first|exact .same _|(rw[decide_eq_true he];exact .same _)|(rw[decide_eq_false he];exact .same _)|(simp;done)
       ·repeat' first|(refine wO ?_;intros)|(refine wY ?_ ?_<;>intro h)|refine wZ5 @FXs @hatx @hnl @hll @q ?_|exact wC5 @FXs @hatx @hnl @hll @q|fail
        all_goals (try (exfalso;omega))
        all_goals
         refine .of (.less ?_ (St.le_refl _)) ⟨i+1,rfl,rfl,(by omega:i+1≤l.length),by omega⟩
         simp(maxSteps:=4000000) (disch:=first|decide|assumption|omega|(simp only[wL];omega)) only[go_sem,simprocAttr,aU,aN]
         all_goals (try refine⟨by omega,?_⟩)
         all_goals first|exact .same _|(rw[decide_eq_true he];exact .same _)|(rw[decide_eq_false he];exact .same _)|(simp;done)
       ·have d1:=decide_eq_false q1
        have d2:=decide_eq_false q2
        have d3:=decide_eq_false q3
        repeat' first|(refine wO ?_;intros)|(refine wY ?_ ?_<;>intro h)|refine wZ7 @FXs @hatx @hnl @hll @d1 @d2 @d3 ?_|exact wC7 @FXs @hatx @hnl @hll @d1 @d2 @d3|fail
        all_goals (try (exfalso;omega))
        all_goals
         refine .of (.less ?_ (St.le_refl _)) ⟨i+1,rfl,rfl,(by omega:i+1≤l.length),by omega⟩
         simp(maxSteps:=4000000) (disch:=first|decide|assumption|omega|(simp only[wL];omega)) only[go_sem,simprocAttr,aU,aN]
         all_goals (try refine⟨by omega,?_⟩)
         all_goals first|exact .same _|(rw[decide_eq_true he];exact .same _)|(rw[decide_eq_false he];exact .same _)|(simp;done)
  ·obtain rfl:i=l.length:=by omega
   repeat' first|(refine wO ?_;intros)|(refine wY ?_ ?_<;>intro h)|refine wZ1 @hll ?_|exact wC1 @hll|fail
   all_goals (try (exfalso;omega))
   all_goals exact lE
end Go.Proofs.YtppdgejjmhdjhaaGreatDoor
