/- Parts of the proof; conditions: as its theorems name them. -/
import Derived.Test.YtppdgejjmhdjhaaGreatDoorMag
import Derived.Test.YtppdgejjmhdjhaaGreatDoorMah
set_option linter.unusedVariables false
set_option linter.unusedSimpArgs false
set_option maxHeartbeats 8000000
set_option maxRecDepth 100000
namespace Go.Proofs.YtppdgejjmhdjhaaGreatDoor
section
theorem WL(n:Nat):((n:Int)).fdiv (2 ^ min 16 32)=((n / 65536:Nat):Int):=by
 rw[show(2:Int) ^ min 16 32=65536 by decide,Int.fdiv_eq_ediv_of_nonneg _ (by decide)]
 omega
theorem Ri:eX Tryz.prog 54=true:=by decide +kernel
theorem Ni(a b:VA):cH Tryz.prog 54 .neq (.agg a.c) (.agg b.c)=some (True,.bool (!decide (a=b))):=I6 (Lq 4 a b) Ri
theorem Uh(m:UInt32)(i:Nat)(h:i<8):nX .u32 ((m.toNat:Int).fdiv (2 ^ min i 32)) 1=if bit m.toNat i=true then 1 else 0:=by
 rw[Nat.min_eq_left oM,show(2:Int) ^ i=((2 ^ i:Nat):Int) by simp,Int.fdiv_eq_ediv_of_nonneg _ (Int.natCast_nonneg _)]
 rw[show(m.toNat:Int) / ((2 ^ i:Nat):Int)=((m.toNat / 2 ^ i:Nat):Int) by simp]
 have hm:=m.toNat_lt
 have e:nX .u32 ((m.toNat / 2 ^ i:Nat):Int) 1=_:=E5 (m.toNat / 2 ^ i) 1 (Nat.lt_of_le_of_lt (Nat.div_le_self _ _) hm) (by decide)
 rw[e,Nat.and_one_is_mod]
 unfold bit
 rw[Nat.testBit_eq_decide_div_mod_eq]
 have:=Nat.mod_two_eq_zero_or_one (m.toNat / 2 ^ i)
 rcases this with h|h<;>rw[h]<;>rfl
theorem jD(p:PA):aA Tryz.prog 141 [.agg p.c] St.none (fun r _=>r=.int .i64 (bI p)):=by
 refine aA.bS (mB 55 [.tmp 2] Tryz.func141 ?_)
 have hm:=uD p.mask
 have hl:=sL p.mask
 have hmt:=p.mask.toNat_lt
 have hlt:=p.lab.toNat_lt
 have hsh:=WL p.lab.toNat
 by_cases h0:p.mask.toNat=0∨511<p.mask.toNat
 ·have e:bI p=11:=by unfold bI;rw[if_pos h0]
  rw[e]
  repeat' first|(with_reducible first|refine up hm ?_|refine up hl ?_)|(refine wM ?_;(first|(have _:=nl1)|(intro nl1));intros)|(refine wY ?_ ?_<;>intro h)|refine wZ3 @Tryz.f141.eq_1 @cP @dP ?_|fail
  all_goals exact lE
 ·by_cases h1:65536≤p.lab.toNat∨p.lab.toNat≠0∧bit p.mask.toNat 8=false
  ·have e:bI p=1:=by unfold bI;rw[if_neg h0,if_pos h1]
   rw[e]
   generalize bit p.mask.toNat 8=b8 at hl h1
   cases b8
   all_goals
    repeat' first|(with_reducible first|refine up hm ?_|refine up hl ?_)|(refine wM ?_;(first|(have _:=nl1)|(intro nl1));intros)|(refine wY ?_ ?_<;>intro h)|refine wZ4 @Tryz.f141.eq_1 @cP @dP @hsh ?_|fail
    all_goals first|exact⟨_,St.le_refl _,rfl⟩|exact⟨_,St.le_refl _⟩|(exfalso;simp only[reduceCtorEq,and_false,or_false,and_true] at h1;omega)
  ·have hbad:=fun i=>tY (i:=i) h0 h1
   have hgood:=rW h0 h1
   have h1':p.lab.toNat<65536:=by omega
   have h1'':p.lab.toNat=0∨bit p.mask.toNat 8=true:=by
    cases hb:bit p.mask.toNat 8
    ·rw[hb] at h1;left;simp at h1;omega
    ·right;rfl
   clear h1
   generalize bit p.mask.toNat 8=b8 at hl h1''
   cases b8
   all_goals
    repeat' first|(with_reducible first|refine up hm ?_|refine up hl ?_)|(refine wM ?_;(first|(have _:=nl1)|(intro nl1));intros)|(refine wY ?_ ?_<;>intro h)|refine wZ5 @Tryz.f141.eq_1 @cP @dP @kI @hsh ?_|fail
    all_goals try (exfalso;simp only[reduceCtorEq,or_false] at h1'';omega)
    all_goals
     refine aF (α:=Nat) (fun i=>⟨55,[(33,.int .i64 (i:Int)),(32,.agg (fc p.f)),(1,.ptr nl1 0 0)],[]⟩) (fun _=>St.none.set nl1 (.row 57 26 [p.c])) (fun i=>i≤8∧∀j,j<i→(fF (p.f.get j)&&(decide ((p.f.get j).kd=0) || bit p.mask.toNat j))=true) (fun i=>8 - i) (.of (.less ?_ (St.le_refl _)) ⟨0,rfl,rfl,Nat.zero_le _,fun j h=>absurd h (Nat.not_lt_zero _)⟩) ?_
     ·exact wW
     ·rintro i ⟨hi,hq⟩
      by_cases h8:i<8
      ·have hc:=yD (p.f.get i).kd (p.f.get i).n (p.f.get i).s
       have hbad:=hbad i h8
       have hsb:=Uh p.mask i h8
       have hv:cH Tryz.prog 54 .neq (.agg (p.f.get i).c) (.agg [.int .i64 0,.int .i64 0,.str ⟨#[]⟩])=some (True,.bool (!decide (p.f.get i=va0))):=Ni (p.f.get i) va0
       have hz:fF (p.f.get i)=true→decide (p.f.get i=va0)=decide ((p.f.get i).kd=0):=fun hok=>by
        refine decide_eq_decide.mpr ⟨fun h=>by rw[h];rfl,fun h=>Uy hok h⟩
       obtain⟨x,hx⟩:∃x,p.f.get i=x:=⟨_,rfl⟩
       have hat:=pJ (f:=p.f) h8
       rw[hx] at hc hbad hv hz hat
       obtain⟨bx,hbx⟩:∃b,bit p.mask.toNat i=b:=⟨_,rfl⟩
       rw[hbx] at hbad hsb
       cases hok:fF x<;>(have hc:aA Tryz.prog 211 [.agg x.c] St.none (fun r _=>r=.bool (fF x)):=hc)<;>rw[hok] at hc hbad hz
       ·rw[hbad (Bool.false_and _)]
        clear hbad hgood hq hz
        repeat' first|(with_reducible first|refine up hc ?_)|(refine wM ?_;intros)|refine wZ4 @cP @dP @kI @hat ?_|fail
        all_goals exact lE
       ·rw[hz rfl] at hv
        obtain⟨bk,hbk⟩:∃b,decide (x.kd=0)=b:=⟨_,rfl⟩
        rw[hbk] at hv hbad
        cases hgg:(bk || bx)
        ·rw[hbad (by rw[hgg];rfl)]
         clear hbad hgood hq hz
         simp only[Bool.or_eq_false_iff] at hgg
         obtain⟨rfl,rfl⟩:=hgg
         rw[if_neg (by simp)] at hsb
         repeat' first|(with_reducible first|refine up hc ?_)|(refine wM ?_;intros)|refine wZ6 @cP @dP @kI @hat @hv @hsb ?_|fail
         all_goals exact lE
        ·clear hbad hgood hz
         have hnext:∀j,j<i+1→(fF (p.f.get j)&&(decide ((p.f.get j).kd=0) || bit p.mask.toNat j))=true:=fun j hj=>by
          by_cases hji:j=i
          ·rw[hji,hx,hok,hbk,hbx,hgg];rfl
          ·exact hq j oM
         clear hq
         cases bk<;>cases bx
         ·simp at hgg
         all_goals
          simp only[if_true,Bool.false_eq_true,if_false] at hsb
          repeat' first|(with_reducible first|refine up hc ?_)|(refine wM ?_;intros)|refine wZ6 @cP @dP @kI @hat @hv @hsb ?_|fail
          all_goals
           refine .of (.less ?_ (St.aB (St.none_le _) sS)) ⟨i+1,rfl,rfl,⟨by omega,hnext⟩,by omega⟩
           exact wW
      ·have:i=8:=by omega
       subst this
       rw[hgood hq]
       repeat' first|refine wZ0 ?_|fail
       all_goals exact lE
end

section
abbrev jC(L:List Nat):List (List MV):=L.map fun(i:Nat)=>[.int .i64 (i:Int)]
theorem Lu{s:List Nat}{k:Nat}{ex:List (List MV)}:(jC ((k::s).reverse)++ex).getD s.length []=[.int .i64 (k:Int)]:=by
 simp[jC,List.getD]
theorem TY{s:List Nat}{k j:Nat}{ex:List (List MV)}:(jC ((k::s).reverse)++ex).set s.length [.int .i64 (j:Int)]=jC ((j::s).reverse)++ex:=by
 simp[jC]
theorem QT{s:List Nat}{k:Nat}{ex:List (List MV)}:jC s.reverse++([.int .i64 (k:Int)]::ex)=jC ((k::s).reverse)++ex:=by
 simp[jC]
theorem RV{s:List Nat}:shut (0::s)=shut (match s with|[]=>[]|k::r=>(k - 1)::r):=by
 cases s with
 | nil=>rw[shut];simp[shut]
 | cons k r=>rw[shut]
theorem Hd(l:List ND)(hl:l.length≤1000000)(tt:Bool):aA Tryz.prog 200 [.lst 5 (l.map ND.c) tt] St.none (fun r _=>r=.int .i64 (iU l:Int)):=by
 refine aA.bS (mB 64 [.tmp 2] Tryz.func200 ?_)
 have hend:=CX l hl tt 0
 by_cases h:l=[]∨iR l 0≠l.length
 ·have e:iU l=0:=by unfold iU;rw[if_pos h]
  rw[e]
  rcases h with rfl|h
  ·repeat' first|(with_reducible first|refine up hend ?_)|refine wZ1 @Tryz.f200.eq_1 ?_|fail
   all_goals exact lE
  ·repeat' first|(with_reducible first|refine up hend ?_)|(refine wY ?_ ?_<;>intro h)|refine wZ1 @Tryz.f200.eq_1 ?_|fail
   all_goals exact lE
 ·have e:iU l=dp 0 [] l:=by unfold iU;rw[if_neg h]
  rw[e]
  have h2:iR l 0=l.length:=Classical.not_not.1 fun h3=>h (.inr h3)
  have h0:0<l.length:=by
   cases l with
   | nil=>exact absurd (.inl rfl) h
   | cons x l=>simp
  rw[h2] at hend
  clear e h
  repeat' first|(with_reducible first|refine up hend ?_)|refine wZ1 @Tryz.f200.eq_1 ?_|fail
  refine aF (α:=Nat × Nat × List Nat × Nat × List (List MV)) (fun a=>⟨64,[(19,.int .i64 (a.1:Int)),(18,.int .i64 (l.length:Int)),(17,.lst 5 (l.map ND.c) tt),(4,.int .i64 (a.2.1:Int)),(3,.vec 1 a.2.2.2.1 0 a.2.2.1.length)],[]⟩)
   (fun a=>St.none.set a.2.2.2.1 (.row 3 1 (jC a.2.2.1.reverse++a.2.2.2.2))) (fun a=>a.1≤l.length∧dp 0 [] l=dp a.2.1 a.2.2.1 (l.drop a.1)∧a.2.1≤1+a.1∧a.2.2.1.length≤a.1∧∀x,x∈a.2.2.1→1≤x∧x≤2) (fun a=>l.length - a.1) ?_ ?_
  ·refine Gh.AU 3 1 (fun q=>[(19,.int .i64 0),(18,.int .i64 (l.length:Int)),(17,.lst 5 (l.map ND.c) tt),(4,.int .i64 0),(3,.vec 1 q 0 0)]) (fun k=>by(repeat' (refine And.intro ?_ ?_))<;>first|exact trivial|exact .inl rfl|exact .inr ⟨rfl,.inl rfl⟩|exact .inr ⟨rfl,.inr rfl⟩) fun q hq=>?_
   exact .done ⟨(0,0,[],q,[]),rfl,rfl,Nat.zero_le _,rfl,Nat.zero_le _,Nat.le_refl _,fun x hx=>by cases hx⟩
  ·rintro⟨i,d,s,q,ex⟩ ⟨hi,hq,hd,hsl,hs⟩
   simp only at hi hq hd hsl hs ⊢
   by_cases hlt:i<l.length
   ·rw[Mu nd0 hlt,dp] at hq
    obtain⟨x,hx⟩:∃x,l.getD i nd0=x:=⟨_,rfl⟩
    rw[hx] at hq
    have hp:=iD x.op
    have hpc:=kP x.op
    obtain⟨p,hpe⟩:∃p,parts x.op=p:=⟨_,rfl⟩
    rw[hpe] at hq hp hpc
    have htk:(jC s.reverse++ex).take s.length=jC s.reverse:=by have:=sU (f:=fun(i:Nat)=>[MV.int .i64 (i:Int)]) (l:=s.reverse) (ex:=ex);rwa [List.length_reverse] at this
    have hdr:(jC s.reverse++ex).drop (s.length+1)=ex.drop 1:=by have:=vG (f:=fun(i:Nat)=>[MV.int .i64 (i:Int)]) (l:=s.reverse) (ex:=ex);rwa [List.length_reverse] at this
    repeat' (first|(with_reducible first|refine up hp ?_)|(with_reducible first|(refine wT ?_;(first|((fail_if_success (have:=nl1));refine wN fun nl1 hnl=>?_)|((fail_if_success (have:=nl2));refine wN fun nl2 hnl=>?_)|((fail_if_success (have:=nl3));refine wN fun nl3 hnl=>?_)|refine wN fun _ hnl=>?_);revert hnl;(repeat refine wS fun _ _=>?_);intro hnl)|refine wE ?_|(refine wK ?_ ?_<;>intro h)|(refine wB ?_ ?_<;>intro h<;>simp only[h]))|simp(maxSteps:=4000000) (disch:=first|decide|assumption|omega|(simp only[wL];omega)) only[go_sem,simprocAttr,bW nd0,hx,htk,hdr,List.length_reverse])
    case' refine_1 =>
     have hex:ex=[]:=List.eq_nil_of_length_eq_zero oM
     subst hex
     clear h
     have erow:jC s.reverse++[]++[[MV.int .i64 (p:Int)]]=jC ((p::s).reverse)++[]:=by simp[jC]
     obtain⟨ex1,hex1⟩:∃e,([]:List (List MV))=e:=⟨_,rfl⟩
    case' refine_2 =>
     have erow:jC s.reverse++[[MV.int .i64 (p:Int)]]++ex.drop 1=jC ((p::s).reverse)++ex.drop 1:=by simp[jC]
     obtain⟨ex1,hex1⟩:∃e,ex.drop 1=e:=⟨_,rfl⟩
    all_goals
     rw[erow]
     obtain⟨D,hD⟩:∃D,max d (s.length+1)=D:=⟨_,rfl⟩
     rw[hD] at hq
     refine aF (α:=List Nat × List (List MV)) (fun b=>⟨64,[(19,.int .i64 (i:Int)),(18,.int .i64 (l.length:Int)),(17,.lst 5 (l.map ND.c) tt),(4,.int .i64 (D:Int)),(3,.vec 1 nl3 0 b.1.length)],[]⟩)
      (fun b=>St.none.set nl3 (.row 3 1 (jC b.1.reverse++b.2))) (fun b=>shut b.1=shut (p::s)∧b.1.length≤i+1∧(∀x,x∈b.1.tail→1≤x)∧∀x,x∈b.1→x≤2) (fun b=>b.1.length) (.of (.less ?_ (St.aB (St.none_le _) (aD _ _ _))) ⟨(p::s,_),rfl,rfl,rfl,by simp only[List.length_cons];omega,fun x hx=>(hs x hx).1,fun x hx=>?_⟩) ?_
     ·simp(maxSteps:=4000000) (disch:=first|decide|assumption|omega|(simp only[wL];omega)) only[go_sem,simprocAttr,aU,aN,List.length_cons]
      all_goals (split<;>omega)
     ·rcases List.mem_cons.1 hx with rfl|hx
      ·omega
      ·exact(hs x hx).2
     ·rintro⟨b,ex2⟩ ⟨hb,hbl,hb1,hb2⟩
      simp only at hb hbl hb1 hb2 ⊢
      cases b with
      | nil =>
       rw[shut] at hb
       rw[←hb] at hq
       repeat' first|refine wZ0 ?_|fail
       refine .of (.less ?_ (St.le_refl _)) ⟨(i+1,D,[],nl3,ex2),rfl,rfl,⟨by simp only;omega,hq,by simp only;omega,Nat.zero_le _,fun x hx=>by cases hx⟩,by simp only;omega⟩
       exact wW
      | cons k r =>
       have hk2:=hb2 k (by simp)
       have hge:=Lu (s:=r) (k:=k) (ex:=ex2)
       have hWl:(jC (k::r).reverse).length=r.length+1:=by simp[jC]
       simp only[List.length_cons] at hbl ⊢
       cases k with
       | zero =>
        rw[RV] at hb
        cases r with
        | nil =>
         have hrow:jC [0].reverse++ex2=jC []++([.int .i64 0]::ex2):=rfl
         obtain⟨W,hW⟩:∃W,jC [0].reverse++ex2=W:=⟨_,rfl⟩
         have hl1:W.length=1+ex2.length:=by rw[←hW];simp[jC];omega
         rw[hW] at hge hrow ⊢
         simp only[List.length_nil] at hge ⊢
         repeat' first|refine wZ1 @hge ?_|fail
         refine .of (.less ?_ (St.le_refl _)) ⟨([],[.int .i64 0]::ex2),rfl,by rw[hrow];rfl,⟨hb,Nat.zero_le _,(fun x hx=>by cases hx),(fun x hx=>by cases hx)⟩,by simp⟩
         exact wW
        | cons k2 r =>
         have h12:=hb1 k2 (by simp)
         have h22:=hb2 k2 (by simp)
         have hrow:jC (0::k2::r).reverse++ex2=jC (k2::r).reverse++([.int .i64 0]::ex2):=QT.symm
         have hge2:=Lu (s:=r) (k:=k2) (ex:=[.int .i64 0]::ex2)
         have hst:=TY (s:=r) (k:=k2) (j:=k2 - 1) (ex:=[.int .i64 0]::ex2)
         rw[←hrow] at hge2 hst
         rw[show((k2 - 1:Nat):Int)=(k2:Int) - 1 by omega] at hst
         simp only[List.length_cons] at hge hWl hbl ⊢
         obtain⟨W,hW⟩:∃W,jC (0::k2::r).reverse++ex2=W:=⟨_,rfl⟩
         have hl1:W.length=r.length+1+1+ex2.length:=by rw[←hW,List.length_append,hWl]
         rw[hW] at hge hge2 hst ⊢
         obtain⟨n,hn⟩:∃n,r.length=n:=⟨_,rfl⟩
         rw[hn] at hge hge2 hst hl1 hbl ⊢
         have hto1:(((n+1+1:Nat):Int) - 1).toNat=n+1:=by omega
         have hto2:(((n+1:Nat):Int) - 1).toNat=n:=by omega
         repeat' first|refine wZ5 @hge @hge2 @hst @hto1 @hto2 ?_|fail
         refine .of (.less ?_ (St.le_refl _)) ⟨((k2 - 1)::r,[.int .i64 0]::ex2),rfl,rfl,⟨hb,by simp only[List.length_cons];omega,fun x hx=>hb1 x (by simp at hx ⊢;exact .inr hx),fun x hx=>?_⟩,by simp only[List.length_cons];omega⟩
         ·simp only[List.length_cons,hn]
          exact wW
         ·rcases List.mem_cons.1 hx with rfl|hx
          ·omega
          ·exact hb2 x (by simp[hx])
       | succ k =>
        rw[shut] at hb
        rw[←hb] at hq
        obtain⟨W,hW⟩:∃W,jC ((k+1)::r).reverse++ex2=W:=⟨_,rfl⟩
        have hl1:W.length=r.length+1+ex2.length:=by rw[←hW,List.length_append,hWl]
        rw[hW] at hge ⊢
        obtain⟨n,hn⟩:∃n,r.length=n:=⟨_,rfl⟩
        rw[hn] at hge hl1 hbl ⊢
        have hkc:((k+1:Nat):Int)=(k:Int)+1:=by omega
        rw[hkc] at hge
        have hto2:(((n+1:Nat):Int) - 1).toNat=n:=by omega
        repeat' first|refine wZ2 @hge @hto2 ?_|fail
        refine .of (.less ?_ (St.le_refl _)) ⟨(i+1,D,(k+1)::r,nl3,ex2),rfl,by rw[←hW],⟨by simp only;omega,hq,by simp only;omega,by simp only[List.length_cons];omega,fun x hx=>?_⟩,by simp only;omega⟩
        ·simp only[List.length_cons,hn]
         exact wW
        ·refine⟨?_,hb2 x hx⟩
         rcases List.mem_cons.1 hx with rfl|hx
         ·omega
         ·exact hb1 x hx
   ·have:i=l.length:=by omega
    subst this
    rw[List.drop_length,dp] at hq
    rw[hq]
    repeat' first|refine wZ0 ?_|fail
    all_goals exact lE
end
end Go.Proofs.YtppdgejjmhdjhaaGreatDoor
