/- Parts of the proof; conditions: as its theorems name them. -/
import Derived.Test.YtppdgejjmhdjhaaGreatDoorM9e
set_option linter.unusedVariables false
set_option linter.unusedSimpArgs false
set_option maxHeartbeats 8000000
set_option maxRecDepth 100000
namespace Go.Proofs.YtppdgejjmhdjhaaGreatDoor
section
theorem le2{σ:St}{l k:Nat}{o o':aW}(h1:σ l=some o)(h2:σ k=some o'):((St.none.set l o).set k o').le σ:=St.aB (St.aB (St.none_le _) h1) h2
theorem mZ{α:Type}{f:α→List MV}{l:List α}{ex:List (List MV)}:(l.map f++ex).take l.length=l.map f:=by rw[List.take_append_of_le_length (by simp),List.take_of_length_le (by simp)]
theorem nZ{α:Type}{f:α→List MV}{l:List α}{ex:List (List MV)}:(l.map f++ex).drop (l.length+1)=ex.drop 1:=by
 rw[List.drop_append,List.drop_eq_nil_of_le (by simp),List.nil_append];congr 1;simp
theorem WV{α:Type}{f:α→List MV}{l:List α}{ex:List (List MV)}{σ:St}{q e:Nat}{t:TypeId}(h:σ q=some (.row t e (l.map f++ex))):View σ (.vec e q 0 l.length) (.lst e (l.map f) false):=by
 have:=View.vec (n:=l.length) (lo:=0) h (by simp)
 rwa [List.drop_zero,mZ] at this
theorem iL.fc{σ:St}{f:F8}{a b:List MV}(h:iL σ a b):iL σ (fc f++a) (fc f++b):=iL.app (iL.same _) h
abbrev MS.c(m:MS):List MV:=m.k (.lst 5 (m.cmd.fl.map ND.c) false) (.lst 5 (m.rep.fl.map ND.c) false) (.lst 28 (IT.ks m.page.items) false)
theorem MS.cell(m:MS):m.c.all MV.aL=true:=by
 simp only[MS.c,MS.k,List.all_cons,ID];rfl
structure Sm (m:MS):Prop where
 f:m.cmd.fl.length≤1000000
 g:m.rep.fl.length≤1000000
 i:m.page.items.length≤1000000
end

section
def nd(op:Int):ND:=⟨op,0,va0⟩
def T.root:T→ND
 | .leaf x=>x
 | .one x _=>x
 | .two x _ _=>x
def T.kids:T→List T
 | .leaf _=>[]
 | .one _ a=>[a]
 | .two _ a b=>[a,b]
theorem T.KV(t:T):t.fl=t.root::(t.kids.map T.fl).flatten:=by cases t<;>simp[T.fl,T.kids,T.root]
theorem T.Lp{t:T}(h:t.ok):t.kids.length=parts t.root.op∧∀k,k∈t.kids→k.ok:=by
 cases t with
 | leaf x=>simp only[T.ok] at h;simp[T.kids,T.root,h]
 | one x a=>simp only[T.ok] at h;simp[T.kids,T.root,h.1,h.2]
 | two x a b=>simp only[T.ok] at h;simp[T.kids,T.root,h.1,h.2.1,h.2.2]
theorem Dj:∀(t u:T) (r s:List ND),t.ok→u.ok→t.fl++r=u.fl++s→t=u∧r=s
 | .leaf x,.leaf y,r,s,ht,hu,h=>by simp only[T.fl,List.cons_append,List.nil_append,List.cons.injEq] at h;exact⟨by rw[h.1],h.2⟩
 | .leaf x,.one y b,r,s,ht,hu,h=>by simp only[T.fl,List.cons_append,List.cons.injEq] at h;simp only[T.ok] at ht hu;rw[h.1] at ht;omega
 | .leaf x,.two y b c,r,s,ht,hu,h=>by simp only[T.fl,List.cons_append,List.cons.injEq] at h;simp only[T.ok] at ht hu;rw[h.1] at ht;omega
 | .one x a,.leaf y,r,s,ht,hu,h=>by simp only[T.fl,List.cons_append,List.cons.injEq] at h;simp only[T.ok] at ht hu;rw[h.1] at ht;omega
 | .one x a,.one y b,r,s,ht,hu,h=>by
  simp only[T.fl,List.cons_append,List.cons.injEq] at h
  obtain⟨e1,e2⟩:=Dj a b r s ht.2 hu.2 h.2
  exact⟨by rw[h.1,e1],e2⟩
 | .one x a,.two y b c,r,s,ht,hu,h=>by simp only[T.fl,List.cons_append,List.cons.injEq] at h;simp only[T.ok] at ht hu;rw[h.1] at ht;omega
 | .two x a a',.leaf y,r,s,ht,hu,h=>by simp only[T.fl,List.cons_append,List.cons.injEq] at h;simp only[T.ok] at ht hu;rw[h.1] at ht;omega
 | .two x a a',.one y b,r,s,ht,hu,h=>by simp only[T.fl,List.cons_append,List.cons.injEq] at h;simp only[T.ok] at ht hu;rw[h.1] at ht;omega
 | .two x a a',.two y b b',r,s,ht,hu,h=>by
  simp only[T.fl,List.cons_append,List.cons.injEq,List.append_assoc] at h
  obtain⟨e1,e2⟩:=Dj a b _ _ ht.2.1 hu.2.1 h.2
  obtain⟨e3,e4⟩:=Dj a' b' r s ht.2.2 hu.2.2 e2
  exact⟨by rw[h.1,e1,e3],e4⟩
theorem Wp{t u:T}(ht:t.ok)(hu:u.ok)(h:t.fl=u.fl):t=u:=(Dj t u [] [] ht hu (by rw[h])).1
end

section
set_option maxHeartbeats 4000000 in
theorem k0 (p:PA):aA Tryz.prog 164 [.agg p.c] St.none (fun r _=>r=.int .i64 (bH p)):=by
 refine aA.bR (mB 52 [.tmp 2] Tryz.func164 ?_)
 have hm:=uM p.mask
 have hl:=sV p.mask
 have hmt:=p.mask.toNat_lt
 have hlt:=p.lab.toNat_lt
 by_cases h0:p.mask.toNat=0∨511<p.mask.toNat
 ·have e:bH p=11:=by unfold bH;rw[if_pos h0]
  rw[e]
  repeat' first|(with_reducible first|refine up hm ?_|refine up hl ?_)|(refine wM ?_;(first|(have _:=nl1)|(intro nl1));intros)|(refine wY ?_ ?_<;>intro h)|refine wZ3 @Tryz.f164.eq_1 @cN @dS ?_|fail
  all_goals exact lE
 ·by_cases h1:65536≤p.lab.toNat∨p.lab.toNat≠0∧bit p.mask.toNat 8=false
  ·have e:bH p=1:=by unfold bH;rw[if_neg h0,if_pos h1]
   rw[e]
   generalize bit p.mask.toNat 8=b8 at hl h1
   cases b8
   all_goals
    repeat' first|(with_reducible first|refine up hm ?_|refine up hl ?_)|(refine wM ?_;(first|(have _:=nl1)|(intro nl1));intros)|(refine wY ?_ ?_<;>intro h)|refine wZ3 @Tryz.f164.eq_1 @cN @dS ?_|fail
    all_goals first|exact⟨_,St.le_refl _,rfl⟩|exact⟨_,St.le_refl _⟩|(exfalso;simp only[reduceCtorEq,and_false,or_false,and_true] at h1;omega)
  ·have hbad:=fun i=>uF (i:=i) h0 h1
   have hgood:=rZ h0 h1
   have h1':p.lab.toNat<65536:=by omega
   have h1'':p.lab.toNat=0∨bit p.mask.toNat 8=true:=by
    cases hb:bit p.mask.toNat 8
    ·rw[hb] at h1;left;simp at h1;omega
    ·right;rfl
   clear h1
   generalize bit p.mask.toNat 8=b8 at hl h1''
   cases b8
   all_goals
    repeat' first|(with_reducible first|refine up hm ?_|refine up hl ?_)|(refine wM ?_;(first|(have _:=nl1)|(intro nl1));intros)|(refine wY ?_ ?_<;>intro h)|refine wZ3 @Tryz.f164.eq_1 @cN @dS ?_|fail
    all_goals try (exfalso;simp only[reduceCtorEq,or_false] at h1'';omega)
    all_goals
     refine aE (α:=Nat) (fun i=>⟨52,[(3,.int .i64 (i:Int)),(1,.ptr nl1 0 0)],[]⟩) (fun _=>St.none.set nl1 (.row 57 26 [p.c])) (fun i=>i≤8∧∀j,j<i→(fH (p.f.get j)&&(decide ((p.f.get j).kd=0) || bit p.mask.toNat j))=true) (fun i=>8 - i) (.of (.less ?_ (St.le_refl _)) ⟨0,rfl,rfl,Nat.zero_le _,fun j h=>absurd h (Nat.not_lt_zero _)⟩) ?_
     ·exact wW
     ·rintro i ⟨hi,hq⟩
      by_cases h8:i<8
      ·have hc:=uQ (p.f.get i).kd (p.f.get i).n (p.f.get i).s
       have hb:=rB p.mask i oM
       have hbad:=hbad i h8
       cases hok:(fH (p.f.get i)&&(decide ((p.f.get i).kd=0) || bit p.mask.toNat i))
       ·rw[hbad hok]
        clear hbad hgood hq
        have eta:(⟨(p.f.get i).kd,(p.f.get i).n,(p.f.get i).s⟩:VA)=p.f.get i:=rfl
        rw[eta] at hc
        cases hv:fH (p.f.get i)<;>rw[hv] at hc hok
        ·repeat' first|(with_reducible first|refine up hc ?_|refine up hb ?_)|refine wZ6 @cN @dS @pL @pP @pM @tQ ?_|fail
         all_goals exact lE
        ·cases hbb:bit p.mask.toNat i<;>rw[hbb] at hb hok
         ·repeat' first|(with_reducible first|refine up hc ?_|refine up hb ?_)|(refine wY ?_ ?_<;>intro h)|refine wZ6 @cN @dS @pL @pP @pM @tQ ?_|fail
          all_goals first|exact⟨_,St.le_refl _,rfl⟩|exact⟨_,St.le_refl _⟩|(exfalso;simp_all)
         ·simp at hok
       ·clear hbad hgood
        have eta:(⟨(p.f.get i).kd,(p.f.get i).n,(p.f.get i).s⟩:VA)=p.f.get i:=rfl
        rw[eta] at hc
        have hok':=hok
        simp only[Bool.and_eq_true,Bool.or_eq_true,decide_eq_true_eq] at hok
        rw[hok.1] at hc
        have hok2:=hok.2
        cases hbb:bit p.mask.toNat i<;>rw[hbb] at hb hok2
        all_goals
         repeat' first|(with_reducible first|refine up hc ?_|refine up hb ?_)|(refine wY ?_ ?_<;>intro h)|refine wZ6 @cN @dS @pL @pP @pM @tQ ?_|fail
         all_goals try (exfalso;simp_all;done)
         all_goals
          refine .of (.less ?_ (St.le_refl _)) ⟨i+1,rfl,rfl,⟨by omega,fun j hj=>?_⟩,by omega⟩
          ·exact wW
          ·by_cases hji:j=i
           ·rw[hji];exact hok'
           ·exact hq j oM
      ·have:i=8:=by omega
       subst this
       rw[hgood hq]
       repeat' first|refine wZ0 ?_|fail
       first|exact⟨_,St.le_refl _,rfl⟩|exact⟨_,St.le_refl _⟩
end

section
theorem wrap32{n:Nat}(h:n<4294967296):IntKind.u32.wrap (n:Int)=(n:Int):=by
 simp only[IntKind.wrap,IntKind.signed,IntKind.bits]
 simp
 omega
theorem Oo(n:Nat)(h:n<32):aA Tryz.prog 234 [.int .i64 (n:Int)] St.none (fun r _=>r=.int .u32 ((2 ^ n:Nat):Int)):=by
 refine(mB 19 [.tmp 2] Tryz.func234 ?_)
 repeat' first|refine wZ1 @Tryz.f234.eq_1 ?_|fail
 refine aE (α:=Nat) (fun i=>⟨19,[(4,.int .i64 (i:Int)),(3,.int .u32 ((2 ^ i:Nat):Int)),(0,.int .i64 (n:Int))],[]⟩) (fun _=>St.none) (fun i=>i≤n) (fun i=>n - i) (.of (.less ?_ (St.le_refl _)) ⟨0,rfl,rfl,Nat.zero_le _⟩) ?_
 ·exact wW
 ·intro i hi
  have hi:i≤n:=hi
  by_cases hlt:i<n
  ·have h2:2 ^ (i+1)<4294967296:=Nat.pow_lt_pow_right (a:=2) (n:=32) (by decide) oM
   have e:IntKind.u32.wrap (((2 ^ i:Nat):Int) * 2)=((2 ^ (i+1):Nat):Int):=by
    rw[show((2 ^ i:Nat):Int) * 2=((2 ^ (i+1):Nat):Int) by rw[Nat.pow_succ];simp]
    exact wrap32 h2
   obtain⟨p,hp⟩:∃p,2 ^ i=p:=⟨_,rfl⟩
   rw[hp] at e ⊢
   repeat' first|refine wZ1 @e ?_|fail
   refine .of (.less (l1:=[(4,.int .i64 ((i+1:Nat):Int)),(3,.int .u32 ((2 ^ (i+1):Nat):Int)),(0,.int .i64 (n:Int))]) ?_ (St.le_refl _)) ⟨i+1,rfl,rfl,by omega,by omega⟩
   obtain⟨q,hq⟩:∃q,2 ^ (i+1)=q:=⟨_,rfl⟩
   rw[hq] at e ⊢
   simp(maxSteps:=4000000) (disch:=first|exact ddL|fail) only[go_sem,simprocAttr,bC,aS,e]
   all_goals rfl
  ·have:i=n:=by omega
   subst this
   obtain⟨p,hp⟩:∃p,2 ^ i=p:=⟨_,rfl⟩
   rw[hp]
   repeat' first|refine wZ0 ?_|exact wC0|fail
theorem Kk(s n:Nat)(h:n<32)(hs:s<2 ^ n):aA Tryz.prog 176 [.int .u32 (s:Int),.int .i64 (n:Int)] St.none (fun r _=>r=.int .u32 ((s ||| 2 ^ n:Nat):Int)):=by
 refine(mB 13 [.tmp 4] Tryz.func176 ?_)
 have h2:2 ^ n≤2147483648:=Nat.pow_le_pow_right (n:=2) (i:=n) (j:=31) (by decide) oM
 have h1:=rE s (n:Int) oM
 rw[Fi h,show bit s n=false from Nat.testBit_lt_two_pow hs] at h1
 have h3:=Oo n h
 have e:s ||| 2 ^ n=s+2 ^ n:=by
  have:=Nat.two_pow_add_eq_or_of_lt hs 1
  rw[Nat.mul_one] at this
  rw[Nat.or_comm,←this,Nat.add_comm]
 rw[e]
 have ew:IntKind.u32.wrap ((s:Int)+((2 ^ n:Nat):Int))=((s+2 ^ n:Nat):Int):=by
  rw[show(s:Int)+((2 ^ n:Nat):Int)=((s+2 ^ n:Nat):Int) by simp]
  exact wrap32 oM
 obtain⟨p,hp⟩:∃p,2 ^ n=p:=⟨_,rfl⟩
 rw[hp] at h3 ew ⊢
 repeat' first|(with_reducible first|refine up h1 ?_|refine up h3 ?_)|refine wZ2 @Tryz.f176.eq_1 @ew ?_|exact wC2 @Tryz.f176.eq_1 @ew|fail
 all_goals first|rfl|(refine aI mixed dK (kn [(234,[.int .i64 (n:Int)],⟨[],fun v=>v=.int .u32 (p:Int),none⟩)]) ?_;repeat' first|(with_reducible refine aG vR h3 ?_)|refine wZ1 @ew ?_|fail;rfl)
end

section
theorem CJ{op:Int}(h:parts op=2):op=11∨op=12:=by
 unfold parts at h
 split at h
 ·omega
 ·split at h
  ·assumption
  ·omega
theorem CI{op:Int}(h:parts op=1):op=10:=by
 unfold parts at h
 split at h
 ·assumption
 ·split at h<;>omega
def Good(t:T):Prop:=t.ok∧∀x,x∈t.fl→fP x=true
theorem zW{x:ND}{a:T}:Good (.one x a)↔parts x.op=1∧fP x=true∧Good a:=by
 simp only[Good,T.ok,T.fl,List.mem_cons]
 exact⟨fun h=>⟨h.1.1,h.2 x (.inl rfl),h.1.2,fun y hy=>h.2 y (.inr hy)⟩,fun h=>⟨⟨h.1,h.2.2.1⟩,fun y hy=>hy.elim (fun e=>e ▸ h.2.1) (h.2.2.2 y)⟩⟩
theorem zX{x:ND}{a b:T}:Good (.two x a b)↔parts x.op=2∧fP x=true∧Good a∧Good b:=by
 simp only[Good,T.ok,T.fl,List.mem_cons,List.mem_append]
 exact⟨fun h=>⟨h.1.1,h.2 x (.inl rfl),⟨h.1.2.1,fun y hy=>h.2 y (.inr (.inl hy))⟩,h.1.2.2,fun y hy=>h.2 y (.inr (.inr hy))⟩,
  fun h=>⟨⟨h.1,h.2.2.1.1,h.2.2.2.1⟩,fun y hy=>hy.elim (fun e=>e ▸ h.2.1) fun hy=>hy.elim (h.2.2.1.2 y) (h.2.2.2.2 y)⟩⟩
end

section
theorem LY{α:Type}(D ex Y:List α)(m y:Nat)(h1:D.length=m)(h2:Y.length=y):List.take m (D++ex)++Y++List.drop (m+y) (D++ex)=(D++Y)++ex.drop y:=by
 subst h1 h2
 rw[List.take_left,List.drop_append,List.drop_eq_nil_of_le oM,List.nil_append,Nat.add_sub_cancel_left]
abbrev T.kl(t:T):List (List MV):=t.kids.map fun k=>[.lst 5 (k.fl.map ND.c) false]
theorem Tf{t:T}(h:t.ok){i:Nat}(hi:i<t.kids.length) :
  iT t.fl ((1+((t.kids.take i).map T.fl).flatten.length:Nat):Int)=((1+((t.kids.take (i+1)).map T.fl).flatten.length:Nat):Int) ∧
  (t.fl.take (1+((t.kids.take (i+1)).map T.fl).flatten.length)).drop (1+((t.kids.take i).map T.fl).flatten.length)=(t.kids.getD i (.leaf nd0)).fl ∧
  1+((t.kids.take i).map T.fl).flatten.length≤1+((t.kids.take (i+1)).map T.fl).flatten.length∧1+((t.kids.take (i+1)).map T.fl).flatten.length≤t.fl.length∧(t.kids.getD i (.leaf nd0)).fl.length≤t.fl.length:=by
 obtain⟨h1,h2⟩:=T.Lp h
 obtain⟨k,hk⟩:∃k,t.kids.getD i (.leaf nd0)=k:=⟨_,rfl⟩
 have hg:t.kids[i]=k:=by rw[←hk,bP _ hi]
 have hko:=h2 k (by rw[←hk];exact fR _ hi)
 have e1:((t.kids.take (i+1)).map T.fl).flatten=((t.kids.take i).map T.fl).flatten++k.fl:=by
  rw[List.take_succ_eq_append_getElem hi,hg];simp
 have e2:t.fl=(t.root::((t.kids.take i).map T.fl).flatten)++(k.fl++((t.kids.drop (i+1)).map T.fl).flatten):=by
  rw[T.KV]
  conv=>lhs;rw[←List.take_append_drop i t.kids,List.drop_eq_getElem_cons hi,hg]
  simp
 have e3:(t.root::((t.kids.take i).map T.fl).flatten).length=1+((t.kids.take i).map T.fl).flatten.length:=by rw[List.length_cons];omega
 rw[e1,List.length_append,hk]
 generalize hA:t.root::((t.kids.take i).map T.fl).flatten=A at e2 e3
 have e4:=KM hko A ((t.kids.drop (i+1)).map T.fl).flatten
 rw[←e2,e3] at e4
 refine⟨by rw[e4,Nat.add_assoc],?_,by omega,by rw[e2];simp only[List.length_append];omega,by rw[e2];simp only[List.length_append];omega⟩
 rw[←Nat.add_assoc,←e3,e2,←List.append_assoc,←List.length_append,List.take_left,List.drop_left]
set_option maxHeartbeats 2000000 in
theorem oQ (t:T) (h:t.ok) (hl:t.fl.length≤1000) (tt:Bool):aA Tryz.prog 131 [.lst 5 (t.fl.map ND.c) tt,.int .i64 0] St.none (fun r _=>r=.lst 1 t.kl false):=by
 refine aA.seen (mB 44 [.tmp 4] Tryz.func131 ?_)
 have hpos:=t.Dk
 have hf0:(t.fl.getD 0 nd0)=t.root:=by rw[T.KV];rfl
 obtain⟨h1,h2⟩:=T.Lp h
 have hb2:t.kids.length≤2:=by have:=kJ t.root.op;omega
 repeat' (first|(with_reducible first|(refine wT ?_;(first|((fail_if_success (have:=nl1));refine wN fun nl1 hnl=>?_)|((fail_if_success (have:=nl2));refine wN fun nl2 hnl=>?_)|((fail_if_success (have:=nl3));refine wN fun nl3 hnl=>?_)|((fail_if_success (have:=nl4));refine wN fun nl4 hnl=>?_)|((fail_if_success (have:=nl5));refine wN fun nl5 hnl=>?_)|refine wN fun _ hnl=>?_);revert hnl;(repeat refine wS fun _ _=>?_);intro hnl)|refine wD dK ?_|refine wI (fun h=>?_) fun h=>?_|refine wF (fun h=>?_) fun h=>?_|refine wG (fun h=>?_) fun h=>?_|refine wH (fun h=>?_) fun h=>?_|((first|refine cG (fun h=>?_) fun h=>?_|refine bZ (fun h=>?_) fun h=>?_)<;>simp only[h]))|simp(maxSteps:=4000000) (disch:=first|decide|assumption|omega|(simp only[wL];omega)) only[go_sem,simprocAttr,Tryz.f131,bN nd0])
 refine aE (α:=Nat × Nat × List (List MV)) (fun a=>⟨44,[(7,.int .i64 (a.1:Int)),(6,.int .i64 ((1+((t.kids.take a.1).map T.fl).flatten.length:Nat):Int)),(5,.vec 1 a.2.1 0 a.1),(0,.lst 5 (t.fl.map ND.c) tt),(1,.int .i64 0)],[]⟩)
  (fun a=>St.none.set a.2.1 (.row 22 1 ((t.kl.take a.1)++a.2.2))) (fun a=>a.1≤t.kids.length) (fun a=>t.kids.length - a.1) ?_ ?_
 ·refine .of (.less ?_ (St.le_refl _)) ⟨(0,nl1,[]),rfl,rfl,Nat.zero_le _⟩
  simp(maxSteps:=4000000) (disch:=first|decide|assumption|omega|(simp only[wL];omega)) only[go_sem,simprocAttr,bC,aS]
  all_goals first|exact⟨rfl,rfl⟩|rfl
 ·rintro⟨i,q,ex⟩ hi
  simp only at hi ⊢
  by_cases hlt:i<t.kids.length
  ·obtain⟨k1,k2,k3,k4,k5⟩:=Tf h hlt
   have hm:min i t.kids.length=i:=Nat.min_eq_left hi
   have e1:List.map (fun k=>[MV.lst 5 (List.map ND.c k.fl) false]) (t.kids.take (i+1))=List.map (fun k=>[MV.lst 5 (List.map ND.c k.fl) false]) (t.kids.take i)++[[.lst 5 ((t.kids.getD i (.leaf nd0)).fl.map ND.c) false]]:=by
    rw[List.take_succ_eq_append_getElem hlt,List.map_append,←bP (.leaf nd0) hlt];rfl
   repeat' (first|(with_reducible refine aC (qE _) ?_)|(with_reducible refine aC (rD _ oM _ _) ?_)|(with_reducible first|(refine wT ?_;(first|((fail_if_success (have:=nl1));refine wN fun nl1 hnl=>?_)|((fail_if_success (have:=nl2));refine wN fun nl2 hnl=>?_)|((fail_if_success (have:=nl3));refine wN fun nl3 hnl=>?_)|((fail_if_success (have:=nl4));refine wN fun nl4 hnl=>?_)|((fail_if_success (have:=nl5));refine wN fun nl5 hnl=>?_)|refine wN fun _ hnl=>?_);revert hnl;(repeat refine wS fun _ _=>?_);intro hnl)|refine wD dK ?_|refine wI (fun h=>?_) fun h=>?_|refine wF (fun h=>?_) fun h=>?_|refine wG (fun h=>?_) fun h=>?_|refine wH (fun h=>?_) fun h=>?_|((first|refine cG (fun h=>?_) fun h=>?_|refine bZ (fun h=>?_) fun h=>?_)<;>simp only[h]))|simp(maxSteps:=4000000) (disch:=first|decide|assumption|omega|(simp only[wL];omega)) only[go_sem,simprocAttr,bN nd0,hf0,k1,k2,hm])
   ·have hex:ex=[]:=List.eq_nil_of_length_eq_zero oM
    subst hex
    refine .of (aV.nest (t:=22) (t1:=121) (e1:=5) (ys:=(t.kids.getD i (.leaf nd0)).fl.map ND.c) (n1:=(t.kids.getD i (.leaf nd0)).fl.length) (q:=nl5) (m:=nl3) (pre:=List.map (fun k=>[MV.lst 5 (List.map ND.c k.fl) false]) (t.kids.take i)) (post:=[]) St.none (by first|(simp(maxSteps:=4000000) (disch:=first|decide|assumption|omega|(simp only[wL];omega)) only[go_sem,simprocAttr];done)|(simp(maxSteps:=4000000) (disch:=first|decide|assumption|omega|(simp only[wL];omega)) only[go_sem,simprocAttr];rfl)) ((aD _ _ _).trans ?_) (by rw[List.length_map]) (St.none_le _) rfl (by assumption) ?_) ⟨(i+1,nl5,[]),rfl,?_,by simp only;omega,by simp only;omega⟩
    ·rw[List.append_nil]
    ·exact wW
    ·simp only
     rw[e1,List.append_nil]
   ·refine .of (aV.nest (t:=22) (t1:=121) (e1:=5) (ys:=(t.kids.getD i (.leaf nd0)).fl.map ND.c) (n1:=(t.kids.getD i (.leaf nd0)).fl.length) (q:=nl5) (m:=nl3) (pre:=List.map (fun k=>[MV.lst 5 (List.map ND.c k.fl) false]) (t.kids.take i)) (post:=ex.drop 1) St.none (by first|(simp(maxSteps:=4000000) (disch:=first|decide|assumption|omega|(simp only[wL];omega)) only[go_sem,simprocAttr];done)|(simp(maxSteps:=4000000) (disch:=first|decide|assumption|omega|(simp only[wL];omega)) only[go_sem,simprocAttr];rfl)) ((aD _ _ _).trans ?_) (by rw[List.length_map]) (St.none_le _) rfl (by assumption) ?_) ⟨(i+1,nl5,ex.drop 1),rfl,?_,by simp only;omega,by simp only;omega⟩
    ·rw[LY (List.map (fun k=>[MV.lst 5 (List.map ND.c (T.fl k)) false]) (t.kids.take i)) ex [[MV.vec 5 nl3 0 (t.kids.getD i (T.leaf nd0)).fl.length]] i 1 (by rw[List.length_map,List.length_take];omega) rfl,List.append_assoc]
     rfl
    ·exact wW
    ·simp only
     rw[e1,List.append_assoc]
     rfl
  ·have:i=t.kids.length:=by omega
   subst this
   repeat' (first|(with_reducible refine aC (qE _) ?_)|(with_reducible first|(refine wT ?_;(first|((fail_if_success (have:=nl1));refine wN fun nl1 hnl=>?_)|((fail_if_success (have:=nl2));refine wN fun nl2 hnl=>?_)|((fail_if_success (have:=nl3));refine wN fun nl3 hnl=>?_)|((fail_if_success (have:=nl4));refine wN fun nl4 hnl=>?_)|((fail_if_success (have:=nl5));refine wN fun nl5 hnl=>?_)|refine wN fun _ hnl=>?_);revert hnl;(repeat refine wS fun _ _=>?_);intro hnl)|refine wD dK ?_|refine wI (fun h=>?_) fun h=>?_|refine wF (fun h=>?_) fun h=>?_|refine wG (fun h=>?_) fun h=>?_|refine wH (fun h=>?_) fun h=>?_|((first|refine cG (fun h=>?_) fun h=>?_|refine bZ (fun h=>?_) fun h=>?_)<;>simp only[h]))|simp(maxSteps:=4000000) (disch:=first|decide|assumption|omega|(simp only[wL];omega)) only[go_sem,simprocAttr,bN nd0,hf0,List.take_length])
   have hv:=View.vec (σ:=St.none.set q (.row 22 1 (t.kl++ex))) (l:=q) (lo:=0) (n:=t.kids.length) (aD _ _ _) (by rw[List.length_append,List.length_map];omega)
   have e:((t.kl++ex).drop 0).take t.kids.length=t.kl:=by
    rw[List.drop_zero,List.take_append_of_le_length (by rw[List.length_map];omega),List.take_of_length_le (by rw[List.length_map];omega)]
   rw[e] at hv
   exact hv
end

section
def kU(l:List T):Nat:=l.foldl (fun d t=>max d t.depth) 0
theorem T.Iw(t:T):t.depth=kU t.kids+1:=by
 cases t<;>simp only[T.depth,T.kids,kU,List.foldl_nil,List.foldl_cons]<;>omega
theorem C9(l:List T)(t:T):kU (l++[t])=max (kU l) t.depth:=by simp[kU]
theorem T.pI:∀t:T,t.depth≤t.fl.length
 | .leaf _=>by simp[T.depth,T.fl]
 | .one _ a=>by have:=T.pI a;simp only[T.depth,T.fl,List.length_cons];omega
 | .two _ a b=>by have:=T.pI a;have:=T.pI b;simp only[T.depth,T.fl,List.length_cons,List.length_append];omega
theorem MK{t k:T}(h:k∈t.kids):k.fl.length<t.fl.length:=by
 cases t<;>simp only[T.kids,List.mem_cons,List.not_mem_nil,or_false] at h
 ·subst h;simp only[T.fl,List.length_cons];omega
 ·rcases h with rfl|rfl<;>simp only[T.fl,List.length_cons,List.length_append]<;>omega
theorem Vc{t k:T}(ht:t.ok)(h:k∈t.kids):k.ok:=by
 cases t<;>simp only[T.kids,List.mem_cons,List.not_mem_nil,or_false] at h
 ·subst h;exact ht.2
 ·rcases h with rfl|rfl
  ·exact ht.2.1
  ·exact ht.2.2
theorem Hl:∀(n:Nat) (t:T),t.ok→iT t.fl 0=(t.fl.length:Int)→t.fl.length≤n→n≤1000→∀tt:Bool,aA Tryz.prog 59 [.lst 5 (t.fl.map ND.c) tt] St.none (fun r _=>r=.int .i64 (t.depth:Int)):=by
 intro n
 induction n with
 | zero=>intro t h _ hl;have:=t.Dk;omega
 | succ n ih =>
  intro t h he hl hn tt
  refine(mB 33 [.tmp 2] Tryz.func59 ?_)
  have hend:=rD t.fl oM tt 0
  rw[he] at hend
  have hk:=oQ t h oM tt
  have hpos:=t.Dk
  have hkl:t.kids.length≤2:=by cases t<;>simp[T.kids]
  repeat' first|(with_reducible first|refine up hend ?_|refine up hk ?_)|refine wZ1 @Tryz.f59.eq_1 ?_|fail
  refine aE (α:=Nat) (fun i=>⟨33,[(5,.int .i64 (i:Int)),(4,.int .i64 (kU (t.kids.take i):Int)),(3,.lst 1 t.kl false)],[]⟩) (fun _=>St.none) (fun i=>i≤t.kids.length) (fun i=>t.kids.length - i) (.of (.less ?_ (St.le_refl _)) ⟨0,rfl,rfl,Nat.zero_le _⟩) ?_
  ·exact wW
  ·intro i hi
   have hi:i≤t.kids.length:=hi
   by_cases hlt:i<t.kids.length
   ·have hm:=fR (T.leaf nd0) hlt
    have hko:=Vc h hm
    have hks:=MK hm
    have hke:iT (t.kids.getD i (.leaf nd0)).fl 0=((t.kids.getD i (.leaf nd0)).fl.length:Int):=by
     have:=KM hko [] []
     simpa using this
    have hd:=ih _ hko hke oM oM false
    have hdl:=T.pI (t.kids.getD i (.leaf nd0))
    have hsn:kU (t.kids.take (i+1))=max (kU (t.kids.take i)) (t.kids.getD i (.leaf nd0)).depth:=by
     rw[List.take_succ_eq_append_getElem hlt,←bP (.leaf nd0) hlt,C9]
    repeat' (first|(with_reducible first|refine up hd ?_)|(with_reducible first|(refine wN fun _ hnl=>?_;revert hnl;(repeat refine wS fun _ _=>?_);intro hnl)|refine wE ?_|(refine wK ?_ ?_<;>intro h)|(refine wB ?_ ?_<;>intro h<;>simp only[h]))|simp(maxSteps:=4000000) (disch:=first|decide|assumption|omega|(simp only[wL];omega)) only[go_sem,simprocAttr,bN (T.leaf nd0)])
    refine .of (.less (l1:=[(5,.int .i64 ((i+1:Nat):Int)),(4,.int .i64 (kU (t.kids.take (i+1)):Int)),(3,.lst 1 t.kl false)]) ?_ (St.le_refl _)) ⟨i+1,rfl,rfl,by omega,by omega⟩
    rw[hsn]
    simp(maxSteps:=4000000) (disch:=first|decide|assumption|omega|(simp only[wL];omega)) only[go_sem,simprocAttr,bC,aS]
    all_goals omega
   ·have:i=t.kids.length:=by omega
    subst this
    have hdk:=t.Iw
    have hdl:=t.pI
    rw[List.take_length]
    repeat' first|refine wZ0 ?_|fail
    all_goals (first|rfl|(congr 1;omega)|omega)
theorem Hk(l:List ND)(hl:l.length≤1000)(tt:Bool):aA Tryz.prog 59 [.lst 5 (l.map ND.c) tt] St.none (fun r _=>r=.int .i64 (iW l:Int)):=by
 by_cases h:l=[]∨iT l 0≠l.length
 ·have e:iW l=0:=by unfold iW;rw[if_pos h]
  rw[e]
  refine(mB 33 [.tmp 2] Tryz.func59 ?_)
  have hend:=rD l oM tt 0
  rcases h with rfl|h
  ·repeat' first|(with_reducible first|refine up hend ?_)|refine wZ1 @Tryz.f59.eq_1 ?_|exact wC1 @Tryz.f59.eq_1|fail
   all_goals rfl
  ·repeat' first|(with_reducible first|refine up hend ?_)|(refine wY ?_ ?_<;>intro h)|refine wZ1 @Tryz.f59.eq_1 ?_|exact wC1 @Tryz.f59.eq_1|fail
   all_goals rfl
 ·have h2:iT l 0=l.length:=Classical.not_not.1 fun h3=>h (.inr h3)
  obtain⟨t,ht,rfl⟩:=parse h2
  rw[Ix ht h2]
  exact Hl _ t ht h2 hl (Nat.le_refl _) tt
theorem El(l:List ND)(tt:Bool):aA Tryz.prog 11 [.lst 5 (l.map ND.c) tt] St.none (fun r _=>r=.int .i64 (bS l)):=by
 refine(mB 32 [.tmp 2] Tryz.func11 ?_)
 unfold bS
 by_cases h31:31<l.length
 ·rw[if_pos h31]
  repeat' first|refine wZ1 @Tryz.f11.eq_1 ?_|exact wC1 @Tryz.f11.eq_1|fail
  all_goals rfl
 ·rw[if_neg h31]
  have hend:=rD l oM tt 0
  have hd:=Hk l oM tt
  repeat' first|refine wZ1 @Tryz.f11.eq_1 ?_|fail
  refine aE (α:=Nat) (fun i=>⟨32,[(3,.int .i64 (i:Int)),(0,.lst 5 (l.map ND.c) tt)],[]⟩) (fun _=>St.none) (fun i=>i≤l.length∧(l.take i).all fP=true) (fun i=>l.length - i) (.of (.less ?_ (St.le_refl _)) ⟨0,rfl,rfl,Nat.zero_le _,rfl⟩) ?_
  ·exact wW
  ·rintro i ⟨hi,hq⟩
   by_cases hlt:i<l.length
   ·have hn:=Kg (l.getD i nd0)
    cases hok:fP (l.getD i nd0)<;>rw[hok] at hn
    ·repeat' (first|(with_reducible first|refine up hn ?_)|(with_reducible first|(refine wN fun _ hnl=>?_;revert hnl;(repeat refine wS fun _ _=>?_);intro hnl)|refine wE ?_|(refine wK ?_ ?_<;>intro h)|(refine wB ?_ ?_<;>intro h<;>simp only[h]))|simp(maxSteps:=4000000) (disch:=first|decide|assumption|omega|(simp only[wL];omega)) only[go_sem,simprocAttr,bN nd0])
     rw[if_pos]
     refine .inr (.inr ?_)
     cases hb:l.all fP
     ·rfl
     ·have:=List.all_eq_true.1 hb _ (fR nd0 hlt)
      rw[hok] at this;cases this
    ·repeat' (first|(with_reducible first|refine up hn ?_)|(with_reducible first|(refine wN fun _ hnl=>?_;revert hnl;(repeat refine wS fun _ _=>?_);intro hnl)|refine wE ?_|(refine wK ?_ ?_<;>intro h)|(refine wB ?_ ?_<;>intro h<;>simp only[h]))|simp(maxSteps:=4000000) (disch:=first|decide|assumption|omega|(simp only[wL];omega)) only[go_sem,simprocAttr,bN nd0])
     refine .of (.less ?_ (St.le_refl _)) ⟨i+1,rfl,rfl,⟨by omega,by rw[Bf hlt,hq,←bP nd0 hlt,hok];rfl⟩,by omega⟩
     exact wW
   ·have:i=l.length:=by omega
    subst this
    rw[List.take_length] at hq
    rw[hq]
    by_cases he:l=[]∨iT l 0≠l.length
    ·rw[if_pos (by rcases he with h|h;exact .inl h;exact .inr (.inl h))]
     rcases he with rfl|he
     ·repeat' first|(with_reducible first|refine up hend ?_)|refine wZ0 ?_|exact wC0|fail
      all_goals rfl
     ·repeat' first|(with_reducible first|refine up hend ?_)|(refine wY ?_ ?_<;>intro h)|refine wZ0 ?_|exact wC0|fail
      all_goals rfl
    ·have he1:0<l.length:=by
      cases l with
      | nil=>exact absurd (.inl rfl) he
      | cons x l=>simp
     have he2:iT l 0=l.length:=Classical.not_not.1 fun h3=>he (.inr h3)
     rw[he2] at hend
     rw[if_neg (by rintro(h|h|h);exact he (.inl h);exact he (.inr h);cases h)]
     repeat' first|(with_reducible first|refine up hend ?_|refine up hd ?_)|(refine wY ?_ ?_<;>intro h)|refine wZ0 ?_|exact wC0|fail
     all_goals (try simp only[Classical.not_not] at *)
     all_goals (first|(simp[*];done)|(simp only[];(repeat' split)<;>(first|(simp_all;done)|omega|(exfalso;omega)))|skip)
     all_goals (first|(rw[if_pos oM];done)|(rw[if_neg oM];done))
end
end Go.Proofs.YtppdgejjmhdjhaaGreatDoor
