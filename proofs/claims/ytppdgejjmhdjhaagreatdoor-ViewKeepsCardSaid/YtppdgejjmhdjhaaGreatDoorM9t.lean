/- Parts of the proof; conditions: as its theorems name them. -/
import Derived.Test.YtppdgejjmhdjhaaGreatDoorM9r
import Derived.Test.YtppdgejjmhdjhaaGreatDoorM9s
import Derived.Test.YtppdgejjmhdjhaaGreatDoorRows
import Derived.Lib.Overlaps
set_option linter.unusedVariables false
set_option linter.unusedSimpArgs false
set_option maxHeartbeats 8000000
set_option maxRecDepth 100000
namespace Go.Proofs.YtppdgejjmhdjhaaGreatDoor
section
def oD(l:List ND):Bool:=decide (100<l.length) || l.any fun x=>decide (200<x.v.s.size)
theorem Hy(l:List ND)(tt:Bool):aA Tryz.prog 41 [.lst 5 (l.map ND.c) tt] St.none (fun r _=>r=.bool (oD l)):=by
 refine(mB 21 [.tmp 2] Tryz.func41 ?_)
 by_cases h100:100<l.length
 ·have e:oD l=true:=by simp[oD,h100]
  rw[e]
  repeat' first|refine wZ1 @Tryz.f41.eq_1 ?_|exact wC1 @Tryz.f41.eq_1|fail
 ·have e:oD l=l.any fun x=>decide (200<x.v.s.size):=by simp[oD,h100]
  rw[e]
  repeat' first|refine wZ1 @Tryz.f41.eq_1 ?_|fail
  refine aE (α:=Nat) (fun i=>⟨21,[(3,.int .i64 (i:Int)),(0,.lst 5 (l.map ND.c) tt)],[]⟩)
   (fun _=>St.none) (fun i=>i≤l.length∧(l.take i).any (fun x=>decide (200<x.v.s.size))=false) (fun i=>l.length - i) (.of (.less ?_ (St.le_refl _)) ⟨0,rfl,rfl,Nat.zero_le _,rfl⟩) ?_
  ·exact wW
  ·rintro i ⟨hi,hq⟩
   by_cases hlt:i<l.length
   ·by_cases hb:200<(l.getD i nd0).v.s.size
    ·have ea:(l.any fun x=>decide (200<x.v.s.size))=true:=List.any_eq_true.2 ⟨_,fR nd0 hlt,by simpa using hb⟩
     rw[ea]
     repeat' (first|(with_reducible first|(refine wN fun _ hnl=>?_;revert hnl;(repeat refine wS fun _ _=>?_);intro hnl)|refine wE ?_|(refine wK ?_ ?_<;>intro h)|(refine wB ?_ ?_<;>intro h<;>simp only[h]))|simp(maxSteps:=4000000) (disch:=first|exact ddL|fail) only[go_sem,simprocAttr,bN nd0])
    ·repeat' (first|(with_reducible first|(refine wN fun _ hnl=>?_;revert hnl;(repeat refine wS fun _ _=>?_);intro hnl)|refine wE ?_|(refine wK ?_ ?_<;>intro h)|(refine wB ?_ ?_<;>intro h<;>simp only[h]))|simp(maxSteps:=4000000) (disch:=first|exact ddL|fail) only[go_sem,simprocAttr,bN nd0])
     refine .of (.less ?_ (St.le_refl _)) ⟨i+1,rfl,rfl,⟨by omega,?_⟩,by omega⟩
     ·exact wW
     ·rw[rL hlt,hq,←bP nd0 hlt]
      simpa using hb
   ·have hie:i=l.length:=by omega
    subst hie
    rw[List.take_length] at hq
    rw[hq]
    repeat' first|refine wZ0 ?_|exact wC0|fail
def pS(f:F8):Bool:=(List.range 8).any fun i=>decide (200<(f.get i).s.size)
theorem D8(f:F8):aA Tryz.prog 106 [.agg (fc f)] St.none (fun r _=>r=.bool (pS f)):=by
 refine aA.bR (aA.body 14 [.tmp 2] Tryz.func106 rfl rfl rfl rfl ?_)
 repeat' (first|(with_reducible first|(refine wT ?_;(first|((fail_if_success (have:=nl1));refine wN fun nl1 hnl=>?_)|refine wN fun _ hnl=>?_);revert hnl;(repeat refine wS fun _ _=>?_);intro hnl)|refine wE ?_|(refine wK ?_ ?_<;>intro h)|(refine wB ?_ ?_<;>intro h<;>simp only[h]))|simp(maxSteps:=4000000) (disch:=first|exact ddL|fail) only[go_sem,simprocAttr,Tryz.f106,FXs])
 refine aE (α:=Nat) (fun i=>⟨14,[(3,.int .i64 (i:Int)),(1,.ptr nl1 0 0)],[]⟩)
  (fun _=>St.none.set nl1 (.row 55 24 [fc f])) (fun i=>i≤8∧(List.range i).any (fun i=>decide (200<(f.get i).s.size))=false) (fun i=>8 - i) (.of (.less ?_ (St.le_refl _)) ⟨0,rfl,rfl,Nat.zero_le _,rfl⟩) ?_
 ·simp(maxSteps:=4000000) (disch:=first|exact ddL|fail) only[go_sem,simprocAttr,bC,aS]
  all_goals rfl
 ·rintro i ⟨hi,hq⟩
  by_cases hlt:i<8
  ·have hg:=fun d=>Dh (f:=f) (d:=d) hlt
   obtain⟨v,hv⟩:∃v,f.get i=v:=⟨_,rfl⟩
   rw[hv] at hg
   by_cases hb:200<v.s.size
   ·have e:pS f=true:=List.any_eq_true.2 ⟨i,List.mem_range.2 hlt,by rw[hv];exact decide_eq_true hb⟩
    rw[e]
    repeat' (first|(with_reducible first|(refine wT ?_;(first|((fail_if_success (have:=nl1));refine wN fun nl1 hnl=>?_)|refine wN fun _ hnl=>?_);revert hnl;(repeat refine wS fun _ _=>?_);intro hnl)|refine wE ?_|(refine wK ?_ ?_<;>intro h)|(refine wB ?_ ?_<;>intro h<;>simp only[h]))|simp(maxSteps:=4000000) (disch:=first|exact ddL|fail) only[go_sem,simprocAttr,FXs,hg])
    all_goals first|exact⟨_,St.le_refl _,rfl⟩|exact⟨_,St.le_refl _⟩|(exfalso;omega)
   ·repeat' (first|(with_reducible first|(refine wT ?_;(first|((fail_if_success (have:=nl1));refine wN fun nl1 hnl=>?_)|refine wN fun _ hnl=>?_);revert hnl;(repeat refine wS fun _ _=>?_);intro hnl)|refine wE ?_|(refine wK ?_ ?_<;>intro h)|(refine wB ?_ ?_<;>intro h<;>simp only[h]))|simp(maxSteps:=4000000) (disch:=first|exact ddL|fail) only[go_sem,simprocAttr,FXs,hg])
    all_goals (try (exfalso;omega))
    refine .of (.less ?_ (St.le_refl _)) ⟨i+1,rfl,rfl,⟨by omega,?_⟩,by omega⟩
    ·simp(maxSteps:=4000000) (disch:=first|exact ddL|fail) only[go_sem,simprocAttr,bC,aS]
     all_goals rfl
    ·rw[List.range_succ,List.any_append,hq,List.any_cons,List.any_nil,hv,decide_eq_false hb];rfl
  ·have hie:i=8:=by omega
   subst hie
   have e:pS f=false:=hq
   rw[e]
   repeat' (first|(with_reducible first|(refine wT ?_;(first|((fail_if_success (have:=nl1));refine wN fun nl1 hnl=>?_)|refine wN fun _ hnl=>?_);revert hnl;(repeat refine wS fun _ _=>?_);intro hnl)|refine wE ?_|(refine wK ?_ ?_<;>intro h)|(refine wB ?_ ?_<;>intro h<;>simp only[h]))|simp(maxSteps:=4000000) (disch:=first|exact ddL|fail) only[go_sem,simprocAttr])
   all_goals first|exact⟨_,St.le_refl _,rfl⟩|exact⟨_,St.le_refl _⟩
end

section
open Go.ChangeShapes Go.WideShapes Go.RowKit
def yJ(cs:List MV):List (Nat × Nat)→List MV
 | []=>[]
 | p::r=>(cs.drop p.1).take p.2++yJ cs r
def zL(o n:Nat):List (Nat × Nat)→Bool
 | []=>o==n
 | p::r=>p.1==o&&zL (o+p.2) n r
theorem HE{cs:List MV}:∀(l:List (Nat × Nat)) (o:Nat),zL o cs.length l=true→yJ cs l=cs.drop o
 | [],o,h=>by
  simp only[zL,beq_iff_eq] at h
  rw[yJ,h,List.drop_length]
 | p::r,o,h=>by
  simp only[zL,Bool.and_eq_true,beq_iff_eq] at h
  rw[yJ,HE r _ h.2,h.1,←List.drop_drop,List.take_append_drop]
theorem oT{cs:List MV}{n:Nat}(hn:cs.length=n)(l:List (Nat × Nat))(h:zL 0 n l=true):cs=yJ cs l:=by
 have:=HE (cs:=cs) l 0 (by rw[hn];exact h)
 rw[this,List.drop_zero]
theorem i64_in{v:Int}(h0:IntKind.i64.min≤v)(h1:v≤IntKind.i64.max):VY v:=by
 have e0:IntKind.i64.min = -9223372036854775808:=by decide
 have e1:IntKind.i64.max=9223372036854775807:=by decide
 rw[e0] at h0
 rw[e1] at h1
 exact⟨h0,h1⟩
theorem Aw{n:Nat}{x:List MV}(h:CT Tryz.prog (n+1) 3 x):∃v,x=[.int .i64 v]∧VY v:=by
 obtain⟨v,h0,h1,h2⟩:=Pf (by rw[td3]) h
 exact⟨v,h0,i64_in h1 h2⟩
theorem Vu{n:Nat}{x:List MV}(h:CT Tryz.prog (n+1) 23 x):∃u:UInt32,x=[.int .u32 (u.toNat:Int)]:=by
 obtain⟨v,h0,h1,h2⟩:=Pf (by rw[Kr]) h
 have e0:IntKind.u32.min=0:=by decide
 have e1:IntKind.u32.max=4294967295:=by decide
 rw[e0] at h1
 rw[e1] at h2
 exact⟨UInt32.ofNat v.toNat,by rw[h0,Ui h1 oM]⟩
theorem DW{n:Nat}{x:List MV}(h:CT Tryz.prog (n+2) 54 x):∃a:VA,x=a.c:=by
 obtain⟨hl,hf⟩:=lF (congrArg TD.k A6) h
 rw[A6] at hl
 obtain⟨a,ha,_⟩:=Aw (hf (0,3) (by simp))
 obtain⟨b,hb,_⟩:=Aw (hf (1,3) (by simp))
 obtain⟨s,hs,_⟩:=UQ (by rw[td9]) (hf (2,9) (by simp))
 simp only[td3,td9] at ha hb hs
 refine⟨⟨a,b,s⟩,?_⟩
 rw[oT hl [(0,1),(1,1),(2,1)] rfl]
 simp only[yJ,ha,hb,hs]
 rfl
theorem Wx{n:Nat}{x:List MV}(h:CT Tryz.prog (n+3) 121 x):∃a:ND,x=a.c:=by
 obtain⟨hl,hf⟩:=lF (congrArg TD.k LJ) h
 rw[LJ] at hl
 obtain⟨a,ha,_⟩:=Aw (hf (0,3) (by simp))
 obtain⟨b,hb,_⟩:=Aw (hf (1,3) (by simp))
 obtain⟨v,hv⟩:=DW (hf (2,54) (by simp))
 simp only[td3,A6] at ha hb hv
 refine⟨⟨a,b,v⟩,?_⟩
 rw[oT hl [(0,1),(1,1),(2,3)] rfl]
 simp only[yJ,ha,hb,hv]
 rfl
theorem Vs{n:Nat}{x:List MV}(h:CT Tryz.prog (n+4) 22 x):∃l:List ND,x=[.lst 5 (l.map ND.c) false]:=by
 obtain⟨xs,hm,_,hx⟩:=E0 (by rw[VG]) h
 obtain⟨l,rfl⟩:=FG fun x hx'=>Wx (hx x hx')
 rw[LJ] at hm
 exact⟨l,hm⟩
theorem Wy{n:Nat}{x:List MV}(h:CT Tryz.prog (n+3) 55 x):∃f:F8,x=fc f:=by
 obtain⟨hl,ha⟩:=Pe (congrArg TD.k Ks) h
 rw[Ks] at hl
 rw[A6] at ha
 simp only at hl ha
 obtain⟨a0,h0⟩:=DW (ha 0 (by decide))
 obtain⟨a1,h1⟩:=DW (ha 1 (by decide))
 obtain⟨a2,h2⟩:=DW (ha 2 (by decide))
 obtain⟨a3,h3⟩:=DW (ha 3 (by decide))
 obtain⟨a4,h4⟩:=DW (ha 4 (by decide))
 obtain⟨a5,h5⟩:=DW (ha 5 (by decide))
 obtain⟨a6,h6⟩:=DW (ha 6 (by decide))
 obtain⟨a7,h7⟩:=DW (ha 7 (by decide))
 refine⟨⟨[a0,a1,a2,a3,a4,a5,a6,a7],rfl⟩,?_⟩
 rw[oT hl [(0 * 3,3),(1 * 3,3),(2 * 3,3),(3 * 3,3),(4 * 3,3),(5 * 3,3),(6 * 3,3),(7 * 3,3)] rfl]
 simp only[yJ,h0,h1,h2,h3,h4,h5,h6,h7]
 rfl
theorem Vt{n:Nat}{x:List MV}(h:CT Tryz.prog (n+4) 57 x):∃p:PA,x=p.c:=by
 obtain⟨hl,hf⟩:=lF (congrArg TD.k R9) h
 rw[R9] at hl
 obtain⟨a,ha⟩:=Vu (hf (0,23) (by simp))
 obtain⟨b,hb⟩:=Vu (hf (1,23) (by simp))
 obtain⟨f,hff⟩:=Wy (hf (2,55) (by simp))
 simp only[Kr,Ks] at ha hb hff
 refine⟨⟨a,b,f⟩,?_⟩
 rw[oT hl [(0,1),(1,1),(2,24)] rfl]
 simp only[yJ,ha,hb,hff,List.append_nil]
 rfl
theorem Ww{n:Nat}{x:List MV}(h:CT Tryz.prog (n+5) 59 x):∃e:ED,x=e.c:=by
 obtain⟨hl,hf⟩:=lF (congrArg TD.k Uf) h
 rw[Uf] at hl
 obtain⟨a,ha,_⟩:=Aw (hf (0,3) (by simp))
 obtain⟨b,hb,_⟩:=Aw (hf (1,3) (by simp))
 obtain⟨c,hc,_⟩:=Aw (hf (2,3) (by simp))
 obtain⟨p,hp⟩:=Vt (hf (3,57) (by simp))
 simp only[td3,R9] at ha hb hc hp
 refine⟨⟨a,b,c,p⟩,?_⟩
 rw[oT hl [(0,1),(1,1),(2,1),(3,26)] rfl]
 simp only[yJ,ha,hb,hc,hp,List.append_nil]
 rfl
theorem Xg:ownKnob Tryz.prog.godebug=none:=by kernel_rfl
end

section
def lX(f:F8)(L:List Nat):F8:=L.foldl (fun g i=>g.set i (f.get i)) f80
theorem AE(f:F8)(m:Nat):∀k,kQ f m k=lX f ((List.range k).filter fun i=>bit m i)
 | 0=>rfl
 | k+1=>by
  rw[kQ,AE f m k,List.range_succ,List.filter_append,lX,lX,List.foldl_append]
  by_cases h:bit m k=true
  ·rw[if_pos h];simp[h]
  ·rw[if_neg h];simp[h]
theorem J8(f:F8)(m:Nat):UC f m=lX f (b6 m):=AE f m 8
theorem J6(c:CA)(m:UInt32):aA Tryz.prog 78 [.agg c.c,.int .u32 (m.toNat:Int)] St.none (fun r _=>r=.agg (fL c m).c):=by
 refine aA.bR (mB 34 [.cell 4 126] Tryz.func78 ?_)
 have hml:=sT m
 have hfl:=uJ m
 have hbl:=vF m.toNat
 obtain⟨ml,hm8⟩:∃b,bit m.toNat 8=b:=⟨_,rfl⟩
 rw[hm8] at hml
 have hlab:(fL c m).c=.int .i64 c.id::.int .i64 c.ver::.int .u32 (((if ml=true then c.lab else 0:UInt32).toNat:Nat):Int)::fc (lX c.f (b6 m.toNat)):=by rw[←hm8,←J8];rfl
 rw[hlab]
 clear hm8 hlab
 obtain⟨lb,hlb⟩:∃lb:UInt32,(if ml=true then c.lab else 0)=lb:=⟨_,rfl⟩
 rw[hlb]
 have hlt:∀i,i∈b6 m.toNat→i<8:=fun i=>tH
 obtain⟨L,hL⟩:∃L,b6 m.toNat=L:=⟨_,rfl⟩
 rw[hL] at hfl hbl hlt ⊢
 have hll:(eC L).length=L.length:=List.length_map _
 cases ml
 all_goals simp only[Bool.false_eq_true,if_false,if_true] at hlb
 ·subst hlb
  repeat' first|(with_reducible first|refine up hml ?_|refine up hfl ?_)|(refine wM ?_;(first|(have _:=nl3)|(have _:=nl2;intro nl3)|(have _:=nl1;intro nl2)|(intro nl1));intros)|refine wZ3 @Tryz.f78.eq_1 @FXs @hll ?_|fail
  refine aE (α:=Nat) (fun i=>⟨34,[(21,.int .i64 (i:Int)),(20,.int .i64 (L.length:Int)),(19,.lst 1 (eC L) false),(5,.ptr nl3 0 0),(4,.ptr nl2 0 0),(2,.ptr nl1 0 0)],[]⟩)
   (fun i=>((St.none.set nl1 (.row 126 27 [c.c])).set nl2 (.row 126 27 [ca0.c])).set nl3 (.row 126 27 [.int .i64 c.id::.int .i64 c.ver::.int .u32 ((0:UInt32).toNat:Int)::fc (lX c.f (L.take i))])) (fun i=>i≤L.length) (fun i=>L.length - i) (.of (.less ?_ (St.le_refl _)) ⟨0,rfl,rfl,Nat.zero_le _⟩) ?_
  ·exact wW
  ·intro i hi
   have hi:i≤L.length:=hi
   by_cases hlt':i<L.length
   ·obtain⟨k,hk⟩:=bW L hlt'
    have hat:(eC L).getD i []=[.int .i64 (k:Int)]:=by rw[List.getD_eq_getElem?_getD,List.getElem?_map,hk];rfl
    have hk8:=hlt k (eD hk)
    have hsucc:lX c.f (L.take (i+1))=(lX c.f (L.take i)).set k (c.f.get k):=by rw[aP hk,lX,List.foldl_append];rfl
    obtain⟨g,hg⟩:∃g,lX c.f (L.take i)=g:=⟨_,rfl⟩
    rw[hg] at hsucc ⊢
    repeat' first|refine wZ3 @FXs @hat @hll ?_|fail
    all_goals (try (exfalso;omega))
    all_goals
     refine .of (.less ?_ (St.le_refl _)) ⟨i+1,rfl,by rw[hsucc];first|rfl|skip,(by omega:i+1≤L.length),by omega⟩
     exact wW
   ·have:i=L.length:=by omega
    subst this
    rw[List.take_length]
    repeat' first|refine wZ1 @FXs ?_|fail
    all_goals exact lE
 ·subst hlb
  repeat' first|(with_reducible first|refine up hml ?_|refine up hfl ?_)|(refine wM ?_;(first|(have _:=nl3)|(have _:=nl2;intro nl3)|(have _:=nl1;intro nl2)|(intro nl1));intros)|refine wZ3 @Tryz.f78.eq_1 @FXs @hll ?_|fail
  refine aE (α:=Nat) (fun i=>⟨34,[(21,.int .i64 (i:Int)),(20,.int .i64 (L.length:Int)),(19,.lst 1 (eC L) false),(5,.ptr nl3 0 0),(4,.ptr nl2 0 0),(2,.ptr nl1 0 0)],[]⟩)
   (fun i=>((St.none.set nl1 (.row 126 27 [c.c])).set nl2 (.row 126 27 [ca0.c])).set nl3 (.row 126 27 [.int .i64 c.id::.int .i64 c.ver::.int .u32 (c.lab.toNat:Int)::fc (lX c.f (L.take i))])) (fun i=>i≤L.length) (fun i=>L.length - i) (.of (.less ?_ (St.le_refl _)) ⟨0,rfl,rfl,Nat.zero_le _⟩) ?_
  ·exact wW
  ·intro i hi
   have hi:i≤L.length:=hi
   by_cases hlt':i<L.length
   ·obtain⟨k,hk⟩:=bW L hlt'
    have hat:(eC L).getD i []=[.int .i64 (k:Int)]:=by rw[List.getD_eq_getElem?_getD,List.getElem?_map,hk];rfl
    have hk8:=hlt k (eD hk)
    have hsucc:lX c.f (L.take (i+1))=(lX c.f (L.take i)).set k (c.f.get k):=by rw[aP hk,lX,List.foldl_append];rfl
    obtain⟨g,hg⟩:∃g,lX c.f (L.take i)=g:=⟨_,rfl⟩
    rw[hg] at hsucc ⊢
    repeat' first|refine wZ3 @FXs @hat @hll ?_|fail
    all_goals (try (exfalso;omega))
    all_goals
     refine .of (.less ?_ (St.le_refl _)) ⟨i+1,rfl,by rw[hsucc];first|rfl|skip,(by omega:i+1≤L.length),by omega⟩
     exact wW
   ·have:i=L.length:=by omega
    subst this
    rw[List.take_length]
    repeat' first|refine wZ1 @FXs ?_|fail
    all_goals exact lE
end

section
structure XA (l:List TU) (es:List (MV × MV)):Prop where
 k:(es.all fun p=>isK .i64 p.1)=true
 o:LW es
 g:∀id,dT id es=(fF l id).map fun n=>.int .i64 n
 n:es.length≤l.length
end

section
theorem Cu{P:Program}{id:Nat}{l:List Oper}{f:FR}{σ:St}{Q:MQ}(hm:P.follows .mixedOrders=true)(ds:List (Nat × Nat))(Ds:List Nat)(hds:ds.map (·.1)=Ds)(Rs:List (Nat × Nat))(hchk:r8 ⟨Ds,Rs,none,.no⟩ l.toArray=true)(C:cC)
 (h1:∀p,p∈ds→∃i o,f.get p.1=.ptr p.2 i o)(h2:(ds.map (·.2)).Pairwise (·≠·))(h3:Ds.Pairwise (·≠·))(h4:∀p,p∈Rs→p.2∈Ds∧∀l i o,f.get p.1=.ptr l i o→l=Ab ds p.2)
 (h:R (kG P C (@OfNat.ofNat (Array Oper) (nat_lit 0) (@_root_.id (OfNat (Array Oper) (nat_lit 0)) (OfNat.mk (l.toArray)))) (Q .normal) (@OfNat.ofNat (List Oper) (nat_lit 0) (@_root_.id (OfNat (List Oper) (nat_lit 0)) (OfNat.mk l))) f σ)):R (rV P id (@OfNat.ofNat (List Oper) (nat_lit 0) (@_root_.id (OfNat (List Oper) (nat_lit 0)) (OfNat.mk l))) f σ Q):=by
 subst hds
 exact vW (C:=C.pl) (X:=⟨ds.map (·.1),Rs,none,.no⟩) (loc:=fun t l=>l=Ab ds t) hm (show oX ⟨ds.map (·.1),Rs,none,.no⟩ (fun t l=>l=Ab ds t) C.pl from⟨C.Lu.u,trivial⟩) hchk (fun _ _ hd _ _ _ h=>yQ hd h) (DOk.of h1 h2 h3 h4) h
def tu0:TU:=⟨0,0,0,0,ca0⟩
def gE(seq old id:Int)(c:CA)(is:Bool):TU:=⟨seq,id,old,if is=true then c.ver else 0,if is=true then c else ca0⟩
theorem Ea(seq old id:Int)(c:CA)(is:Bool):aA Tryz.prog 77 [.int .i64 seq,.int .i64 old,.int .i64 id,.agg c.c,.bool is] St.none (fun r _=>r=.tup [.agg (if old=(gE seq old id c is).new then tu0 else gE seq old id c is).c,.bool (!decide (old=(gE seq old id c is).new))]):=by
 refine aA.bR (mB 30 [.cell 10 128,.tmp 11] Tryz.func77 ?_)
 obtain⟨T,hT⟩:∃T,gE seq old id c is=T:=⟨_,rfl⟩
 have hn:T.new=if is=true then c.ver else 0:=by rw[←hT];rfl
 have hTc:T.c=.int .i64 seq::.int .i64 id::.int .i64 old::.int .i64 (if is=true then c.ver else 0)::(if is=true then c else ca0).c:=by rw[←hT];rfl
 rw[hT]
 cases is
 ·simp only[Bool.false_eq_true,if_false] at hn hTc
  by_cases h:old=0
  ·rw[if_pos (h.trans hn.symm),decide_eq_true (h.trans hn.symm)]
   subst h
   repeat' first|(refine wM ?_;(first|(have _:=nl3)|(have _:=nl2;intro nl3)|(have _:=nl1;intro nl2)|(intro nl1));intros)|refine wZ2 @Tryz.f77.eq_1 @FXs ?_|fail
   all_goals exact lE
  ·rw[if_neg (fun e=>h (e.trans hn)),decide_eq_false (fun e=>h (e.trans hn)),hTc]
   repeat' first|(refine wM ?_;(first|(have _:=nl3)|(have _:=nl2;intro nl3)|(have _:=nl1;intro nl2)|(intro nl1));intros)|refine wZ2 @Tryz.f77.eq_1 @FXs ?_|fail
   all_goals exact lE
 ·simp only[if_true] at hn hTc
  by_cases h:old=c.ver
  ·rw[if_pos (h.trans hn.symm),decide_eq_true (h.trans hn.symm)]
   subst h
   repeat' first|(refine wM ?_;(first|(have _:=nl3)|(have _:=nl2;intro nl3)|(have _:=nl1;intro nl2)|(intro nl1));intros)|refine wZ2 @Tryz.f77.eq_1 @FXs ?_|fail
   have d1:nl3≠nl1:=by assumption
   refine Cu mixed [(8,nl1),(12,nl3)] [8,12] rfl [(18,8),(21,12),(22,12)] dK (fun _ _=>none) ?h1 ?h2 (by decide) ?h4 ?go
   case h1 =>
    intro p hp
    simp only[List.mem_cons,List.not_mem_nil,or_false] at hp
    rcases hp with rfl|rfl
    ·exact⟨0,0,rfl⟩
    ·exact⟨0,0,rfl⟩
   case h2=>simp[Ne.symm d1]
   case h4 =>
    intro p hp
    simp only[List.mem_cons,List.not_mem_nil,or_false] at hp
    rcases hp with rfl|rfl|rfl
    all_goals exact⟨by decide,fun l i o h=>absurd h (by simp[FR.get,cT])⟩
   case go =>
    repeat' first|refine wZ1 @FXs ?_|fail
    all_goals exact lE
  ·rw[if_neg (fun e=>h (e.trans hn)),decide_eq_false (fun e=>h (e.trans hn)),hTc]
   repeat' first|(refine wM ?_;(first|(have _:=nl3)|(have _:=nl2;intro nl3)|(have _:=nl1;intro nl2)|(intro nl1));intros)|refine wZ2 @Tryz.f77.eq_1 @FXs ?_|fail
   have d1:nl3≠nl1:=by assumption
   refine Cu mixed [(8,nl1),(12,nl3)] [8,12] rfl [(18,8),(21,12),(22,12)] dK (fun _ _=>none) ?h1 ?h2 (by decide) ?h4 ?go
   case h1 =>
    intro p hp
    simp only[List.mem_cons,List.not_mem_nil,or_false] at hp
    rcases hp with rfl|rfl
    ·exact⟨0,0,rfl⟩
    ·exact⟨0,0,rfl⟩
   case h2=>simp[Ne.symm d1]
   case h4 =>
    intro p hp
    simp only[List.mem_cons,List.not_mem_nil,or_false] at hp
    rcases hp with rfl|rfl|rfl
    all_goals exact⟨by decide,fun l i o h=>absurd h (by simp[FR.get,cT])⟩
   case go =>
    repeat' first|refine wZ1 @FXs ?_|fail
    all_goals exact lE
end

section
def dA:Int→List Int→List (List MV)
 | _,[]=>[]
 | s,i::r=>[.int .i64 (s+1),.int .i64 i]::dA (s+1) r
theorem pE:∀(s:Int) (l:List Int),(dA s l).length=l.length
 | _,[]=>rfl
 | s,i::r=>by simp[dA,pE]
theorem qP:∀(s:Int) (l:List Int) (x:Int),dA s (l++[x])=dA s l++[[.int .i64 (s+l.length+1),.int .i64 x]]
 | s,[],x=>by simp[dA]
 | s,i::r,x=>by
  simp only[List.cons_append,dA,qP (s+1) r x,List.length_cons]
  have:s+1+(r.length:Int)+1=s+((r.length+1:Nat):Int)+1:=by omega
  rw[this]
theorem qA{sq:Int}(l:Nat)(g:MV){b p:Nat}(hbp:b≠p)(ids:List Int)(h0:0≤sq)(h1:sq≤1099511627776)(hl:ids.length≤1000000) :
  aA Tryz.prog 143 [.ptr b 0 0,.vec 1 p 0 ids.length] ((St.none.set p (.row 3 1 (ids.map aM))).set b (bG sq l g)) (fun v σ'=>v=.lst 2 (dA sq ids) false∧σ'=St.none.set b (bG (sq+ids.length) l g)):=by
 refine aA.CR (mB 32 [.tmp 4] Tryz.func143 ?_)
 have hpb:=Ne.symm hbp
 repeat' first|refine wZ1 @Tryz.f143.eq_1 ?_|fail
 refine aE (α:=Nat × Nat × List (List MV)) (fun z=>⟨32,[(10,.int .i64 (z.1:Int)),(9,.int .i64 (ids.length:Int)),(8,.vec 1 p 0 ids.length),(5,.vec 2 z.2.1 0 z.1),(0,.ptr b 0 0)],[]⟩)
  (fun z=>((St.none.set p (.row 3 1 (ids.map aM))).set b (bG (sq+z.1) l g)).set z.2.1 (.row 73 2 (dA sq (ids.take z.1)++z.2.2))) (fun z=>z.1≤ids.length∧z.2.1≠p∧z.2.1≠b) (fun z=>ids.length - z.1) ?_ ?_
 ·refine Gh.AO 73 2 (fun r=>[(10,.int .i64 0),(9,.int .i64 (ids.length:Int)),(8,.vec 1 p 0 ids.length),(5,.vec 2 r 0 0),(0,.ptr b 0 0)]) (fun k=>by(repeat' (refine And.intro ?_ ?_))<;>first|exact trivial|exact .inl rfl|exact .inr ⟨rfl,.inl rfl⟩|exact .inr ⟨rfl,.inr rfl⟩) fun r hr=>?_
  simp only[aU] at hr
  obtain⟨r1,r2,-⟩:=hr
  exact .done ⟨(0,r,[]),rfl,by simp[dA],Nat.zero_le _,by assumption,by assumption⟩
 ·rintro⟨i,r,xx⟩ ⟨hi,r1,r2⟩
  simp only at hi r1 r2 ⊢
  have r1':=Ne.symm r1
  have r2':=Ne.symm r2
  by_cases hlt:i<ids.length
  ·obtain⟨x,hx⟩:=bW ids hlt
   have hat:=bF (f:=aM) hx
   have hml:(ids.map aM).length=ids.length:=List.length_map _
   have htk:=aP hx
   have hLl:(ids.take i).length=i:=by rw[List.length_take];omega
   obtain⟨L,hL⟩:∃L,ids.take i=L:=⟨_,rfl⟩
   rw[hL] at htk hLl ⊢
   have hsn:=qP sq L x
   rw[hLl] at hsn
   have hcl:=pE sq L
   rw[hLl] at hcl
   obtain⟨Q,hQ⟩:∃Q,dA sq L=Q:=⟨_,rfl⟩
   rw[hQ] at hsn hcl ⊢
   have hdr:(Q++xx).drop (i+1)=xx.drop 1:=by rw[←hcl,←List.drop_drop,List.drop_left]
   have htk':(Q++xx).take i=Q:=List.take_left' hcl
   have hq1:sq+((i+1:Nat):Int)=sq+(i:Int)+1:=by omega
   repeat' first|(refine wM ?_;(first|(have _:=nl2)|(have _:=nl1;intro nl2)|(intro nl1));intros)|(refine wY ?_ ?_<;>intro h)|refine wZ5 @hat @hml @hcl @htk' @hdr ?_|fail
   all_goals (try (exfalso;omega))
   all_goals
    clear hat htk' hdr
    have p1:nl2≠p:=by assumption
    have p2:nl2≠b:=by assumption
   ·have hex:xx=[]:=List.eq_nil_of_length_eq_zero oM
    subst hex
    clear h
    refine .of (.less ?_ ?_) ⟨(i+1,nl2,[]),rfl,rfl,⟨by simp only;omega,p1,p2⟩,by simp only;omega⟩
    ·exact wW
    ·simp only[htk,hsn,hq1]
     exact St.aB (St.aB (St.aB (St.none_le _) sS) sS) sS
   ·clear h
    refine .of (.less ?_ ?_) ⟨(i+1,nl2,xx.drop 1),rfl,rfl,⟨by simp only;omega,p1,p2⟩,by simp only;omega⟩
    ·exact wW
    ·simp only[htk,hsn,hq1]
     exact St.aB (St.aB (St.aB (St.none_le _) sS) sS) sS
  ·have:i=ids.length:=by omega
   subst this
   rw[List.take_length]
   repeat' first|refine wZ0 ?_|fail
   all_goals
    exact⟨St.none.set r (.row 73 2 (dA sq ids++xx)),St.aB (St.none_le _) sS,St.aB (St.none_le _) sS,fun k o hk=>(aF _ _ _ _ (fun e=>by subst e;simp[St.set,St.none, *] at hk)).trans rfl,cX (aD _ _ _) (pE _ _).symm⟩
end

section
def Bk(a b:Int):Int:=if a<b then -1 else if b<a then 1 else 0
theorem JJ(a b:Int):aA Tryz.prog 268 [.int .i64 a,.int .i64 b] St.none (fun r _=>r=.int .i64 (Bk a b)):=by
 refine(mB 20 [.tmp 4] Tryz.func268 ?_)
 have h1:=mK a
 have h2:=mK b
 rcases Int.lt_trichotomy a b with h|h|h
 ·rw[show Bk a b = -1 from if_pos h]
  repeat' first|(with_reducible first|refine up h1 ?_|refine up h2 ?_)|refine wZ1 @Tryz.f268.eq_1 ?_|exact wC1 @Tryz.f268.eq_1|fail
  all_goals (try (exfalso;omega))
 ·rw[show Bk a b=0 from(if_neg oM).trans (if_neg oM)]
  repeat' first|(with_reducible first|refine up h1 ?_|refine up h2 ?_)|refine wZ1 @Tryz.f268.eq_1 ?_|exact wC1 @Tryz.f268.eq_1|fail
  all_goals (try (exfalso;omega))
 ·rw[show Bk a b=1 from(if_neg oM).trans (if_pos h)]
  repeat' first|(with_reducible first|refine up h1 ?_|refine up h2 ?_)|refine wZ1 @Tryz.f268.eq_1 ?_|exact wC1 @Tryz.f268.eq_1|fail
  all_goals (try (exfalso;omega))
theorem xL(x:GR)(g:Int):aA Tryz.prog 267 [.agg x.c,.int .i64 g] St.none (fun r _=>r=.int .i64 (Bk x.no g)):=by
 refine aA.bR (mB 9 [.tmp 4] Tryz.func267 ?_)
 have h:=JJ x.no g
 repeat' first|(with_reducible first|refine up h ?_)|(refine wO ?_;intros)|refine wZ1 @Tryz.f267.eq_1 ?_|fail
 all_goals exact lE
theorem TT(l:List GR){m:Nat}{x:GR}(h:l[m]?=some x):(l.map GR.no).getD m 0=x.no:=by
 rw[List.getD_eq_getElem?_getD,List.getElem?_map,h];rfl
theorem N5(l:List GR)(hl:l.length≤1000000)(hu:UpI (l.map GR.no))(g:Int)(t:Bool):aA Tryz.prog 266 [.lst 2 (l.map GR.c) t,.int .i64 g,.fn (.func 267) [] []] St.none (fun r _=>r=.tup [.int .i64 (aQ (l.map GR.no) g:Int),.bool (decide (g∈l.map GR.no))]):=by
 refine(mB 49 [.tmp 6,.tmp 7] Tryz.func266 ?_)
 have hnl:(l.map GR.no).length=l.length:=List.length_map _
 obtain⟨N,hN⟩:∃N,l.map GR.no=N:=⟨_,rfl⟩
 rw[hN] at hnl hu ⊢
 have hgd:∀{m:Nat} {x:GR},l[m]?=some x→N.getD m 0=x.no:=fun h=>hN ▸ TT l h
 repeat' first|refine wZ1 @Tryz.f266.eq_1 ?_|fail
 refine aE (α:=Nat × Nat) (fun a=>⟨49,[(9,.int .i64 (a.1:Int)),(10,.int .i64 (a.2:Int)),(8,.int .i64 (l.length:Int)),(2,.fn (.func 267) [] []),(1,.int .i64 g),(0,.lst 2 (l.map GR.c) t)],[]⟩)
  (fun _=>St.none) (fun a=>a.1≤a.2∧a.2≤l.length∧(∀q,q<a.1→N.getD q 0<g)∧(∀q,a.2≤q→q<N.length→¬N.getD q 0<g)) (fun a=>a.2 - a.1) (.of (.less ?_ (St.le_refl _)) ⟨(0,l.length),rfl,rfl,by simp;omega⟩) ?_
 ·simp(maxSteps:=4000000) (disch:=first|decide|assumption|omega|(simp only[wL];omega)) only[go_sem,simprocAttr,bC,aS]
  all_goals first|rfl|omega|simp
 ·rintro⟨i,j⟩ ⟨h1,h2,h3,h4⟩
  simp only at h1 h2 h3 h4 ⊢
  by_cases hij:i<j
  ·have hh:=half i j
   have hm1:i≤(i+j) / 2:=by omega
   have hm2:(i+j) / 2<j:=by omega
   obtain⟨m,hm⟩:∃m,(i+j) / 2=m:=⟨_,rfl⟩
   rw[hm] at hh hm1 hm2
   have hml:m<l.length:=by omega
   obtain⟨x,hx⟩:=bW l hml
   have hat:=bF (f:=GR.c) hx
   have hno:=hgd hx
   have hup:∀a b,a<b→b<N.length→N.getD a 0<N.getD b 0:=fun a b hab hb=>by
    have:=List.pairwise_iff_getElem.1 hu a b oM hb hab
    rw[List.getD_eq_getElem?_getD,List.getD_eq_getElem?_getD,List.getElem?_eq_getElem (by omega:a<N.length),List.getElem?_eq_getElem hb]
    exact this
   have hord:=xL x g
   obtain⟨k,hk⟩:∃k,Bk x.no g=k:=⟨_,rfl⟩
   rw[hk] at hord
   by_cases hless:x.no<g
   ·have hnew:∀q,q<m+1→N.getD q 0<g:=fun q hq=>by
     rcases Nat.lt_or_ge q m with hlt|hge
     ·have:=hup q m hlt oM;omega
     ·have:q=m:=by omega
      rw[this,hno];exact hless
    have hkn:k<0:=by rw[←hk,show Bk x.no g = -1 from if_pos hless];omega
    clear hk hless
    repeat' first|(with_reducible first|refine up hord ?_)|refine wZ2 @hat @hh ?_|fail
    all_goals (try (exfalso;omega))
    refine .of (.less (l1:=[(9,.int .i64 ((m+1:Nat):Int)),(10,.int .i64 (j:Int)),(8,.int .i64 (l.length:Int)),(2,.fn (.func 267) [] []),(1,.int .i64 g),(0,.lst 2 (l.map GR.c) t)]) ?_ (St.le_refl _)) ⟨(m+1,j),rfl,rfl,⟨by simp only;omega,h2,hnew,h4⟩,by simp only;omega⟩
    simp(maxSteps:=4000000) (disch:=first|decide|assumption|omega|(simp only[wL];omega)) only[go_sem,simprocAttr,bC,aS]
    all_goals first|rfl|omega|(simp;done)
   ·have hnew:∀q,m≤q→q<N.length→¬N.getD q 0<g:=fun q hq hql=>by
     rcases Nat.lt_or_ge m q with hlt|hge
     ·have:=hup m q hlt hql;omega
     ·have:q=m:=by omega
      rw[this,hno];exact hless
    have hkn:¬k<0:=by
     rw[←hk];unfold Bk;rw[if_neg hless];split<;>omega
    clear hk hless
    repeat' first|(with_reducible first|refine up hord ?_)|refine wZ2 @hat @hh ?_|fail
    all_goals (try (exfalso;omega))
    refine .of (.less (l1:=[(9,.int .i64 (i:Int)),(10,.int .i64 (m:Int)),(8,.int .i64 (l.length:Int)),(2,.fn (.func 267) [] []),(1,.int .i64 g),(0,.lst 2 (l.map GR.c) t)]) ?_ (St.le_refl _)) ⟨(i,m),rfl,rfl,⟨hm1,by simp only;omega,h3,hnew⟩,by simp only;omega⟩
    simp(maxSteps:=4000000) (disch:=first|decide|assumption|omega|(simp only[wL];omega)) only[go_sem,simprocAttr,bC,aS]
    all_goals first|rfl|omega|(simp;done)
  ·have:i=j:=by omega
   subst this
   have hp:=Cf hu h3 h4
   rw[ER oM h3 h4]
   by_cases hil:i<l.length
   ·obtain⟨x,hx⟩:=bW l hil
    have hat:=bF (f:=GR.c) hx
    have hno:=hgd hx
    have hord:=xL x g
    have hge:=h4 i (Nat.le_refl _) oM
    rw[hno] at hge
    rw[hno] at hp
    by_cases he:x.no=g
    ·rw[decide_eq_true (hp.2 ⟨by omega,he⟩)]
     rw[show Bk x.no g=0 from(if_neg oM).trans (if_neg oM)] at hord
     repeat' first|(with_reducible first|refine up hord ?_)|refine wZ1 @hat ?_|exact wC1 @hat|fail
     all_goals (try (exfalso;omega))
     all_goals (first|rfl|(simp;omega))
    ·rw[decide_eq_false fun h=>he (hp.1 h).2]
     rw[show Bk x.no g=1 from(if_neg oM).trans (if_pos oM)] at hord
     repeat' first|(with_reducible first|refine up hord ?_)|refine wZ1 @hat ?_|exact wC1 @hat|fail
     all_goals (try (exfalso;omega))
     all_goals (first|rfl|(simp;omega))
   ·rw[decide_eq_false fun h=>hil (by have:=(hp.1 h).1;omega)]
    repeat' first|refine wZ0 ?_|exact wC0|fail
    all_goals (try (exfalso;omega))
    all_goals (first|rfl|(simp;omega))
theorem gK(l:List GR)(hl:l.length≤1000000)(hu:UpI (l.map GR.no))(g:Int)(t:Bool):aA Tryz.prog 217 [.lst 2 (l.map GR.c) t,.int .i64 g] St.none (fun r _=>r=.tup [.int .i64 (aQ (l.map GR.no) g:Int),.bool (decide (g∈l.map GR.no))]):=by
 refine(mB 11 [.tmp 4,.tmp 5] Tryz.func217 ?_)
 have h:=N5 l hl hu g t
 repeat' first|(with_reducible first|refine up h ?_)|refine wZ1 @Tryz.f217.eq_1 ?_|exact wC1 @Tryz.f217.eq_1|fail
end

section
open Go.Shelf Go.RowKit Go.Lib
theorem Ip(a:Addr)(c:Nat)(w:World):Calls Tryz.prog 215 #[.slice (some a) 0 c] w fun e w'=>e=.returned (.slice (some ⟨w.heap.size,0,none⟩) 0 0)∧w'=w.alloc (.cells #[] 200):=by
 have q22:∀(w:World) (a:Option Addr) (n c n' c':Nat),(binOp .eql 39 (.slice a n c) (.slice none n' c')).run Tryz.prog w=.ok (.bool a.isNone) w:=fun w a n c n' c'=>Lib.run_eql_slice_nil w _ _ a n c n' c' Tryz.underlying39
 have u22:∀w,Sem.run Tryz.prog (underlying 39) w=.ok (TypeDesc.slice 200) w:=run_underlying Tryz.underlying39
 go_enter Tryz.func215,Tryz.ntmps215
 go_wp2
 go_ret
 exact⟨rfl,rfl⟩
theorem EW:aA Tryz.prog 215 [.aN] St.none (fun r _=>r=.aN):=by
 refine(mB 8 [.tmp 2] Tryz.func215 ?_)
 repeat' first|refine wZ1 @Tryz.f215.eq_1 ?_|exact wC1 @Tryz.f215.eq_1|fail
theorem tL(e:Nat)(t tr:Bool):aA Tryz.prog 215 [.lst e [] t] St.none (fun r _=>r=.lst e [] tr):=kA EW Ip
theorem rO(e:Nat)(t tr:Bool):aA Tryz.prog 114 [.lst e [] t] St.none (fun r _=>r=.lst e [] tr):=kA xF zJ
theorem zI(x:GR)(l:List GR)(hl:l.length+1≤1000000)(t:Bool):aA Tryz.prog 215 [.lst 2 ((x::l).map GR.c) t] St.none (fun r σ'=>∃q,r=.vec 2 q 0 (l.length+1)∧σ'=St.none.set q (.row 200 2 ((x::l).map GR.c))):=by
 refine(mB 8 [.tmp 2] Tryz.func215 ?_)
 repeat' first|(refine wO ?_;intros)|refine wZ1 @Tryz.f215.eq_1 ?_|fail
 all_goals exact⟨_,rfl,rfl⟩
theorem BH(t tr:Bool):aA Tryz.prog 219 [.lst 2 [] t] St.none (fun r _=>r=.lst 2 [] tr):=by
 refine(mB 24 [.tmp 2] Tryz.func219 ?_)
 have h:=tL 2 t tr
 repeat' first|(refine aC h ?_)|refine wZ1 @Tryz.f219.eq_1 ?_|fail
 refine aE (α:=Unit) (fun _=>⟨24,[(9,.int .i64 0),(8,.int .i64 0),(3,.lst 2 [] tr)],[]⟩) (fun _=>St.none) (fun _=>True) (fun _=>0) (.of (.less ?_ (St.le_refl _)) ⟨(),rfl,rfl,trivial⟩) ?_
 ·exact wW
 ·intro _ _
  repeat' first|refine wZ0 ?_|exact wC0|fail
theorem oK(x:GR)(l:List GR)(hl:l.length+1≤1000000)(hm:∀g,g∈x::l→g.mem.length≤1000000)(t:Bool):aA Tryz.prog 219 [.lst 2 ((x::l).map GR.c) t] St.none (fun r σ'=>∃q,r=.vec 2 q 0 (l.length+1)∧σ'=St.none.set q (.row 200 2 ((x::l).map GR.c))):=by
 refine(mB 24 [.tmp 2] Tryz.func219 ?_)
 have h:=zI x l hl t
 obtain⟨L,hL⟩:∃L,x::l=L:=⟨_,rfl⟩
 have hLl:L.length=l.length+1:=by rw[←hL];rfl
 obtain⟨n,hn⟩:∃n,l.length+1=n:=⟨_,rfl⟩
 rw[hL] at h hm ⊢
 rw[hn] at h hLl hl ⊢
 have hml:(L.map GR.c).length=n:=by rw[List.length_map,hLl]
 repeat' first|((refine fQ h ?_;intro q hq))|refine wZ1 @Tryz.f219.eq_1 ?_|fail
 refine aE (α:=Nat) (fun i=>⟨24,[(9,.int .i64 (i:Int)),(8,.int .i64 (n:Int)),(3,.vec 2 q 0 n)],[]⟩) (fun i=>St.none.set q (.row 200 2 (L.map GR.c))) (fun i=>i≤n) (fun i=>n - i) (.of (.less ?_ (St.le_refl _)) ⟨0,rfl,rfl,Nat.zero_le _⟩) ?_
 ·exact wW
 ·intro i hi
  have hi:i≤n:=hi
  by_cases hlt:i<n
  ·obtain⟨y,hy⟩:=bW L (show i<L.length by omega)
   have hat:=bF (f:=GR.c) hy
   have hcl:=pF y.mem (hm y (eD hy)) false
   have hset:(L.map GR.c).set i y.c=L.map GR.c:=by
    have h0:=List.getElem?_eq_some_iff.1 hy
    obtain⟨h1,h2⟩:=h0
    refine List.ext_getElem (by simp) fun j h3 h4=>?_
    rw[List.getElem_set]
    split
    ·rename_i e;subst e;simp[h2]
    ·rfl
   repeat' first|(with_reducible first|refine up hcl ?_)|refine wZ3 @hat @hml @hset ?_|fail
   all_goals (try (exfalso;omega))
   all_goals
    refine .of (.less ?_ (St.le_refl _)) ⟨i+1,rfl,rfl,(by omega:i+1≤n),by omega⟩
    exact wW
  ·have:i=n:=by omega
   subst this
   repeat' first|refine wZ0 ?_|fail
   all_goals (try (exfalso;omega))
   all_goals exact⟨_,rfl,rfl⟩
theorem JV{v:Nat}(y:List MV)(hy:∃g,y=[.int .i64 g,.aN]):aA Tryz.prog 218 [.lst 2 [] true,.int .i64 0,.vec 2 v 0 1] (St.none.set v (.row 200 2 [y])) (fun r σ'=>∃q,r=.vec 2 q 0 1∧σ'=St.none.set q (.row 200 2 [y])):=by
 obtain⟨g,rfl⟩:=hy
 refine aA.bR (mB 95 [.tmp 6] Tryz.func218 ?_)
 repeat' first|(refine wO ?_;intros)|refine wZ1 @Tryz.f218.eq_1 ?_|fail
 exact⟨_,St.aB (St.none_le _) (aD _ _ _),_,rfl,rfl⟩
theorem JW{v:Nat}(x:Int):aA Tryz.prog 272 [.lst 1 [] true,.int .i64 0,.vec 1 v 0 1] (St.none.set v (.row 3 1 [aM x])) (fun r σ'=>r=.lst 1 [aM x] false∧σ'=St.none):=by
 refine aA.CR (mB 95 [.tmp 6] Tryz.func272 ?_)
 repeat' first|(refine wO ?_;intros)|refine wZ1 @Tryz.f272.eq_1 ?_|fail
 exact⟨_,St.aB (St.none_le _) (aD _ _ _),St.none_le _,fun k o hk=>hk.elim,View.vecAll (aD _ _ _) rfl⟩
end

section
theorem VM{P:Program}{g:FuncId}{ms:List MV}{σ:St}{o:aW}{u:Nat→MV}{k:MV→St→Prop}(h:aA P g ms σ fun v σ'=>∃q,v=u q∧σ'=St.none.set q o)(hk:∀q,R (bY (u q) (St.none.set q o) k)):R (cU P g ms σ k) :=
 h.mono fun v σ' ⟨q,hv,hσ⟩=>by subst hv;subst hσ;exact hk q
theorem aV.TS{v:MV}{q:Nat}{t:TypeId}{e:Nat}(pre post:List MV)(e':Nat)(tr:Bool):aV ⟨1,[(0,v)],[]⟩ (St.none.set q (.row t e [pre++.aN::post])) ⟨1,[(0,v)],[]⟩ (St.none.set q (.row t e [pre++.lst e' [] tr::post])):=by
 refine aV.pO St.none (St.none_le _) (fun k o1 hk=>?_) (fun k o hk=>rfl) (fun p hp=>by simp at hp;subst hp;exact .same _)
 by_cases e1:k=q
 ·subst e1
  rw[aD] at hk
  cases hk
  refine⟨_,aD _ _ _,.inr ⟨t,e,_,_,rfl,rfl,rfl,fun i x x1 hx hx1=>?_⟩⟩
  match i with
  | 0 =>
   simp only[List.getElem?_cons_zero,Option.some.injEq] at hx hx1
   subst hx hx1
   refine⟨by simp,fun j a b ha hb=>?_⟩
   by_cases hj:j<pre.length
   ·rw[List.getElem?_append_left hj] at ha hb
    rw[ha] at hb;cases hb
    exact .inl rfl
   ·rw[List.getElem?_append_right oM] at ha hb
    match hk:j - pre.length with
    | 0 =>
     rw[hk] at ha hb
     simp only[List.getElem?_cons_zero,Option.some.injEq] at ha hb
     subst ha hb
     exact .inr ⟨rfl,.nil _ _⟩
    | k+1 =>
     rw[hk] at ha hb
     simp only[List.getElem?_cons_succ] at ha hb
     rw[ha] at hb;cases hb
     exact .inl rfl
  | i+1=>simp at hx
 ·exact absurd hk (by rw[aF _ _ _ _ e1];exact fun h=>by cases h)
theorem fI{σ:St}{a b a':MV}(h:View σ a a'):View σ (.tup [a,b]) (.tup [a',b]):=.tup rfl fun i m m' hm hm'=>by
 match i with
 | 0=>simp at hm hm';subst hm;subst hm';exact h
 | 1=>simp at hm hm';subst hm;subst hm';exact .same _
 | i+2=>simp at hm
theorem J7(x:Int)(h1:1≤x)(h2:x<1073741824)(t:Bool):aA Tryz.prog 225 [.lst 1 [] t,.int .i64 x] St.none (fun r _=>r=.lst 1 [aM x] false):=by
 refine aA.bR (mB 30 [.tmp 4] Tryz.func225 ?_)
 have hb:=uG [] (Nat.zero_le _) List.Pairwise.nil x t
 have hc:=rO 1 t true
 simp only[List.map_nil,List.not_mem_nil,decide_false,aQ,List.filter_nil,List.length_nil] at hb
 repeat' first|(refine aC hb ?_)|(refine aC hc ?_)|(refine wO ?_;intros)|refine wZ1 @Tryz.f225.eq_1 ?_|fail
 refine dL (JW x) ?_
 repeat' first|refine wZ0 ?_|fail
 all_goals exact lE
theorem G8(g:Int)(h1:0≤g)(h2:g<16)(t:Bool):aA Tryz.prog 148 [.lst 2 [] t,.int .i64 g] St.none (fun r _=>r=.tup [.lst 2 [(GR.mk g []).c] false,.int .i64 0]):=by
 refine aA.gh (mB 28 [.tmp 4,.tmp 5] Tryz.func148 ?_)
 have hb:=gK [] (Nat.zero_le _) List.Pairwise.nil g t
 have hc:=BH t true
 simp only[List.map_nil,List.not_mem_nil,decide_false,aQ,List.filter_nil,List.length_nil] at hb
 repeat' first|(refine aC hb ?_)|(refine aC hc ?_)|(refine wO ?_;intros)|refine wZ1 @Tryz.f148.eq_1 ?_|fail
 refine VM (JV _ ⟨_,rfl⟩) fun q=>?_
 repeat' first|refine wZ0 ?_|fail
 refine .step (aV.TS [.int .i64 g] [] 1 false) (.of (aV.freeze (l1:=[(0,.tup [.lst 2 [(GR.mk g []).c] false,.int .i64 0])]) (St.none.set q (.row 200 2 [(GR.mk g []).c])) (St.le_refl _) (St.none_le _) (fun k o hk=>by cases hk) (fun p hp=>?_)) ⟨_,rfl,rfl⟩)
 simp only[List.mem_singleton] at hp
 subst hp
 exact fI (View.vecAll (aD _ _ _) rfl)
end

section
theorem Sb{w:World}{R:Nat}{c:Array Value}{t:TypeId}{fz:Nat × Nat}(h:w.heap[R]?=some (.cells c t fz))(hZ:FZ t=false)(hf:fz.2≤fz.1∨FZ t=true∧c.size≤fz.1)(i:Nat):w.frozen? ⟨R,i,none⟩=false:=by
 have:fz.2≤fz.1:=hf.elim id fun h=>by rw[hZ] at h;cases h.1
 simp only[World.frozen?,h]
 simp;omega
theorem uP{P:Program}(w:World)(tS tR e:TypeId)(ht:P.underlying tS=some (.slice e))(size:Nat)(hz:∀w,(Go.sizeOf e).run P w=.ok size w)(a b:Option Addr)(la ca lb cb:Nat)
 (h:la=0∨lb=0∨∃Ra oa Rb ob sa sb,a=some ⟨Ra,oa,none⟩∧b=some ⟨Rb,ob,none⟩∧Ra≠Rb∧w.shape? Ra=some sa∧w.shape? Rb=some sb∧(∀i,w.frozen? ⟨Ra,i,none⟩=false)∧∀i,w.frozen? ⟨Rb,i,none⟩=false) :
  (Extern.SlicesOverlaps.overlaps #[tS,tS] #[tR] #[.slice a la ca,.slice b lb cb]).run P w=.ok (.bool false) w:=by
 change Sem.run P (α:=Value) (do
  let some t:=(#[tS,tS]:Array TypeId)[0]?|stuck "slices.overlaps: no parameter types"
  let .slice elem ←underlying t|stuck "slices.overlaps: slice type expected"
  let size ←sizeOf elem
  match (a:Option Addr),(b:Option Addr) with
  | some a,some b =>
   if la=0∨lb=0∨size=0 then pure (Value.bool false)
   else if a.block != b.block&&(←frozen a)&&(←frozen b) then unsupported .addressObserved
   else do
    if a.block != b.block then do
     noView a;noView b
     if ←mayBeOne a b then return Value.bool ((←choose (.extern "sameAddr.stringBytes" 2))==1)
    pure (Value.bool (a.block==b.block&&a.off<b.off+lb * size&&b.off<a.off+la * size))
  | _,_=>pure (Value.bool false)) w=_
 cases a with
 | none=>simp[run_underlying ht,hz]
 | some a =>
  cases b with
  | none=>simp[run_underlying ht,hz]
  | some b =>
   by_cases h0:la=0∨lb=0∨size=0
   ·simp[run_underlying ht,hz,h0]
   ·rcases h with h|h|⟨Ra,oa,Rb,ob,⟨sa,ka⟩,⟨sb,kb⟩,h1,h2,h3,h4,h5,h6,h7⟩
    ·exact absurd (.inl h) h0
    ·exact absurd (.inr (.inl h)) h0
    ·cases h1
     cases h2
     have hnb:(Ra != Rb)=true:=by simpa using h3
     have hnb':(Ra==Rb)=false:=by simpa using h3
     simp[run_underlying ht,hz,h0,hnb,hnb',frozen,noView,viewAt,mayBeOne,stringish,shape,Sem.run,h4,h5,h6,h7]
theorem uT{P:Program}{o:Oper}{f:FR}{σ:St}{k:MV→St→Prop}{g:FuncId}{fn:Func}{t el tR:TypeId}{x y:Operand}(ho:o.op=.call { callee:=.value (.func g),args:=#[x,y],argTypes:=#[t,t] })
 (hf:P.funcs[g]?=some fn)(hname:(fn.name == "runtime.NumGoroutine")=false)(hb:fn.body.isNone=true)(hn:Extern.findNext fn=none)(he:Extern.find fn=some (Extern.SlicesOverlaps.overlaps #[t,t] #[tR]))
 (ht:(td P t).k=.slice el)(hok:(td P el).ok=true){a b lo lo' n n' e e':Nat}(hab:a≠b)(hx:aH f x=.vec e a lo n)(hy:aH f y=.vec e' b lo' n'){ta tb:TypeId}(hZa:FZ ta=false)(hZb:FZ tb=false){ea eb:Nat}{xs ys:List (List MV)}(ha:σ a=some (.row ta ea xs))(hb':σ b=some (.row tb eb ys))
 (hk:k (.bool false) σ):sop P o f σ k:=by
 intro Φ w ac K Q' hi hr hK
 have rx:=aJ hr x
 have ry:=aJ hr y
 rw[hx] at rx
 rw[hy] at ry
 obtain⟨aa,ca,pa,hva,hpa,_,hca,hna,hda⟩:=rx.dU
 obtain⟨ab,cb,pb,hvb,hpb,_,hcb,hnb,hdb⟩:=ry.dU
 obtain⟨pa',ja,_,_,_,_,ka⟩:=hi.own a _ ha
 obtain⟨pb',jb,_,_,_,_,kb⟩:=hi.own b _ hb'
 rw[hpa] at ja;cases ja
 rw[hpb] at jb;cases jb
 have hrun:=uP (P:=P) w t tR el (aY ht) _ (fun w=>aO hok w) aa ab n ca n' cb (by
  by_cases h1:n=0
  ·exact .inl h1
  ·by_cases h2:n'=0
   ·exact .inr (.inl h2)
   ·refine .inr (.inr ?_)
    rcases hda with⟨Ra,hRa,rfl⟩|hda
    ·rcases hdb with⟨Rb,hRb,rfl⟩|hdb
     ·rw[hRa] at ka
      rw[hRb] at kb
      obtain⟨c1,fz1,q1,q2,_⟩:=ka
      obtain⟨c2,fz2,r1,r2,_⟩:=kb
      refine⟨Ra,_,Rb,_,(ta,c1.size),(tb,c2.size),rfl,rfl,fun e=>?_,by simp only[World.shape?,q1],by simp only[World.shape?,r1],fun i=>Sb q1 hZa q2 i,fun i=>Sb r1 hZb r2 i⟩
      subst e
      exact hab (hi.inj _ _ _ _ _ _ _ ha hb' hpa hpb hRa hRb)
     ·omega
    ·omega)
 have hcall:=run_callFunc_extern hf hname hb hn he #[.slice aa n ca,.slice ab n' cb] w
 rw[hrun] at hcall
 refine bL (v:=.bool false) (w':=w) ?_ (hK _ (.bool false) _ Φ w (.bool _) hi (.refl _ _ _) hk)
 have hg:ac.eval (.func g)=.func (.func g) #[] #[]:=rfl
 unfold execOp
 simp only[ho,resolve,List.map_toArray,List.map_cons,List.map_nil,hva,hvb,hg,Deferred.ofValue,Sem.run_bind,Sem.run_pure,Result.andThen_ok,invoke,Array.empty_append,Array.append_empty]
 exact hcall
end

section
def Room(l C:Nat)(Φ:Phi):Prop:=∃p,Φ.obj l=some p∧p.C=C
theorem Room.le{l C:Nat}{Φ Φ':Phi}(h:Room l C Φ)(hle:Φ.le Φ'):Room l C Φ':=h.imp fun p q=>⟨hle.obj _ _ q.1,q.2⟩
def An(l C:Nat)(P:Program)(c:Code)(f:FR)(σ:St)(Q:MQ):Prop :=
 ∀F,FOk F c→∀Φ w a,Room l C Φ→Inv Φ w σ→dD Φ a.tmps f→eG Φ w a.defers f.d→c.wpIn F 0 P (lift Φ σ w Q) a w
def Ev(l C:Nat)(P:Program)(o:Oper)(f:FR)(σ:St)(k:MV→St→Prop):Prop :=
 ∀Φ w a K Q',Room l C Φ→Inv Φ w σ→dD Φ a.tmps f→(∀v mv σ' Φ' w',Rel Φ' v mv→Inv Φ' w' σ'→Step Φ σ w Φ' σ' w'→k mv σ'→K (a.put o.dst v) w')→o.wp P a w K Q'
section
variable {l C:Nat} {P:Program} {f:FR} {σ:St} {Q:MQ}
theorem TN{c:Code}(h:mwp P c f σ Q):An l C P c f σ Q:=fun F hF Φ w a _ hi hr hd=>h F hF Φ w a hi hr hd
theorem Gw{c:Code}{t:TypeId}{e:Nat}{xs:List (List MV)}(hl:σ l=some (.row t e xs))(h:∀C,xs.length≤C→An l C P c f σ Q):mwp P c f σ Q:=fun F hF Φ w a hi hr hd=>by
 obtain⟨p,hp,_,hC,_⟩:=hi.own l _ hl
 exact h p.C hC F hF Φ w a ⟨p,hp,rfl⟩ hi hr hd
theorem kI{x y:Code}(h:An l C P x f σ (uY (fun f' σ'=>An l C P y f' σ' Q) Q)):An l C P (.seq x y) f σ Q:=by
 intro F hF Φ w a hg hi hr hd
 refine wpIn_seq (wpIn_mono (h F hF.seq1 Φ w a hg hi hr hd) fun e a' w' ⟨f',σ',Φ',x1,x2,x3,x4,q⟩=>?_)
 cases e with
 | normal=>exact wpIn_mono (q F hF.VC Φ' w' a' (hg.le x4.le) x3 x2 x1) fun _ _ _ hq=>nI x4 hq
 | _=>exact⟨f',σ',Φ',x1,x2,x3,x4,q⟩
theorem Cz{c:Operand}{x y:Code}{t:Bool}(hc:aH f c=.bool t)(h1:t=true→An l C P x f σ Q)(h2:t=false→An l C P y f σ Q):An l C P (.cond c x y) f σ Q:=by
 intro F hF Φ w a hg hi hr hd
 have he:a.eval c=.bool t:=by
  have:=aJ hr c
  rw[hc] at this
  generalize a.eval c=v at this
  cases this
  rfl
 exact wpIn_cond_split he (fun ht=>h1 ht F hF.Pc Φ w a hg hi hr hd) (fun hf=>h2 hf F hF.Pd Φ w a hg hi hr hd)
theorem QE{ops:Array Oper}{F:Fence}(o:Oper)(r:List Oper):∀(L:List Oper),(F=Fence.wide∨∃l0,F=Fence.wide.inRound l0∧∀x,x∈L++o::r→∀c,x.op≠.defer c)→o.guard=none→∀{Q:MQ} {Φ0:Phi} {σ0:St} {w0:World} (f:FR) (σ:St) (Φ:Phi) (w:World) (a:Act),
  dP P ops (fun f σ=>Ev l C P o f σ fun v σ'=>dP P ops (Q .normal) r (bM f o.dst v) σ') L f σ→Room l C Φ→Inv Φ w σ→dD Φ a.tmps f→eG Φ w a.defers f.d →
  Step Φ0 σ0 w0 Φ σ w→wpListIn F 0 P ops (lift Φ0 σ0 w0 Q) (L++o::r) a w:=by
 intro L
 induction L with
 | nil =>
  intro hF hg Q Φ0 σ0 w0 f σ Φ w a h hG hi hr hd hs
  have hFo:F=Fence.wide∨∃l0,F=Fence.wide.inRound l0∧∀c,o.op≠.defer c:=hF.imp id fun⟨l0,e,q⟩=>⟨l0,e,q o (by simp)⟩
  have hFr:F=Fence.wide∨∃l0,F=Fence.wide.inRound l0∧∀y,y∈r→∀c,y.op≠.defer c:=hF.imp id fun⟨l0,e,q⟩=>⟨l0,e,fun y ho=>q y (by simp[ho])⟩
  have h:Ev l C P o f σ fun v σ'=>dP P ops (Q .normal) r (bM f o.dst v) σ':=h
  simp only[List.nil_append]
  have h':fZ ops f o (Ev l C P o f σ fun v σ'=>dP P ops (Q .normal) r (bM f o.dst v) σ') False:=by unfold fZ;rw[hg];exact h
  unfold wpListIn
  rcases cL h' hr with⟨hw,hy⟩|⟨hw,hn⟩
  ·rw[if_pos hw]
   refine eT hFo ?_
   exact h Φ w a _ _ hG hi hr (fun v mv σ' Φ' w' r1 i1 s1 hk=>sO r hFr _ _ Φ' w' (a.put o.dst v) hk i1 (cO (hr.mono s1.le) o.dst r1) (by rw[bT,eE];exact hd.step hi s1) (hs.trans s1))
  ·exact hn.elim
 | cons x rest ih =>
  intro hF hg Q Φ0 σ0 w0 f σ Φ w a h hG hi hr hd hs
  have hFr:F=Fence.wide∨∃l0,F=Fence.wide.inRound l0∧∀y,y∈rest++o::r→∀c,y.op≠.defer c:=hF.imp id fun⟨l0,e,q⟩=>⟨l0,e,fun y ho=>q y (List.mem_cons_of_mem _ ho)⟩
  have hFo:F=Fence.wide∨∃l0,F=Fence.wide.inRound l0∧∀c,x.op≠.defer c:=hF.imp id fun⟨l0,e,q⟩=>⟨l0,e,q x (List.mem_cons_self ..)⟩
  have hfn:∀g,F.fn g:=fun g=>by rcases hF with rfl|⟨l,rfl,_⟩<;>trivial
  simp only[dP] at h
  simp only[List.cons_append]
  unfold wpListIn
  rcases cL h hr with⟨hw,hy⟩|⟨hw,hn⟩
  ·rw[if_pos hw]
   refine eT hFo ?_
   by_cases hdef:∃c,x.op=.defer c
   ·obtain⟨c,hc⟩:=hdef
    rw[hc] at hy
    have hy:vT f c fun f'=>dP P ops (fun f σ=>Ev l C P o f σ fun v σ'=>dP P ops (Q .normal) r (bM f o.dst v) σ') rest (bM f' x.dst .junk) σ:=hy
    obtain⟨d,f',h1,h2,h3,h4⟩:=oF (P:=P) (w:=w) hc hy hr hd
    unfold Oper.wp
    rw[h1]
    refine ih hFr hg _ _ Φ w _ h4 hG hi (cO (a:={ a with defers:=d::a.defers }) h2 x.dst (.junk _)) ?_ hs
    rw[bT,eE]
    exact h3
   ·exact kH (fun c hc=>hdef ⟨c,hc⟩) hy Φ w a _ _ hi hr (fun v mv σ' Φ' w' r1 i1 s1 hk=>ih hFr hg _ _ Φ' w' (a.put x.dst v) hk (hG.le s1.le) i1 (cO (hr.mono s1.le) x.dst r1) (by rw[bT,eE];exact hd.step hi s1) (hs.trans s1))
  ·rw[if_neg (by simp[hw])]
   exact⟨fun f _=>hfn f,ih hFr hg _ _ Φ w (a.put x.dst undef) hn hG hi (cO hr x.dst gU) (by rw[bT,eE];exact hd) hs⟩
theorem Ao{id:Nat}{ops:Array Oper}(L:List Oper)(o:Oper)(r:List Oper)(he:ops.toList=L++o::r)(hg:o.guard=none)
 (h:dP P ops (fun f σ=>Ev l C P o f σ fun v σ'=>dP P ops (Q .normal) r (bM f o.dst v) σ') L f σ):An l C P (.region id ops false) f σ Q :=
 fun F hF Φ w a hG hi hr hd=>wpIn_region_list (by
  rw[he]
  refine QE o r L ?_ hg f σ Φ w a h hG hi hr hd (.refl _ _ _)
  have:=hF.ops
  rw[he] at this
  exact this)
theorem eI{id:Nat}{L:List Oper}(L1:List Oper)(o:Oper)(r:List Oper)(he:L=L1++o::r)(hg:o.guard=none)
 (h:R (dP P (@OfNat.ofNat (Array Oper) (nat_lit 0) (@_root_.id (OfNat (Array Oper) (nat_lit 0)) (OfNat.mk (L.toArray)))) (fun f σ=>Ev l C P o f σ fun v σ'=>R (dP P (@OfNat.ofNat (Array Oper) (nat_lit 0) (@_root_.id (OfNat (Array Oper) (nat_lit 0)) (OfNat.mk (L.toArray)))) (Q .normal) r (bM f o.dst v) σ')) L1 f σ)):An l C P (.region id L.toArray false) f σ Q :=
 Ao (ops:=L.toArray) L1 o r he hg h
theorem HL{o:Oper}{k:MV→St→Prop}{t:TypeId}{x:Operand}(ho:o.op=.call { callee:=.builtin .cap,args:=#[x],argTypes:=#[t] }){el:TypeId}(ht:(td P t).k=.slice el){e n:Nat}(hx:aH f x=.vec e l 0 n)(hk:n≤C→k (.int .i64 (C:Int)) σ):Ev l C P o f σ k:=by
 intro Φ w a K Q' hG hi hr hK
 have rx:=aJ hr x
 rw[hx] at rx
 obtain⟨ad,cap,p,hv,hp,hpe,hcap,hncap,hR⟩:=rx.dU
 obtain⟨p',hp',hC⟩:=hG
 rw[hp] at hp';cases hp'
 have hcC:cap=C:=by omega
 subst hcC
 have hop:∀r w',(Builtin.cap_ #[t] o.type #[a.eval x]).run P w=.ok r w'→(execOp a.eval o).run P w=.ok (.value r) w':=fun r w' h=>by
  unfold execOp
  simp only[ho,resolve,List.map_toArray,List.map_cons,List.map_nil,Sem.run_bind,Sem.run_pure,Result.andThen_ok,invoke]
  show Sem.run P (do pure (Next.value (←Builtin.cap_ #[t] o.type #[a.eval x]))) w=_
  simp only[Sem.run_bind,h,Result.andThen_ok,Sem.run_pure]
 refine bL (hop (.int .i64 (cap:Int)) w ?_) (hK _ _ _ Φ w (.int _ _) hi (.refl _ _ _) (hk hncap))
 rw[hv]
 simp[Builtin.cap_,aK (aY ht),goInt]
theorem AX{o:Oper}{k:MV→St→Prop}{t el:TypeId}{x z:Operand}(ho:o.op=.slice t x none (some z) none)(ht:(td P t).k=.slice el)(hok:(td P el).ok=true){n:Nat}
 (hx:aH f x=.vec (td P el).size l 0 n){k2:IntKind}{h:Int}(hz:aH f z=.int k2 h)(h0:0≤h)(h2:h≤(C:Int))(hk:k (.vec (td P el).size l 0 h.toNat) σ):Ev l C P o f σ k:=by
 intro Φ w ac K Q' hG hi hr hK
 have rx:=aJ hr x
 have rz:=aJ hr z
 rw[hx] at rx
 rw[hz] at rz
 have rx':=rx
 generalize hv:ac.eval x=vx at rx rx'
 obtain⟨ad,cap,p,rfl,hp,hpe,hcap,hncap,hR⟩:=rx'.dU
 obtain⟨p',hp',hC⟩:=hG
 rw[hp] at hp';cases hp'
 have e2:=rz.aT
 have rs:=l6 rx 0 h.toNat oM oM
 refine bL (v:=_) (w':=w) ?_ (hK _ _ _ Φ w rs hi (.refl _ _ _) (by simpa using hk))
 unfold execOp
 simp only[ho,hv,Option.map_some,Option.map_none,e2,Sem.run_bind,Instr.sliceAt,aK (aY ht),Result.andThen_ok,Instr.slice,Instr.sliceBounds,Sem.run_pure]
 rw[run_sliceBound ⟨by omega,by omega⟩]
 simp only[Result.andThen_ok,Option.isSome_none,Bool.false_eq_true,if_false]
 first|rfl|(rw[run_sliceBound ⟨by omega,by omega⟩];simp only[Result.andThen_ok,aO hok,Sem.run_pure])|(simp only[Result.andThen_ok,aO hok,Sem.run_pure])
end
end

section
theorem uN{xs ys:List (List MV)}{i0:Nat}(h:i0≤xs.length)(i:Nat):(bB xs i0 ys)[i]?=if i0≤i∧i<i0+ys.length then ys[i - i0]? else xs[i]?:=by
 unfold bB
 have hl1:(xs.take i0).length=i0:=by simp;omega
 have hl2:(xs.take i0++ys).length=i0+ys.length:=by rw[List.length_append,hl1]
 by_cases h1:i<i0
 ·rw[List.getElem?_append_left oM,List.getElem?_append_left oM,List.getElem?_take,if_pos h1,if_neg oM]
 ·by_cases h2:i<i0+ys.length
  ·rw[List.getElem?_append_left oM,List.getElem?_append_right oM,hl1,if_pos ⟨by omega,h2⟩]
  ·rw[List.getElem?_append_right oM,hl2,List.getElem?_drop,show i0+ys.length+(i - (i0+ys.length))=i from by omega,if_neg oM]
theorem yI{xs ys:List (List MV)}{i0 C:Nat}(h:i0≤xs.length)(h1:xs.length≤C)(h2:i0+ys.length≤C):(bB xs i0 ys).length≤C:=by
 simp[bB];omega
theorem Ot{Φ:Phi}{w:World}{σ:St}(hi:Inv Φ w σ){l:Nat}{t:TypeId}{e:Nat}{xs ys:List (List MV)}(hsl:σ l=some (.row t e xs)){i0:Nat}(hfit:i0≤xs.length){p:Place}(hp:Φ.obj l=some p)(hroom:i0+ys.length≤p.C)
 (hyl:∀(i:Nat) (y:List MV),ys[i]?=some y→y.length=e){arr:Array Value}(hrel:j8 Φ arr ys.flatten){R:Nat}(hR:p.blk=some R){c:Array Value}{fz:Nat × Nat}(hc:w.heap[R]?=some (.cells c t fz)) :
  zC t c fz∧p.bo+i0 * e+arr.toList.length≤c.size∧Inv Φ (fW w R (.cells (cD c (p.bo+i0 * e) arr.toList) t fz)) (σ.set l (.row t e (bB xs i0 ys))) ∧
   Step Φ σ w Φ (σ.set l (.row t e (bB xs i0 ys))) (fW w R (.cells (cD c (p.bo+i0 * e) arr.toList) t fz)):=by
 obtain⟨p',hp',hpe,q1,q2,q3,q4⟩:=hi.own l _ hsl
 rw[hp] at hp';cases hp'
 rw[hR] at q4
 obtain⟨c',fz',k1,k2,k3,k4⟩:=q4
 rw[hc] at k1;cases k1
 have hlt:R<w.heap.size:=(Array.getElem?_eq_some_iff.1 hc).1
 have harrl:arr.toList.length=ys.length * e:=by
  have:=hrel.1
  rw[eB ys hyl] at this
  simpa using this
 have hfit2:p.bo+i0 * e+arr.toList.length≤c.size:=by
  rw[harrl]
  have:(i0+ys.length) * e≤p.C * e:=Nat.mul_le_mul_right _ oM
  rw[Nat.add_mul] at this
  omega
 refine⟨k2,hfit2,hi.EC (w':=fW w R (.cells (cD c (p.bo+i0 * e) arr.toList) t fz)) l hsl _ hp hR iS (fun k hk=>eU hk) rfl rfl rfl (Nat.le_refl _) ?_⟩
 refine⟨p,hp,hpe,yI hfit q1 hroom,q2,fun i y q=>?_,?_⟩
 ·rw[uN hfit] at q
  split at q
  ·exact hyl _ y q
  ·exact q3 i y q
 ·rw[hR]
  refine⟨_,fz,gX hlt,by simpa[zC,cP] using k2,by rw[cP];exact k3,fun i y j m q hm=>?_⟩
  rw[iP _ _ _ _ hfit2,harrl]
  rw[uN hfit] at q
  split at q
  ·rename_i hin
   have hjl:j<e:=by have:=(List.getElem?_eq_some_iff.1 hm).1;have:=hyl _ y q;omega
   have hil:=(List.getElem?_eq_some_iff.1 q).1
   have hfl:=mD ys (i - i0) j y m hyl q hm
   have hlt2:=(List.getElem?_eq_some_iff.1 hfl).1
   have harr1:=hrel.1
   have e3:(i - i0) * e+j+i0 * e=i * e+j:=by
    have:i * e=(i - i0+i0) * e:=by congr 1;omega
    rw[this,Nat.add_mul]
    omega
   have e4:(i - i0) * e+j<ys.length * e:=by
    have:(i - i0+1) * e≤ys.length * e:=Nat.mul_le_mul_right _ oM
    rw[Nat.add_mul,Nat.one_mul] at this
    omega
   rw[if_pos oM,show p.bo+(i * e+j) - (p.bo+i0 * e)=(i - i0) * e+j from by omega,Array.getElem?_toList]
   refine⟨hrel.2.1 _ m hfl,arr.getD ((i - i0) * e+j) undef,?_,hrel.2.2 _ m hfl⟩
   simp[Array.getD_eq_getD_getElem?,Array.getElem?_eq_getElem (show(i - i0) * e+j<arr.size by omega)]
  ·rename_i hout
   have hjl:j<e:=by have:=(List.getElem?_eq_some_iff.1 hm).1;have:=q3 i y q;omega
   rw[if_neg (by
    intro hcon
    rcases Nat.lt_or_ge i i0 with h|h
    ·have:(i+1) * e≤i0 * e:=Nat.mul_le_mul_right _ h
     rw[Nat.add_mul,Nat.one_mul] at this
     omega
    ·have:(i0+ys.length) * e≤i * e:=Nat.mul_le_mul_right _ oM
     rw[Nat.add_mul] at this
     omega)]
   exact k4 i y j m q hm
theorem gO{P:Program}{o:Oper}{f:FR}{σ:St}{k:MV→St→Prop}{t xt el:TypeId}{x y:Operand}(ho:o.op=.call { callee:=.builtin .copy,args:=#[x,y],argTypes:=#[t,xt] })(ht:(td P t).k=.slice el)(hz:(td P el).ok=true)
 {l l0 n:Nat}{tt:TypeId}{xs ys:List (List MV)}(hx:aH f x=.vec (td P el).size l l0 n)(hsl:σ l=some (.row tt (td P el).size xs))(hfit:l0≤xs.length){m m0 nm cnt:Nat}(hy:aH f y=.vec (td P el).size m m0 nm)(hcnt:Nat.min nm n=cnt)(hys:fJ σ (td P el).size (.vec (td P el).size m m0 cnt)=some ys)(h0:0<cnt)
 (hk:k (.int .i64 (cnt:Int)) (σ.set l (.row tt (td P el).size (bB xs l0 ys)))):sop P o f σ k:=by
 intro Φ w ac K Q' hi hr hK
 have hc1:cnt≤nm:=by rw[←hcnt];exact Nat.min_le_left _ _
 have hc2:cnt≤n:=by rw[←hcnt];exact Nat.min_le_right _ _
 have rx:=aJ hr x
 rw[hx] at rx
 have ry:=aJ hr y
 rw[hy] at ry
 generalize hv:ac.eval x=vx at rx
 generalize hu:ac.eval y=vy at ry
 obtain⟨ad,cap,p,rfl,hp,hpe,hcap,hncap,hR⟩:=rx.dU
 obtain⟨au,capu,pu,rfl,hpu,hpeu,hcapu,hncapu,hRu⟩:=ry.dU
 have ry':Rel Φ (.slice au cnt capu) (.vec (td P el).size m m0 cnt):=by
  rcases hRu with⟨R,hb,rfl⟩|h
  ·rw[←hpeu]
   exact .vec hpu hb hcapu oM
  ·omega
 obtain⟨arr,harr,hrel,hyl⟩:=iI (P:=P) hys hi ry'
 have hlen:ys.length=cnt:=by
  have:=(harr w rfl).1
  simp[Builtin.lenOf] at this
  omega
 have hfc:(Builtin.firstCells (td P el).size cnt (.slice au nm capu)).run P w=.ok arr w:=by
  have:=(harr w rfl).2
  rw[hlen] at this
  rw[←this]
  cases au<;>rfl
 have hop:∀r w',(Builtin.copy_ #[t,xt] o.type #[.slice ad n cap,.slice au nm capu]).run P w=.ok r w'→(execOp ac.eval o).run P w=.ok (.value r) w':=fun r w' h=>by
  unfold execOp
  simp only[ho,resolve,List.map_toArray,List.map_cons,List.map_nil,hv,hu,Sem.run_bind,Sem.run_pure,Result.andThen_ok,invoke]
  show Sem.run P (do pure (Next.value (←Builtin.copy_ #[t,xt] o.type #[.slice ad n cap,.slice au nm capu]))) w=_
  simp only[Sem.run_bind,h,Result.andThen_ok,Sem.run_pure]
 rcases hR with⟨R,hb,rfl⟩|hcap0
 ·obtain⟨p',hp',hpe',q1,q2,q3,q4⟩:=hi.own l _ hsl
  rw[hp] at hp';cases hp'
  rw[hb] at q4
  obtain⟨c,fz,k1,-⟩:=q4
  obtain⟨r1,r2,i1,s1⟩:=Ot hi hsl (i0:=l0) (ys:=ys) hfit hp oM hyl hrel hb k1
  refine bL (hop (.int .i64 (cnt:Int)) _ ?_) (hK _ _ _ Φ _ (.int _ _) i1 s1 hk)
  have hlo:(Builtin.lenOf (.slice au nm capu)).run P w=.ok nm w:=rfl
  unfold Builtin.copy_
  simp only[List.getElem?_toArray,List.getElem?_cons_zero,List.getElem?_cons_succ,Sem.run_bind,aK (aY ht),Result.andThen_ok,hlo,aO hz,hcnt,hfc]
  rw[hpe,iC (P:=P) _ 0 c w k1 r1 (by simpa using r2) hrel.uD]
  rfl
 ·omega
section
variable {P:Program} {ops:Array Oper}
theorem JC(hm:P.follows .mixedOrders=true)(C:cC)(pre:List Oper)(y:Oper)(post:List Oper)(ho:ops=(pre++y::post).toArray)(hdef:Ar (pre++y::post)=true)(hchk:(chk ops&&gate ops pre.length&&gate ops (pre.length+1))=true)(hg:y.guard=none){id:Nat}{f:FR}{σ:St}{Q:MQ}
 (h:kG P C ops (fun f1 σ1=>sop P y f1 σ1 fun v σ'=>kG P C ops (Q .normal) post (bM f1 y.dst v) σ') pre f σ):mwp P (.region id ops true) f σ Q:=by
 intro F hF Φ w a hi hr hd
 simp only[Bool.and_eq_true] at hchk
 have hF':F=Fence.wide∨∃l0,F=Fence.wide.inRound l0:=Or.imp (fun q=>q) (fun⟨l0,e,_⟩=>⟨l0,e⟩) hF
 have hfn:∀g,F.fn g:=fun g=>by rcases hF' with rfl|⟨l,rfl⟩<;>trivial
 have hdef':∀o,o∈ops.toList→∀c,o.op≠.defer c:=fun o h=>oH hdef o (by rw[ho] at h;simpa using h)
 refine AK (C:=C.pl) (MC:=pU P C) hm .no C.Lu.u (fun _ _ hd _ _ _ h=>yQ hd h) pre y post ho hdef' hchk.1.1 hchk.1.2 hchk.2 hF' hi hr hd ?_ h
 intro f1 σ1 Φ1 w1 a1 N i1 r1 d1 s1 k1 hN
 have hyd:∀c,y.op≠.defer c:=hdef' y (by rw[ho];simp)
 have hFo:F=Fence.wide∨∃l0,F=Fence.wide.inRound l0∧∀c,y.op≠.defer c:=hF'.imp (fun q=>q) fun⟨l0,e⟩=>⟨l0,e,hyd⟩
 unfold Kx
 have k1':fZ ops f1 y (sop P y f1 σ1 fun v σ'=>kG P C ops (Q .normal) post (bM f1 y.dst v) σ') False:=by unfold fZ;rw[hg];exact k1
 rcases cL k1' r1 with⟨hw,hk⟩|⟨hw,hk⟩
 ·rw[if_pos hw]
  refine eT hFo (k1 Φ1 w1 a1 _ _ i1 r1 fun v mv σ' Φ' w' r2 i2 s2 hk2=>?_)
  exact hN (Q .normal) _ σ' Φ' w' (a1.put y.dst v) i2 (cO (r1.mono s2.le) y.dst r2) (by rw[bT,eE];exact d1.step i1 s2) (fun f3 σ3 Φ3 w3 a3 i3 r3 d3 s3 k3=>⟨f3,σ3,Φ3,d3,r3,i3,s1.trans (s2.trans s3),k3⟩) hk2
 ·exact hk.elim
theorem gR{id:Nat}{l:List Oper}{f:FR}{σ:St}{Q:MQ}(hm:P.follows .mixedOrders=true)(C:cC)(pre:List Oper){dst:Option Tmp}{op:Op}{ty:TypeId}{pos:String}{after:Array Edge}(post:List Oper)(ho:l=pre++⟨dst,op,ty,pos,after,none⟩::post)
 (hchk:(Ar l&&(chk l.toArray&&gate l.toArray pre.length&&gate l.toArray (pre.length+1)))=true)
 (h:R (kG P C (@OfNat.ofNat (Array Oper) (nat_lit 0) (@_root_.id (OfNat (Array Oper) (nat_lit 0)) (OfNat.mk (l.toArray)))) (fun f1 σ1=>sop P ⟨dst,op,ty,pos,after,none⟩ f1 σ1 fun v σ'=>R (kG P C (@OfNat.ofNat (Array Oper) (nat_lit 0) (@_root_.id (OfNat (Array Oper) (nat_lit 0)) (OfNat.mk (l.toArray)))) (Q .normal) (@OfNat.ofNat (List Oper) (nat_lit 0) (@_root_.id (OfNat (List Oper) (nat_lit 0)) (OfNat.mk post))) (bM f1 dst v) σ'))
   (@OfNat.ofNat (List Oper) (nat_lit 0) (@_root_.id (OfNat (List Oper) (nat_lit 0)) (OfNat.mk pre))) f σ)):R (rV P id (@OfNat.ofNat (List Oper) (nat_lit 0) (@_root_.id (OfNat (List Oper) (nat_lit 0)) (OfNat.mk l))) f σ Q):=by
 rw[Bool.and_eq_true] at hchk
 exact JC hm C pre ⟨dst,op,ty,pos,after,none⟩ post (by rw[←ho]) (by rw[←ho];exact hchk.1) hchk.2 rfl h
end
end
end Go.Proofs.YtppdgejjmhdjhaaGreatDoor
