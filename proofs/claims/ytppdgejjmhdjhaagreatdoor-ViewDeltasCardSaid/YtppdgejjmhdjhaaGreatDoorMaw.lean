/- Parts of the proof; conditions: as its theorems name them. -/
import Derived.Test.YtppdgejjmhdjhaaGreatDoorMat
import Derived.Test.YtppdgejjmhdjhaaGreatDoorMav
import Derived.Test.YtppdgejjmhdjhaaGreatDoorRows
set_option linter.unusedVariables false
set_option linter.unusedSimpArgs false
set_option maxHeartbeats 8000000
set_option maxRecDepth 100000
namespace Go.Proofs.YtppdgejjmhdjhaaGreatDoor
section
open Go.ChangeShapes Go.WideShapes Go.RowKit
def yK(cs:List MV):List (Nat × Nat)→List MV
 | []=>[]
 | p::r=>(cs.drop p.1).take p.2++yK cs r
def zP(o n:Nat):List (Nat × Nat)→Bool
 | []=>o==n
 | p::r=>p.1==o&&zP (o+p.2) n r
theorem HM{cs:List MV}:∀(l:List (Nat × Nat)) (o:Nat),zP o cs.length l=true→yK cs l=cs.drop o
 | [],o,h=>by
  simp only[zP,beq_iff_eq] at h
  rw[yK,h,List.drop_length]
 | p::r,o,h=>by
  simp only[zP,Bool.and_eq_true,beq_iff_eq] at h
  rw[yK,HM r _ h.2,h.1,←List.drop_drop,List.take_append_drop]
theorem oS{cs:List MV}{n:Nat}(hn:cs.length=n)(l:List (Nat × Nat))(h:zP 0 n l=true):cs=yK cs l:=by
 have:=HM (cs:=cs) l 0 (by rw[hn];exact h)
 rw[this,List.drop_zero]
theorem i64_in{v:Int}(h0:IntKind.i64.min≤v)(h1:v≤IntKind.i64.max):Wb v:=by
 have e0:IntKind.i64.min = -9223372036854775808:=by decide
 have e1:IntKind.i64.max=9223372036854775807:=by decide
 rw[e0] at h0
 rw[e1] at h1
 exact⟨h0,h1⟩
theorem AE{n:Nat}{x:List MV}(h:CT Tryz.prog (n+1) 3 x):∃v,x=[.int .i64 v]∧Wb v:=by
 obtain⟨v,h0,h1,h2⟩:=Pf (by rw[td3]) h
 exact⟨v,h0,i64_in h1 h2⟩
theorem VF{n:Nat}{x:List MV}(h:CT Tryz.prog (n+1) 23 x):∃u:UInt32,x=[.int .u32 (u.toNat:Int)]:=by
 obtain⟨v,h0,h1,h2⟩:=Pf (by rw[KA]) h
 have e0:IntKind.u32.min=0:=by decide
 have e1:IntKind.u32.max=4294967295:=by decide
 rw[e0] at h1
 rw[e1] at h2
 exact⟨UInt32.ofNat v.toNat,by rw[h0,Uo h1 oM]⟩
theorem Eg{n:Nat}{x:List MV}(h:CT Tryz.prog (n+2) 54 x):∃a:VA,x=a.c:=by
 obtain⟨hl,hf⟩:=lN (congrArg TD.k Bb) h
 rw[Bb] at hl
 obtain⟨a,ha,_⟩:=AE (hf (0,3) (by simp))
 obtain⟨b,hb,_⟩:=AE (hf (1,3) (by simp))
 obtain⟨s,hs,_⟩:=U4 (by rw[td9]) (hf (2,9) (by simp))
 simp only[td3,td9] at ha hb hs
 refine⟨⟨a,b,s⟩,?_⟩
 rw[oS hl [(0,1),(1,1),(2,1)] rfl]
 simp only[yK,ha,hb,hs]
 rfl
theorem WI{n:Nat}{x:List MV}(h:CT Tryz.prog (n+3) 121 x):∃a:ND,x=a.c:=by
 obtain⟨hl,hf⟩:=lN (congrArg TD.k LP) h
 rw[LP] at hl
 obtain⟨a,ha,_⟩:=AE (hf (0,3) (by simp))
 obtain⟨b,hb,_⟩:=AE (hf (1,3) (by simp))
 obtain⟨v,hv⟩:=Eg (hf (2,54) (by simp))
 simp only[td3,Bb] at ha hb hv
 refine⟨⟨a,b,v⟩,?_⟩
 rw[oS hl [(0,1),(1,1),(2,3)] rfl]
 simp only[yK,ha,hb,hv]
 rfl
theorem VD{n:Nat}{x:List MV}(h:CT Tryz.prog (n+4) 22 x):∃l:List ND,x=[.lst 5 (l.map ND.c) false]:=by
 obtain⟨xs,hm,_,hx⟩:=Fm (by rw[VQ]) h
 obtain⟨l,rfl⟩:=F7 fun x hx'=>WI (hx x hx')
 rw[LP] at hm
 exact⟨l,hm⟩
theorem WJ{n:Nat}{x:List MV}(h:CT Tryz.prog (n+3) 55 x):∃f:F8,x=fc f:=by
 obtain⟨hl,ha⟩:=Pe (congrArg TD.k KB) h
 rw[KB] at hl
 rw[Bb] at ha
 simp only at hl ha
 obtain⟨a0,h0⟩:=Eg (ha 0 (by decide))
 obtain⟨a1,h1⟩:=Eg (ha 1 (by decide))
 obtain⟨a2,h2⟩:=Eg (ha 2 (by decide))
 obtain⟨a3,h3⟩:=Eg (ha 3 (by decide))
 obtain⟨a4,h4⟩:=Eg (ha 4 (by decide))
 obtain⟨a5,h5⟩:=Eg (ha 5 (by decide))
 obtain⟨a6,h6⟩:=Eg (ha 6 (by decide))
 obtain⟨a7,h7⟩:=Eg (ha 7 (by decide))
 refine⟨⟨[a0,a1,a2,a3,a4,a5,a6,a7],rfl⟩,?_⟩
 rw[oS hl [(0 * 3,3),(1 * 3,3),(2 * 3,3),(3 * 3,3),(4 * 3,3),(5 * 3,3),(6 * 3,3),(7 * 3,3)] rfl]
 simp only[yK,h0,h1,h2,h3,h4,h5,h6,h7]
 rfl
theorem VE{n:Nat}{x:List MV}(h:CT Tryz.prog (n+4) 57 x):∃p:PA,x=p.c:=by
 obtain⟨hl,hf⟩:=lN (congrArg TD.k Sb) h
 rw[Sb] at hl
 obtain⟨a,ha⟩:=VF (hf (0,23) (by simp))
 obtain⟨b,hb⟩:=VF (hf (1,23) (by simp))
 obtain⟨f,hff⟩:=WJ (hf (2,55) (by simp))
 simp only[KA,KB] at ha hb hff
 refine⟨⟨a,b,f⟩,?_⟩
 rw[oS hl [(0,1),(1,1),(2,24)] rfl]
 simp only[yK,ha,hb,hff,List.append_nil]
 rfl
theorem WH{n:Nat}{x:List MV}(h:CT Tryz.prog (n+5) 59 x):∃e:ED,x=e.c:=by
 obtain⟨hl,hf⟩:=lN (congrArg TD.k Um) h
 rw[Um] at hl
 obtain⟨a,ha,_⟩:=AE (hf (0,3) (by simp))
 obtain⟨b,hb,_⟩:=AE (hf (1,3) (by simp))
 obtain⟨c,hc,_⟩:=AE (hf (2,3) (by simp))
 obtain⟨p,hp⟩:=VE (hf (3,57) (by simp))
 simp only[td3,Sb] at ha hb hc hp
 refine⟨⟨a,b,c,p⟩,?_⟩
 rw[oS hl [(0,1),(1,1),(2,1),(3,26)] rfl]
 simp only[yK,ha,hb,hc,hp,List.append_nil]
 rfl
theorem Xu:ownKnob Tryz.prog.godebug=none:=by kernel_rfl
end

section
structure XM (m l q b pb pf:Nat):Prop where
 h2:pb≠m∧pb≠l∧pb≠q∧pb≠b
 h3:pf≠m∧pf≠l∧pf≠q∧pf≠b∧pf≠pb
end

section
structure SET where
 bk:BK
 fl:List ND
 mask:UInt32
 cur:Int
abbrev SET.c(s:SET):List MV:=s.bk.c++[.lst 5 (s.fl.map ND.c) false,.int .u32 (s.mask.toNat:Int),.int .i64 s.cur]
structure Fit (s:SET):Prop where
 ok:L9 s.bk=true
 nc:s.bk.cards.length≤60
 nd:s.bk.dead.length≤60
 ng:s.bk.gr.length≤1000000
 nm:∀g,g∈s.bk.gr→g.mem.length≤1000000
 fl:cR s.fl=0
 mok:s.mask.toNat≤511
end

section
def fD(f p:F8)(L:List Nat):F8:=L.foldl (fun g i=>g.set i (p.get i)) f
def cV(c:CA)(p:PA):CA:=⟨c.id,if c.ver<big then c.ver+1 else c.ver,if bit p.mask.toNat 8=true then p.lab else c.lab,fD c.f p.f (bV p.mask.toNat)⟩
theorem xS(c:CA)(p:PA)(h0:0≤c.ver):aA Tryz.prog 213 [.agg c.c,.agg p.c] St.none (fun r _=>r=.agg (cV c p).c):=by
 refine(mB 37 [.cell 4 126] Tryz.func213 ?_)
 have hml:=sL p.mask
 have hfl:=uC p.mask
 have hbl:=vC p.mask.toNat
 obtain⟨ml,hm8⟩:∃b,bit p.mask.toNat 8=b:=⟨_,rfl⟩
 rw[hm8] at hml
 have hlab:(cV c p).c=.int .i64 c.id::.int .i64 (if c.ver<1099511627776 then c.ver+1 else c.ver)::.int .u32 (((if ml=true then p.lab else c.lab:UInt32).toNat:Nat):Int)::fc (fD c.f p.f (bV p.mask.toNat)):=by rw[←hm8];rfl
 rw[hlab]
 clear hm8 hlab
 have hlt:∀i,i∈bV p.mask.toNat→i<8:=fun i=>tA
 obtain⟨L,hL⟩:∃L,bV p.mask.toNat=L:=⟨_,rfl⟩
 rw[hL] at hfl hbl hlt ⊢
 have hll:(dX L).length=L.length:=List.length_map _
 by_cases hv:c.ver<1099511627776<;>cases ml
 all_goals simp only[hv,Bool.false_eq_true,if_false,if_true]
 ·skip
  repeat' first|(with_reducible first|refine up hml ?_|refine up hfl ?_)|(refine wM ?_;(first|(have _:=nl3)|(have _:=nl2;intro nl3)|(have _:=nl1;intro nl2)|(intro nl1));intros)|refine wZ4 @Tryz.f213.eq_1 @FXs @hll @hv ?_|fail
  refine aF (α:=Nat) (fun i=>⟨37,[(24,.int .i64 (i:Int)),(23,.int .i64 (L.length:Int)),(22,.lst 1 (dX L) false),(4,.ptr nl3 0 0),(3,.ptr nl2 0 0),(2,.ptr nl1 0 0)],[]⟩)
   (fun i=>((St.none.set nl1 (.row 126 27 [.int .i64 c.id::.int .i64 (c.ver+1)::.int .u32 (c.lab.toNat:Int)::fc (fD c.f p.f (L.take i))])).set nl2 (.row 57 26 [p.c])).set nl3 (.row 126 27 [ca0.c])) (fun i=>i≤L.length) (fun i=>L.length - i) (.of (.less ?_ (St.le_refl _)) ⟨0,rfl,rfl,Nat.zero_le _⟩) ?_
  ·exact wW
  ·intro i hi
   have hi:i≤L.length:=hi
   by_cases hlt':i<L.length
   ·obtain⟨k,hk⟩:=bU L hlt'
    have hat:(dX L).getD i []=[.int .i64 (k:Int)]:=by rw[List.getD_eq_getElem?_getD,List.getElem?_map,hk];rfl
    have hk8:=hlt k (dY hk)
    have hsucc:fD c.f p.f (L.take (i+1))=(fD c.f p.f (L.take i)).set k (p.f.get k):=by rw[aZ hk,fD,List.foldl_append];rfl
    obtain⟨g,hg⟩:∃g,fD c.f p.f (L.take i)=g:=⟨_,rfl⟩
    rw[hg] at hsucc ⊢
    repeat' first|refine wZ3 @FXs @hat @hll ?_|fail
    all_goals (try (exfalso;omega))
    all_goals
     refine .of (.less ?_ (St.le_refl _)) ⟨i+1,rfl,by rw[hsucc];first|rfl|skip,(by omega:i+1≤L.length),by omega⟩
     exact wW
   ·have:i=L.length:=by omega
    subst this
    rw[List.take_length]
    repeat' first|refine wZ1 @FXs ?_|exact wC1 @FXs|fail
    all_goals first|exact⟨_,St.le_refl _,rfl⟩|exact⟨_,St.le_refl _⟩|rfl
 ·skip
  repeat' first|(with_reducible first|refine up hml ?_|refine up hfl ?_)|(refine wM ?_;(first|(have _:=nl3)|(have _:=nl2;intro nl3)|(have _:=nl1;intro nl2)|(intro nl1));intros)|refine wZ4 @Tryz.f213.eq_1 @FXs @hll @hv ?_|fail
  refine aF (α:=Nat) (fun i=>⟨37,[(24,.int .i64 (i:Int)),(23,.int .i64 (L.length:Int)),(22,.lst 1 (dX L) false),(4,.ptr nl3 0 0),(3,.ptr nl2 0 0),(2,.ptr nl1 0 0)],[]⟩)
   (fun i=>((St.none.set nl1 (.row 126 27 [.int .i64 c.id::.int .i64 (c.ver+1)::.int .u32 (p.lab.toNat:Int)::fc (fD c.f p.f (L.take i))])).set nl2 (.row 57 26 [p.c])).set nl3 (.row 126 27 [ca0.c])) (fun i=>i≤L.length) (fun i=>L.length - i) (.of (.less ?_ (St.le_refl _)) ⟨0,rfl,rfl,Nat.zero_le _⟩) ?_
  ·exact wW
  ·intro i hi
   have hi:i≤L.length:=hi
   by_cases hlt':i<L.length
   ·obtain⟨k,hk⟩:=bU L hlt'
    have hat:(dX L).getD i []=[.int .i64 (k:Int)]:=by rw[List.getD_eq_getElem?_getD,List.getElem?_map,hk];rfl
    have hk8:=hlt k (dY hk)
    have hsucc:fD c.f p.f (L.take (i+1))=(fD c.f p.f (L.take i)).set k (p.f.get k):=by rw[aZ hk,fD,List.foldl_append];rfl
    obtain⟨g,hg⟩:∃g,fD c.f p.f (L.take i)=g:=⟨_,rfl⟩
    rw[hg] at hsucc ⊢
    repeat' first|refine wZ3 @FXs @hat @hll ?_|fail
    all_goals (try (exfalso;omega))
    all_goals
     refine .of (.less ?_ (St.le_refl _)) ⟨i+1,rfl,by rw[hsucc];first|rfl|skip,(by omega:i+1≤L.length),by omega⟩
     exact wW
   ·have:i=L.length:=by omega
    subst this
    rw[List.take_length]
    repeat' first|refine wZ1 @FXs ?_|exact wC1 @FXs|fail
    all_goals first|exact⟨_,St.le_refl _,rfl⟩|exact⟨_,St.le_refl _⟩|rfl
 ·skip
  repeat' first|(with_reducible first|refine up hml ?_|refine up hfl ?_)|(refine wM ?_;(first|(have _:=nl3)|(have _:=nl2;intro nl3)|(have _:=nl1;intro nl2)|(intro nl1));intros)|refine wZ4 @Tryz.f213.eq_1 @FXs @hll @hv ?_|fail
  refine aF (α:=Nat) (fun i=>⟨37,[(24,.int .i64 (i:Int)),(23,.int .i64 (L.length:Int)),(22,.lst 1 (dX L) false),(4,.ptr nl3 0 0),(3,.ptr nl2 0 0),(2,.ptr nl1 0 0)],[]⟩)
   (fun i=>((St.none.set nl1 (.row 126 27 [.int .i64 c.id::.int .i64 c.ver::.int .u32 (c.lab.toNat:Int)::fc (fD c.f p.f (L.take i))])).set nl2 (.row 57 26 [p.c])).set nl3 (.row 126 27 [ca0.c])) (fun i=>i≤L.length) (fun i=>L.length - i) (.of (.less ?_ (St.le_refl _)) ⟨0,rfl,rfl,Nat.zero_le _⟩) ?_
  ·exact wW
  ·intro i hi
   have hi:i≤L.length:=hi
   by_cases hlt':i<L.length
   ·obtain⟨k,hk⟩:=bU L hlt'
    have hat:(dX L).getD i []=[.int .i64 (k:Int)]:=by rw[List.getD_eq_getElem?_getD,List.getElem?_map,hk];rfl
    have hk8:=hlt k (dY hk)
    have hsucc:fD c.f p.f (L.take (i+1))=(fD c.f p.f (L.take i)).set k (p.f.get k):=by rw[aZ hk,fD,List.foldl_append];rfl
    obtain⟨g,hg⟩:∃g,fD c.f p.f (L.take i)=g:=⟨_,rfl⟩
    rw[hg] at hsucc ⊢
    repeat' first|refine wZ3 @FXs @hat @hll ?_|fail
    all_goals (try (exfalso;omega))
    all_goals
     refine .of (.less ?_ (St.le_refl _)) ⟨i+1,rfl,by rw[hsucc];first|rfl|skip,(by omega:i+1≤L.length),by omega⟩
     exact wW
   ·have:i=L.length:=by omega
    subst this
    rw[List.take_length]
    repeat' first|refine wZ1 @FXs ?_|exact wC1 @FXs|fail
    all_goals first|exact⟨_,St.le_refl _,rfl⟩|exact⟨_,St.le_refl _⟩|rfl
 ·skip
  repeat' first|(with_reducible first|refine up hml ?_|refine up hfl ?_)|(refine wM ?_;(first|(have _:=nl3)|(have _:=nl2;intro nl3)|(have _:=nl1;intro nl2)|(intro nl1));intros)|refine wZ4 @Tryz.f213.eq_1 @FXs @hll @hv ?_|fail
  refine aF (α:=Nat) (fun i=>⟨37,[(24,.int .i64 (i:Int)),(23,.int .i64 (L.length:Int)),(22,.lst 1 (dX L) false),(4,.ptr nl3 0 0),(3,.ptr nl2 0 0),(2,.ptr nl1 0 0)],[]⟩)
   (fun i=>((St.none.set nl1 (.row 126 27 [.int .i64 c.id::.int .i64 c.ver::.int .u32 (p.lab.toNat:Int)::fc (fD c.f p.f (L.take i))])).set nl2 (.row 57 26 [p.c])).set nl3 (.row 126 27 [ca0.c])) (fun i=>i≤L.length) (fun i=>L.length - i) (.of (.less ?_ (St.le_refl _)) ⟨0,rfl,rfl,Nat.zero_le _⟩) ?_
  ·exact wW
  ·intro i hi
   have hi:i≤L.length:=hi
   by_cases hlt':i<L.length
   ·obtain⟨k,hk⟩:=bU L hlt'
    have hat:(dX L).getD i []=[.int .i64 (k:Int)]:=by rw[List.getD_eq_getElem?_getD,List.getElem?_map,hk];rfl
    have hk8:=hlt k (dY hk)
    have hsucc:fD c.f p.f (L.take (i+1))=(fD c.f p.f (L.take i)).set k (p.f.get k):=by rw[aZ hk,fD,List.foldl_append];rfl
    obtain⟨g,hg⟩:∃g,fD c.f p.f (L.take i)=g:=⟨_,rfl⟩
    rw[hg] at hsucc ⊢
    repeat' first|refine wZ3 @FXs @hat @hll ?_|fail
    all_goals (try (exfalso;omega))
    all_goals
     refine .of (.less ?_ (St.le_refl _)) ⟨i+1,rfl,by rw[hsucc];first|rfl|skip,(by omega:i+1≤L.length),by omega⟩
     exact wW
   ·have:i=L.length:=by omega
    subst this
    rw[List.take_length]
    repeat' first|refine wZ1 @FXs ?_|exact wC1 @FXs|fail
    all_goals first|exact⟨_,St.le_refl _,rfl⟩|exact⟨_,St.le_refl _⟩|rfl
end

section
def bY(id:Int)(p:PA):CA:=cV ⟨id,0,0,f80⟩ p
theorem Hf(id:Int)(p:PA):aA Tryz.prog 212 [.int .i64 id,.agg p.c] St.none (fun r _=>r=.agg (bY id p).c):=by
 refine(mB 9 [.cell 4 126] Tryz.func212 ?_)
 have h:=xS ⟨id,0,0,f80⟩ p (Int.le_refl 0)
 unfold bY
 obtain⟨m,hm⟩:∃m,cV ⟨id,0,0,f80⟩ p=m:=⟨_,rfl⟩
 rw[hm] at h ⊢
 repeat' first|(refine aC h ?_)|(refine wO ?_;intros)|refine wZ2 @Tryz.f212.eq_1 @FXs ?_|exact wC2 @Tryz.f212.eq_1 @FXs|fail
end

section
theorem Oc{nx:Int}{m l:Nat}(hlm:l≠m)(D:MV)(cs:List CA)(p:PA)(hp:bI p=0)(hn:cs.length<48)(hx0:0≤nx)(hx:nx<1073741824)(hnew:nx∉cs.map CA.id) :
  aA Tryz.prog 142 [.ptr l 0 0,.agg p.c] ((St.none.set m (.mp (cEs cs))).set l (shO nx m D)) (fun v σ'=>v=.tup [.agg (bY nx p).c,.int .i64 0]∧σ'=(St.none.set m (.mp (cEs (cs++[bY nx p])))).set l (shO (nx+1) m D)):=by
 refine aA.less (Q':=fun v σ'=>v=.tup [.agg (bY nx p).c,.int .i64 0]∧((St.none.set m (.mp (cEs (cs++[bY nx p])))).set l (shO (nx+1) m D)).le σ') ?_ fun v σ' h=>⟨_,h.2,h.1,rfl⟩
 refine(aA.gW 52 [.cell 4 126,.tmp 5] Tryz.func142 rfl rfl rfl rfl ?_)
 have hcp:=jD p
 rw[hp] at hcp
 have hfr:=Hf nx p
 have hid:(bY nx p).id=nx:=rfl
 have hput:dG .i64 nx (.agg (bY nx p).c) (cEs cs)=cEs (cs++[bY nx p]):=FO (c:=bY nx p) hnew
 have hik:=qV cs
 have hlen:(cEs cs).length=cs.length:=List.length_map _
 have hml:=Ne.symm hlm
 obtain⟨c,hc⟩:∃c,bY nx p=c:=⟨_,rfl⟩
 rw[hc] at hfr hid hput ⊢
 obtain⟨C,c1⟩:∃C:cD,∀ms,C 212 ms=some ⟨[],fun v=>v=.agg c.c,none⟩:=⟨tG 212 (.agg c.c),fun _=>fO⟩
 refine a8 (b5 ?_)
 repeat' first|(refine wO ?_;intros)|refine wZ1 @FXs ?_|fail
 refine bL (a8 (b5 ?_))
 repeat' first|refine wZ1 @FXs ?_|fail
 refine bL (a8 (b5 ?_))
 repeat' first|(refine aC hcp ?_)|refine wZ1 @FXs ?_|fail
 refine bL (a8 (a8 (bQ [_,_,_,_] _ [_,_,_,_,_,_,_,_] rfl rfl ?_)))
 repeat' first|refine wZ1 @FXs ?_|fail
 refine bL (A5 (t:=249) (l:=m) (es:=cEs cs) rfl (by rw[H0]) rfl sS ?_)
 show R _
 repeat' first|refine wZ2 @FXs @hlen ?_|fail
 all_goals (try (exfalso;omega))
 refine bL (b5 ?_)
 repeat' first|refine wZ1 @FXs ?_|fail
 refine bL (b5 ?_)
 repeat' first|((with_reducible refine aJ mixed ?chk C ?_);(case chk=>decide +kernel))|(with_reducible refine aH (c1 _) hfr ?_)|(refine wO ?_;intros)|refine wZ4 @FXs @hput @hik @hid ?_|fail
 have hcc:(.int .i64 nx::.int .i64 c.ver::.int .u32 (c.lab.toNat:Int)::fc c.f:List MV)=c.c:=by rw[←hid]
 rw[hcc,hput]
 refine⟨rfl,St.aB (St.aB (St.none_le _) ?_) ?_⟩
 ·simp[St.set, *]
 ·simp[St.set, *]
end

section
def bk1:BK:=⟨0,1,[],[],[]⟩
theorem xG:aA Tryz.prog 60 [] St.none (fun v σ'=>∃m l q b,dM m l q b∧v=.ptr b 0 0∧σ'=bkS m l q b bk1 []):=by
 refine aA.gh (Ih.mono ?_)
 rintro _ _ ⟨m,l,b,hlm,hbm,hbl,rfl,rfl⟩
 have hlb:=Ne.symm hbl
 refine Gh.LG (b:=l) (t:=251) (e:=3) (pre:=[.int .i64 1,.mapv m]) (post:=[]) 197 3 (by simp[St.set,hlb]) fun q hq=>?_
 simp only[aV] at hq
 obtain⟨q1,q2,q3,-⟩:=hq
 have q1':=Ne.symm q1
 have q2':=Ne.symm q2
 have q3':=Ne.symm q3
 refine Gh.LG (b:=b) (t:=140) (e:=3) (pre:=[.int .i64 0,.ptr l 0 0]) (post:=[]) 200 2 sS fun z hz=>?_
 simp only[aV] at hz
 obtain⟨zq,zl,z1,-,zm,-⟩:=hz
 have zq':=Ne.symm zq
 have zl':=Ne.symm zl
 have z1':=Ne.symm z1
 have zm':=Ne.symm zm
 refine .of (bA.Cp z b [.int .i64 0,.ptr l 0 0] [] (aD _ _ _) sS z1' (View.vecAll (aD _ _ _) rfl) rfl (σ1:=bkS m l q b bk1 []) (l1:=[(0,.ptr b 0 0)]) (aD _ _ _) (fun k o hk=>?_)
  (fun p hp=>by simp only[List.mem_singleton] at hp;subst hp;exact .same _)) ⟨_,rfl,m,l,q,b,⟨hlm,q3,q2,hbm,hbl,q1'⟩,rfl,rfl⟩
 by_cases k1:k=b
 ·subst k1;exact⟨z1',.inl rfl⟩
 ·have hk:shS 1 m l q [] [] [] k=some o:=(aG _ _ _ _ k1).symm.trans hk
  have k2:k≠z:=fun e=>by
   subst e
   simp[St.set,St.none, *] at hk
  refine⟨k2,.inr ?_⟩
  rw[aG _ _ _ _ k2,aG _ _ _ _ k1]
  by_cases k3:k=q
  ·subst k3;simpa[St.set] using hk
  ·by_cases k4:k=l
   ·subst k4;simpa[St.set,k3] using hk
   ·by_cases k5:k=m
    ·subst k5;simpa[St.set,k3,k4,k1,cEs] using hk
    ·simp[St.set,St.none,k3,k4,k5] at hk
end

section
theorem mS{g1:FuncId}{r1:List Nat}{q1:MV→Prop}{x1:List aT × (Nat→MV)}:PlU (.these [g1]) (fnF [(g1,⟨r1,q1,some x1⟩)]):=by
 intro g' ms rd q' x' h
 simp only[fnF] at h
 split at h
 ·rename_i e
  subst e
  exact .inr (List.mem_singleton.2 rfl)
 ·cases h
theorem kR{P:Program}{g:FuncId}{ms:List MV}{σ:St}{p b:Nat}{op ob ob':aT}{r:MV}{k:MV→St→Prop}(hbp:b≠p)(hp:σ p=some op)(hb:σ b=some ob)
 (h:aA P g ms ((St.none.set p op).set b ob) fun v σ'=>v=r∧σ'=St.none.set b ob')(hk:R (bT r ((σ.del p).set b ob') k)):R (cW P g ms σ k) :=
 bK h (St.aB (St.aB (St.none_le _) hp) hb) fun v σ' hv _=>by
  obtain⟨rfl,rfl⟩:=hv
  have e:(St.none.set b ob').over (σ.minus ((St.none.set p op).set b ob))=(σ.del p).set b ob':=by
   funext j
   by_cases h1:j=b
   ·subst h1;simp[St.over,St.set]
   ·by_cases h2:j=p
    ·subst h2;simp[St.over,St.set,St.none,St.minus,St.del,h1]
    ·simp[St.over,St.set,St.none,St.minus,St.del,h1,h2]
  rw[e];exact hk
theorem uB{nx sq:Int}{m l b:Nat}(hlm:l≠m)(hbm:b≠m)(hbl:b≠l)(D g:MV)(cs:List CA)(p:PA)(hp:bI p=0)(hn:cs.length<48)(hx0:0≤nx)(hx:nx<1073741824)(hnew:nx∉cs.map CA.id)(h0:0≤sq)(h1:sq≤1099511627776) :
  aA Tryz.prog 69 [.ptr b 0 0,.agg (ED.mk 1 0 0 p).c] (((St.none.set m (.mp (cEs cs))).set l (shO nx m D)).set b (bG sq l g)) (fun v σ'=>v=.tup [.lst 2 (dA sq [nx]) false,.int .i64 0]∧σ'=((St.none.set m (.mp (cEs (cs++[bY nx p])))).set l (shO (nx+1) m D)).set b (bG (sq+1) l g)):=by
 refine aA.less (Q':=fun v σ'=>v=.tup [.lst 2 (dA sq [nx]) false,.int .i64 0]∧(((St.none.set m (.mp (cEs (cs++[bY nx p])))).set l (shO (nx+1) m D)).set b (bG (sq+1) l g)).le σ') (mB 26 [.tmp 4,.tmp 5] Tryz.func69 ?_) fun v σ' h=>⟨_,h.2,h.1,rfl⟩
 have hadd:=Oc hlm D cs p hp hn hx0 hx hnew
 have hml:=Ne.symm hlm
 have hmb:=Ne.symm hbm
 have hlb:=Ne.symm hbl
 have hst:=fun {k:Nat} (hk:b≠k)=>qB (sq:=sq) l g hk [(bY nx p).id] h0 h1 (by simp)
 simp only[List.map_cons,List.map_nil,List.length_cons,List.length_nil] at hst
 have hid:(bY nx p).id=nx:=rfl
 obtain⟨c,hc⟩:∃c,bY nx p=c:=⟨_,rfl⟩
 rw[hc] at hadd hid ⊢
 simp only[hc] at hst
 obtain⟨K,hK,c1⟩:∃K:cD,PlU (.these [142]) K∧∀ms,K 142 ms=some ⟨[l,m],fun _=>True,some ([shO (nx+1) m D,.mp (cEs (cs++[c]))],fun _=>.tup [.agg c.c,.int .i64 0])⟩ :=
  ⟨fnF [(142,⟨[l,m],fun _=>True,some ([shO (nx+1) m D,.mp (cEs (cs++[c]))],fun _=>.tup [.agg c.c,.int .i64 0])⟩)],mS,fun _=>fJ⟩
 have hadd':aA Tryz.prog 142 [.ptr l 0 0,.agg p.c] (St.ofList [l,m] [shO nx m D,.mp (cEs cs)]) (fun v σ'=>v=.tup [.agg c.c,.int .i64 0]∧σ'=((St.ofList [l,m] [shO nx m D,.mp (cEs cs)]).set m (.mp (cEs (cs++[c])))).set l (shO (nx+1) m D)):=hadd.mono (by
  rintro v σ' ⟨h1,rfl⟩
  refine⟨h1,funext fun j=>?_⟩
  by_cases h1:j=l
  ·subst h1;simp[St.set]
  ·by_cases h2:j=m
   ·subst h2;simp[St.set,h1]
   ·simp[St.ofList,St.set,h1,h2])
 repeat' first|(refine cB mixed [142] dK K hK ?_)|(refine FY (os:=[shO nx m D,.mp (cEs cs)]) (c1 _) sS hadd' ?_)|(refine wM ?_;(first|(have _:=nl3)|(have _:=nl2;intro nl3)|(have _:=nl1;intro nl2)|(intro nl1));intros)|refine wZ2 @Tryz.f69.eq_1 @FXs ?_|fail
 have n1:b≠nl3:=by assumption
 refine kR n1 (aD _ _ _) sS (hst n1) ?_
 repeat' first|refine wZ0 ?_|fail
 refine⟨by rw[hid],St.aB (St.aB (St.aB (St.none_le _) ?_) ?_) ?_⟩
 all_goals simp[St.set,St.del, *]
end

section
theorem aA.B6{P:Program}{g:FuncId}{ms:List MV}{τ τ1:St}{n:Nat}{o:aT}{r:MV}(hn:τ n=none)(h1:τ1 n=none)(h:aA P g ms τ fun v σ'=>v=r∧σ'=τ1):aA P g ms (τ.set n o) fun v σ'=>v=r∧σ'=τ1.set n o :=
 (h.frame (St.bM (St.le_refl _) hn)).mono (by
  rintro v σ1 ⟨σ',⟨hv,rfl⟩,rfl,-⟩
  refine⟨hv,funext fun j=>?_⟩
  by_cases hj:j=n
  ·subst hj;simp[St.over,St.minus,St.set,hn,h1]
  ·simp only[St.over,St.minus,St.set,if_neg hj]
   cases σ' j with
   | some o=>rfl
   | none=>cases τ j<;>rfl)
theorem Oe{nx sq:Int}{m l b:Nat}(hlm:l≠m)(hbm:b≠m)(hbl:b≠l)(D g:MV)(cs:List CA)(p:PA)(hp:bI p=0)(hn:cs.length<48)(hx0:0≤nx)(hx:nx<1073741824)(hnew:nx∉cs.map CA.id)(h0:0≤sq)(h1:sq≤1000000000000) :
  aA Tryz.prog 17 [.ptr b 0 0,.agg (ED.mk 1 0 0 p).c] (((St.none.set m (.mp (cEs cs))).set l (shO nx m D)).set b (bG sq l g)) (fun v σ'=>v=.tup [.lst 2 (dA sq [nx]) false,.int .i64 0]∧σ'=((St.none.set m (.mp (cEs (cs++[bY nx p])))).set l (shO (nx+1) m D)).set b (bG (sq+1) l g)):=by
 refine aA.less (Q':=fun v σ'=>v=.tup [.lst 2 (dA sq [nx]) false,.int .i64 0]∧(((St.none.set m (.mp (cEs (cs++[bY nx p])))).set l (shO (nx+1) m D)).set b (bG (sq+1) l g)).le σ') (mB 31 [.tmp 4,.tmp 5] Tryz.func17 ?_) fun v σ' h=>⟨_,h.2,h.1,rfl⟩
 have hck:=dE (ED.mk 1 0 0 p)
 have he:aQ (ED.mk 1 0 0 p)=0:=by
  unfold aQ
  simp[edG,edI,edP,hp]
 rw[he] at hck
 have hcr:=uB hlm hbm hbl D g cs p hp hn hx0 hx hnew h0 oM
 have hml:=Ne.symm hlm
 have hmb:=Ne.symm hbm
 have hlb:=Ne.symm hbl
 generalize dA sq [nx]=R1 at hcr ⊢
 obtain⟨c,hc⟩:∃c,bY nx p=c:=⟨_,rfl⟩
 rw[hc] at hcr ⊢
 repeat' first|(refine aC hck ?_)|(refine cA mixed (fun _ _=>none) [_,_,_,_,_,_,_] [_,_,_,_] rfl dK ?_)|(refine wO ?_;intros)|refine wZ2 @Tryz.f17.eq_1 @FXs ?_|fail
 all_goals (try (exfalso;omega))
 refine dI (aA.B6 (by simp[St.set,St.none, *]) (by simp[St.set,St.none, *]) (aA.B6 (by simp[St.set,St.none, *]) (by simp[St.set,St.none, *]) hcr)) ?_
 repeat' first|refine wZ0 ?_|fail
 exact St.bM (St.bM (St.le_refl _) (by simp[St.set,St.none, *])) (by simp[St.set,St.none, *])
end

section
def wrC(cs:List CA)(id:Int)(x:CA):List CA:=cs.map fun c=>if c.id=id then x else c
theorem FT{x:CA}:∀{cs:List CA},UpI (cs.map CA.id)→x.id∈cs.map CA.id→dG .i64 x.id (.agg x.c) (cEs cs)=cEs (wrC cs x.id x)
 | [],_,h=>by cases h
 | d::cs,hu,h=>by
  obtain⟨h1,h2⟩:=List.pairwise_cons.1 hu
  simp only[cEs,List.map_cons,wrC,dG]
  by_cases e:d.id=x.id
  ·rw[if_pos e,if_pos e,e]
   congr 1
   rw[List.map_map]
   refine List.map_congr_left fun c hc=>?_
   have:d.id<c.id:=h1 _ (List.mem_map.2 ⟨c,hc,rfl⟩)
   simp only[Function.comp]
   rw[if_neg oM]
  ·rw[if_neg e,if_neg e]
   have hm:x.id∈cs.map CA.id:=by
    rcases List.mem_cons.1 h with h|h
    ·exact absurd h.symm e
    ·exact h
   have ih:=FT (cs:=cs) h2 hm
   simp only[cEs,wrC] at ih
   rw[ih]
theorem BT(nx:Int){m l q:Nat}(hlm:l≠m)(hqm:q≠m)(hql:q≠l)(cs:List CA)(hu:UpI (cs.map CA.id))(ds:List DE)(hd:ds.length≤1000000)(ex:List (List MV))(id:Int)(p:PA)(hp:bI p=0){c:CA}(hc:bB cs ds id=(c,0))(hv0:0≤c.ver)(hv:c.ver<1099511627776) :
  aA Tryz.prog 144 [.ptr l 0 0,.int .i64 id,.agg p.c] (shS nx m l q cs ds ex) (fun v σ'=>v=.tup [.agg (cV c p).c,.int .i64 0]∧σ'=shS nx m l q (wrC cs id (cV c p)) ds ex):=by
 have hid:c.id=id∧c∈cs:=by
  unfold bB at hc
  cases e:cs.find? (fun c=>decide (c.id=id)) with
  | none =>
   rw[e] at hc
   simp only[Prod.mk.injEq] at hc
   have:=hc.2
   split at this<;>cases this
  | some x =>
   rw[e] at hc
   cases hc
   exact⟨by simpa using List.find?_some e,List.mem_of_find?_eq_some e⟩
 obtain⟨hid,hmem⟩:=hid
 refine aA.less (Q':=fun v σ'=>v=.tup [.agg (cV c p).c,.int .i64 0]∧(shS nx m l q (wrC cs id (cV c p)) ds ex).le σ') (mB 46 [.cell 6 126,.tmp 7] Tryz.func144 ?_) fun v σ' h=>⟨_,h.2,h.1,rfl⟩
 have hcp:=jD p
 rw[hp] at hcp
 have hg:=iE nx hlm hqm hql cs ds hd ex id
 rw[hc] at hg
 have hme:=xS c p hv0
 have hx:(cV c p).id=id:=hid
 have hput:dG .i64 id (.agg (cV c p).c) (cEs cs)=cEs (wrC cs id (cV c p)):=by
  have:=FT (x:=cV c p) hu (by rw[hx,←hid];exact List.mem_map.2 ⟨c,hmem,rfl⟩)
  rw[hx] at this
  exact this
 have hik:=qV cs
 generalize hR:wrC cs id (cV c p)=cs' at hput ⊢
 obtain⟨x,hxx⟩:∃x,cV c p=x:=⟨_,rfl⟩
 rw[hxx] at hme hput ⊢
 have hml:=Ne.symm hlm
 have hmq:=Ne.symm hqm
 have hlq:=Ne.symm hql
 simp only[shS] at hg ⊢
 repeat' first|(refine aC hcp ?_)|(refine b6 hg (St.aB (St.aB (St.aB (St.none_le _) sS) sS) sS) ?_)|(refine aC hme ?_)|(refine wO ?_;intros)|refine wZ4 @Tryz.f144.eq_1 @FXs @hput @hik ?_|fail
 refine St.aB (St.aB (St.aB (St.none_le _) ?_) ?_) ?_
 all_goals simp[St.set, *]
end

section
theorem uA{nx sq:Int}{m l q b:Nat}(D:dM m l q b)(cs:List CA)(hu:UpI (cs.map CA.id))(ds:List DE)(hd:ds.length≤1000000)(ex:List (List MV))(g:MV)(id:Int)(p:PA)(hp:bI p=0){c:CA}(hc:bB cs ds id=(c,0))(hv0:0≤c.ver)(hv:c.ver<1099511627776)(h0:0≤sq)(h1:sq≤1099511627776) :
  aA Tryz.prog 70 [.ptr b 0 0,.agg (ED.mk 2 id 0 p).c] ((shS nx m l q cs ds ex).set b (bG sq l g)) (fun v σ'=>v=.tup [.lst 2 (dA sq [id]) false,.int .i64 0]∧σ'=(shS nx m l q (wrC cs id (cV c p)) ds ex).set b (bG (sq+1) l g)):=by
 refine aA.less (Q':=fun v σ'=>v=.tup [.lst 2 (dA sq [id]) false,.int .i64 0]∧((shS nx m l q (wrC cs id (cV c p)) ds ex).set b (bG (sq+1) l g)).le σ') (mB 28 [.tmp 4,.tmp 5] Tryz.func70 ?_) fun v σ' h=>⟨_,h.2,h.1,rfl⟩
 have hw:=BT nx D.lm D.qm D.ql cs hu ds hd ex id p hp hc hv0 hv
 generalize wrC cs id (cV c p)=cs' at hw ⊢
 obtain⟨x,hx⟩:∃x,cV c p=x:=⟨_,rfl⟩
 rw[hx] at hw
 have hst:=fun {k:Nat} (hk:b≠k)=>qB (sq:=sq) l g hk [id] h0 h1 (by simp)
 simp only[List.map_cons,List.map_nil,List.length_cons,List.length_nil] at hst
 obtain⟨d1,d2,d3,d4,d5,d6⟩:=D
 have e1:=Ne.symm d1
 have e2:=Ne.symm d2
 have e3:=Ne.symm d3
 have e4:=Ne.symm d4
 have e5:=Ne.symm d5
 have e6:=Ne.symm d6
 obtain⟨K,hK,c1⟩:∃K:cD,PlU (.these [144]) K∧∀ms,K 144 ms=some ⟨[m,l,q],fun _=>True,some ([.mp (cEs cs')],fun _=>.tup [.agg x.c,.int .i64 0])⟩ :=
  ⟨fnF [(144,⟨[m,l,q],fun _=>True,some ([.mp (cEs cs')],fun _=>.tup [.agg x.c,.int .i64 0])⟩)],mS,fun _=>fJ⟩
 have hw':aA Tryz.prog 144 [.ptr l 0 0,.int .i64 id,.agg p.c] (St.ofList [m,l,q] [.mp (cEs cs),shO nx m (.vec 3 q 0 ds.length),.row 197 3 (ds.map DE.c++ex)]) (fun v σ'=>v=.tup [.agg x.c,.int .i64 0]∧σ'=(St.ofList [m,l,q] [.mp (cEs cs),shO nx m (.vec 3 q 0 ds.length),.row 197 3 (ds.map DE.c++ex)]).set m (.mp (cEs cs'))):=by
  have e:St.ofList [m,l,q] [.mp (cEs cs),shO nx m (.vec 3 q 0 ds.length),.row 197 3 (ds.map DE.c++ex)]=shS nx m l q cs ds ex:=by
   funext j
   by_cases h1:j=q
   ·subst h1;simp[St.ofList,St.set, *]
   ·by_cases h2:j=l
    ·subst h2;simp[St.ofList,St.set, *]
    ·by_cases h3:j=m
     ·subst h3;simp[St.ofList,St.set, *]
     ·simp[St.ofList,St.set, *]
  rw[e]
  refine hw.mono ?_
  rintro v σ' ⟨h1,rfl⟩
  refine⟨h1,funext fun j=>?_⟩
  by_cases h1:j=q
  ·subst h1;simp[St.set, *]
  ·by_cases h2:j=l
   ·subst h2;simp[St.set, *]
   ·by_cases h3:j=m
    ·subst h3;simp[St.set, *]
    ·simp[St.set, *]
 clear hw
 simp only[shS]
 repeat' first|(refine cB mixed [144] dK K hK ?_)|(refine jL (os:=[.mp (cEs cs),shO nx m (.vec 3 q 0 ds.length),.row 197 3 (ds.map DE.c++ex)]) (c1 _) sS hw' ?_)|(refine wM ?_;(first|(have _:=nl3)|(have _:=nl2;intro nl3)|(have _:=nl1;intro nl2)|(intro nl1));intros)|refine wZ2 @Tryz.f70.eq_1 @FXs ?_|fail
 have n1:b≠nl3:=by assumption
 refine kR n1 (aD _ _ _) sS (hst n1) ?_
 repeat' first|refine wZ0 ?_|fail
 refine St.aB (St.aB (St.aB (St.aB (St.none_le _) ?_) ?_) ?_) ?_
 all_goals simp[St.set, *]
theorem Of{nx sq:Int}{m l q b:Nat}(D:dM m l q b)(cs:List CA)(hu:UpI (cs.map CA.id))(ds:List DE)(hd:ds.length≤1000000)(ex:List (List MV))(g:MV)(id:Int)(p:PA)(hp:bI p=0){c:CA}(hc:bB cs ds id=(c,0))(hv0:0≤c.ver)(hv:c.ver<1099511627776)(h0:0≤sq)(h1:sq≤1000000000000)(h2:1≤id)(h5:id<1073741824) :
  aA Tryz.prog 17 [.ptr b 0 0,.agg (ED.mk 2 id 0 p).c] ((shS nx m l q cs ds ex).set b (bG sq l g)) (fun v σ'=>v=.tup [.lst 2 (dA sq [id]) false,.int .i64 0]∧σ'=(shS nx m l q (wrC cs id (cV c p)) ds ex).set b (bG (sq+1) l g)):=by
 refine aA.less (Q':=fun v σ'=>v=.tup [.lst 2 (dA sq [id]) false,.int .i64 0]∧((shS nx m l q (wrC cs id (cV c p)) ds ex).set b (bG (sq+1) l g)).le σ') ?_ fun v σ' h=>⟨_,h.2,h.1,rfl⟩
 have hcr:=uA (nx:=nx) D cs hu ds hd ex g id p hp hc hv0 hv h0 oM
 generalize wrC cs id (cV c p)=cs' at hcr ⊢
 simp only[shS] at hcr ⊢
 refine(mB 31 [.tmp 4,.tmp 5] Tryz.func17 ?_)
 have hck:=dE (ED.mk 2 id 0 p)
 have he:aQ (ED.mk 2 id 0 p)=0:=by
  unfold aQ mM
  simp[edG,edI,edP,hp]
  omega
 rw[he] at hck
 obtain⟨d1,d2,d3,d4,d5,d6⟩:=D
 have e1:=Ne.symm d1
 have e2:=Ne.symm d2
 have e3:=Ne.symm d3
 have e4:=Ne.symm d4
 have e5:=Ne.symm d5
 have e6:=Ne.symm d6
 generalize dA sq [id]=R1 at hcr ⊢
 repeat' first|(refine aC hck ?_)|(refine cA mixed (fun _ _=>none) [_,_,_,_,_,_,_] [_,_,_,_] rfl dK ?_)|(refine wO ?_;intros)|refine wZ2 @Tryz.f17.eq_1 @FXs ?_|fail
 all_goals (try (exfalso;omega))
 refine dI (aA.B6 (by simp[St.set,St.none, *]) (by simp[St.set,St.none, *]) (aA.B6 (by simp[St.set,St.none, *]) (by simp[St.set,St.none, *]) hcr)) ?_
 repeat' first|refine wZ0 ?_|fail
 exact St.bM (St.bM (St.le_refl _) (by simp[St.set,St.none, *])) (by simp[St.set,St.none, *])
end

section
theorem LV{P:Program}{g:FuncId}{ms:List MV}{σ:St}{B:BK}{u:Nat→MV}{k:MV→St→Prop}(h:aA P g ms St.none fun v σ'=>∃m l q b,dM m l q b∧v=u b∧σ'=bkS m l q b B [])
 (hk:∀m l q b,σ m=none→σ l=none→σ q=none→σ b=none→dM m l q b→R (bT (u b) ((((σ.set m (.mp (cEs B.cards))).set l (shO B.nx m (.vec 3 q 0 B.dead.length))).set q (.row 197 3 (B.dead.map DE.c))).set b (bG B.sq l (.lst 2 (B.gr.map GR.c) false))) k)):R (cW P g ms σ k) :=
 bK h (St.none_le σ) fun v σ' hv hf=>by
  obtain⟨m,l,q,b,D,rfl,rfl⟩:=hv
  have fr:∀j o,bkS m l q b B [] j=some o→σ j=none:=fun j o hj=>by
   rcases hf j o hj with h|⟨o',h⟩
   ·exact h
   ·simp[St.none] at h
  have fm:=fr m (.mp (cEs B.cards)) (by simp[St.set,Ne.symm D.lm,Ne.symm D.qm,Ne.symm D.bm])
  have fl:=fr l (shO B.nx m (.vec 3 q 0 B.dead.length)) (by simp[St.set,Ne.symm D.ql,Ne.symm D.bl])
  have fq:=fr q (.row 197 3 (B.dead.map DE.c++[])) (by simp[St.set,Ne.symm D.bq])
  have fb:=fr b _ (aD _ _ _)
  rw[lY,bE,bE,bE,bE,dC,List.append_nil]
  exact hk m l q b fm fl fq fb D
theorem UY{m l q b f:Nat}{B:BK}{fl:List ND}{d:Bool}{σ:St}(hm:σ m=some (.mp (cEs B.cards)))(hl:σ l=some (shO B.nx m (.vec 3 q 0 B.dead.length)))(hq:σ q=some (.row 197 3 (B.dead.map DE.c)))(hb:σ b=some (bG B.sq l (.lst 2 (B.gr.map GR.c) false)))(hf:σ f=some (flD fl d)):(bfS m l q b B f fl d).le σ :=
 St.aB (St.aB (St.aB (St.aB (St.aB (St.none_le _) hm) hl) (by rw[List.append_nil];exact hq)) hb) hf
theorem UZ{m l q b:Nat}{B:BK}{σ:St}(hm:σ m=some (.mp (cEs B.cards)))(hl:σ l=some (shO B.nx m (.vec 3 q 0 B.dead.length)))(hq:σ q=some (.row 197 3 (B.dead.map DE.c)))(hb:σ b=some (bG B.sq l (.lst 2 (B.gr.map GR.c) false))):(bkS m l q b B []).le σ :=
 St.aB (St.aB (St.aB (St.aB (St.none_le _) hm) hl) (by rw[List.append_nil];exact hq)) hb
theorem Wq{P:Program}{g:FuncId}{ms:List MV}{m l q b f:Nat}{B:BK}{fl:List ND}{d d':Bool}{r:MV}(h:aA P g ms (bfS m l q b B f fl d) fun v σ'=>v=r∧σ'=bfS m l q b B f fl d') :
  aA P g ms (St.ofList [f,b,q,l,m] [flD fl d,bG B.sq l (.lst 2 (B.gr.map GR.c) false),.row 197 3 (B.dead.map DE.c),shO B.nx m (.vec 3 q 0 B.dead.length),.mp (cEs B.cards)]) fun v σ'=>v=r∧σ'=(St.ofList [f,b,q,l,m] [flD fl d,bG B.sq l (.lst 2 (B.gr.map GR.c) false),.row 197 3 (B.dead.map DE.c),shO B.nx m (.vec 3 q 0 B.dead.length),.mp (cEs B.cards)]).set f (flD fl d'):=by
 have e:bfS m l q b B f fl d=St.ofList [f,b,q,l,m] [flD fl d,bG B.sq l (.lst 2 (B.gr.map GR.c) false),.row 197 3 (B.dead.map DE.c),shO B.nx m (.vec 3 q 0 B.dead.length),.mp (cEs B.cards)]:=by
  simp only[bfS,bkS,shS,St.ofList,List.append_nil]
 rw[e] at h
 refine h.mono ?_
 rintro v σ' ⟨h1,rfl⟩
 refine⟨h1,funext fun j=>?_⟩
 by_cases hj:j=f<;>simp[St.ofList,St.set,hj]
theorem Hj{L:List FuncId}:∀{l:List (FuncId × Fact)},(∀p,p∈l→p.2.new=none∨p.1∈L)→PlU (.these L) (fnF l)
 | [],_=>fun g ms rd q x h=>by simp[fnF] at h
 | (g',F)::r,h=>fun g ms rd q x e=>by
  simp only[fnF] at e
  split at e
  ·rename_i hg
   subst hg
   simp only[Option.some.injEq] at e
   subst e
   rcases h _ (List.mem_cons_self ..) with h1|h1
   ·cases h1
   ·exact .inr h1
  ·exact Hj (fun p hp=>h p (List.mem_cons_of_mem _ hp)) g ms rd q x e
end

section
theorem A6{P:Program}{o:Oper}{f:FR}{σ:St}{k:MV→St→Prop}{t el:TypeId}{x y z u:Operand}(ho:o.op=.slice t x (some y) (some z) (some u))(ht:(td P t).k=.slice el)(hok:(td P el).ok=true){e l n:Nat}
 (hx:aE f x=.vec e l 0 n){k1 k2 k3:IntKind}{a b c:Int}(hy:aE f y=.int k1 a)(hz:aE f z=.int k2 b)(hu:aE f u=.int k3 c)(h0:0≤a)(h1:a≤b)(h2:b≤c)(h3:c≤(n:Int))(hk:k .junk σ):sop P o f σ k:=by
 intro Φ w ac K Q' hi hr hK
 have rx:=aI hr x
 have ry:=aI hr y
 have rz:=aI hr z
 have ru:=aI hr u
 rw[hx] at rx
 rw[hy] at ry
 rw[hz] at rz
 rw[hu] at ru
 generalize hv:ac.eval x=vx at rx
 obtain⟨ad,cap,p,rfl,hp,hpe,hcap,hncap,hR⟩:=rx.dR
 have e1:=ry.aS
 have e2:=rz.aS
 have e3:=ru.aS
 have hrun:∃v,(execOp ac.eval o).run P w=.ok (.value v) w:=by
  unfold execOp
  simp only[ho,hv,Option.map_some,Option.map_none,e1,e2,e3,Sem.run_bind,Instr.sliceAt,aK (aW ht),Result.andThen_ok,Instr.slice,Instr.sliceBounds,Sem.run_pure]
  rw[run_sliceBound ⟨by omega,by omega⟩]
  simp only[Result.andThen_ok]
  rw[run_sliceBound ⟨by omega,by omega⟩]
  simp only[Result.andThen_ok]
  rw[run_sliceBound ⟨by omega,by omega⟩]
  simp only[Result.andThen_ok,Option.isSome_some,if_true,aO hok,Sem.run_pure]
  exact⟨_,rfl⟩
 obtain⟨v,hrun⟩:=hrun
 exact bJ hrun (hK _ .junk _ Φ w (.junk _) hi (.refl _ _ _) hk)
end

section
theorem UE:∀t:T,t.fl≠[]:=fun t=>by cases t<;>simp[T.fl]
theorem Sf{x:ND}(h:cR [x]=0):qK [x]=.leaf x:=by
 have ht:=(y6 h).2.1
 cases hc:qK [x] with
 | leaf y=>rw[hc] at ht;simp only[T.fl,List.cons.injEq,and_true] at ht;rw[ht]
 | one y a=>rw[hc] at ht;simp only[T.fl,List.cons.injEq] at ht;exact absurd ht.2 (UE a)
 | two y a b=>rw[hc] at ht;simp only[T.fl,List.cons.injEq,List.append_eq_nil_iff] at ht;exact absurd ht.2.1 (UE a)
theorem A0{x:ND}(h:cR [x]=0)(gr:List GR)(c:CA):eR gr [x] c=if x.op=1 then true else if x.op=2 then false else cE (pA c) (grB gr c.id) x:=by
 unfold eR
 rw[Sf h];rfl
def pa1:PA:=⟨1,0,f80⟩
def ex1:CA:=bY 1 pa1
def ex2:CA:=bY 2 pa1
def exB:BK:=⟨4,3,[ex1,ex2],[],[⟨3,[2]⟩]⟩
end

section
theorem uL{l C:Nat}{P:Program}{f:FR}{σ:St}{o:Oper}{k:MV→St→Prop}{s x:Operand}{t xt el:TypeId}(ho:o.op=.call { callee:=.builtin .append,args:=#[s,x],argTypes:=#[t,xt] })
 (ht:(td P t).k=.slice el)(hxt:(td P xt).k.isInt=true)(hz:(td P el).zok=true)(h0:0<(td P el).size){tt:TypeId}{xs:List (List MV)}(hsl:σ l=some (.row tt (td P el).size xs)){i:Nat}(hs:aE f s=.vec (td P el).size l 0 i)(hin:i≤xs.length)
 {n:Int}(hx:aE f x=.int .i64 n)(hn:0<n)(hC:C<i+n.toNat)(hm:i+n.toNat≤140737488355328)(hb:(i+n.toNat) * (td P el).bytes≤140737488355328)
 (hk:∀l',σ l'=none→k (.vec (td P el).size l' 0 (i+n.toNat)) (σ.set l' (.row el (td P el).size (xs.take i++List.replicate n.toNat (td P el).zero)))):EP l C P o f σ k:=by
 intro Φ w a K Q' hG hi hr hK
 obtain⟨l',hl',hsl'⟩:=inv_eq hi
 have hsx:fG σ (td P el).size (aE f s)=some (xs.take i):=by rw[hs];simp[fG,hsl,hin]
 obtain⟨old,hold,horel,hxl⟩:=iC (P:=P) hsx hi (aI hr s)
 have hlen:(xs.take i).length=i:=by rw[List.length_take];omega
 rw[hlen] at hold
 have rs:=aI hr s
 rw[hs] at rs
 obtain⟨ad,cap,p,hv,hp,hpe,hcap,hncap,hR⟩:=rs.dR
 obtain⟨p',hp',hpC⟩:=hG
 rw[hp] at hp';cases hp'
 have hcC:cap=C:=by omega
 subst hcC
 have e2:a.eval x=.int .i64 n:=by have:=aI hr x;rw[hx] at this;exact this.aS
 obtain⟨z,hz0,hz1,hz2,hok,hz3,_⟩:=dH hz w.drew
 have hzlen:(td P el).zero.length=(td P el).size:=by rw[←hz1,←hz2];simp
 obtain⟨ii,d,hinf,hd,hsz,hby,_⟩:=cY hok
 obtain⟨ik,hxu⟩:=C5 hxt
 have w1:IntKind.i64.wrap n=n:=IntWalk.i64_in n oM
 have hf1:(Builtin.firstCells (td P el).size i (.slice ad i cap)).run P w.drew=.ok old w.drew:=by have:=(hold w.drew rfl).2;rw[hv] at this;exact this
 have hrun:(Builtin.append_ #[t,xt] o.type #[.slice ad i cap,.int .i64 n]).run P w=.ok (.slice (some ⟨w.heap.size,0,none⟩) (i+n.toNat) (grownCap w (i+n.toNat) cap el)) (w.drew.alloc (.cells (old++Builtin.zeroCells z.cells n.toNat++Builtin.zeroCells z.cells (grownCap w (i+n.toNat) cap el - (i+n.toNat))) el)):=by
  have hroom:¬(i+n.toNat≤cap):=by omega
  have h48':¬(Builtin.nextslicecap (i+n.toNat) cap * ii.bytes > 2 ^ 48):=by
   rw[←hby]
   have:=growslice_fits (show cap<i+n.toNat by omega) hb
   omega
  have h63:¬(((i+n.toNat:Nat):Int) > IntKind.i64.max):=by
   simp only[IntKind.max,IntKind.signed,IntKind.bits]
   simp
   omega
  have hneg:¬(n<0):=by omega
  have hbig:¬(n * ii.bytes > 2 ^ 48):=by
   rw[←hby]
   have:n * ((td P el).bytes:Int)=((n.toNat * (td P el).bytes:Nat):Int):=by
    rw[Int.natCast_mul,Int.toNat_of_nonneg oM]
   have h1:n.toNat * (td P el).bytes≤(i+n.toNat) * (td P el).bytes:=Nat.mul_le_mul_right _ oM
   omega
  have hns:¬(n.toNat * (td P el).size=0):=by
   have:0<n.toNat * (td P el).size:=Nat.mul_pos oM h0
   omega
  unfold Builtin.append_
  simp only[World.drew] at hz0 hf1
  simp only[List.getElem?_toArray,List.getElem?_cons_zero,List.getElem?_cons_succ,Sem.run_bind,aK (aW ht),Result.andThen_ok,aO hok,aK hxu,Sem.run_pure,if_true,oR,w1,if_neg hneg,typeInfo,run_program,hinf,if_neg hbig,
   if_neg hroom,Bool.not_true,Bool.false_eq_true,if_false,h63,false_and,if_neg h48',run_choose,Question.forced,run_askRoom,if_neg hns]
  simp only[hf1,hz0,Result.andThen_ok,newRow,Sem.run_bind,run_newObj,Sem.run_pure]
  rfl
 obtain⟨i1,s1,r1⟩:=qT (σ1:=σ) (el:=el) (n:=i) (m:=n.toNat) (cap':=grownCap w (i+n.toNat) cap el) (xs:=xs.take i) (ys:=List.replicate n.toNat (td P el).zero) (old:=old) (arr:=Builtin.zeroCells z.cells n.toNat)
  (rest:=Builtin.zeroCells z.cells (grownCap w (i+n.toNat) cap el - (i+n.toNat))) hi (fun _ _ q=>q) hl' hxl (fun i x hx=>by rw[List.getElem?_replicate] at hx;split at hx<;>simp at hx;rw[←hx,hzlen]) hlen (by simp)
  horel (sZ (P:=P) (Φ:=Φ) hz1 hz2 hz3 h0 n.toNat) (by rw[size_zeroCells,hz2]) (grownCap_ge w _ _ el) (grownCap_le_maxLen w _ _ el (by simp only[maxLen];omega))
 refine bJ (v:=_) (w':=_) ?_ (hK _ _ _ _ _ r1 i1 s1 (hk l' hsl'))
 rw[eQ ho,hv,e2,hrun]
 rfl
theorem jO{l C:Nat}{P:Program}{c:Code}{f:FR}{σ:St}{Q:MQ}(h:R (mwp P c f σ Q)):Au l C P c f σ Q:=TW (bL h)
theorem CO{P:Program}{f:FR}{σ:St}{Q:MQ}{c:Operand}{x y:Code}{t:Bool}(hc:aE f c=.bool t)(h1:t=true→mwp P x f σ Q)(h2:t=false→mwp P y f σ Q):mwp P (.cond c x y) f σ Q:=by
 intro F hF Φ w a hi hr hd
 have he:a.eval c=.bool t:=by
  have:=aI hr c
  rw[hc] at this
  generalize a.eval c=v at this
  cases this
  rfl
 exact wpIn_cond_split he (fun ht=>h1 ht F hF.Pc Φ w a hi hr hd) (fun hf=>h2 hf F hF.Pd Φ w a hi hr hd)
end
end Go.Proofs.YtppdgejjmhdjhaaGreatDoor
