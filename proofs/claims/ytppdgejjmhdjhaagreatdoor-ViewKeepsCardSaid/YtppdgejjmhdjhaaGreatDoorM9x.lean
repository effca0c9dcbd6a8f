/- Parts of the proof; conditions: as its theorems name them. -/
import Derived.Test.YtppdgejjmhdjhaaGreatDoorM9w
set_option linter.unusedVariables false
set_option linter.unusedSimpArgs false
set_option maxHeartbeats 8000000
set_option maxRecDepth 100000
namespace Go.Proofs.YtppdgejjmhdjhaaGreatDoor
section
def gY(log:List TU)(t:TU):List TU:=if log.length<40 then log++[t] else(log++[t]).drop 1
def mL(floor:Int)(log:List TU)(t:TU):Int:=if log.length<40 then floor else((log++[t]).headD tu0).sq
abbrev lgO(log:List TU)(ex:List (List MV)):aW:=.row 128 31 (log.map TU.c++ex)
theorem vB{P:Program}{g:FuncId}{ms:List MV}{σ:St}{n:Nat}{on o:aW}{u:Nat→MV}{k:MV→St→Prop}(hn:σ n=some on)(h:aA P g ms (St.none.set n on) fun v σ'=>∃q,v=u q∧σ'=St.none.set q o)(hk:∀q,(σ.del n) q=none→R (bY (u q) ((σ.del n).set q o) k)):R (cU P g ms σ k) :=
 bJ h (St.aB (St.none_le _) hn) fun v σ' hv hf=>by
  obtain⟨q,rfl,rfl⟩:=hv
  have e:(St.none.set q o).over (σ.minus (St.none.set n on))=(σ.del n).set q o:=by
   rw[bE,dC]
   congr 1
   funext j
   by_cases h2:j=n
   ·subst h2;simp[St.set,St.minus,St.del]
   ·simp[St.set,St.none,St.minus,St.del,h2]
  rw[e]
  refine hk q ?_
  rcases hf q o (aD _ _ _) with h|⟨o',h⟩
  ·simp[St.del,h]
  ·by_cases h2:q=n
   ·subst h2;simp[St.del]
   ·rw[aF _ _ _ _ h2] at h;cases h
theorem GO(y:TU)(L:List TU)(hl:L.length+1≤1000000)(tt:Bool):aA Tryz.prog 98 [.lst 31 ((y::L).map TU.c) tt] St.none (fun r σ'=>∃q,r=.vec 31 q 0 (L.length+1)∧σ'=St.none.set q (.row 128 31 ((y::L).map TU.c))):=by
 refine(mB 8 [.tmp 2] Tryz.func98 ?_)
 repeat' first|(refine wO ?_;intros)|refine wZ1 @Tryz.f98.eq_1 ?_|fail
 all_goals exact⟨_,rfl,rfl⟩
theorem GP{g n:Nat}(xs:List (List MV))(y:TU)(L:List TU)(hn:n=L.length+1)(hl:L.length+1≤1000000)(h:(xs.drop 1).take n=(y::L).map TU.c)(hx:1+n≤xs.length) :
  aA Tryz.prog 98 [.vec 31 g 1 n] (St.none.set g (.row 128 31 xs)) (fun r σ'=>∃q,r=.vec 31 q 0 (L.length+1)∧σ'=St.none.set q (.row 128 31 ((y::L).map TU.c))) :=
 aA.pre (ms':=[.lst 31 ((y::L).map TU.c) false]) rfl (aV.freeze (St.none.set g (.row 128 31 xs)) (St.le_refl _) (St.none_le _) (fun k o hk=>by cases hk) (fun p hp=>by
  simp only[gZ,List.mem_singleton] at hp
  subst hp
  rw[←h]
  exact View.vec (aD _ _ _) hx)) (GO y L hl false)
theorem AD{v g:Nat}(hvg:v≠g)(f sm:Nat)(mk:UInt32)(floor now:Int)(log:List TU)(hl:log.length≤40)(ex:List (List MV))(t:TU) :
  aA Tryz.prog 79 [.ptr v 0 0,.agg t.c] ((St.none.set g (lgO log ex)).set v (vwO f mk sm floor now (.vec 31 g 0 log.length)))
   (fun _ σ'=>∃g' ex',v≠g'∧σ'=(St.none.set g' (lgO (gY log t) ex')).set v (vwO f mk sm (mL floor log t) now (.vec 31 g' 0 (gY log t).length))):=by
 refine aA.less (Q':=fun _ σ'=>∃g' ex',v≠g'∧((St.none.set g' (lgO (gY log t) ex')).set v (vwO f mk sm (mL floor log t) now (.vec 31 g' 0 (gY log t).length))).le σ') (mB 39 [] Tryz.func79 ?_) fun v σ' ⟨g',ex',h1,h2⟩=>⟨_,h2,g',ex',h1,rfl⟩
 have hgv:=Ne.symm hvg
 by_cases h40:log.length<40
 ·rw[show gY log t=log++[t] from if_pos h40,show mL floor log t=floor from if_pos h40]
  have hm:(log.map TU.c).length=log.length:=List.length_map _
  have hQ:(log++[t]).map TU.c=log.map TU.c++[t.c]:=List.map_append
  have hdr:(log.map TU.c++ex).drop (log.length+1)=ex.drop 1:=by rw[←hm,←List.drop_drop,List.drop_left]
  have htk:(log.map TU.c++ex).take log.length=log.map TU.c:=List.take_left' hm
  repeat' first|(refine wM ?_;(first|(have _:=nl3)|(have _:=nl2;intro nl3)|(have _:=nl1;intro nl2)|(intro nl1));intros)|refine wV ?_|(refine wY ?_ ?_<;>intro h)|refine wZ5 @Tryz.f79.eq_1 @FXs @hm @hdr @htk ?_|fail
  ·obtain rfl:ex=[]:=List.eq_nil_of_length_eq_zero oM
   clear hdr htk h hm hl h40
   refine⟨nl3,[],by assumption,St.aB (St.aB (St.none_le _) ?_) ?_⟩
   ·rw[aD,lgO,hQ,List.append_nil,List.append_nil]
   ·simp[St.set, *]
  ·clear hdr htk h hm hl h40
   refine⟨nl3,ex.drop 1,by assumption,St.aB (St.aB (St.none_le _) ?_) ?_⟩
   ·rw[aD,lgO,hQ]
   ·simp[St.set, *]
 ·have h4:log.length=40:=by omega
  obtain⟨t0,L,rfl⟩:∃t0 L,log=t0::L:=by
   cases log with
   | nil=>simp at h4
   | cons a b=>exact⟨a,b,rfl⟩
  rw[show gY (t0::L) t=L++[t] from if_neg h40,show mL floor (t0::L) t=t0.sq from if_neg h40]
  simp only[List.length_cons] at h4
  have hm:(L.map TU.c).length=39:=by rw[List.length_map];omega
  have hL:L.length=39:=by omega
  obtain⟨y,L',hy⟩:∃y L',L++[t]=y::L':=by
   cases L with
   | nil=>exact⟨t,[],rfl⟩
   | cons a b=>exact⟨a,b++[t],rfl⟩
  have hL':L'.length=39:=by
   have:=congrArg List.length hy
   simp only[List.length_append,List.length_cons,List.length_nil] at this
   omega
  have hc:=fun(nl:Nat) (xs:List (List MV)) (h1:(xs.drop 1).take 40=(y::L').map TU.c) (h2:1+40≤xs.length)=>GP (g:=nl) xs y L' oM oM h1 h2
  rw[hL'] at hc
  rw[hy]
  repeat' first|(refine wM ?_;(first|(have _:=nl3)|(have _:=nl2;intro nl3)|(have _:=nl1;intro nl2)|(intro nl1));intros)|refine wV ?_|(refine wY ?_ ?_<;>intro h)|refine wZ4 @Tryz.f79.eq_1 @FXs @hm @hL ?_|fail
  all_goals
   have hq2:∀R:List (List MV),(L.map TU.c++t.c::R).take 40=(y::L').map TU.c:=fun R=>by
    rw[←hy,List.map_append,show L.map TU.c++t.c::R=(L.map TU.c++[t.c])++R by simp]
    exact List.take_left' (by rw[List.length_append,hm];rfl)
  ·obtain rfl:ex=[]:=List.eq_nil_of_length_eq_zero oM
   clear h
   refine vB (aD _ _ _) (hc nl3 _ (by rw[List.drop_succ_cons,List.drop_zero,List.append_nil];exact hq2 []) (by simp[hL])) fun q hq=>?_
   have hqv:v≠q:=fun e=>by subst e;simp[St.set,St.del, *] at hq
   have hqv':=Ne.symm hqv
   have hv3:v≠nl3:=by assumption
   repeat' first|refine wZ1 @FXs ?_|fail
   refine⟨q,[],hqv,St.aB (St.aB (St.none_le _) ?_) ?_⟩
   ·simp[St.set, *]
   ·simp[St.set, *]
  ·clear h
   refine vB (aD _ _ _) (hc nl3 _ ?_ ?_) fun q hq=>?_
   ·rw[List.drop_succ_cons,List.drop_zero,List.take_left' hm,List.append_assoc]
    exact hq2 _
   ·rw[List.length_cons,List.take_left' hm,List.length_append,List.length_append,hm]
    simp only[List.length_cons,List.length_nil]
    omega
   have hqv:v≠q:=fun e=>by subst e;simp[St.set,St.del, *] at hq
   have hqv':=Ne.symm hqv
   have hv3:v≠nl3:=by assumption
   repeat' first|refine wZ1 @FXs ?_|fail
   refine⟨q,[],hqv,St.aB (St.aB (St.none_le _) ?_) ?_⟩
   ·simp[St.set, *]
   ·simp[St.set, *]
end

section
structure Xz (m l q b pb pf:Nat):Prop where
 h2:pb≠m∧pb≠l∧pb≠q∧pb≠b
 h3:pf≠m∧pf≠l∧pf≠q∧pf≠b∧pf≠pb
end

section
structure SET where
 bk:BK
 fl:List ND
 mask:UInt32
 cur:Int
abbrev SET.c(s:SET):List MV:=s.bk.c++[.lst 5 (s.fl.map ND.c) false,.int .u32 (s.mask.toNat:Int),.int .i64 s.cur]
structure Fit (s:SET):Prop where
 ok:L3 s.bk=true
 nc:s.bk.cards.length≤60
 nd:s.bk.dead.length≤60
 ng:s.bk.gr.length≤1000000
 nm:∀g,g∈s.bk.gr→g.mem.length≤1000000
 fl:bS s.fl=0
 mok:s.mask.toNat≤511
end

section
def fD(f p:F8)(L:List Nat):F8:=L.foldl (fun g i=>g.set i (p.get i)) f
def dB(c:CA)(p:PA):CA:=⟨c.id,if c.ver<big then c.ver+1 else c.ver,if bit p.mask.toNat 8=true then p.lab else c.lab,fD c.f p.f (b6 p.mask.toNat)⟩
theorem xO(c:CA)(p:PA)(h0:0≤c.ver):aA Tryz.prog 213 [.agg c.c,.agg p.c] St.none (fun r _=>r=.agg (dB c p).c):=by
 refine(mB 37 [.cell 4 126] Tryz.func213 ?_)
 have hml:=sT p.mask
 have hfl:=uJ p.mask
 have hbl:=vF p.mask.toNat
 obtain⟨ml,hm8⟩:∃b,bit p.mask.toNat 8=b:=⟨_,rfl⟩
 rw[hm8] at hml
 have hlab:(dB c p).c=.int .i64 c.id::.int .i64 (if c.ver<1099511627776 then c.ver+1 else c.ver)::.int .u32 (((if ml=true then p.lab else c.lab:UInt32).toNat:Nat):Int)::fc (fD c.f p.f (b6 p.mask.toNat)):=by rw[←hm8];rfl
 rw[hlab]
 clear hm8 hlab
 have hlt:∀i,i∈b6 p.mask.toNat→i<8:=fun i=>tH
 obtain⟨L,hL⟩:∃L,b6 p.mask.toNat=L:=⟨_,rfl⟩
 rw[hL] at hfl hbl hlt ⊢
 have hll:(eC L).length=L.length:=List.length_map _
 by_cases hv:c.ver<1099511627776<;>cases ml
 all_goals simp only[hv,Bool.false_eq_true,if_false,if_true]
 ·skip
  repeat' first|(with_reducible first|refine up hml ?_|refine up hfl ?_)|(refine wM ?_;(first|(have _:=nl3)|(have _:=nl2;intro nl3)|(have _:=nl1;intro nl2)|(intro nl1));intros)|refine wZ4 @Tryz.f213.eq_1 @FXs @hll @hv ?_|fail
  refine aE (α:=Nat) (fun i=>⟨37,[(24,.int .i64 (i:Int)),(23,.int .i64 (L.length:Int)),(22,.lst 1 (eC L) false),(4,.ptr nl3 0 0),(3,.ptr nl2 0 0),(2,.ptr nl1 0 0)],[]⟩)
   (fun i=>((St.none.set nl1 (.row 126 27 [.int .i64 c.id::.int .i64 (c.ver+1)::.int .u32 (c.lab.toNat:Int)::fc (fD c.f p.f (L.take i))])).set nl2 (.row 57 26 [p.c])).set nl3 (.row 126 27 [ca0.c])) (fun i=>i≤L.length) (fun i=>L.length - i) (.of (.less ?_ (St.le_refl _)) ⟨0,rfl,rfl,Nat.zero_le _⟩) ?_
  ·exact wW
  ·intro i hi
   have hi:i≤L.length:=hi
   by_cases hlt':i<L.length
   ·obtain⟨k,hk⟩:=bW L hlt'
    have hat:(eC L).getD i []=[.int .i64 (k:Int)]:=by rw[List.getD_eq_getElem?_getD,List.getElem?_map,hk];rfl
    have hk8:=hlt k (eD hk)
    have hsucc:fD c.f p.f (L.take (i+1))=(fD c.f p.f (L.take i)).set k (p.f.get k):=by rw[aP hk,fD,List.foldl_append];rfl
    obtain⟨g,hg⟩:∃g,fD c.f p.f (L.take i)=g:=⟨_,rfl⟩
    rw[hg] at hsucc ⊢
    repeat' first|refine wZ3 @FXs @hat @hll ?_|fail
    all_goals (try (exfalso;omega))
    all_goals
     refine .of (.less ?_ (St.le_refl _)) ⟨i+1,rfl,by rw[hsucc];first|rfl|skip,(by omega:i+1≤L.length),by omega⟩
     exact wW
   ·have:i=L.length:=by omega
    subst this
    rw[List.take_length]
    repeat' first|refine wZ1 @FXs ?_|exact wC1 @FXs|fail
    all_goals first|exact⟨_,St.le_refl _,rfl⟩|exact⟨_,St.le_refl _⟩|rfl
 ·skip
  repeat' first|(with_reducible first|refine up hml ?_|refine up hfl ?_)|(refine wM ?_;(first|(have _:=nl3)|(have _:=nl2;intro nl3)|(have _:=nl1;intro nl2)|(intro nl1));intros)|refine wZ4 @Tryz.f213.eq_1 @FXs @hll @hv ?_|fail
  refine aE (α:=Nat) (fun i=>⟨37,[(24,.int .i64 (i:Int)),(23,.int .i64 (L.length:Int)),(22,.lst 1 (eC L) false),(4,.ptr nl3 0 0),(3,.ptr nl2 0 0),(2,.ptr nl1 0 0)],[]⟩)
   (fun i=>((St.none.set nl1 (.row 126 27 [.int .i64 c.id::.int .i64 (c.ver+1)::.int .u32 (p.lab.toNat:Int)::fc (fD c.f p.f (L.take i))])).set nl2 (.row 57 26 [p.c])).set nl3 (.row 126 27 [ca0.c])) (fun i=>i≤L.length) (fun i=>L.length - i) (.of (.less ?_ (St.le_refl _)) ⟨0,rfl,rfl,Nat.zero_le _⟩) ?_
  ·exact wW
  ·intro i hi
   have hi:i≤L.length:=hi
   by_cases hlt':i<L.length
   ·obtain⟨k,hk⟩:=bW L hlt'
    have hat:(eC L).getD i []=[.int .i64 (k:Int)]:=by rw[List.getD_eq_getElem?_getD,List.getElem?_map,hk];rfl
    have hk8:=hlt k (eD hk)
    have hsucc:fD c.f p.f (L.take (i+1))=(fD c.f p.f (L.take i)).set k (p.f.get k):=by rw[aP hk,fD,List.foldl_append];rfl
    obtain⟨g,hg⟩:∃g,fD c.f p.f (L.take i)=g:=⟨_,rfl⟩
    rw[hg] at hsucc ⊢
    repeat' first|refine wZ3 @FXs @hat @hll ?_|fail
    all_goals (try (exfalso;omega))
    all_goals
     refine .of (.less ?_ (St.le_refl _)) ⟨i+1,rfl,by rw[hsucc];first|rfl|skip,(by omega:i+1≤L.length),by omega⟩
     exact wW
   ·have:i=L.length:=by omega
    subst this
    rw[List.take_length]
    repeat' first|refine wZ1 @FXs ?_|exact wC1 @FXs|fail
    all_goals first|exact⟨_,St.le_refl _,rfl⟩|exact⟨_,St.le_refl _⟩|rfl
 ·skip
  repeat' first|(with_reducible first|refine up hml ?_|refine up hfl ?_)|(refine wM ?_;(first|(have _:=nl3)|(have _:=nl2;intro nl3)|(have _:=nl1;intro nl2)|(intro nl1));intros)|refine wZ4 @Tryz.f213.eq_1 @FXs @hll @hv ?_|fail
  refine aE (α:=Nat) (fun i=>⟨37,[(24,.int .i64 (i:Int)),(23,.int .i64 (L.length:Int)),(22,.lst 1 (eC L) false),(4,.ptr nl3 0 0),(3,.ptr nl2 0 0),(2,.ptr nl1 0 0)],[]⟩)
   (fun i=>((St.none.set nl1 (.row 126 27 [.int .i64 c.id::.int .i64 c.ver::.int .u32 (c.lab.toNat:Int)::fc (fD c.f p.f (L.take i))])).set nl2 (.row 57 26 [p.c])).set nl3 (.row 126 27 [ca0.c])) (fun i=>i≤L.length) (fun i=>L.length - i) (.of (.less ?_ (St.le_refl _)) ⟨0,rfl,rfl,Nat.zero_le _⟩) ?_
  ·exact wW
  ·intro i hi
   have hi:i≤L.length:=hi
   by_cases hlt':i<L.length
   ·obtain⟨k,hk⟩:=bW L hlt'
    have hat:(eC L).getD i []=[.int .i64 (k:Int)]:=by rw[List.getD_eq_getElem?_getD,List.getElem?_map,hk];rfl
    have hk8:=hlt k (eD hk)
    have hsucc:fD c.f p.f (L.take (i+1))=(fD c.f p.f (L.take i)).set k (p.f.get k):=by rw[aP hk,fD,List.foldl_append];rfl
    obtain⟨g,hg⟩:∃g,fD c.f p.f (L.take i)=g:=⟨_,rfl⟩
    rw[hg] at hsucc ⊢
    repeat' first|refine wZ3 @FXs @hat @hll ?_|fail
    all_goals (try (exfalso;omega))
    all_goals
     refine .of (.less ?_ (St.le_refl _)) ⟨i+1,rfl,by rw[hsucc];first|rfl|skip,(by omega:i+1≤L.length),by omega⟩
     exact wW
   ·have:i=L.length:=by omega
    subst this
    rw[List.take_length]
    repeat' first|refine wZ1 @FXs ?_|exact wC1 @FXs|fail
    all_goals first|exact⟨_,St.le_refl _,rfl⟩|exact⟨_,St.le_refl _⟩|rfl
 ·skip
  repeat' first|(with_reducible first|refine up hml ?_|refine up hfl ?_)|(refine wM ?_;(first|(have _:=nl3)|(have _:=nl2;intro nl3)|(have _:=nl1;intro nl2)|(intro nl1));intros)|refine wZ4 @Tryz.f213.eq_1 @FXs @hll @hv ?_|fail
  refine aE (α:=Nat) (fun i=>⟨37,[(24,.int .i64 (i:Int)),(23,.int .i64 (L.length:Int)),(22,.lst 1 (eC L) false),(4,.ptr nl3 0 0),(3,.ptr nl2 0 0),(2,.ptr nl1 0 0)],[]⟩)
   (fun i=>((St.none.set nl1 (.row 126 27 [.int .i64 c.id::.int .i64 c.ver::.int .u32 (p.lab.toNat:Int)::fc (fD c.f p.f (L.take i))])).set nl2 (.row 57 26 [p.c])).set nl3 (.row 126 27 [ca0.c])) (fun i=>i≤L.length) (fun i=>L.length - i) (.of (.less ?_ (St.le_refl _)) ⟨0,rfl,rfl,Nat.zero_le _⟩) ?_
  ·exact wW
  ·intro i hi
   have hi:i≤L.length:=hi
   by_cases hlt':i<L.length
   ·obtain⟨k,hk⟩:=bW L hlt'
    have hat:(eC L).getD i []=[.int .i64 (k:Int)]:=by rw[List.getD_eq_getElem?_getD,List.getElem?_map,hk];rfl
    have hk8:=hlt k (eD hk)
    have hsucc:fD c.f p.f (L.take (i+1))=(fD c.f p.f (L.take i)).set k (p.f.get k):=by rw[aP hk,fD,List.foldl_append];rfl
    obtain⟨g,hg⟩:∃g,fD c.f p.f (L.take i)=g:=⟨_,rfl⟩
    rw[hg] at hsucc ⊢
    repeat' first|refine wZ3 @FXs @hat @hll ?_|fail
    all_goals (try (exfalso;omega))
    all_goals
     refine .of (.less ?_ (St.le_refl _)) ⟨i+1,rfl,by rw[hsucc];first|rfl|skip,(by omega:i+1≤L.length),by omega⟩
     exact wW
   ·have:i=L.length:=by omega
    subst this
    rw[List.take_length]
    repeat' first|refine wZ1 @FXs ?_|exact wC1 @FXs|fail
    all_goals first|exact⟨_,St.le_refl _,rfl⟩|exact⟨_,St.le_refl _⟩|rfl
end

section
def cA(id:Int)(p:PA):CA:=dB ⟨id,0,0,f80⟩ p
theorem GU(id:Int)(p:PA):aA Tryz.prog 212 [.int .i64 id,.agg p.c] St.none (fun r _=>r=.agg (cA id p).c):=by
 refine(mB 9 [.cell 4 126] Tryz.func212 ?_)
 have h:=xO ⟨id,0,0,f80⟩ p (Int.le_refl 0)
 unfold cA
 obtain⟨m,hm⟩:∃m,dB ⟨id,0,0,f80⟩ p=m:=⟨_,rfl⟩
 rw[hm] at h ⊢
 repeat' first|(refine aC h ?_)|(refine wO ?_;intros)|refine wZ2 @Tryz.f212.eq_1 @FXs ?_|exact wC2 @Tryz.f212.eq_1 @FXs|fail
end

section
theorem N4{nx:Int}{m l:Nat}(hlm:l≠m)(D:MV)(cs:List CA)(p:PA)(hp:bH p=0)(hn:cs.length<48)(hx0:0≤nx)(hx:nx<1073741824)(hnew:nx∉cs.map CA.id) :
  aA Tryz.prog 142 [.ptr l 0 0,.agg p.c] ((St.none.set m (.mp (cEs cs))).set l (shO nx m D)) (fun v σ'=>v=.tup [.agg (cA nx p).c,.int .i64 0]∧σ'=(St.none.set m (.mp (cEs (cs++[cA nx p])))).set l (shO (nx+1) m D)):=by
 refine aA.less (Q':=fun v σ'=>v=.tup [.agg (cA nx p).c,.int .i64 0]∧((St.none.set m (.mp (cEs (cs++[cA nx p])))).set l (shO (nx+1) m D)).le σ') ?_ fun v σ' h=>⟨_,h.2,h.1,rfl⟩
 refine(aA.iB 52 [.cell 4 126,.tmp 5] Tryz.func142 rfl rfl rfl rfl ?_)
 have hcp:=jD p
 rw[hp] at hcp
 have hfr:=GU nx p
 have hid:(cA nx p).id=nx:=rfl
 have hput:dG .i64 nx (.agg (cA nx p).c) (cEs cs)=cEs (cs++[cA nx p]):=Fs (c:=cA nx p) hnew
 have hik:=qW cs
 have hlen:(cEs cs).length=cs.length:=List.length_map _
 have hml:=Ne.symm hlm
 obtain⟨c,hc⟩:∃c,cA nx p=c:=⟨_,rfl⟩
 rw[hc] at hfr hid hput ⊢
 obtain⟨C,c1⟩:∃C:cC,∀ms,C 212 ms=some ⟨[],fun v=>v=.agg c.c,none⟩:=⟨sD 212 (.agg c.c),fun _=>fB⟩
 refine bA (cB ?_)
 repeat' first|(refine wO ?_;intros)|refine wZ1 @FXs ?_|fail
 refine bO (bA (cB ?_))
 repeat' first|refine wZ1 @FXs ?_|fail
 refine bO (bA (cB ?_))
 repeat' first|(refine aC hcp ?_)|refine wZ1 @FXs ?_|fail
 refine bO (bA (bA (bX [_,_,_,_] _ [_,_,_,_,_,_,_,_] rfl rfl ?_)))
 repeat' first|refine wZ1 @FXs ?_|fail
 refine bO (A0 (t:=249) (l:=m) (es:=cEs cs) rfl (by rw[HS]) rfl sS ?_)
 show R _
 repeat' first|refine wZ2 @FXs @hlen ?_|fail
 all_goals (try (exfalso;omega))
 refine bO (cB ?_)
 repeat' first|refine wZ1 @FXs ?_|fail
 refine bO (cB ?_)
 repeat' first|((with_reducible refine aI mixed ?chk C ?_);(case chk=>decide +kernel))|(with_reducible refine aG (c1 _) hfr ?_)|(refine wO ?_;intros)|refine wZ4 @FXs @hput @hik @hid ?_|fail
 have hcc:(.int .i64 nx::.int .i64 c.ver::.int .u32 (c.lab.toNat:Int)::fc c.f:List MV)=c.c:=by rw[←hid]
 rw[hcc,hput]
 refine⟨rfl,St.aB (St.aB (St.none_le _) ?_) ?_⟩
 ·simp[St.set, *]
 ·simp[St.set, *]
end

section
def bk1:BK:=⟨0,1,[],[],[]⟩
theorem xE:aA Tryz.prog 60 [] St.none (fun v σ'=>∃m l q b,dQ m l q b∧v=.ptr b 0 0∧σ'=bkS m l q b bk1 []):=by
 refine aA.gh (H8.mono ?_)
 rintro _ _ ⟨m,l,b,hlm,hbm,hbl,rfl,rfl⟩
 have hlb:=Ne.symm hbl
 refine Gh.Lw (b:=l) (t:=251) (e:=3) (pre:=[.int .i64 1,.mapv m]) (post:=[]) 197 3 (by simp[St.set,hlb]) fun q hq=>?_
 simp only[aU] at hq
 obtain⟨q1,q2,q3,-⟩:=hq
 have q1':=Ne.symm q1
 have q2':=Ne.symm q2
 have q3':=Ne.symm q3
 refine Gh.Lw (b:=b) (t:=140) (e:=3) (pre:=[.int .i64 0,.ptr l 0 0]) (post:=[]) 200 2 sS fun z hz=>?_
 simp only[aU] at hz
 obtain⟨zq,zl,z1,-,zm,-⟩:=hz
 have zq':=Ne.symm zq
 have zl':=Ne.symm zl
 have z1':=Ne.symm z1
 have zm':=Ne.symm zm
 refine .of (aV.Cg z b [.int .i64 0,.ptr l 0 0] [] (aD _ _ _) sS z1' (View.vecAll (aD _ _ _) rfl) rfl (σ1:=bkS m l q b bk1 []) (l1:=[(0,.ptr b 0 0)]) (aD _ _ _) (fun k o hk=>?_)
  (fun p hp=>by simp only[List.mem_singleton] at hp;subst hp;exact .same _)) ⟨_,rfl,m,l,q,b,⟨hlm,q3,q2,hbm,hbl,q1'⟩,rfl,rfl⟩
 by_cases k1:k=b
 ·subst k1;exact⟨z1',.inl rfl⟩
 ·have hk:shS 1 m l q [] [] [] k=some o:=(aF _ _ _ _ k1).symm.trans hk
  have k2:k≠z:=fun e=>by
   subst e
   simp[St.set,St.none, *] at hk
  refine⟨k2,.inr ?_⟩
  rw[aF _ _ _ _ k2,aF _ _ _ _ k1]
  by_cases k3:k=q
  ·subst k3;simpa[St.set] using hk
  ·by_cases k4:k=l
   ·subst k4;simpa[St.set,k3] using hk
   ·by_cases k5:k=m
    ·subst k5;simpa[St.set,k3,k4,k1,cEs] using hk
    ·simp[St.set,St.none,k3,k4,k5] at hk
end

section
theorem kZ{g1:FuncId}{r1:List Nat}{q1:MV→Prop}{x1:List aW × (Nat→MV)}:PlU (.these [g1]) (fnF [(g1,⟨r1,q1,some x1⟩)]):=by
 intro g' ms rd q' x' h
 simp only[fnF] at h
 split at h
 ·rename_i e
  subst e
  exact .inr (List.mem_singleton.2 rfl)
 ·cases h
theorem kL{P:Program}{g:FuncId}{ms:List MV}{σ:St}{p b:Nat}{op ob ob':aW}{r:MV}{k:MV→St→Prop}(hbp:b≠p)(hp:σ p=some op)(hb:σ b=some ob)
 (h:aA P g ms ((St.none.set p op).set b ob) fun v σ'=>v=r∧σ'=St.none.set b ob')(hk:R (bY r ((σ.del p).set b ob') k)):R (cU P g ms σ k) :=
 bJ h (St.aB (St.aB (St.none_le _) hp) hb) fun v σ' hv _=>by
  obtain⟨rfl,rfl⟩:=hv
  have e:(St.none.set b ob').over (σ.minus ((St.none.set p op).set b ob))=(σ.del p).set b ob':=by
   funext j
   by_cases h1:j=b
   ·subst h1;simp[St.over,St.set]
   ·by_cases h2:j=p
    ·subst h2;simp[St.over,St.set,St.none,St.minus,St.del,h1]
    ·simp[St.over,St.set,St.none,St.minus,St.del,h1,h2]
  rw[e];exact hk
theorem uI{nx sq:Int}{m l b:Nat}(hlm:l≠m)(hbm:b≠m)(hbl:b≠l)(D g:MV)(cs:List CA)(p:PA)(hp:bH p=0)(hn:cs.length<48)(hx0:0≤nx)(hx:nx<1073741824)(hnew:nx∉cs.map CA.id)(h0:0≤sq)(h1:sq≤1099511627776) :
  aA Tryz.prog 69 [.ptr b 0 0,.agg (ED.mk 1 0 0 p).c] (((St.none.set m (.mp (cEs cs))).set l (shO nx m D)).set b (bG sq l g)) (fun v σ'=>v=.tup [.lst 2 (dA sq [nx]) false,.int .i64 0]∧σ'=((St.none.set m (.mp (cEs (cs++[cA nx p])))).set l (shO (nx+1) m D)).set b (bG (sq+1) l g)):=by
 refine aA.less (Q':=fun v σ'=>v=.tup [.lst 2 (dA sq [nx]) false,.int .i64 0]∧(((St.none.set m (.mp (cEs (cs++[cA nx p])))).set l (shO (nx+1) m D)).set b (bG (sq+1) l g)).le σ') (mB 26 [.tmp 4,.tmp 5] Tryz.func69 ?_) fun v σ' h=>⟨_,h.2,h.1,rfl⟩
 have hadd:=N4 hlm D cs p hp hn hx0 hx hnew
 have hml:=Ne.symm hlm
 have hmb:=Ne.symm hbm
 have hlb:=Ne.symm hbl
 have hst:=fun {k:Nat} (hk:b≠k)=>qA (sq:=sq) l g hk [(cA nx p).id] h0 h1 (by simp)
 simp only[List.map_cons,List.map_nil,List.length_cons,List.length_nil] at hst
 have hid:(cA nx p).id=nx:=rfl
 obtain⟨c,hc⟩:∃c,cA nx p=c:=⟨_,rfl⟩
 rw[hc] at hadd hid ⊢
 simp only[hc] at hst
 obtain⟨K,hK,c1⟩:∃K:cC,PlU (.these [142]) K∧∀ms,K 142 ms=some ⟨[l,m],fun _=>True,some ([shO (nx+1) m D,.mp (cEs (cs++[c]))],fun _=>.tup [.agg c.c,.int .i64 0])⟩ :=
  ⟨fnF [(142,⟨[l,m],fun _=>True,some ([shO (nx+1) m D,.mp (cEs (cs++[c]))],fun _=>.tup [.agg c.c,.int .i64 0])⟩)],kZ,fun _=>bV⟩
 have hadd':aA Tryz.prog 142 [.ptr l 0 0,.agg p.c] (St.ofList [l,m] [shO nx m D,.mp (cEs cs)]) (fun v σ'=>v=.tup [.agg c.c,.int .i64 0]∧σ'=((St.ofList [l,m] [shO nx m D,.mp (cEs cs)]).set m (.mp (cEs (cs++[c])))).set l (shO (nx+1) m D)):=hadd.mono (by
  rintro v σ' ⟨h1,rfl⟩
  refine⟨h1,funext fun j=>?_⟩
  by_cases h1:j=l
  ·subst h1;simp[St.set]
  ·by_cases h2:j=m
   ·subst h2;simp[St.set,h1]
   ·simp[St.ofList,St.set,h1,h2])
 repeat' first|(refine b9 mixed [142] dK K hK ?_)|(refine Fz (os:=[shO nx m D,.mp (cEs cs)]) (c1 _) sS hadd' ?_)|(refine wM ?_;(first|(have _:=nl3)|(have _:=nl2;intro nl3)|(have _:=nl1;intro nl2)|(intro nl1));intros)|refine wZ2 @Tryz.f69.eq_1 @FXs ?_|fail
 have n1:b≠nl3:=by assumption
 refine kL n1 (aD _ _ _) sS (hst n1) ?_
 repeat' first|refine wZ0 ?_|fail
 refine⟨by rw[hid],St.aB (St.aB (St.aB (St.none_le _) ?_) ?_) ?_⟩
 all_goals simp[St.set,St.del, *]
end

section
theorem aA.B3{P:Program}{g:FuncId}{ms:List MV}{τ τ1:St}{n:Nat}{o:aW}{r:MV}(hn:τ n=none)(h1:τ1 n=none)(h:aA P g ms τ fun v σ'=>v=r∧σ'=τ1):aA P g ms (τ.set n o) fun v σ'=>v=r∧σ'=τ1.set n o :=
 (h.frame (St.bQ (St.le_refl _) hn)).mono (by
  rintro v σ1 ⟨σ',⟨hv,rfl⟩,rfl,-⟩
  refine⟨hv,funext fun j=>?_⟩
  by_cases hj:j=n
  ·subst hj;simp[St.over,St.minus,St.set,hn,h1]
  ·simp only[St.over,St.minus,St.set,if_neg hj]
   cases σ' j with
   | some o=>rfl
   | none=>cases τ j<;>rfl)
theorem N6{nx sq:Int}{m l b:Nat}(hlm:l≠m)(hbm:b≠m)(hbl:b≠l)(D g:MV)(cs:List CA)(p:PA)(hp:bH p=0)(hn:cs.length<48)(hx0:0≤nx)(hx:nx<1073741824)(hnew:nx∉cs.map CA.id)(h0:0≤sq)(h1:sq≤1000000000000) :
  aA Tryz.prog 17 [.ptr b 0 0,.agg (ED.mk 1 0 0 p).c] (((St.none.set m (.mp (cEs cs))).set l (shO nx m D)).set b (bG sq l g)) (fun v σ'=>v=.tup [.lst 2 (dA sq [nx]) false,.int .i64 0]∧σ'=((St.none.set m (.mp (cEs (cs++[cA nx p])))).set l (shO (nx+1) m D)).set b (bG (sq+1) l g)):=by
 refine aA.less (Q':=fun v σ'=>v=.tup [.lst 2 (dA sq [nx]) false,.int .i64 0]∧(((St.none.set m (.mp (cEs (cs++[cA nx p])))).set l (shO (nx+1) m D)).set b (bG (sq+1) l g)).le σ') (mB 31 [.tmp 4,.tmp 5] Tryz.func17 ?_) fun v σ' h=>⟨_,h.2,h.1,rfl⟩
 have hck:=dE (ED.mk 1 0 0 p)
 have he:aR (ED.mk 1 0 0 p)=0:=by
  unfold aR
  simp[edG,edI,edP,hp]
 rw[he] at hck
 have hcr:=uI hlm hbm hbl D g cs p hp hn hx0 hx hnew h0 oM
 have hml:=Ne.symm hlm
 have hmb:=Ne.symm hbm
 have hlb:=Ne.symm hbl
 generalize dA sq [nx]=R1 at hcr ⊢
 obtain⟨c,hc⟩:∃c,cA nx p=c:=⟨_,rfl⟩
 rw[hc] at hcr ⊢
 repeat' first|(refine aC hck ?_)|(refine cF mixed (fun _ _=>none) [_,_,_,_,_,_,_] [_,_,_,_] rfl dK ?_)|(refine wO ?_;intros)|refine wZ2 @Tryz.f17.eq_1 @FXs ?_|fail
 all_goals (try (exfalso;omega))
 refine dL (aA.B3 (by simp[St.set,St.none, *]) (by simp[St.set,St.none, *]) (aA.B3 (by simp[St.set,St.none, *]) (by simp[St.set,St.none, *]) hcr)) ?_
 repeat' first|refine wZ0 ?_|fail
 exact St.bQ (St.bQ (St.le_refl _) (by simp[St.set,St.none, *])) (by simp[St.set,St.none, *])
end

section
def wrC(cs:List CA)(id:Int)(x:CA):List CA:=cs.map fun c=>if c.id=id then x else c
theorem Fv{x:CA}:∀{cs:List CA},UpI (cs.map CA.id)→x.id∈cs.map CA.id→dG .i64 x.id (.agg x.c) (cEs cs)=cEs (wrC cs x.id x)
 | [],_,h=>by cases h
 | d::cs,hu,h=>by
  obtain⟨h1,h2⟩:=List.pairwise_cons.1 hu
  simp only[cEs,List.map_cons,wrC,dG]
  by_cases e:d.id=x.id
  ·rw[if_pos e,if_pos e,e]
   congr 1
   rw[List.map_map]
   refine List.map_congr_left fun c hc=>?_
   have:d.id<c.id:=h1 _ (List.mem_map.2 ⟨c,hc,rfl⟩)
   simp only[Function.comp]
   rw[if_neg oM]
  ·rw[if_neg e,if_neg e]
   have hm:x.id∈cs.map CA.id:=by
    rcases List.mem_cons.1 h with h|h
    ·exact absurd h.symm e
    ·exact h
   have ih:=Fv (cs:=cs) h2 hm
   simp only[cEs,wrC] at ih
   rw[ih]
theorem BR(nx:Int){m l q:Nat}(hlm:l≠m)(hqm:q≠m)(hql:q≠l)(cs:List CA)(hu:UpI (cs.map CA.id))(ds:List DE)(hd:ds.length≤1000000)(ex:List (List MV))(id:Int)(p:PA)(hp:bH p=0){c:CA}(hc:bD cs ds id=(c,0))(hv0:0≤c.ver)(hv:c.ver<1099511627776) :
  aA Tryz.prog 144 [.ptr l 0 0,.int .i64 id,.agg p.c] (shS nx m l q cs ds ex) (fun v σ'=>v=.tup [.agg (dB c p).c,.int .i64 0]∧σ'=shS nx m l q (wrC cs id (dB c p)) ds ex):=by
 have hid:c.id=id∧c∈cs:=by
  unfold bD at hc
  cases e:cs.find? (fun c=>decide (c.id=id)) with
  | none =>
   rw[e] at hc
   simp only[Prod.mk.injEq] at hc
   have:=hc.2
   split at this<;>cases this
  | some x =>
   rw[e] at hc
   cases hc
   exact⟨by simpa using List.find?_some e,List.mem_of_find?_eq_some e⟩
 obtain⟨hid,hmem⟩:=hid
 refine aA.less (Q':=fun v σ'=>v=.tup [.agg (dB c p).c,.int .i64 0]∧(shS nx m l q (wrC cs id (dB c p)) ds ex).le σ') (mB 46 [.cell 6 126,.tmp 7] Tryz.func144 ?_) fun v σ' h=>⟨_,h.2,h.1,rfl⟩
 have hcp:=jD p
 rw[hp] at hcp
 have hg:=iK nx hlm hqm hql cs ds hd ex id
 rw[hc] at hg
 have hme:=xO c p hv0
 have hx:(dB c p).id=id:=hid
 have hput:dG .i64 id (.agg (dB c p).c) (cEs cs)=cEs (wrC cs id (dB c p)):=by
  have:=Fv (x:=dB c p) hu (by rw[hx,←hid];exact List.mem_map.2 ⟨c,hmem,rfl⟩)
  rw[hx] at this
  exact this
 have hik:=qW cs
 generalize hR:wrC cs id (dB c p)=cs' at hput ⊢
 obtain⟨x,hxx⟩:∃x,dB c p=x:=⟨_,rfl⟩
 rw[hxx] at hme hput ⊢
 have hml:=Ne.symm hlm
 have hmq:=Ne.symm hqm
 have hlq:=Ne.symm hql
 simp only[shS] at hg ⊢
 repeat' first|(refine aC hcp ?_)|(refine cQ hg (St.aB (St.aB (St.aB (St.none_le _) sS) sS) sS) ?_)|(refine aC hme ?_)|(refine wO ?_;intros)|refine wZ4 @Tryz.f144.eq_1 @FXs @hput @hik ?_|fail
 refine St.aB (St.aB (St.aB (St.none_le _) ?_) ?_) ?_
 all_goals simp[St.set, *]
end

section
theorem uH{nx sq:Int}{m l q b:Nat}(D:dQ m l q b)(cs:List CA)(hu:UpI (cs.map CA.id))(ds:List DE)(hd:ds.length≤1000000)(ex:List (List MV))(g:MV)(id:Int)(p:PA)(hp:bH p=0){c:CA}(hc:bD cs ds id=(c,0))(hv0:0≤c.ver)(hv:c.ver<1099511627776)(h0:0≤sq)(h1:sq≤1099511627776) :
  aA Tryz.prog 70 [.ptr b 0 0,.agg (ED.mk 2 id 0 p).c] ((shS nx m l q cs ds ex).set b (bG sq l g)) (fun v σ'=>v=.tup [.lst 2 (dA sq [id]) false,.int .i64 0]∧σ'=(shS nx m l q (wrC cs id (dB c p)) ds ex).set b (bG (sq+1) l g)):=by
 refine aA.less (Q':=fun v σ'=>v=.tup [.lst 2 (dA sq [id]) false,.int .i64 0]∧((shS nx m l q (wrC cs id (dB c p)) ds ex).set b (bG (sq+1) l g)).le σ') (mB 28 [.tmp 4,.tmp 5] Tryz.func70 ?_) fun v σ' h=>⟨_,h.2,h.1,rfl⟩
 have hw:=BR nx D.lm D.qm D.ql cs hu ds hd ex id p hp hc hv0 hv
 generalize wrC cs id (dB c p)=cs' at hw ⊢
 obtain⟨x,hx⟩:∃x,dB c p=x:=⟨_,rfl⟩
 rw[hx] at hw
 have hst:=fun {k:Nat} (hk:b≠k)=>qA (sq:=sq) l g hk [id] h0 h1 (by simp)
 simp only[List.map_cons,List.map_nil,List.length_cons,List.length_nil] at hst
 obtain⟨d1,d2,d3,d4,d5,d6⟩:=D
 have e1:=Ne.symm d1
 have e2:=Ne.symm d2
 have e3:=Ne.symm d3
 have e4:=Ne.symm d4
 have e5:=Ne.symm d5
 have e6:=Ne.symm d6
 obtain⟨K,hK,c1⟩:∃K:cC,PlU (.these [144]) K∧∀ms,K 144 ms=some ⟨[m,l,q],fun _=>True,some ([.mp (cEs cs')],fun _=>.tup [.agg x.c,.int .i64 0])⟩ :=
  ⟨fnF [(144,⟨[m,l,q],fun _=>True,some ([.mp (cEs cs')],fun _=>.tup [.agg x.c,.int .i64 0])⟩)],kZ,fun _=>bV⟩
 have hw':aA Tryz.prog 144 [.ptr l 0 0,.int .i64 id,.agg p.c] (St.ofList [m,l,q] [.mp (cEs cs),shO nx m (.vec 3 q 0 ds.length),.row 197 3 (ds.map DE.c++ex)]) (fun v σ'=>v=.tup [.agg x.c,.int .i64 0]∧σ'=(St.ofList [m,l,q] [.mp (cEs cs),shO nx m (.vec 3 q 0 ds.length),.row 197 3 (ds.map DE.c++ex)]).set m (.mp (cEs cs'))):=by
  have e:St.ofList [m,l,q] [.mp (cEs cs),shO nx m (.vec 3 q 0 ds.length),.row 197 3 (ds.map DE.c++ex)]=shS nx m l q cs ds ex:=by
   funext j
   by_cases h1:j=q
   ·subst h1;simp[St.ofList,St.set, *]
   ·by_cases h2:j=l
    ·subst h2;simp[St.ofList,St.set, *]
    ·by_cases h3:j=m
     ·subst h3;simp[St.ofList,St.set, *]
     ·simp[St.ofList,St.set, *]
  rw[e]
  refine hw.mono ?_
  rintro v σ' ⟨h1,rfl⟩
  refine⟨h1,funext fun j=>?_⟩
  by_cases h1:j=q
  ·subst h1;simp[St.set, *]
  ·by_cases h2:j=l
   ·subst h2;simp[St.set, *]
   ·by_cases h3:j=m
    ·subst h3;simp[St.set, *]
    ·simp[St.set, *]
 clear hw
 simp only[shS]
 repeat' first|(refine b9 mixed [144] dK K hK ?_)|(refine jK (os:=[.mp (cEs cs),shO nx m (.vec 3 q 0 ds.length),.row 197 3 (ds.map DE.c++ex)]) (c1 _) sS hw' ?_)|(refine wM ?_;(first|(have _:=nl3)|(have _:=nl2;intro nl3)|(have _:=nl1;intro nl2)|(intro nl1));intros)|refine wZ2 @Tryz.f70.eq_1 @FXs ?_|fail
 have n1:b≠nl3:=by assumption
 refine kL n1 (aD _ _ _) sS (hst n1) ?_
 repeat' first|refine wZ0 ?_|fail
 refine St.aB (St.aB (St.aB (St.aB (St.none_le _) ?_) ?_) ?_) ?_
 all_goals simp[St.set, *]
theorem N7{nx sq:Int}{m l q b:Nat}(D:dQ m l q b)(cs:List CA)(hu:UpI (cs.map CA.id))(ds:List DE)(hd:ds.length≤1000000)(ex:List (List MV))(g:MV)(id:Int)(p:PA)(hp:bH p=0){c:CA}(hc:bD cs ds id=(c,0))(hv0:0≤c.ver)(hv:c.ver<1099511627776)(h0:0≤sq)(h1:sq≤1000000000000)(h2:1≤id)(h5:id<1073741824) :
  aA Tryz.prog 17 [.ptr b 0 0,.agg (ED.mk 2 id 0 p).c] ((shS nx m l q cs ds ex).set b (bG sq l g)) (fun v σ'=>v=.tup [.lst 2 (dA sq [id]) false,.int .i64 0]∧σ'=(shS nx m l q (wrC cs id (dB c p)) ds ex).set b (bG (sq+1) l g)):=by
 refine aA.less (Q':=fun v σ'=>v=.tup [.lst 2 (dA sq [id]) false,.int .i64 0]∧((shS nx m l q (wrC cs id (dB c p)) ds ex).set b (bG (sq+1) l g)).le σ') ?_ fun v σ' h=>⟨_,h.2,h.1,rfl⟩
 have hcr:=uH (nx:=nx) D cs hu ds hd ex g id p hp hc hv0 hv h0 oM
 generalize wrC cs id (dB c p)=cs' at hcr ⊢
 simp only[shS] at hcr ⊢
 refine(mB 31 [.tmp 4,.tmp 5] Tryz.func17 ?_)
 have hck:=dE (ED.mk 2 id 0 p)
 have he:aR (ED.mk 2 id 0 p)=0:=by
  unfold aR mG
  simp[edG,edI,edP,hp]
  omega
 rw[he] at hck
 obtain⟨d1,d2,d3,d4,d5,d6⟩:=D
 have e1:=Ne.symm d1
 have e2:=Ne.symm d2
 have e3:=Ne.symm d3
 have e4:=Ne.symm d4
 have e5:=Ne.symm d5
 have e6:=Ne.symm d6
 generalize dA sq [id]=R1 at hcr ⊢
 repeat' first|(refine aC hck ?_)|(refine cF mixed (fun _ _=>none) [_,_,_,_,_,_,_] [_,_,_,_] rfl dK ?_)|(refine wO ?_;intros)|refine wZ2 @Tryz.f17.eq_1 @FXs ?_|fail
 all_goals (try (exfalso;omega))
 refine dL (aA.B3 (by simp[St.set,St.none, *]) (by simp[St.set,St.none, *]) (aA.B3 (by simp[St.set,St.none, *]) (by simp[St.set,St.none, *]) hcr)) ?_
 repeat' first|refine wZ0 ?_|fail
 exact St.bQ (St.bQ (St.le_refl _) (by simp[St.set,St.none, *])) (by simp[St.set,St.none, *])
end

section
theorem LP{P:Program}{g:FuncId}{ms:List MV}{σ:St}{B:BK}{u:Nat→MV}{k:MV→St→Prop}(h:aA P g ms St.none fun v σ'=>∃m l q b,dQ m l q b∧v=u b∧σ'=bkS m l q b B [])
 (hk:∀m l q b,σ m=none→σ l=none→σ q=none→σ b=none→dQ m l q b→R (bY (u b) ((((σ.set m (.mp (cEs B.cards))).set l (shO B.nx m (.vec 3 q 0 B.dead.length))).set q (.row 197 3 (B.dead.map DE.c))).set b (bG B.sq l (.lst 2 (B.gr.map GR.c) false))) k)):R (cU P g ms σ k) :=
 bJ h (St.none_le σ) fun v σ' hv hf=>by
  obtain⟨m,l,q,b,D,rfl,rfl⟩:=hv
  have fr:∀j o,bkS m l q b B [] j=some o→σ j=none:=fun j o hj=>by
   rcases hf j o hj with h|⟨o',h⟩
   ·exact h
   ·simp[St.none] at h
  have fm:=fr m (.mp (cEs B.cards)) (by simp[St.set,Ne.symm D.lm,Ne.symm D.qm,Ne.symm D.bm])
  have fl:=fr l (shO B.nx m (.vec 3 q 0 B.dead.length)) (by simp[St.set,Ne.symm D.ql,Ne.symm D.bl])
  have fq:=fr q (.row 197 3 (B.dead.map DE.c++[])) (by simp[St.set,Ne.symm D.bq])
  have fb:=fr b _ (aD _ _ _)
  rw[lV,bE,bE,bE,bE,dC,List.append_nil]
  exact hk m l q b fm fl fq fb D
theorem UN{m l q b f:Nat}{B:BK}{fl:List ND}{d:Bool}{σ:St}(hm:σ m=some (.mp (cEs B.cards)))(hl:σ l=some (shO B.nx m (.vec 3 q 0 B.dead.length)))(hq:σ q=some (.row 197 3 (B.dead.map DE.c)))(hb:σ b=some (bG B.sq l (.lst 2 (B.gr.map GR.c) false)))(hf:σ f=some (flD fl d)):(bfS m l q b B f fl d).le σ :=
 St.aB (St.aB (St.aB (St.aB (St.aB (St.none_le _) hm) hl) (by rw[List.append_nil];exact hq)) hb) hf
theorem UO{m l q b:Nat}{B:BK}{σ:St}(hm:σ m=some (.mp (cEs B.cards)))(hl:σ l=some (shO B.nx m (.vec 3 q 0 B.dead.length)))(hq:σ q=some (.row 197 3 (B.dead.map DE.c)))(hb:σ b=some (bG B.sq l (.lst 2 (B.gr.map GR.c) false))):(bkS m l q b B []).le σ :=
 St.aB (St.aB (St.aB (St.aB (St.none_le _) hm) hl) (by rw[List.append_nil];exact hq)) hb
theorem Wg{P:Program}{g:FuncId}{ms:List MV}{m l q b f:Nat}{B:BK}{fl:List ND}{d d':Bool}{r:MV}(h:aA P g ms (bfS m l q b B f fl d) fun v σ'=>v=r∧σ'=bfS m l q b B f fl d') :
  aA P g ms (St.ofList [f,b,q,l,m] [flD fl d,bG B.sq l (.lst 2 (B.gr.map GR.c) false),.row 197 3 (B.dead.map DE.c),shO B.nx m (.vec 3 q 0 B.dead.length),.mp (cEs B.cards)]) fun v σ'=>v=r∧σ'=(St.ofList [f,b,q,l,m] [flD fl d,bG B.sq l (.lst 2 (B.gr.map GR.c) false),.row 197 3 (B.dead.map DE.c),shO B.nx m (.vec 3 q 0 B.dead.length),.mp (cEs B.cards)]).set f (flD fl d'):=by
 have e:bfS m l q b B f fl d=St.ofList [f,b,q,l,m] [flD fl d,bG B.sq l (.lst 2 (B.gr.map GR.c) false),.row 197 3 (B.dead.map DE.c),shO B.nx m (.vec 3 q 0 B.dead.length),.mp (cEs B.cards)]:=by
  simp only[bfS,bkS,shS,St.ofList,List.append_nil]
 rw[e] at h
 refine h.mono ?_
 rintro v σ' ⟨h1,rfl⟩
 refine⟨h1,funext fun j=>?_⟩
 by_cases hj:j=f<;>simp[St.ofList,St.set,hj]
theorem GZ{L:List FuncId}:∀{l:List (FuncId × Fact)},(∀p,p∈l→p.2.new=none∨p.1∈L)→PlU (.these L) (fnF l)
 | [],_=>fun g ms rd q x h=>by simp[fnF] at h
 | (g',F)::r,h=>fun g ms rd q x e=>by
  simp only[fnF] at e
  split at e
  ·rename_i hg
   subst hg
   simp only[Option.some.injEq] at e
   subst e
   rcases h _ (List.mem_cons_self ..) with h1|h1
   ·cases h1
   ·exact .inr h1
  ·exact GZ (fun p hp=>h p (List.mem_cons_of_mem _ hp)) g ms rd q x e
end

section
theorem A2{P:Program}{o:Oper}{f:FR}{σ:St}{k:MV→St→Prop}{t el:TypeId}{x y z u:Operand}(ho:o.op=.slice t x (some y) (some z) (some u))(ht:(td P t).k=.slice el)(hok:(td P el).ok=true){e l n:Nat}
 (hx:aH f x=.vec e l 0 n){k1 k2 k3:IntKind}{a b c:Int}(hy:aH f y=.int k1 a)(hz:aH f z=.int k2 b)(hu:aH f u=.int k3 c)(h0:0≤a)(h1:a≤b)(h2:b≤c)(h3:c≤(n:Int))(hk:k .junk σ):sop P o f σ k:=by
 intro Φ w ac K Q' hi hr hK
 have rx:=aJ hr x
 have ry:=aJ hr y
 have rz:=aJ hr z
 have ru:=aJ hr u
 rw[hx] at rx
 rw[hy] at ry
 rw[hz] at rz
 rw[hu] at ru
 generalize hv:ac.eval x=vx at rx
 obtain⟨ad,cap,p,rfl,hp,hpe,hcap,hncap,hR⟩:=rx.dU
 have e1:=ry.aT
 have e2:=rz.aT
 have e3:=ru.aT
 have hrun:∃v,(execOp ac.eval o).run P w=.ok (.value v) w:=by
  unfold execOp
  simp only[ho,hv,Option.map_some,Option.map_none,e1,e2,e3,Sem.run_bind,Instr.sliceAt,aK (aY ht),Result.andThen_ok,Instr.slice,Instr.sliceBounds,Sem.run_pure]
  rw[run_sliceBound ⟨by omega,by omega⟩]
  simp only[Result.andThen_ok]
  rw[run_sliceBound ⟨by omega,by omega⟩]
  simp only[Result.andThen_ok]
  rw[run_sliceBound ⟨by omega,by omega⟩]
  simp only[Result.andThen_ok,Option.isSome_some,if_true,aO hok,Sem.run_pure]
  exact⟨_,rfl⟩
 obtain⟨v,hrun⟩:=hrun
 exact bL hrun (hK _ .junk _ Φ w (.junk _) hi (.refl _ _ _) hk)
end

section
theorem Uw:∀t:T,t.fl≠[]:=fun t=>by cases t<;>simp[T.fl]
theorem Sc{x:ND}(h:bS [x]=0):qK [x]=.leaf x:=by
 have ht:=(y7 h).2.1
 cases hc:qK [x] with
 | leaf y=>rw[hc] at ht;simp only[T.fl,List.cons.injEq,and_true] at ht;rw[ht]
 | one y a=>rw[hc] at ht;simp only[T.fl,List.cons.injEq] at ht;exact absurd ht.2 (Uw a)
 | two y a b=>rw[hc] at ht;simp only[T.fl,List.cons.injEq,List.append_eq_nil_iff] at ht;exact absurd ht.2.1 (Uw a)
theorem AW{x:ND}(h:bS [x]=0)(gr:List GR)(c:CA):dW gr [x] c=if x.op=1 then true else if x.op=2 then false else cI (pD c) (grB gr c.id) x:=by
 unfold dW
 rw[Sc h];rfl
def pa1:PA:=⟨1,0,f80⟩
def ex1:CA:=cA 1 pa1
def ex2:CA:=cA 2 pa1
end
end Go.Proofs.YtppdgejjmhdjhaaGreatDoor
