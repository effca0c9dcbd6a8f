/- Parts of the proof; conditions: as its theorems name them. -/
import Derived.Test.YtppdgejjmhdjhaaGreatDoorM9m
set_option linter.unusedVariables false
set_option linter.unusedSimpArgs false
set_option maxHeartbeats 8000000
set_option maxRecDepth 100000
namespace Go.Proofs.YtppdgejjmhdjhaaGreatDoor
section
theorem aV.S4{n:Nat}{l l1:List (Nat × MV)}{d:List (FuncId × List MV)}{τ:St}{q:Nat}{o:aW}(hq:τ q=none)(h:∀p,p∈l1→View (St.none.set q o) (cT l p.1) p.2):aV ⟨n,l,d⟩ (τ.set q o) ⟨n,l1,d⟩ τ :=
 aV.freeze (St.none.set q o) (St.aB (St.none_le _) (aD _ _ _)) (iG hq) (fun k o' hk=>(aF _ _ _ _ (fun e=>by subst e;rw[hq] at hk;cases hk)).trans rfl) h
end

section
theorem x0{gr:List GR}(hg:iN (-1) gr=true){fl:List ND}(hp:bS fl=0){c:CA}(hc:iE c=true)(id:Int)(hid:c.id=id)(tt:Bool):aA Tryz.prog 90 [.lst 5 (fl.map ND.c) tt,.agg c.c,.int .u32 (grB gr id:Int)] St.none (fun r _=>r=.bool (dW gr fl c)):=by
 obtain⟨h1,h2,h3⟩:=y7 hp
 have hg':=K5 hg id
 have:=mN (pD c) ⟨c.f.h,zG hc,c.lab.toNat_lt⟩ (grB gr id) oM (qK fl) h1 (by rw[h2];omega) tt
 rw[h2] at this
 unfold dW
 rw[hid]
 exact this
theorem Kc(cs:List CA)(hl:cs.length≤1000000)(tt:Bool)(id:Int):aA Tryz.prog 238 [.lst 27 (cs.map CA.c) tt,.int .i64 id] St.none (fun r _=>r=.tup [.agg ((cs.find? fun c=>decide (c.id=id)).getD ca0).c,.bool (cs.find? fun c=>decide (c.id=id)).isSome]):=by
 refine aA.bR (mB 25 [.cell 4 126,.tmp 5] Tryz.func238 ?_)
 repeat' first|(refine wM ?_;(first|(have _:=nl1)|(intro nl1));intros)|refine wZ1 @Tryz.f238.eq_1 ?_|fail
 refine aE (α:=Nat) (fun i=>⟨25,[(6,.int .i64 (i:Int)),(5,.bool false),(4,.ptr nl1 0 0),(0,.lst 27 (cs.map CA.c) tt),(1,.int .i64 id)],[]⟩) (fun _=>St.none.set nl1 (.row 126 27 [ca0.c])) (fun i=>i≤cs.length∧∀c,c∈cs.take i→c.id≠id) (fun i=>cs.length - i) (.of (.less ?_ (St.le_refl _)) ⟨0,rfl,rfl,Nat.zero_le _,by simp⟩) ?_
 ·exact wW
 ·rintro i ⟨hi,hq⟩
  by_cases hlt:i<cs.length
  ·obtain⟨y,hy⟩:=bW cs hlt
   have hat:=bF (f:=CA.c) hy
   by_cases he:y.id=id
   ·rw[Ms hq hy he]
    subst he
    simp only[Option.getD_some,Option.isSome_some]
    repeat' first|refine wZ2 @FXs @hat ?_|fail
    all_goals first|exact⟨_,St.le_refl _,rfl⟩|exact⟨_,St.le_refl _⟩|(exfalso;omega)|skip
   ·repeat' first|refine wZ2 @FXs @hat ?_|fail
    all_goals (try (exfalso;omega))
    all_goals
     refine .of (.less ?_ (St.le_refl _)) ⟨i+1,rfl,rfl,⟨by omega,fun c h'=>?_⟩,by omega⟩
     ·exact wW
     ·rw[aP hy,List.mem_append,List.mem_singleton] at h'
      rcases h' with h'|rfl
      ·exact hq c h'
      ·exact he
  ·have:i=cs.length:=by omega
   subst this
   rw[List.take_length] at hq
   have hn:cs.find? (fun c=>decide (c.id=id))=none:=List.find?_eq_none.2 fun x hx=>by simpa using hq x hx
   rw[hn]
   repeat' first|refine wZ1 @FXs ?_|fail
   all_goals first|exact⟨_,St.le_refl _,rfl⟩|exact⟨_,St.le_refl _⟩|(exfalso;omega)|skip
theorem AP(c:CA)(m:UInt32):aA Tryz.prog 92 [.agg c.c,.int .u32 (m.toNat:Int)] St.none (fun r _=>r=.agg (fL c m).c):=by
 refine aA.bR (mB 32 [.cell 4 126] Tryz.func92 ?_)
 have hml:=sV m
 obtain⟨ml,hm8⟩:∃b,bit m.toNat 8=b:=⟨_,rfl⟩
 rw[hm8] at hml
 have hlab:(fL c m).c=.int .i64 c.id::.int .i64 c.ver::.int .u32 (((if ml=true then c.lab else 0:UInt32).toNat:Nat):Int)::fc (kQ c.f m.toNat 8):=by rw[←hm8];rfl
 rw[hlab]
 clear hm8 hlab
 obtain⟨lb,hlb⟩:∃lb:UInt32,(if ml=true then c.lab else 0)=lb:=⟨_,rfl⟩
 rw[hlb]
 have hb:∀i:Nat,i<8→aA Tryz.prog 178 [.int .u32 (m.toNat:Int),.int .i64 (i:Int)] St.none (fun r _=>r=.bool (bit m.toNat i)):=fun i h=>rB m i oM
 cases ml
 all_goals simp only[Bool.false_eq_true,if_false,if_true] at hlb
 ·subst hlb
  repeat' first|(with_reducible first|refine up hml ?_)|(refine wM ?_;(first|(have _:=nl3)|(have _:=nl2;intro nl3)|(have _:=nl1;intro nl2)|(intro nl1));intros)|refine wZ2 @Tryz.f92.eq_1 @FXs ?_|fail
  refine aE (α:=Nat) (fun i=>⟨32,[(6,.int .i64 (i:Int)),(5,.ptr nl3 0 0),(4,.ptr nl2 0 0),(2,.ptr nl1 0 0),(1,.int .u32 (m.toNat:Int))],[]⟩)
   (fun i=>((St.none.set nl1 (.row 126 27 [c.c])).set nl2 (.row 126 27 [ca0.c])).set nl3 (.row 126 27 [.int .i64 c.id::.int .i64 c.ver::.int .u32 ((0:UInt32).toNat:Int)::fc (kQ c.f m.toNat i)])) (fun i=>i≤8) (fun i=>8 - i) (.of (.less ?_ (St.le_refl _)) ⟨0,rfl,rfl,Nat.zero_le _⟩) ?_
  ·exact wW
  ·rintro i hi
   by_cases h8:i<8
   ·have hbi:=hb i h8
    have hsucc:kQ c.f m.toNat (i+1)=if bit m.toNat i=true then(kQ c.f m.toNat i).set i (c.f.get i) else kQ c.f m.toNat i:=rfl
    obtain⟨g,hg⟩:∃g,kQ c.f m.toNat i=g:=⟨_,rfl⟩
    rw[hg] at hsucc ⊢
    cases hbb:bit m.toNat i<;>rw[hbb] at hbi hsucc
    ·rw[if_neg (by simp)] at hsucc
     repeat' first|(with_reducible first|refine up hbi ?_)|refine wZ1 @FXs ?_|fail
     all_goals (try (exfalso;omega))
     all_goals
      refine .of (.less ?_ (St.le_refl _)) ⟨i+1,rfl,by rw[hsucc],by omega,by omega⟩
      exact wW
    ·rw[if_pos rfl] at hsucc
     repeat' first|(with_reducible first|refine up hbi ?_)|refine wZ1 @FXs ?_|fail
     all_goals (try (exfalso;omega))
     all_goals
      refine .of (.less ?_ (St.le_refl _)) ⟨i+1,rfl,by rw[hsucc];first|rfl|skip,by omega,by omega⟩
      exact wW
   ·have:i=8:=by omega
    subst this
    repeat' first|refine wZ1 @FXs ?_|fail
    all_goals exact lE
 ·subst hlb
  repeat' first|(with_reducible first|refine up hml ?_)|(refine wM ?_;(first|(have _:=nl3)|(have _:=nl2;intro nl3)|(have _:=nl1;intro nl2)|(intro nl1));intros)|refine wZ2 @Tryz.f92.eq_1 @FXs ?_|fail
  refine aE (α:=Nat) (fun i=>⟨32,[(6,.int .i64 (i:Int)),(5,.ptr nl3 0 0),(4,.ptr nl2 0 0),(2,.ptr nl1 0 0),(1,.int .u32 (m.toNat:Int))],[]⟩)
   (fun i=>((St.none.set nl1 (.row 126 27 [c.c])).set nl2 (.row 126 27 [ca0.c])).set nl3 (.row 126 27 [.int .i64 c.id::.int .i64 c.ver::.int .u32 (c.lab.toNat:Int)::fc (kQ c.f m.toNat i)])) (fun i=>i≤8) (fun i=>8 - i) (.of (.less ?_ (St.le_refl _)) ⟨0,rfl,rfl,Nat.zero_le _⟩) ?_
  ·exact wW
  ·rintro i hi
   by_cases h8:i<8
   ·have hbi:=hb i h8
    have hsucc:kQ c.f m.toNat (i+1)=if bit m.toNat i=true then(kQ c.f m.toNat i).set i (c.f.get i) else kQ c.f m.toNat i:=rfl
    obtain⟨g,hg⟩:∃g,kQ c.f m.toNat i=g:=⟨_,rfl⟩
    rw[hg] at hsucc ⊢
    cases hbb:bit m.toNat i<;>rw[hbb] at hbi hsucc
    ·rw[if_neg (by simp)] at hsucc
     repeat' first|(with_reducible first|refine up hbi ?_)|refine wZ1 @FXs ?_|fail
     all_goals (try (exfalso;omega))
     all_goals
      refine .of (.less ?_ (St.le_refl _)) ⟨i+1,rfl,by rw[hsucc],by omega,by omega⟩
      exact wW
    ·rw[if_pos rfl] at hsucc
     repeat' first|(with_reducible first|refine up hbi ?_)|refine wZ1 @FXs ?_|fail
     all_goals (try (exfalso;omega))
     all_goals
      refine .of (.less ?_ (St.le_refl _)) ⟨i+1,rfl,by rw[hsucc];first|rfl|skip,by omega,by omega⟩
      exact wW
   ·have:i=8:=by omega
    subst this
    repeat' first|refine wZ1 @FXs ?_|fail
    all_goals exact lE
end

section
theorem xZ(b:BK)(hb:BkR b)(h3:b.gr.length≤1000000)(h4:∀g,g∈b.gr→g.mem.length≤1000000)(fl:List ND)(hp:bS fl=0)(tt:Bool)(id:Int) :
  aA Tryz.prog 183 [.agg b.c,.lst 5 (fl.map ND.c) tt,.int .i64 id] St.none (fun r _=>r=.tup [.agg ((shown b fl id).getD ca0).c,.bool (shown b fl id).isSome]):=by
 refine aA.bR (mB 31 [.cell 6 126,.tmp 7] Tryz.func183 ?_)
 have hf:=Kc b.cards (by have:=hb.nc;omega) false id
 have ho:=AM b.gr false h3 h4 hb.gok id
 unfold shown
 cases hfi:b.cards.find? (fun c=>decide (c.id=id)) with
 | none =>
  rw[hfi] at hf
  simp only[Option.getD_none,Option.isSome_none] at hf ⊢
  repeat' first|(with_reducible first|refine up hf ?_)|(refine wO ?_;intros)|refine wZ2 @Tryz.f183.eq_1 @FXs ?_|fail
  obtain⟨C,c1⟩:∃C:cC,∀ms,C 91 ms=some ⟨[],fun v=>v=.bool true,none⟩:=⟨sD 91 (.bool true),fun _=>fB⟩
  refine aI mixed dK C ?_
  repeat' first|refine wZ1 @FXs ?_|fail
  all_goals exact lE
 | some c =>
  rw[hfi] at hf
  have hcm:=List.mem_of_find?_eq_some hfi
  have hid:c.id=id:=by simpa using List.find?_some hfi
  have hm:=x0 hb.gok hp (tI hb hcm).1 id hid tt
  simp only[Option.getD_some,Option.isSome_some] at hf ⊢
  obtain⟨C,c1,c2⟩:=kw2 91 ⟨[],fun v=>v=.int .u32 (grB b.gr id:Int),none⟩ 90 ⟨[],fun v=>v=.bool (dW b.gr fl c),none⟩
  obtain⟨sb,hsb⟩:∃x,dW b.gr fl c=x:=⟨_,rfl⟩
  rw[hsb] at hm c2 ⊢
  obtain⟨gb,hgb⟩:∃x,grB b.gr id=x:=⟨_,rfl⟩
  rw[hgb] at hm ho c1
  repeat' first|(with_reducible first|refine up hf ?_)|(refine wO ?_;intros)|refine wZ2 @Tryz.f183.eq_1 @FXs ?_|fail
  refine aI mixed dK C ?_
  cases sb
  all_goals
   repeat' first|(with_reducible refine aG (c1 _) ho ?_)|(with_reducible refine aG (c2 _) hm ?_)|refine wZ1 @FXs ?_|fail
   all_goals exact lE
theorem Ov(b:BK)(hb:BkR b)(h3:b.gr.length≤1000000)(h4:∀g,g∈b.gr→g.mem.length≤1000000)(fl:List ND)(hp:bS fl=0)(tt:Bool)(id:Int) :
  aA Tryz.prog 117 [.agg b.c,.lst 5 (fl.map ND.c) tt,.int .i64 id] St.none (fun r _=>r=.int .i64 (cW b fl id)):=by
 refine aA.bR (mB 18 [.tmp 6] Tryz.func117 ?_)
 have hs:=xZ b hb h3 h4 fl hp tt id
 unfold cW
 obtain⟨x,hx⟩:∃x,(shown b fl id).getD ca0=x:=⟨_,rfl⟩
 obtain⟨y,hy⟩:∃x,(shown b fl id).isSome=x:=⟨_,rfl⟩
 rw[hx,hy] at hs
 rw[hx]
 repeat' first|(with_reducible first|refine up hs ?_)|(refine wO ?_;intros)|refine wZ2 @Tryz.f117.eq_1 @FXs ?_|fail
 all_goals exact lE
theorem pN{α:Type}{l:List α}{p:α→Bool}{i:Nat}{x:α}(h:l[i]?=some x):(l.take (i+1)).filter p=(l.take i).filter p++if p x=true then[x] else[]:=by
 rw[aP h,List.filter_append,List.filter_cons]
 split<;>simp
theorem Hw(b:BK)(hb:BkR b)(h3:b.gr.length≤1000000)(h4:∀g,g∈b.gr→g.mem.length≤1000000)(fl:List ND)(hp:bS fl=0)(tt:Bool)(m:UInt32)(cur:Int) :
  aA Tryz.prog 23 [.agg b.c,.lst 5 (fl.map ND.c) tt,.int .u32 (m.toNat:Int),.int .i64 cur] St.none (fun r _=>r=.lst 27 ((sH b fl m cur).map CA.c) false):=by
 refine aA.seen (mB 46 [.tmp 8] Tryz.func23 ?_)
 unfold sH
 rw[List.map_map]
 obtain⟨P,hP⟩:∃P:CA→Bool,(fun c:CA=>decide (c.id≤cur)&&dW b.gr fl c)=P:=⟨_,rfl⟩
 have hPx:∀c:CA,P c=(decide (c.id≤cur)&&dW b.gr fl c):=fun c=>by rw[←hP]
 rw[hP]
 clear hP
 obtain⟨pj,hpj⟩:∃f:CA→List MV,(CA.c ∘ fun c=>fL c m)=f:=⟨_,rfl⟩
 have hpx:∀c:CA,pj c=(fL c m).c:=fun c=>by rw[←hpj];rfl
 rw[hpj]
 clear hpj
 have hcl:=hb.nc
 repeat' first|(refine wM ?_;(first|(have _:=nl2)|(have _:=nl1;intro nl2)|(intro nl1));intros)|refine wZ1 @Tryz.f23.eq_1 ?_|fail
 refine aE (α:=Nat × Nat × List (List MV)) (fun s=>⟨46,[(10,.int .i64 (s.1:Int)),(9,.vec 27 s.2.1 0 ((b.cards.take s.1).filter P).length),(4,.ptr nl1 0 0),(1,.lst 5 (fl.map ND.c) tt),(2,.int .u32 (m.toNat:Int)),(3,.int .i64 cur)],[]⟩)
  (fun s=>(St.none.set nl1 (.row 47 5 [b.c])).set s.2.1 (.row 126 27 (((b.cards.take s.1).filter P).map pj++s.2.2))) (fun s=>s.1≤b.cards.length∧s.2.1≠nl1) (fun s=>b.cards.length - s.1) ?_ ?_
 ·refine .of (.less ?_ (St.le_refl _)) ⟨(0,nl2,[]),rfl,by simp,Nat.zero_le _,by assumption⟩
  exact wW
 ·rintro⟨i,q,ex⟩ ⟨hi,hq⟩
  simp only at hi hq ⊢
  have hq':=Ne.symm hq
  by_cases hlt:i<b.cards.length
  ·obtain⟨x,hx⟩:=bW b.cards hlt
   have hat:=bF (f:=CA.c) hx
   have hsn:=pN (p:=P) hx
   have hxx:=hPx x
   have hxm:=eD hx
   have ho:=AM b.gr false h3 h4 hb.gok x.id
   have hm:=x0 hb.gok hp (tI hb hxm).1 x.id rfl tt
   have hpr:=AP x m
   rw[←hpx] at hpr
   obtain⟨sb,hsb⟩:∃z,dW b.gr fl x=z:=⟨_,rfl⟩
   obtain⟨gb,hgb⟩:∃z,grB b.gr x.id=z:=⟨_,rfl⟩
   rw[hgb] at hm ho
   rw[hsb] at hm hxx
   have hfl:((b.cards.take i).filter P).length≤i:=Nat.le_trans (List.length_filter_le _ _) (by rw[List.length_take];omega)
   obtain⟨L,hL⟩:∃L,(b.cards.take i).filter P=L:=⟨_,rfl⟩
   rw[hL] at hsn hfl ⊢
   obtain⟨y,hy⟩:∃y,pj x=y:=⟨_,rfl⟩
   have hyl:y.length=27:=by rw[←hy,hpx];simp[CA.c,cN]
   have hyc:y.all MV.aL=true:=by rw[←hy,hpx];simp only[CA.c,List.all_cons,dS];rfl
   rw[hy] at hpr
   obtain⟨C,c1,c2⟩:=kw2 91 ⟨[],fun v=>v=.int .u32 (gb:Int),none⟩ 90 ⟨[],fun v=>v=.bool sb,none⟩
   have htk:(L.map pj++ex).take L.length=L.map pj:=mZ
   have hdr:(L.map pj++ex).drop (L.length+1)=ex.drop 1:=nZ
   have hLl:(L.map pj).length=L.length:=List.length_map _
   by_cases hc:x.id≤cur
   ·rw[decide_eq_true hc,Bool.true_and] at hxx
    cases sb
    ·rw[hxx,if_neg (by simp),List.append_nil] at hsn
     repeat' first|(refine wM ?_;(first|(have _:=nl3)|(intro nl3));intros)|refine wZ2 @FXs @hat ?_|fail
     refine aI mixed dK C ?_
     repeat' first|(with_reducible refine aG (c1 _) ho ?_)|(with_reducible refine aG (c2 _) hm ?_)|refine wZ1 @FXs ?_|fail
     all_goals (try (exfalso;omega))
     all_goals
      refine .of (.less ?_ (σ1:=(St.none.set nl1 (.row 47 5 [b.c])).set q (.row 126 27 (L.map pj++ex))) (le2 sS sS)) ⟨(i+1,q,ex),rfl,by simp only[hsn],⟨by simp only;omega,hq⟩,by simp only;omega⟩
      simp only[hsn]
      exact wW
    ·rw[hxx,if_pos rfl] at hsn
     repeat' first|(refine wM ?_;(first|(have _:=nl3)|(intro nl3));intros)|refine wZ2 @FXs @hat ?_|fail
     refine aI mixed dK C ?_
     repeat' first|(with_reducible refine aG (c1 _) ho ?_)|(with_reducible refine aG (c2 _) hm ?_)|(with_reducible refine aC hpr ?_)|(refine wM ?_;(first|(have _:=nl5)|(have _:=nl4;intro nl5)|(intro nl4));intros)|(refine wY ?_ ?_<;>intro h)|refine wZ7 @FXs @hat @htk @hdr @hLl @hyl @hyc ?_|fail
     ·have hex:ex=[]:=List.eq_nil_of_length_eq_zero oM
      subst hex
      refine .of (.less ?_ (σ1:=(St.none.set nl1 (.row 47 5 [b.c])).set nl5 (.row 126 27 (L.map pj++[]++[y]))) (le2 sS sS)) ⟨(i+1,nl5,[]),rfl,by simp[hsn,hy],⟨by simp only;omega,by assumption⟩,by simp only;omega⟩
      simp only[hsn]
      exact wW
     ·refine .of (.less ?_ (σ1:=(St.none.set nl1 (.row 47 5 [b.c])).set nl5 (.row 126 27 (L.map pj++[y]++ex.drop 1))) (le2 sS sS)) ⟨(i+1,nl5,ex.drop 1),rfl,by simp[hsn,hy],⟨by simp only;omega,by assumption⟩,by simp only;omega⟩
      simp only[hsn]
      exact wW
   ·rw[decide_eq_false hc,Bool.false_and] at hxx
    rw[hxx,if_neg (by simp),List.append_nil] at hsn
    repeat' first|(refine wM ?_;(first|(have _:=nl3)|(intro nl3));intros)|refine wZ2 @FXs @hat ?_|fail
    refine aI mixed dK C ?_
    repeat' first|(with_reducible refine aG (c1 _) ho ?_)|(with_reducible refine aG (c2 _) hm ?_)|refine wZ1 @FXs ?_|fail
    all_goals (try (exfalso;omega))
    all_goals
     refine .of (.less ?_ (σ1:=(St.none.set nl1 (.row 47 5 [b.c])).set q (.row 126 27 (L.map pj++ex))) (le2 sS sS)) ⟨(i+1,q,ex),rfl,by simp only[hsn],⟨by simp only;omega,hq⟩,by simp only;omega⟩
     simp only[hsn]
     exact wW
  ·have:i=b.cards.length:=by omega
   subst this
   rw[List.take_length]
   repeat' first|refine wZ0 ?_|fail
   exact cX (aD _ _ _) (by simp)
theorem MH{b:BK}(hb:BkR b)(fl:List ND):((sH b fl 0 1073741824).map CA.id)=rI b fl:=by
 unfold sH rI
 rw[List.map_map]
 have e:b.cards.filter (fun c=>decide (c.id≤1073741824)&&dW b.gr fl c)=b.cards.filter (dW b.gr fl):=List.filter_congr fun c hc=>by
  rw[decide_eq_true (by have:=(tI hb hc).2.2;omega),Bool.true_and]
 rw[e]
 rfl
theorem Om(b:BK)(hb:BkR b)(h3:b.gr.length≤1000000)(h4:∀g,g∈b.gr→g.mem.length≤1000000)(fl:List ND)(hp:bS fl=0)(tt:Bool) :
  aA Tryz.prog 101 [.agg b.c,.lst 5 (fl.map ND.c) tt] St.none (fun r _=>r=.lst 1 ((rI b fl).map aM) false):=by
 refine aA.seen (mB 27 [.tmp 4] Tryz.func101 ?_)
 rw[←MH hb,List.map_map]
 have hi:=Hw b hb h3 h4 fl hp tt 0 1073741824
 rw[VK] at hi
 have hL:(sH b fl 0 1073741824).length≤48:=by
  unfold sH
  rw[List.length_map]
  exact Nat.le_trans (List.length_filter_le _ _) hb.nc
 obtain⟨W,hW⟩:∃W,sH b fl 0 1073741824=W:=⟨_,rfl⟩
 rw[hW] at hi hL ⊢
 have hWl:(W.map CA.c).length=W.length:=List.length_map _
 repeat' first|(with_reducible first|refine up hi ?_)|(refine wM ?_;(first|(have _:=nl2)|(have _:=nl1;intro nl2)|(intro nl1));intros)|refine wZ1 @Tryz.f101.eq_1 ?_|fail
 refine aE (α:=Nat × Nat × List (List MV)) (fun s=>⟨27,[(7,.int .i64 (s.1:Int)),(6,.vec 1 s.2.1 0 s.1),(5,.lst 27 (W.map CA.c) false)],[]⟩)
  (fun s=>St.none.set s.2.1 (.row 3 1 ((W.take s.1).map (aM ∘ CA.id)++s.2.2))) (fun s=>s.1≤W.length) (fun s=>W.length - s.1) ?_ ?_
 ·refine .of (.less ?_ (σ1:=St.none.set nl2 (.row 3 1 [])) (St.aB (St.none_le _) sS)) ⟨(0,nl2,[]),rfl,by simp,Nat.zero_le _⟩
  exact wW
 ·rintro⟨i,q,ex⟩ hi'
  simp only at hi' ⊢
  by_cases hlt:i<W.length
  ·obtain⟨x,hx⟩:=bW W hlt
   have hat:=bF (f:=CA.c) hx
   have hsn:=aP hx
   have htl:(W.take i).length=i:=by rw[List.length_take];omega
   obtain⟨L,hL'⟩:∃L,W.take i=L:=⟨_,rfl⟩
   rw[hL'] at hsn htl ⊢
   have htk:(L.map (aM ∘ CA.id)++ex).take i=L.map (aM ∘ CA.id):=by rw[←htl];exact mZ
   have hdr:(L.map (aM ∘ CA.id)++ex).drop (i+1)=ex.drop 1:=by rw[←htl];exact nZ
   have hLl:(L.map (aM ∘ CA.id)).length=i:=by rw[List.length_map,htl]
   repeat' first|(refine wM ?_;(first|(have _:=nl4)|(have _:=nl3;intro nl4)|(intro nl3));intros)|(refine wY ?_ ?_<;>intro h)|refine wZ7 @FXs @hat @htk @hdr @hLl @htl @hWl ?_|fail
   ·have hex:ex=[]:=List.eq_nil_of_length_eq_zero oM
    subst hex
    refine .of (.less ?_ (σ1:=St.none.set nl4 (.row 3 1 (L.map (aM ∘ CA.id)++[]++[aM x.id]))) (St.aB (St.none_le _) sS)) ⟨(i+1,nl4,[]),rfl,by simp[hsn],by simp only;omega,by simp only;omega⟩
    exact wW
   ·refine .of (.less ?_ (σ1:=St.none.set nl4 (.row 3 1 (L.map (aM ∘ CA.id)++[aM x.id]++ex.drop 1))) (St.aB (St.none_le _) sS)) ⟨(i+1,nl4,ex.drop 1),rfl,by simp[hsn],by simp only;omega,by simp only;omega⟩
    exact wW
  ·have:i=W.length:=by omega
   subst this
   rw[List.take_length]
   repeat' first|refine wZ1 @hWl ?_|fail
   exact cX (aD _ _ _) (by simp)
end

section
theorem jP:∀(l:List TU) (x:TU) (id:Int),fF (l++[x]) id=if x.id=id then some x.new else fF l id
 | [],x,id=>by simp[fF]
 | t::l,x,id=>by
  rw[List.cons_append,fF,jP l x id,fF]
  by_cases h:x.id=id
  ·rw[if_pos h,if_pos h]
  ·rw[if_neg h,if_neg h]
end
end Go.Proofs.YtppdgejjmhdjhaaGreatDoor
