/- Parts of the proof; conditions: as its theorems name them. -/
import Derived.Test.YtppdgejjmhdjhaaGreatDoorMan
set_option linter.unusedVariables false
set_option linter.unusedSimpArgs false
set_option maxHeartbeats 8000000
set_option maxRecDepth 100000
namespace Go.Proofs.YtppdgejjmhdjhaaGreatDoor
section
theorem Kj(l:List GR)(tt:Bool)(hl:l.length≤1000000)(hm:∀g,g∈l→g.mem.length≤1000000)(hok:iI (-1) l=true)(id:Int):aA Tryz.prog 91 [.lst 2 (l.map GR.c) tt,.int .i64 id] St.none (fun r _=>r=.int .u32 (grB l id:Int)):=by
 refine aA.bS (mB 28 [.tmp 4] Tryz.func91 ?_)
 repeat' first|refine wZ1 @Tryz.f91.eq_1 ?_|fail
 refine aF (α:=Nat) (fun i=>⟨28,[(6,.int .i64 (i:Int)),(5,.int .u32 (grB (l.take i) id:Int)),(0,.lst 2 (l.map GR.c) tt),(1,.int .i64 id)],[]⟩) (fun _=>St.none) (fun i=>i≤l.length) (fun i=>l.length - i) (.of (.less ?_ (St.le_refl _)) ⟨0,rfl,rfl,Nat.zero_le _⟩) ?_
 ·simp(maxSteps:=4000000) (disch:=first|decide|assumption|omega|(simp only[wL];omega)) only[go_sem,simprocAttr,aU,aN]
  all_goals first|rfl|(simp[grB,aN];done)
 ·rintro i hi
  by_cases hlt:i<l.length
  ·obtain⟨g,hg⟩:=bU l hlt
   have hat:=bN (f:=GR.c) hg
   have hsn:=z8 hg id
   obtain⟨h1,h2,h3,h4⟩:=IL hok hg id
   have hh:=kQ g.mem false (hm g (dY hg)) id
   obtain⟨k,hk⟩:∃k:Nat,g.no=k:=⟨g.no.toNat,by omega⟩
   rw[hk] at h1 h2 h3
   rw[Int.toNat_natCast] at h1
   have hw:=Kr (grB (l.take i) id) k oM h1
   unfold grF at hsn
   rw[hk,Int.toNat_natCast] at hsn
   by_cases hmem:id∈g.mem
   ·rw[if_pos hmem] at hsn
    rw[decide_eq_true hmem] at hh
    repeat' first|(with_reducible first|refine up hh ?_|refine up hw ?_)|refine wZ2 @hat @hk ?_|fail
    refine .of (.less ?_ (St.le_refl _)) ⟨i+1,rfl,rfl,by omega,by omega⟩
    rw[hsn]
    exact wW
   ·rw[if_neg hmem] at hsn
    rw[decide_eq_false hmem] at hh
    repeat' first|(with_reducible first|refine up hh ?_|refine up hw ?_)|refine wZ2 @hat @hk ?_|fail
    refine .of (.less ?_ (St.le_refl _)) ⟨i+1,rfl,rfl,by omega,by omega⟩
    rw[hsn]
    exact wW
  ·have:i=l.length:=by omega
   subst this
   rw[List.take_length]
   repeat' first|refine wZ0 ?_|fail
   all_goals exact lE
end

section
theorem HK{gr:List GR}(hg:iI (-1) gr=true){fl:List ND}(hp:cR fl=0){c:CA}(hc:hJ c=true)(id:Int)(hid:c.id=id)(tt:Bool):aA Tryz.prog 90 [.lst 5 (fl.map ND.c) tt,.agg c.c,.int .u32 (grB gr id:Int)] St.none (fun r _=>r=.bool (eR gr fl c)):=by
 obtain⟨h1,h2,h3⟩:=y6 hp
 have hg':=Le hg id
 have:=mU (pA c) ⟨c.f.h,zJ hc,c.lab.toNat_lt⟩ (grB gr id) oM (qK fl) h1 (by rw[h2];omega) tt
 rw[h2] at this
 unfold eR
 rw[hid]
 exact this
theorem Kp(c:CA)(m:UInt32):aA Tryz.prog 92 [.agg c.c,.int .u32 (m.toNat:Int)] St.none (fun r _=>r=.agg (eB c m).c):=by
 refine aA.bS (mB 32 [.cell 4 126] Tryz.func92 ?_)
 have hml:=sN m
 obtain⟨ml,hm8⟩:∃b,bit m.toNat 8=b:=⟨_,rfl⟩
 rw[hm8] at hml
 have hlab:(eB c m).c=.int .i64 c.id::.int .i64 c.ver::.int .u32 (((if ml=true then c.lab else 0:UInt32).toNat:Nat):Int)::fc (kX c.f m.toNat 8):=by rw[←hm8];rfl
 rw[hlab]
 clear hm8 hlab
 obtain⟨lb,hlb⟩:∃lb:UInt32,(if ml=true then c.lab else 0)=lb:=⟨_,rfl⟩
 rw[hlb]
 have hb:∀i:Nat,i<8→aA Tryz.prog 178 [.int .u32 (m.toNat:Int),.int .i64 (i:Int)] St.none (fun r _=>r=.bool (bit m.toNat i)):=fun i h=>rA m i oM
 cases ml
 all_goals simp only[Bool.false_eq_true,if_false,if_true] at hlb
 ·subst hlb
  repeat' first|(with_reducible first|refine up hml ?_)|(refine wM ?_;(first|(have _:=nl3)|(have _:=nl2;intro nl3)|(have _:=nl1;intro nl2)|(intro nl1));intros)|refine wZ2 @Tryz.f92.eq_1 @FXs ?_|fail
  refine aF (α:=Nat) (fun i=>⟨32,[(6,.int .i64 (i:Int)),(5,.ptr nl3 0 0),(4,.ptr nl2 0 0),(2,.ptr nl1 0 0),(1,.int .u32 (m.toNat:Int))],[]⟩)
   (fun i=>((St.none.set nl1 (.row 126 27 [c.c])).set nl2 (.row 126 27 [ca0.c])).set nl3 (.row 126 27 [.int .i64 c.id::.int .i64 c.ver::.int .u32 ((0:UInt32).toNat:Int)::fc (kX c.f m.toNat i)])) (fun i=>i≤8) (fun i=>8 - i) (.of (.less ?_ (St.le_refl _)) ⟨0,rfl,rfl,Nat.zero_le _⟩) ?_
  ·exact wW
  ·rintro i hi
   by_cases h8:i<8
   ·have hbi:=hb i h8
    have hsucc:kX c.f m.toNat (i+1)=if bit m.toNat i=true then(kX c.f m.toNat i).set i (c.f.get i) else kX c.f m.toNat i:=rfl
    obtain⟨g,hg⟩:∃g,kX c.f m.toNat i=g:=⟨_,rfl⟩
    rw[hg] at hsucc ⊢
    cases hbb:bit m.toNat i<;>rw[hbb] at hbi hsucc
    ·rw[if_neg (by simp)] at hsucc
     repeat' first|(with_reducible first|refine up hbi ?_)|refine wZ1 @FXs ?_|fail
     all_goals (try (exfalso;omega))
     all_goals
      refine .of (.less ?_ (St.le_refl _)) ⟨i+1,rfl,by rw[hsucc],by omega,by omega⟩
      exact wW
    ·rw[if_pos rfl] at hsucc
     repeat' first|(with_reducible first|refine up hbi ?_)|refine wZ1 @FXs ?_|fail
     all_goals (try (exfalso;omega))
     all_goals
      refine .of (.less ?_ (St.le_refl _)) ⟨i+1,rfl,by rw[hsucc];first|rfl|skip,by omega,by omega⟩
      exact wW
   ·have:i=8:=by omega
    subst this
    repeat' first|refine wZ1 @FXs ?_|fail
    all_goals exact lE
 ·subst hlb
  repeat' first|(with_reducible first|refine up hml ?_)|(refine wM ?_;(first|(have _:=nl3)|(have _:=nl2;intro nl3)|(have _:=nl1;intro nl2)|(intro nl1));intros)|refine wZ2 @Tryz.f92.eq_1 @FXs ?_|fail
  refine aF (α:=Nat) (fun i=>⟨32,[(6,.int .i64 (i:Int)),(5,.ptr nl3 0 0),(4,.ptr nl2 0 0),(2,.ptr nl1 0 0),(1,.int .u32 (m.toNat:Int))],[]⟩)
   (fun i=>((St.none.set nl1 (.row 126 27 [c.c])).set nl2 (.row 126 27 [ca0.c])).set nl3 (.row 126 27 [.int .i64 c.id::.int .i64 c.ver::.int .u32 (c.lab.toNat:Int)::fc (kX c.f m.toNat i)])) (fun i=>i≤8) (fun i=>8 - i) (.of (.less ?_ (St.le_refl _)) ⟨0,rfl,rfl,Nat.zero_le _⟩) ?_
  ·exact wW
  ·rintro i hi
   by_cases h8:i<8
   ·have hbi:=hb i h8
    have hsucc:kX c.f m.toNat (i+1)=if bit m.toNat i=true then(kX c.f m.toNat i).set i (c.f.get i) else kX c.f m.toNat i:=rfl
    obtain⟨g,hg⟩:∃g,kX c.f m.toNat i=g:=⟨_,rfl⟩
    rw[hg] at hsucc ⊢
    cases hbb:bit m.toNat i<;>rw[hbb] at hbi hsucc
    ·rw[if_neg (by simp)] at hsucc
     repeat' first|(with_reducible first|refine up hbi ?_)|refine wZ1 @FXs ?_|fail
     all_goals (try (exfalso;omega))
     all_goals
      refine .of (.less ?_ (St.le_refl _)) ⟨i+1,rfl,by rw[hsucc],by omega,by omega⟩
      exact wW
    ·rw[if_pos rfl] at hsucc
     repeat' first|(with_reducible first|refine up hbi ?_)|refine wZ1 @FXs ?_|fail
     all_goals (try (exfalso;omega))
     all_goals
      refine .of (.less ?_ (St.le_refl _)) ⟨i+1,rfl,by rw[hsucc];first|rfl|skip,by omega,by omega⟩
      exact wW
   ·have:i=8:=by omega
    subst this
    repeat' first|refine wZ1 @FXs ?_|fail
    all_goals exact lE
end

section
theorem xI{α:Type}{l:List α}{p:α→Bool}{i:Nat}{x:α}(h:l[i]?=some x):(l.take (i+1)).filter p=(l.take i).filter p++if p x=true then[x] else[]:=by
 rw[aZ h,List.filter_append,List.filter_cons]
 split<;>simp
theorem xY(b:BK)(hb:BkR b)(h3:b.gr.length≤1000000)(h4:∀g,g∈b.gr→g.mem.length≤1000000)(fl:List ND)(hp:cR fl=0)(tt:Bool)(m:UInt32)(cur:Int) :
  aA Tryz.prog 23 [.agg b.c,.lst 5 (fl.map ND.c) tt,.int .u32 (m.toNat:Int),.int .i64 cur] St.none (fun r _=>r=.lst 27 ((eO b fl m cur).map CA.c) false):=by
 refine aA.seen (mB 46 [.tmp 8] Tryz.func23 ?_)
 unfold eO
 rw[List.map_map]
 obtain⟨P,hP⟩:∃P:CA→Bool,(fun c:CA=>decide (c.id≤cur)&&eR b.gr fl c)=P:=⟨_,rfl⟩
 have hPx:∀c:CA,P c=(decide (c.id≤cur)&&eR b.gr fl c):=fun c=>by rw[←hP]
 rw[hP]
 clear hP
 obtain⟨pj,hpj⟩:∃f:CA→List MV,(CA.c ∘ fun c=>eB c m)=f:=⟨_,rfl⟩
 have hpx:∀c:CA,pj c=(eB c m).c:=fun c=>by rw[←hpj];rfl
 rw[hpj]
 clear hpj
 have hcl:=hb.nc
 repeat' first|(refine wM ?_;(first|(have _:=nl2)|(have _:=nl1;intro nl2)|(intro nl1));intros)|refine wZ1 @Tryz.f23.eq_1 ?_|fail
 refine aF (α:=Nat × Nat × List (List MV)) (fun s=>⟨46,[(10,.int .i64 (s.1:Int)),(9,.vec 27 s.2.1 0 ((b.cards.take s.1).filter P).length),(4,.ptr nl1 0 0),(1,.lst 5 (fl.map ND.c) tt),(2,.int .u32 (m.toNat:Int)),(3,.int .i64 cur)],[]⟩)
  (fun s=>(St.none.set nl1 (.row 47 5 [b.c])).set s.2.1 (.row 126 27 (((b.cards.take s.1).filter P).map pj++s.2.2))) (fun s=>s.1≤b.cards.length∧s.2.1≠nl1) (fun s=>b.cards.length - s.1) ?_ ?_
 ·refine .of (.less ?_ (St.le_refl _)) ⟨(0,nl2,[]),rfl,by simp,Nat.zero_le _,by assumption⟩
  exact wW
 ·rintro⟨i,q,ex⟩ ⟨hi,hq⟩
  simp only at hi hq ⊢
  have hq':=Ne.symm hq
  by_cases hlt:i<b.cards.length
  ·obtain⟨x,hx⟩:=bU b.cards hlt
   have hat:=bN (f:=CA.c) hx
   have hsn:=xI (p:=P) hx
   have hxx:=hPx x
   have hxm:=dY hx
   have ho:=Kj b.gr false h3 h4 hb.gok x.id
   have hm:=HK hb.gok hp (Dh hb hxm).1 x.id rfl tt
   have hpr:=Kp x m
   rw[←hpx] at hpr
   obtain⟨sb,hsb⟩:∃z,eR b.gr fl x=z:=⟨_,rfl⟩
   obtain⟨gb,hgb⟩:∃z,grB b.gr x.id=z:=⟨_,rfl⟩
   rw[hgb] at hm ho
   rw[hsb] at hm hxx
   have hfl:((b.cards.take i).filter P).length≤i:=Nat.le_trans (List.length_filter_le _ _) (by rw[List.length_take];omega)
   obtain⟨L,hL⟩:∃L,(b.cards.take i).filter P=L:=⟨_,rfl⟩
   rw[hL] at hsn hfl ⊢
   obtain⟨y,hy⟩:∃y,pj x=y:=⟨_,rfl⟩
   have hyl:y.length=27:=by rw[←hy,hpx];simp[CA.c,cP]
   have hyc:y.all MV.aL=true:=by rw[←hy,hpx];simp only[CA.c,List.all_cons,dP];rfl
   rw[hy] at hpr
   obtain⟨C,c1,c2⟩:=kw2 91 ⟨[],fun v=>v=.int .u32 (gb:Int),none⟩ 90 ⟨[],fun v=>v=.bool sb,none⟩
   have htk:(L.map pj++ex).take L.length=L.map pj:=sU
   have hdr:(L.map pj++ex).drop (L.length+1)=ex.drop 1:=vG
   have hLl:(L.map pj).length=L.length:=List.length_map _
   by_cases hc:x.id≤cur
   ·rw[decide_eq_true hc,Bool.true_and] at hxx
    cases sb
    ·rw[hxx,if_neg (by simp),List.append_nil] at hsn
     repeat' first|(refine wM ?_;(first|(have _:=nl3)|(intro nl3));intros)|refine wZ2 @FXs @hat ?_|fail
     refine aJ mixed dK C ?_
     repeat' first|(with_reducible refine aH (c1 _) ho ?_)|(with_reducible refine aH (c2 _) hm ?_)|refine wZ1 @FXs ?_|fail
     all_goals (try (exfalso;omega))
     all_goals
      refine .of (.less ?_ (σ1:=(St.none.set nl1 (.row 47 5 [b.c])).set q (.row 126 27 (L.map pj++ex))) (le2 sS sS)) ⟨(i+1,q,ex),rfl,by simp only[hsn],⟨by simp only;omega,hq⟩,by simp only;omega⟩
      simp only[hsn]
      exact wW
    ·rw[hxx,if_pos rfl] at hsn
     repeat' first|(refine wM ?_;(first|(have _:=nl3)|(intro nl3));intros)|refine wZ2 @FXs @hat ?_|fail
     refine aJ mixed dK C ?_
     repeat' first|(with_reducible refine aH (c1 _) ho ?_)|(with_reducible refine aH (c2 _) hm ?_)|(with_reducible refine aC hpr ?_)|(refine wM ?_;(first|(have _:=nl5)|(have _:=nl4;intro nl5)|(intro nl4));intros)|(refine wY ?_ ?_<;>intro h)|refine wZ7 @FXs @hat @htk @hdr @hLl @hyl @hyc ?_|fail
     ·have hex:ex=[]:=List.eq_nil_of_length_eq_zero oM
      subst hex
      refine .of (.less ?_ (σ1:=(St.none.set nl1 (.row 47 5 [b.c])).set nl5 (.row 126 27 (L.map pj++[]++[y]))) (le2 sS sS)) ⟨(i+1,nl5,[]),rfl,by simp[hsn,hy],⟨by simp only;omega,by assumption⟩,by simp only;omega⟩
      simp only[hsn]
      exact wW
     ·refine .of (.less ?_ (σ1:=(St.none.set nl1 (.row 47 5 [b.c])).set nl5 (.row 126 27 (L.map pj++[y]++ex.drop 1))) (le2 sS sS)) ⟨(i+1,nl5,ex.drop 1),rfl,by simp[hsn,hy],⟨by simp only;omega,by assumption⟩,by simp only;omega⟩
      simp only[hsn]
      exact wW
   ·rw[decide_eq_false hc,Bool.false_and] at hxx
    rw[hxx,if_neg (by simp),List.append_nil] at hsn
    repeat' first|(refine wM ?_;(first|(have _:=nl3)|(intro nl3));intros)|refine wZ2 @FXs @hat ?_|fail
    refine aJ mixed dK C ?_
    repeat' first|(with_reducible refine aH (c1 _) ho ?_)|(with_reducible refine aH (c2 _) hm ?_)|refine wZ1 @FXs ?_|fail
    all_goals (try (exfalso;omega))
    all_goals
     refine .of (.less ?_ (σ1:=(St.none.set nl1 (.row 47 5 [b.c])).set q (.row 126 27 (L.map pj++ex))) (le2 sS sS)) ⟨(i+1,q,ex),rfl,by simp only[hsn],⟨by simp only;omega,hq⟩,by simp only;omega⟩
     simp only[hsn]
     exact wW
  ·have:i=b.cards.length:=by omega
   subst this
   rw[List.take_length]
   repeat' first|refine wZ0 ?_|fail
   exact fN (aD _ _ _) (by simp)
end
end Go.Proofs.YtppdgejjmhdjhaaGreatDoor
