/- Parts of the proof, joined; conditions: those that its theorems name. -/
import Derived.Test.YtppdgejjmhdjhaaGreatDoorMbj
import Derived.Test.YtppdgejjmhdjhaaGreatDoorMbn
import Derived.Test.YtppdgejjmhdjhaaGreatDoorMbp
set_option linter.unusedVariables false
set_option linter.unusedSimpArgs false
set_option maxHeartbeats 4000000
namespace Go.Proofs.YtppdgejjmhdjhaaGreatDoor
section
set_option maxRecDepth 100000
set_option maxHeartbeats 4000000
abbrev Pb(a:Int):Prop:=-9223372036854775808≤a∧a≤9223372036854775807
end

section
theorem Ns{x y:ND}(h:x.c=y.c):x=y:=by
 obtain⟨a,b,c,d,e⟩:=x
 obtain⟨a',b',c',d',e'⟩:=y
 simp only[ND.c,List.cons.injEq,MV.int.injEq,MV.str.injEq,true_and,and_true] at h
 obtain⟨rfl,rfl,rfl,rfl,rfl⟩:=h
 rfl
theorem CP:∀{l m:List ND},l.map ND.c=m.map ND.c→l=m
 | [],[],_=>rfl
 | [],_::_,h=>by simp at h
 | _::_,[],h=>by simp at h
 | x::l,y::m,h=>by
  rw[List.map_cons,List.map_cons,List.cons.injEq] at h
  rw[Ns h.1,CP h.2]
end

section
structure CD where
 id:Int
 ver:Int
 lab:Nat
 f:List VA
abbrev fcs(f:List VA):List MV:=(f.map VA.c).flatten
abbrev CD.c(c:CD):List MV:=.int .i64 c.id::.int .i64 c.ver::.int .u32 (c.lab:Int)::fcs c.f
theorem Ah:∀f:List VA,(fcs f).length=3 * f.length
 | []=>rfl
 | v::f=>by have:=Ah f;simp only[fcs,List.map_cons,List.flatten_cons,List.length_append,List.length_cons,List.length_nil] at this ⊢;omega
theorem BF:∀(f:List VA) (i:Nat),(fcs f).drop (3 * i)=fcs (f.drop i)
 | f,0=>by simp
 | [],i+1=>by simp[fcs]
 | v::f,i+1=>by
  have:=BF f i
  rw[show 3 * (i+1)=3 * i+1+1+1 by omega]
  simp only[fcs,List.map_cons,List.flatten_cons,List.cons_append,List.nil_append,List.drop_succ_cons] at this ⊢
  exact this
theorem Ov{f:List VA}{i:Nat}(h:i<f.length):(fcs f).drop (3 * i)=.int .i64 (f.getD i va0).kd::.int .i64 (f.getD i va0).n::.str (f.getD i va0).s::fcs (f.drop (i+1)):=by
 rw[BF,List.drop_eq_getElem_cons h,bG va0 h];rfl
theorem yL(c:CD){i:Nat}(h:i<c.f.length):c.c.drop (3+i * 3)=.int .i64 (c.f.getD i va0).kd::.int .i64 (c.f.getD i va0).n::.str (c.f.getD i va0).s::fcs (c.f.drop (i+1)):=by
 rw[show 3+i * 3=3 * i+1+1+1 by omega]
 simp only[CD.c,List.drop_succ_cons]
 exact Ov h
theorem JL(c:CD){i:Nat}(h:i<c.f.length){d:MV}:c.c.getD (3+i * 3) d=.int .i64 (c.f.getD i va0).kd:=by
 have:=yL c h
 rw[List.getD_eq_getElem?_getD,←List.head?_drop,this];rfl
theorem G9(c:CD){i:Nat}(h:i<c.f.length):(c.c.drop (3+i * 3)).take 3=(c.f.getD i va0).c:=by
 rw[yL c h];rfl
theorem tT:∀f:List VA,(fcs f).all MV.aN=true
 | []=>rfl
 | v::f=>by
  have:=tT f
  simp only[fcs,List.map_cons,List.flatten_cons,List.cons_append,List.nil_append,List.all_cons] at this ⊢
  rw[this];rfl
theorem nI(c:CD):c.c.all MV.aN=true:=by
 simp only[CD.c,List.all_cons,tT];rfl
theorem pP(c:CD):c.c.length=3+3 * c.f.length:=by simp only[CD.c,List.length_cons,Ah];omega
theorem zR{v w:VA}:decide (v.kd=w.kd∧v.n=w.n∧v.s=w.s)=decide (v=w) :=
 decide_eq_decide.2 ⟨fun⟨h1,h2,h3⟩=>by cases v;cases w;simp only at h1 h2 h3;rw[h1,h2,h3],fun h=>by rw[h];exact⟨rfl,rfl,rfl⟩⟩
def bW(c:CD)(g:Nat)(n:ND):Bool :=
 if n.op=1 then true else if n.op=3 then hasB c.lab n.n else if n.op=4 then hasB g n.n
 else if n.op=5 then !decide ((c.f.getD n.n.toNat va0).kd=0)
 else if n.op=6 then decide (c.f.getD n.n.toNat va0=n.v)
 else if n.op=7 then gU (c.f.getD n.n.toNat va0) n.v
 else if n.op=8 then gU n.v (c.f.getD n.n.toNat va0)
 else if n.op=9 then iS (c.f.getD n.n.toNat va0) n.v
 else false
structure CF (c:CD):Prop where
 len:c.f.length=8
 size:∀v,v∈c.f→v.s.size≤1000000
 lab:c.lab<4294967296
set_option maxHeartbeats 4000000 in
theorem Ft (x:ND) (hx:eG x=true) (c:CD) (hc:CF c) (g:Nat) (hg:g<4294967296):aA Tryz.prog 175 [.agg x.c,.agg c.c,.int .u32 (g:Int)] St.none (fun r _=>r=.bool (bW c g x)):=by
 refine(aA.body 73 [.tmp 6] Tryz.func175 rfl rfl rfl rfl ?_)
 have hlen:=pP c
 rw[hc.len] at hlen
 have hlab:=nQ c.lab x.n hc.lab
 have hgrp:=nQ g x.n hg
 have hcell:=nI c
 obtain⟨cells,hcells⟩:∃cells,c.c=cells:=⟨_,rfl⟩
 by_cases h5:5≤x.op∧x.op≤9
 ·have hn:0≤x.n∧x.n<8:=by
   have h:=hx
   have e:x.op=5∨x.op=6∨x.op=7∨x.op=8∨x.op=9:=by omega
   rcases e with e|e|e|e|e<;>simp[eG,e] at h<;>omega
  obtain⟨k,hk⟩:∃k:Nat,x.n=k:=⟨x.n.toNat,by omega⟩
  have hk8:k<8:=by omega
  have hkl:k<c.f.length:=by rw[hc.len];omega
  have hget:=JL c hkl (d:=.junk)
  have htake:=G9 c hkl
  have hvm:=dJ va0 hkl
  have hvs:=hc.size _ hvm
  have hxs:=zF hx
  have hle1:=sI (c.f.getD k va0) x.v hvs hxs
  have hle2:=sI x.v (c.f.getD k va0) hxs hvs
  have hho:=A7 (c.f.getD k va0) x.v hvs hxs
  have hlb:bW c g x=(if x.op=5 then !decide ((c.f.getD k va0).kd=0)
   else if x.op=6 then decide (c.f.getD k va0=x.v)
   else if x.op=7 then gU (c.f.getD k va0) x.v
   else if x.op=8 then gU x.v (c.f.getD k va0)
   else iS (c.f.getD k va0) x.v):=by
   unfold bW
   rw[if_neg (by omega),if_neg (by omega),if_neg (by omega),hk]
   simp only[Int.toNat_natCast]
   by_cases e5:x.op=5
   ·rw[if_pos e5,if_pos e5]
   ·rw[if_neg e5,if_neg e5]
    by_cases e6:x.op=6
    ·rw[if_pos e6,if_pos e6]
    ·rw[if_neg e6,if_neg e6]
     by_cases e7:x.op=7
     ·rw[if_pos e7,if_pos e7]
     ·rw[if_neg e7,if_neg e7]
      by_cases e8:x.op=8
      ·rw[if_pos e8,if_pos e8]
      ·rw[if_neg e8,if_neg e8,if_pos (by omega)]
  rw[hlb]
  rw[hcells] at hget htake hlen hcell ⊢
  clear hlab hgrp hlb
  generalize c.f.getD k va0=v at hget htake hvs hle1 hle2 hho ⊢
  have hop:x.op=5∨x.op=6∨x.op=7∨x.op=8∨x.op=9:=by omega
  rcases hop with h|h|h|h|h
  all_goals
   simp(config:={ decide:=true }) only[h,if_true,if_false]
   repeat' (first|(with_reducible first|refine up hle1 ?_|refine up hle2 ?_|refine up hho ?_)|(with_reducible first|(refine wT ?_;refine wN fun _ hnl=>?_;revert hnl;(repeat refine wS fun _ _=>?_);intro hnl)|refine wD (by decide +kernel) ?_|refine wI (fun h=>?_) fun h=>?_|refine wF (fun h=>?_) fun h=>?_|refine wG (fun h=>?_) fun h=>?_|refine wH (fun h=>?_) fun h=>?_|((first|refine aG (fun h=>?_) fun h=>?_|refine aE (fun h=>?_) fun h=>?_)<;>simp only[h]))|simp(maxSteps:=4000000) (disch:=first|decide|assumption|omega|(simp only[wL];omega)) only[go_sem,simprocAttr,Tryz.f175,h,hk,hget,htake,hlen,hcell])
  ·exact zR
  ·refine aK mixed (by decide +kernel) (fun _ _=>some ⟨[],fun r=>r=.bool (gU v x.v),none⟩) ?_
   repeat' (first|(with_reducible refine aI rfl hle1 ?_)|(with_reducible first|(refine wT ?_;refine wN fun _ hnl=>?_;revert hnl;(repeat refine wS fun _ _=>?_);intro hnl)|refine wD (by decide +kernel) ?_|refine wI (fun h=>?_) fun h=>?_|refine wF (fun h=>?_) fun h=>?_|refine wG (fun h=>?_) fun h=>?_|refine wH (fun h=>?_) fun h=>?_|((first|refine aG (fun h=>?_) fun h=>?_|refine aE (fun h=>?_) fun h=>?_)<;>simp only[h]))|simp(maxSteps:=4000000) (disch:=first|decide|assumption|omega|(simp only[wL];omega)) only[go_sem,simprocAttr,h,hk,hget,htake,hlen,hcell])
  ·refine aK mixed (by decide +kernel) (fun _ _=>some ⟨[],fun r=>r=.bool (gU x.v v),none⟩) ?_
   repeat' (first|(with_reducible refine aI rfl hle2 ?_)|(with_reducible first|(refine wT ?_;refine wN fun _ hnl=>?_;revert hnl;(repeat refine wS fun _ _=>?_);intro hnl)|refine wD (by decide +kernel) ?_|refine wI (fun h=>?_) fun h=>?_|refine wF (fun h=>?_) fun h=>?_|refine wG (fun h=>?_) fun h=>?_|refine wH (fun h=>?_) fun h=>?_|((first|refine aG (fun h=>?_) fun h=>?_|refine aE (fun h=>?_) fun h=>?_)<;>simp only[h]))|simp(maxSteps:=4000000) (disch:=first|decide|assumption|omega|(simp only[wL];omega)) only[go_sem,simprocAttr,h,hk,hget,htake,hlen,hcell])
  ·refine aK mixed (by decide +kernel) (fun _ _=>some ⟨[],fun r=>r=.bool (iS v x.v),none⟩) ?_
   repeat' (first|(with_reducible refine aI rfl hho ?_)|(with_reducible first|(refine wT ?_;refine wN fun _ hnl=>?_;revert hnl;(repeat refine wS fun _ _=>?_);intro hnl)|refine wD (by decide +kernel) ?_|refine wI (fun h=>?_) fun h=>?_|refine wF (fun h=>?_) fun h=>?_|refine wG (fun h=>?_) fun h=>?_|refine wH (fun h=>?_) fun h=>?_|((first|refine aG (fun h=>?_) fun h=>?_|refine aE (fun h=>?_) fun h=>?_)<;>simp only[h]))|simp(maxSteps:=4000000) (disch:=first|decide|assumption|omega|(simp only[wL];omega)) only[go_sem,simprocAttr,h,hk,hget,htake,hlen,hcell])
 ·have hlb:bW c g x=(if x.op=1 then true else if x.op=3 then hasB c.lab x.n else if x.op=4 then hasB g x.n else false):=by
   unfold bW
   rw[if_neg (show ¬x.op=5 by omega),if_neg (show ¬x.op=6 by omega),if_neg (show ¬x.op=7 by omega),if_neg (show ¬x.op=8 by omega),if_neg (show ¬x.op=9 by omega)]
  rw[hlb]
  have hff:=tT c.f
  have hfl:=Ah c.f
  rw[hc.len] at hfl
  simp only[CD.c]
  generalize fcs c.f=ff at hff hfl ⊢
  have n5:x.op≠5:=by omega
  have n6:x.op≠6:=by omega
  have n7:x.op≠7:=by omega
  have n8:x.op≠8:=by omega
  have n9:x.op≠9:=by omega
  clear hlb hcell hcells hlen h5
  by_cases e1:x.op=1
  ·rw[if_pos e1]
   repeat' (first|(with_reducible first|refine up hlab ?_|refine up hgrp ?_)|(with_reducible first|(refine wT ?_;refine wN fun _ hnl=>?_;revert hnl;(repeat refine wS fun _ _=>?_);intro hnl)|refine wD (by decide +kernel) ?_|refine wI (fun h=>?_) fun h=>?_|refine wF (fun h=>?_) fun h=>?_|refine wG (fun h=>?_) fun h=>?_|refine wH (fun h=>?_) fun h=>?_|((first|refine aG (fun h=>?_) fun h=>?_|refine aE (fun h=>?_) fun h=>?_)<;>simp only[h]))|simp(maxSteps:=4000000) (disch:=first|decide|assumption|omega|(simp only[wL];omega)) only[go_sem,simprocAttr,Tryz.f175,hff,hfl])
  ·rw[if_neg e1]
   by_cases e3:x.op=3
   ·rw[if_pos e3]
    repeat' (first|(with_reducible first|refine up hlab ?_|refine up hgrp ?_)|(with_reducible first|(refine wT ?_;refine wN fun _ hnl=>?_;revert hnl;(repeat refine wS fun _ _=>?_);intro hnl)|refine wD (by decide +kernel) ?_|refine wI (fun h=>?_) fun h=>?_|refine wF (fun h=>?_) fun h=>?_|refine wG (fun h=>?_) fun h=>?_|refine wH (fun h=>?_) fun h=>?_|((first|refine aG (fun h=>?_) fun h=>?_|refine aE (fun h=>?_) fun h=>?_)<;>simp only[h]))|simp(maxSteps:=4000000) (disch:=first|decide|assumption|omega|(simp only[wL];omega)) only[go_sem,simprocAttr,Tryz.f175,hff,hfl])
   ·rw[if_neg e3]
    by_cases e4:x.op=4
    ·rw[if_pos e4]
     repeat' (first|(with_reducible first|refine up hlab ?_|refine up hgrp ?_)|(with_reducible first|(refine wT ?_;refine wN fun _ hnl=>?_;revert hnl;(repeat refine wS fun _ _=>?_);intro hnl)|refine wD (by decide +kernel) ?_|refine wI (fun h=>?_) fun h=>?_|refine wF (fun h=>?_) fun h=>?_|refine wG (fun h=>?_) fun h=>?_|refine wH (fun h=>?_) fun h=>?_|((first|refine aG (fun h=>?_) fun h=>?_|refine aE (fun h=>?_) fun h=>?_)<;>simp only[h]))|simp(maxSteps:=4000000) (disch:=first|decide|assumption|omega|(simp only[wL];omega)) only[go_sem,simprocAttr,Tryz.f175,hff,hfl])
    ·rw[if_neg e4]
     repeat' (first|(with_reducible first|refine up hlab ?_|refine up hgrp ?_)|(with_reducible first|(refine wT ?_;refine wN fun _ hnl=>?_;revert hnl;(repeat refine wS fun _ _=>?_);intro hnl)|refine wD (by decide +kernel) ?_|refine wI (fun h=>?_) fun h=>?_|refine wF (fun h=>?_) fun h=>?_|refine wG (fun h=>?_) fun h=>?_|refine wH (fun h=>?_) fun h=>?_|((first|refine aG (fun h=>?_) fun h=>?_|refine aE (fun h=>?_) fun h=>?_)<;>simp only[h]))|simp(maxSteps:=4000000) (disch:=first|decide|assumption|omega|(simp only[wL];omega)) only[go_sem,simprocAttr,Tryz.f175,hff,hfl])
set_option maxHeartbeats 8000000 in
theorem kC (c:CD) (hc:CF c) (g:Nat) (hg:g<4294967296):∀(t:T),Good t→t.fl.length≤1000→∀(tt:Bool),
  aA Tryz.prog 90 [.lst 5 (t.fl.map ND.c) tt,.agg c.c,.int .u32 (g:Int)] St.none (fun r _=>r=.bool (t.sem (bW c g)))
 | .leaf x,h,hl,tt=>by
  refine(aA.body 61 [.tmp 6] Tryz.func90 rfl rfl rfl rfl ?_)
  have hk:=lS (.leaf x) h.1 hl tt
  have hp:x.op≠10∧x.op≠11∧x.op≠12:=by
   refine⟨fun e=>?_,fun e=>?_,fun e=>?_⟩<;>(have h:=h.1;simp only[T.ok,e] at h;revert h;decide)
  obtain⟨p1,p2,p3⟩:=hp
  have hlf:=Ft x (h.2 x (by simp[T.fl])) c hc g hg
  have hcell:=nI c
  have hlen:=pP c
  rw[hc.len] at hlen
  have ht27:List.take 27 c.c=c.c:=List.take_of_length_le (by omega)
  have e:(T.leaf x).sem (bW c g)=bW c g x:=by
   by_cases h1:x.op=1
   ·simp[T.sem,bW,h1]
   ·by_cases h2:x.op=2
    ·simp[T.sem,bW,h2]
    ·simp[T.sem,h1,h2]
  rw[e]
  generalize c.c=cells at hcell hlen ht27 hlf ⊢
  simp only[T.fl,T.kl,T.kids,List.map_cons,List.map_nil] at hk ⊢
  repeat' (first|(with_reducible first|refine up hk ?_|refine up hlf ?_)|(with_reducible first|(refine wT ?_;refine wN fun _ hnl=>?_;revert hnl;(repeat refine wS fun _ _=>?_);intro hnl)|refine wD (by decide +kernel) ?_|refine wI (fun h=>?_) fun h=>?_|refine wF (fun h=>?_) fun h=>?_|refine wG (fun h=>?_) fun h=>?_|refine wH (fun h=>?_) fun h=>?_|((first|refine aG (fun h=>?_) fun h=>?_|refine aE (fun h=>?_) fun h=>?_)<;>simp only[h]))|simp(maxSteps:=4000000) (disch:=first|decide|assumption|omega|(simp only[wL];omega)) only[go_sem,simprocAttr,Tryz.f90,hcell,hlen])
  refine aK mixed (by decide +kernel) (fun _ _=>some ⟨[],fun r=>r=.bool (bW c g x),none⟩) ?_
  repeat' (first|(with_reducible refine aI rfl hlf ?_)|(with_reducible first|(refine wT ?_;refine wN fun _ hnl=>?_;revert hnl;(repeat refine wS fun _ _=>?_);intro hnl)|refine wD (by decide +kernel) ?_|refine wI (fun h=>?_) fun h=>?_|refine wF (fun h=>?_) fun h=>?_|refine wG (fun h=>?_) fun h=>?_|refine wH (fun h=>?_) fun h=>?_|((first|refine aG (fun h=>?_) fun h=>?_|refine aE (fun h=>?_) fun h=>?_)<;>simp only[h]))|simp(maxSteps:=4000000) (disch:=first|decide|assumption|omega|(simp only[wL];omega)) only[go_sem,simprocAttr,hcell,hlen,ht27])
 | .one x a,h,hl,tt=>by
  refine(aA.body 61 [.tmp 6] Tryz.func90 rfl rfl rfl rfl ?_)
  have hk:=lS (.one x a) h.1 hl tt
  have h1:=zJ h.1.1
  have hla:a.fl.length≤1000:=by simp only[T.fl,List.length_cons] at hl;omega
  have ih:=kC c hc g hg a (tY.1 h).2.2 hla false
  have hcell:=nI c
  have hlen:=pP c
  rw[hc.len] at hlen
  have ht27:List.take 27 c.c=c.c:=List.take_of_length_le (by omega)
  generalize c.c=cells at hcell hlen ht27 ih ⊢
  simp only[T.fl,T.kl,T.kids,List.map_cons,List.map_nil] at hk ⊢
  repeat' (first|(with_reducible first|refine up hk ?_|refine up ih ?_)|(with_reducible first|(refine wT ?_;refine wN fun _ hnl=>?_;revert hnl;(repeat refine wS fun _ _=>?_);intro hnl)|refine wD (by decide +kernel) ?_|refine wI (fun h=>?_) fun h=>?_|refine wF (fun h=>?_) fun h=>?_|refine wG (fun h=>?_) fun h=>?_|refine wH (fun h=>?_) fun h=>?_|((first|refine aG (fun h=>?_) fun h=>?_|refine aE (fun h=>?_) fun h=>?_)<;>simp only[h]))|simp(maxSteps:=4000000) (disch:=first|decide|assumption|omega|(simp only[wL];omega)) only[go_sem,simprocAttr,Tryz.f90,h1,hcell,hlen])
  refine aK mixed (by decide +kernel) (fun _ _=>some ⟨[],fun r=>r=.bool (a.sem (bW c g)),none⟩) ?_
  repeat' (first|(with_reducible refine aI rfl ih ?_)|(with_reducible first|(refine wT ?_;refine wN fun _ hnl=>?_;revert hnl;(repeat refine wS fun _ _=>?_);intro hnl)|refine wD (by decide +kernel) ?_|refine wI (fun h=>?_) fun h=>?_|refine wF (fun h=>?_) fun h=>?_|refine wG (fun h=>?_) fun h=>?_|refine wH (fun h=>?_) fun h=>?_|((first|refine aG (fun h=>?_) fun h=>?_|refine aE (fun h=>?_) fun h=>?_)<;>simp only[h]))|simp(maxSteps:=4000000) (disch:=first|decide|assumption|omega|(simp only[wL];omega)) only[go_sem,simprocAttr,hcell,hlen,ht27])
  simp[T.sem]
 | .two x a b,h,hl,tt=>by
  refine(aA.body 61 [.tmp 6] Tryz.func90 rfl rfl rfl rfl ?_)
  have hk:=lS (.two x a b) h.1 hl tt
  obtain⟨q1,_,ga,gb⟩:=tZ.1 h
  have hla:a.fl.length≤1000∧b.fl.length≤1000:=by simp only[T.fl,List.length_cons,List.length_append] at hl;omega
  have iha:=kC c hc g hg a ga hla.1 false
  have ihb:=kC c hc g hg b gb hla.2 false
  have hs:(T.two x a b).sem (bW c g)=if x.op=11 then a.sem (bW c g)&&b.sem (bW c g) else a.sem (bW c g) || b.sem (bW c g):=by
   by_cases e:x.op=11<;>simp[T.sem,e]
  rw[hs]
  have hcell:=nI c
  have hlen:=pP c
  rw[hc.len] at hlen
  have ht27:List.take 27 c.c=c.c:=List.take_of_length_le (by omega)
  generalize c.c=cells at hcell hlen ht27 iha ihb ⊢
  obtain⟨C,hC⟩:∃C,C=kn [(90,[.lst 5 (a.fl.map ND.c) false,.agg cells,.int .u32 (g:Int)],⟨[],fun v=>v=.bool (a.sem (bW c g)),none⟩),(90,[.lst 5 (b.fl.map ND.c) false,.agg cells,.int .u32 (g:Int)],⟨[],fun v=>v=.bool (b.sem (bW c g)),none⟩)]:=⟨_,rfl⟩
  have fa:C 90 [.lst 5 (a.fl.map ND.c) false,.agg cells,.int .u32 (g:Int)]=some ⟨[],fun v=>v=.bool (a.sem (bW c g)),none⟩:=by rw[hC];exact rA
  have fb:C 90 [.lst 5 (b.fl.map ND.c) false,.agg cells,.int .u32 (g:Int)]=some ⟨[],fun v=>v=.bool (b.sem (bW c g)),none⟩:=by
   rw[hC]
   refine Gl (fun h=>?_) rA
   have h:=h.2
   simp only[List.cons.injEq,MV.lst.injEq,true_and,and_true] at h
   rw[Pz ga.1 gb.1 (CP h)]
  clear hC hs
  generalize a.sem (bW c g)=sa at iha fa ⊢
  generalize b.sem (bW c g)=sb at ihb fb ⊢
  simp only[T.fl,T.kl,T.kids,List.map_cons,List.map_nil] at hk ⊢
  rcases zK q1 with h1|h1<;>rw[h1]
  ·rw[if_pos rfl]
   cases sa
   all_goals
    repeat' (first|(with_reducible first|refine up hk ?_|refine up iha ?_|refine up ihb ?_)|(with_reducible first|(refine wT ?_;refine wN fun _ hnl=>?_;revert hnl;(repeat refine wS fun _ _=>?_);intro hnl)|refine wD (by decide +kernel) ?_|refine wI (fun h=>?_) fun h=>?_|refine wF (fun h=>?_) fun h=>?_|refine wG (fun h=>?_) fun h=>?_|refine wH (fun h=>?_) fun h=>?_|((first|refine aG (fun h=>?_) fun h=>?_|refine aE (fun h=>?_) fun h=>?_)<;>simp only[h]))|simp(maxSteps:=4000000) (disch:=first|decide|assumption|omega|(simp only[wL];omega)) only[go_sem,simprocAttr,Tryz.f90,h1,hcell,hlen])
    refine aK mixed (by decide +kernel) C ?_
    repeat' (first|(with_reducible refine aI fa iha ?_)|(with_reducible refine aI fb ihb ?_)|(with_reducible first|(refine wT ?_;refine wN fun _ hnl=>?_;revert hnl;(repeat refine wS fun _ _=>?_);intro hnl)|refine wD (by decide +kernel) ?_|refine wI (fun h=>?_) fun h=>?_|refine wF (fun h=>?_) fun h=>?_|refine wG (fun h=>?_) fun h=>?_|refine wH (fun h=>?_) fun h=>?_|((first|refine aG (fun h=>?_) fun h=>?_|refine aE (fun h=>?_) fun h=>?_)<;>simp only[h]))|simp(maxSteps:=4000000) (disch:=first|decide|assumption|omega|(simp only[wL];omega)) only[go_sem,simprocAttr,hcell,hlen,ht27])
    all_goals (first|rfl|(cases sb<;>rfl))
  ·rw[if_neg (by decide)]
   cases sa
   all_goals
    repeat' (first|(with_reducible first|refine up hk ?_|refine up iha ?_|refine up ihb ?_)|(with_reducible first|(refine wT ?_;refine wN fun _ hnl=>?_;revert hnl;(repeat refine wS fun _ _=>?_);intro hnl)|refine wD (by decide +kernel) ?_|refine wI (fun h=>?_) fun h=>?_|refine wF (fun h=>?_) fun h=>?_|refine wG (fun h=>?_) fun h=>?_|refine wH (fun h=>?_) fun h=>?_|((first|refine aG (fun h=>?_) fun h=>?_|refine aE (fun h=>?_) fun h=>?_)<;>simp only[h]))|simp(maxSteps:=4000000) (disch:=first|decide|assumption|omega|(simp only[wL];omega)) only[go_sem,simprocAttr,Tryz.f90,h1,hcell,hlen])
    refine aK mixed (by decide +kernel) C ?_
    repeat' (first|(with_reducible refine aI fa iha ?_)|(with_reducible refine aI fb ihb ?_)|(with_reducible first|(refine wT ?_;refine wN fun _ hnl=>?_;revert hnl;(repeat refine wS fun _ _=>?_);intro hnl)|refine wD (by decide +kernel) ?_|refine wI (fun h=>?_) fun h=>?_|refine wF (fun h=>?_) fun h=>?_|refine wG (fun h=>?_) fun h=>?_|refine wH (fun h=>?_) fun h=>?_|((first|refine aG (fun h=>?_) fun h=>?_|refine aE (fun h=>?_) fun h=>?_)<;>simp only[h]))|simp(maxSteps:=4000000) (disch:=first|decide|assumption|omega|(simp only[wL];omega)) only[go_sem,simprocAttr,hcell,hlen,ht27])
    all_goals (first|rfl|(cases sb<;>rfl))
end
end Go.Proofs.YtppdgejjmhdjhaaGreatDoor
