/- Parts of the proof, joined; conditions: those that its theorems name. -/
import Derived.Test.YtppdgejjmhdjhaaGreatDoorMbs
set_option linter.unusedVariables false
set_option linter.unusedSimpArgs false
set_option maxHeartbeats 4000000
namespace Go.Proofs.YtppdgejjmhdjhaaGreatDoor
section
set_option maxRecDepth 100000
set_option maxHeartbeats 4000000
def oW(l:List ND):Bool:=decide (100<l.length) || l.any fun x=>decide (200<x.v.s.size)
theorem Dm(l:List ND)(tt:Bool):aA Tryz.prog 41 [.lst 5 (l.map ND.c) tt] St.none (fun r _=>r=.bool (oW l)):=by
 refine(aA.body 21 [.tmp 2] Tryz.func41 rfl rfl rfl rfl ?_)
 by_cases h100:100<l.length
 ·have e:oW l=true:=by simp[oW,h100]
  rw[e]
  repeat' (first|(with_reducible first|(refine wN fun _ hnl=>?_;revert hnl;(repeat refine wS fun _ _=>?_);intro hnl)|refine wE ?_|(refine wK ?_ ?_<;>intro h)|(refine wB ?_ ?_<;>intro h<;>simp only[h]))|simp(maxSteps:=4000000) (disch:=first|exact ddL|fail) only[go_sem,simprocAttr,Tryz.f41])
 ·have e:oW l=l.any fun x=>decide (200<x.v.s.size):=by simp[oW,h100]
  rw[e]
  repeat' (first|(with_reducible first|(refine wN fun _ hnl=>?_;revert hnl;(repeat refine wS fun _ _=>?_);intro hnl)|refine wE ?_|(refine wK ?_ ?_<;>intro h)|(refine wB ?_ ?_<;>intro h<;>simp only[h]))|simp(maxSteps:=4000000) (disch:=first|exact ddL|fail) only[go_sem,simprocAttr,Tryz.f41])
  refine aF (α:=Nat) (fun i=>⟨21,[(3,.int .i64 (i:Int)),(0,.lst 5 (l.map ND.c) tt)],[]⟩)
   (fun _=>St.none) (fun i=>i≤l.length∧(l.take i).any (fun x=>decide (200<x.v.s.size))=false) (fun i=>l.length - i) (.of (.less ?_ (St.le_refl _)) ⟨0,rfl,rfl,Nat.zero_le _,rfl⟩) ?_
  ·simp(maxSteps:=4000000) (disch:=first|exact ddL|fail) only[go_sem,simprocAttr,aC,aB]
   all_goals rfl
  ·rintro i ⟨hi,hq⟩
   by_cases hlt:i<l.length
   ·by_cases hb:200<(l.getD i nd0).v.s.size
    ·have ea:(l.any fun x=>decide (200<x.v.s.size))=true:=List.any_eq_true.2 ⟨_,dJ nd0 hlt,by simpa using hb⟩
     rw[ea]
     repeat' (first|(with_reducible first|(refine wN fun _ hnl=>?_;revert hnl;(repeat refine wS fun _ _=>?_);intro hnl)|refine wE ?_|(refine wK ?_ ?_<;>intro h)|(refine wB ?_ ?_<;>intro h<;>simp only[h]))|simp(maxSteps:=4000000) (disch:=first|exact ddL|fail) only[go_sem,simprocAttr,bE nd0])
    ·repeat' (first|(with_reducible first|(refine wN fun _ hnl=>?_;revert hnl;(repeat refine wS fun _ _=>?_);intro hnl)|refine wE ?_|(refine wK ?_ ?_<;>intro h)|(refine wB ?_ ?_<;>intro h<;>simp only[h]))|simp(maxSteps:=4000000) (disch:=first|exact ddL|fail) only[go_sem,simprocAttr,bE nd0])
     refine .of (.less ?_ (St.le_refl _)) ⟨i+1,rfl,rfl,⟨by omega,?_⟩,by omega⟩
     ·simp(maxSteps:=4000000) (disch:=first|exact ddL|fail) only[go_sem,simprocAttr,aC,aB]
      all_goals rfl
     ·rw[kF hlt,hq,←bG nd0 hlt]
      simpa using hb
   ·have hie:i=l.length:=by omega
    subst hie
    rw[List.take_length] at hq
    rw[hq]
    repeat' (first|(with_reducible first|(refine wN fun _ hnl=>?_;revert hnl;(repeat refine wS fun _ _=>?_);intro hnl)|refine wE ?_|(refine wK ?_ ?_<;>intro h)|(refine wB ?_ ?_<;>intro h<;>simp only[h]))|simp(maxSteps:=4000000) (disch:=first|exact ddL|fail) only[go_sem,simprocAttr])
def Ey(f:F8):Bool:=(List.range 8).any fun i=>decide (200<(f.get i).s.size)
theorem p9(f:F8):aA Tryz.prog 106 [.agg (fc f)] St.none (fun r _=>r=.bool (Ey f)):=by
 refine aA.bZ (aA.body 14 [.tmp 2] Tryz.func106 rfl rfl rfl rfl ?_)
 repeat' (first|(with_reducible first|(refine wT ?_;(first|((fail_if_success (have:=nl1));refine wN fun nl1 hnl=>?_)|refine wN fun _ hnl=>?_);revert hnl;(repeat refine wS fun _ _=>?_);intro hnl)|refine wE ?_|(refine wK ?_ ?_<;>intro h)|(refine wB ?_ ?_<;>intro h<;>simp only[h]))|simp(maxSteps:=4000000) (disch:=first|exact ddL|fail) only[go_sem,simprocAttr,Tryz.f106,FXs])
 refine aF (α:=Nat) (fun i=>⟨14,[(3,.int .i64 (i:Int)),(1,.ptr nl1 0 0)],[]⟩)
  (fun _=>St.none.set nl1 (.row 55 24 [fc f])) (fun i=>i≤8∧(List.range i).any (fun i=>decide (200<(f.get i).s.size))=false) (fun i=>8 - i) (.of (.less ?_ (St.le_refl _)) ⟨0,rfl,rfl,Nat.zero_le _,rfl⟩) ?_
 ·simp(maxSteps:=4000000) (disch:=first|exact ddL|fail) only[go_sem,simprocAttr,aC,aB]
  all_goals rfl
 ·rintro i ⟨hi,hq⟩
  by_cases hlt:i<8
  ·have hg:=fun d=>Ag (f:=f) (d:=d) hlt
   obtain⟨v,hv⟩:∃v,f.get i=v:=⟨_,rfl⟩
   rw[hv] at hg
   by_cases hb:200<v.s.size
   ·have e:Ey f=true:=List.any_eq_true.2 ⟨i,List.mem_range.2 hlt,by rw[hv];exact decide_eq_true hb⟩
    rw[e]
    repeat' (first|(with_reducible first|(refine wT ?_;(first|((fail_if_success (have:=nl1));refine wN fun nl1 hnl=>?_)|refine wN fun _ hnl=>?_);revert hnl;(repeat refine wS fun _ _=>?_);intro hnl)|refine wE ?_|(refine wK ?_ ?_<;>intro h)|(refine wB ?_ ?_<;>intro h<;>simp only[h]))|simp(maxSteps:=4000000) (disch:=first|exact ddL|fail) only[go_sem,simprocAttr,FXs,hg])
    all_goals first|exact⟨_,St.le_refl _,rfl⟩|exact⟨_,St.le_refl _⟩|(exfalso;omega)
   ·repeat' (first|(with_reducible first|(refine wT ?_;(first|((fail_if_success (have:=nl1));refine wN fun nl1 hnl=>?_)|refine wN fun _ hnl=>?_);revert hnl;(repeat refine wS fun _ _=>?_);intro hnl)|refine wE ?_|(refine wK ?_ ?_<;>intro h)|(refine wB ?_ ?_<;>intro h<;>simp only[h]))|simp(maxSteps:=4000000) (disch:=first|exact ddL|fail) only[go_sem,simprocAttr,FXs,hg])
    all_goals (try (exfalso;omega))
    refine .of (.less ?_ (St.le_refl _)) ⟨i+1,rfl,rfl,⟨by omega,?_⟩,by omega⟩
    ·simp(maxSteps:=4000000) (disch:=first|exact ddL|fail) only[go_sem,simprocAttr,aC,aB]
     all_goals rfl
    ·rw[List.range_succ,List.any_append,hq,List.any_cons,List.any_nil,hv,decide_eq_false hb];rfl
  ·have hie:i=8:=by omega
   subst hie
   have e:Ey f=false:=hq
   rw[e]
   repeat' (first|(with_reducible first|(refine wT ?_;(first|((fail_if_success (have:=nl1));refine wN fun nl1 hnl=>?_)|refine wN fun _ hnl=>?_);revert hnl;(repeat refine wS fun _ _=>?_);intro hnl)|refine wE ?_|(refine wK ?_ ?_<;>intro h)|(refine wB ?_ ?_<;>intro h<;>simp only[h]))|simp(maxSteps:=4000000) (disch:=first|exact ddL|fail) only[go_sem,simprocAttr])
   all_goals first|exact⟨_,St.le_refl _,rfl⟩|exact⟨_,St.le_refl _⟩
end

section
set_option maxRecDepth 100000
set_option maxHeartbeats 4000000
def LZ(op:Int):FuncId:=if op=11 then 207 else 208
def DU:T→FuncId
 | .leaf x=>B7 x.op
 | .one _ _=>206
 | .two x _ _=>LZ x.op
def jL:T→MV
 | .leaf x=>Gn x
 | .one _ a=>.fn (.func 206) [] [.cptr [jL a]]
 | .two x a b=>.fn (.func (LZ x.op)) [] [.cptr [jL a],.cptr [jL b]]
def DT:T→List MV
 | .leaf x=>B6 x
 | .one _ a=>[.cptr [jL a]]
 | .two _ a b=>[.cptr [jL a],.cptr [jL b]]
theorem j5:∀t:T,jL t=.fn (.func (DU t)) [] (DT t)
 | .leaf _=>rfl
 | .one _ _=>rfl
 | .two _ _ _=>rfl
theorem LG(x:ND)(c:CD)(g:Nat):(T.leaf x).sem (bW c g)=bW c g x:=by
 by_cases h1:x.op=1
 ·simp[T.sem,bW,h1]
 ·by_cases h2:x.op=2
  ·simp[T.sem,bW,h2]
  ·simp[T.sem,h1,h2]
theorem FV(c:CA)(hc:∀k,(c.f.get k).s.size≤1000000)(g:Nat)(hg:g<4294967296):∀t:T,Good t→aA Tryz.prog (DU t) (.cptr c.c::.int .u32 (g:Int)::DT t) St.none (fun r _=>r=.bool (t.sem (bW (mA c) g)))
 | .leaf x,h=>by
  rw[LG]
  exact Pr c hc g hg x (h.2 x (by simp[T.fl]))
 | .one x a,h=>by
  have ih:=FV c hc g hg a (tY.1 h).2.2
  have ha:=j5 a
  have e:(T.one x a).sem (bW (mA c) g)=!a.sem (bW (mA c) g):=by simp[T.sem]
  rw[e]
  show aA Tryz.prog 206 [.cptr c.c,.int .u32 (g:Int),.cptr [jL a]] St.none _
  rw[ha]
  refine(aA.body 11 [.tmp 5] Tryz.func206 rfl rfl rfl rfl ?_)
  generalize c.c=cells at ih ⊢
  repeat' (first|(with_reducible first|refine up ih ?_)|(with_reducible first|(refine wN fun _ hnl=>?_;revert hnl;(repeat refine wS fun _ _=>?_);intro hnl)|refine wE ?_|(refine wK ?_ ?_<;>intro h)|(refine wB ?_ ?_<;>intro h<;>simp only[h]))|simp(maxSteps:=4000000) (disch:=first|exact ddL|fail) only[go_sem,simprocAttr,Tryz.f206])
 | .two x a b,h=>by
  obtain⟨q1,_,ga,gb⟩:=tZ.1 h
  have ia:=FV c hc g hg a ga
  have ib:=FV c hc g hg b gb
  have ha:=j5 a
  have hb:=j5 b
  have hs:(T.two x a b).sem (bW (mA c) g)=if x.op=11 then a.sem (bW (mA c) g)&&b.sem (bW (mA c) g) else a.sem (bW (mA c) g) || b.sem (bW (mA c) g):=by
   by_cases e:x.op=11<;>simp[T.sem,e]
  rw[hs]
  show aA Tryz.prog (LZ x.op) [.cptr c.c,.int .u32 (g:Int),.cptr [jL a],.cptr [jL b]] St.none _
  rw[ha,hb]
  unfold LZ
  generalize c.c=cells at ia ib ⊢
  generalize a.sem (bW (mA c) g)=sa at ia ⊢
  generalize b.sem (bW (mA c) g)=sb at ib ⊢
  by_cases e:x.op=11
  ·rw[if_pos e,if_pos e]
   refine(aA.body 17 [.tmp 6] Tryz.func207 rfl rfl rfl rfl ?_)
   cases sa
   all_goals
    repeat' (first|(with_reducible first|refine up ia ?_|refine up ib ?_)|(with_reducible first|(refine wN fun _ hnl=>?_;revert hnl;(repeat refine wS fun _ _=>?_);intro hnl)|refine wE ?_|(refine wK ?_ ?_<;>intro h)|(refine wB ?_ ?_<;>intro h<;>simp only[h]))|simp(maxSteps:=4000000) (disch:=first|exact ddL|fail) only[go_sem,simprocAttr,Tryz.f207])
    all_goals first|rfl|(cases sb<;>rfl)
  ·rw[if_neg e,if_neg e]
   refine(aA.body 17 [.tmp 6] Tryz.func208 rfl rfl rfl rfl ?_)
   cases sa
   all_goals
    repeat' (first|(with_reducible first|refine up ia ?_|refine up ib ?_)|(with_reducible first|(refine wN fun _ hnl=>?_;revert hnl;(repeat refine wS fun _ _=>?_);intro hnl)|refine wE ?_|(refine wK ?_ ?_<;>intro h)|(refine wB ?_ ?_<;>intro h<;>simp only[h]))|simp(maxSteps:=4000000) (disch:=first|exact ddL|fail) only[go_sem,simprocAttr,Tryz.f208])
    all_goals first|rfl|(cases sb<;>rfl)
end

section
set_option maxRecDepth 100000
set_option maxHeartbeats 4000000
theorem nF{σ:St}{l:Nat}{t:TypeId}{m:MV}(h:σ l=some (.row t 1 [[m]])):View σ (.ptr l 0 0) (.cptr [m]):=View.ptr (i:=0) (o:=0) h (by simp)
theorem k0:∀T:T,Good T→∀(r:List ND) (t:Bool),(T.fl++r).length≤1000000→aA Tryz.prog 138 [.lst 5 ((T.fl++r).map ND.c) t] St.none (fun v _=>v=.tup [jL T,.lst 5 (r.map ND.c) false])
 | .leaf x,h,r,t,hl=>by
  refine aA.seen (aA.body 42 [.tmp 2,.tmp 3] Tryz.func138 rfl rfl rfl rfl ?_)
  have hp:=fV x.op
  have h0:parts x.op=0:=h.1
  rw[h0] at hp
  have hlf:=HO x
  simp only[T.fl,List.cons_append,List.nil_append,List.map_cons,jL,List.length_cons] at hl ⊢
  generalize Gn x=lv at hlf ⊢
  repeat' (first|(with_reducible first|refine up hp ?_|refine up hlf ?_)|(with_reducible first|(refine wN fun _ hnl=>?_;revert hnl;(repeat refine wS fun _ _=>?_);intro hnl)|refine wE ?_|(refine wK ?_ ?_<;>intro h)|(refine wB ?_ ?_<;>intro h<;>simp only[h]))|simp(maxSteps:=4000000) (disch:=first|exact ddL|fail) only[go_sem,simprocAttr,Tryz.f138])
  exact .two (.same _) .loose
 | .one x a,h,r,t,hl=>by
  refine aA.seen (aA.body 42 [.tmp 2,.tmp 3] Tryz.func138 rfl rfl rfl rfl ?_)
  have h0:parts x.op=1:=h.1.1
  have hop:=zJ h0
  have hp:aA Tryz.prog 204 [.int .i64 10] St.none (fun r _=>r=.int .i64 1):=fV 10
  simp only[T.fl,List.cons_append,List.length_cons] at hl
  have ih:=k0 a (tY.1 h).2.2 r t (by omega)
  have e:((T.one x a).fl++r).map ND.c=x.c::(a.fl++r).map ND.c:=rfl
  rw[e]
  simp only[jL]
  rw[j5 a] at ih ⊢
  generalize DU a=fa at ih ⊢
  generalize DT a=ca at ih ⊢
  have hlen:((a.fl++r).map ND.c).length=(a.fl++r).length:=List.length_map _
  generalize (a.fl++r).map ND.c=l1 at ih hlen ⊢
  repeat' (first|(with_reducible first|refine up hp ?_|refine up ih ?_)|(with_reducible first|(refine wN fun _ hnl=>?_;revert hnl;(repeat refine wS fun _ _=>?_);intro hnl)|refine wE ?_|(refine wK ?_ ?_<;>intro h)|(refine wB ?_ ?_<;>intro h<;>simp only[h]))|simp(maxSteps:=4000000) (disch:=first|exact ddL|fail) only[go_sem,simprocAttr,Tryz.f138,hop])
  exact .two (.fn rfl (gB (nF (t:=190) (by simp[St.set, *])))) (.same _)
 | .two x a b,h,r,t,hl=>by
  refine aA.seen (aA.body 42 [.tmp 2,.tmp 3] Tryz.func138 rfl rfl rfl rfl ?_)
  obtain⟨q1,_,ga,gb⟩:=tZ.1 h
  have hp11:aA Tryz.prog 204 [.int .i64 11] St.none (fun r _=>r=.int .i64 2):=fV 11
  have hp12:aA Tryz.prog 204 [.int .i64 12] St.none (fun r _=>r=.int .i64 2):=fV 12
  simp only[T.fl,List.cons_append,List.length_cons,List.append_assoc] at hl
  have ia:=k0 a ga (b.fl++r) t (by omega)
  have ib:=k0 b gb r false (by simp only[List.length_append] at hl ⊢;omega)
  have e:((T.two x a b).fl++r).map ND.c=x.c::(a.fl++(b.fl++r)).map ND.c:=by simp[T.fl]
  rw[e]
  simp only[jL]
  rw[j5 a] at ia ⊢
  rw[j5 b] at ib ⊢
  generalize DU a=fa at ia ⊢
  generalize DT a=ca at ia ⊢
  generalize DU b=fb at ib ⊢
  generalize DT b=cb at ib ⊢
  have hlen:((a.fl++(b.fl++r)).map ND.c).length=(a.fl++(b.fl++r)).length:=List.length_map _
  generalize (a.fl++(b.fl++r)).map ND.c=l1 at ia hlen ⊢
  generalize (b.fl++r).map ND.c=l2 at ia ib ⊢
  unfold LZ
  rcases zK q1 with h1|h1<;>rw[h1]
  ·rw[if_pos rfl]
   repeat' (first|(with_reducible first|refine up hp11 ?_|refine up ia ?_|refine up ib ?_)|(with_reducible first|(refine wN fun _ hnl=>?_;revert hnl;(repeat refine wS fun _ _=>?_);intro hnl)|refine wE ?_|(refine wK ?_ ?_<;>intro h)|(refine wB ?_ ?_<;>intro h<;>simp only[h]))|simp(maxSteps:=4000000) (disch:=first|exact ddL|fail) only[go_sem,simprocAttr,Tryz.f138,h1])
   exact .two (.fn rfl (rQ (nF (t:=190) (by simp[St.set, *])) (nF (t:=190) (by simp[St.set, *])))) (.same _)
  ·rw[if_neg (by decide)]
   repeat' (first|(with_reducible first|refine up hp12 ?_|refine up ia ?_|refine up ib ?_)|(with_reducible first|(refine wN fun _ hnl=>?_;revert hnl;(repeat refine wS fun _ _=>?_);intro hnl)|refine wE ?_|(refine wK ?_ ?_<;>intro h)|(refine wB ?_ ?_<;>intro h<;>simp only[h]))|simp(maxSteps:=4000000) (disch:=first|exact ddL|fail) only[go_sem,simprocAttr,Tryz.f138,h1])
   exact .two (.fn rfl (rQ (nF (t:=190) (by simp[St.set, *])) (nF (t:=190) (by simp[St.set, *])))) (.same _)
end

section
set_option maxRecDepth 100000
set_option maxHeartbeats 4000000
theorem nU{P:Program}{g:FuncId}{ms:List MV}{σ σ1:St}{r:MV}{k:MV→St→Prop}(h:aA P g ms σ fun v τ=>v=r∧τ=σ1)(hk:R (bQ r σ1 k)):R (cQ P g ms σ k) :=
 h.mono fun v τ q=>by
  obtain⟨rfl,rfl⟩:=q
  exact hk
abbrev flO(L:MV)(d s:Int)(a:MV):aW:=.row 192 5 [[L,.int .u32 d,.int .i32 s,.int .u32 0,a]]
abbrev flS(p f:Nat)(L:MV)(d s:Int)(a:MV):St:=(St.none.set p (.row 79 1 [[.ptr f 0 0]])).set f (flO L d s a)
theorem Cc{T:T}(hT:Good T)(hl:T.fl.length≤1000000){p f:Nat}(hpf:p≠f)(t:Bool):aA Tryz.prog 137 [.ptr p 0 0] (flS p f (.lst 5 (T.fl.map ND.c) t) 0 1 .nilfn) (fun v σ'=>v=.tup []∧σ'=flS p f (.lst 5 (T.fl.map ND.c) t) 0 1 (jL T)):=by
 refine(aA.body 12 [] Tryz.func137 rfl rfl rfl rfl ?_)
 have hb:=k0 T hT [] t (by simpa using hl)
 rw[List.append_nil,List.map_nil] at hb
 have hfp:=Ne.symm hpf
 rw[j5] at hb ⊢
 generalize DU T=fa at hb ⊢
 generalize DT T=ca at hb ⊢
 obtain⟨C,c1⟩:∃C:bR,∀ms,C 138 ms=some ⟨[],fun v=>v=.tup [.fn (.func fa) [] ca,.lst 5 [] false],none⟩:=⟨fnF [(138,⟨[],fun v=>v=.tup [.fn (.func fa) [] ca,.lst 5 [] false],none⟩)],fun _=>bO⟩
 repeat' (first|((with_reducible refine aK mixed ?chk C ?_);(case chk=>decide +kernel))|(with_reducible refine aI (c1 _) hb ?_)|(with_reducible first|(refine wN fun _ hnl=>?_;revert hnl;(repeat refine wS fun _ _=>?_);intro hnl)|refine wE ?_|(refine wK ?_ ?_<;>intro h)|(refine wB ?_ ?_<;>intro h<;>simp only[h]))|simp(maxSteps:=4000000) (disch:=first|exact ddL|fail) only[go_sem,simprocAttr,Tryz.f137])
 all_goals first|exact⟨rfl,rfl⟩|rfl|skip
theorem xW{T:T}(hT:Good T)(hl:T.fl.length≤1000000){p f:Nat}(hpf:p≠f)(t:Bool):aA Tryz.prog 203 [.ptr f 0 1,.fn (.func 137) [] [.ptr p 0 0]] (flS p f (.lst 5 (T.fl.map ND.c) t) 0 0 .nilfn) (fun v σ'=>v=.tup []∧σ'=flS p f (.lst 5 (T.fl.map ND.c) t) 1 0 (jL T)):=by
 refine(aA.body 21 [] Tryz.func203 rfl rfl rfl rfl ?_)
 have hm:=Cc hT hl hpf t
 have hfp:=Ne.symm hpf
 have h0:=EA (l:=f) (o:=2) (e:=5) (t:=192) (x:=[.lst 5 (T.fl.map ND.c) t,.int .u32 0,.int .i32 0,.int .u32 0,.nilfn]) rfl
 have h1:=l7 (l:=f) (o:=1) (e:=5) (t:=192) (x:=[.lst 5 (T.fl.map ND.c) t,.int .u32 0,.int .i32 1,.int .u32 0,.nilfn]) (n:=0) rfl
 repeat' (first|(refine nT (aJ _ _ _) h0 ?_)|(refine nT (by simp[St.set]) h1 ?_)|(refine nU hm ?_)|(refine zX (aJ _ _ _) rfl ?_)|(refine DF (aJ _ _ _) rfl ?_)|(with_reducible first|(refine wN fun _ hnl=>?_;revert hnl;(repeat refine wS fun _ _=>?_);intro hnl)|refine wE ?_|(refine wK ?_ ?_<;>intro h)|(refine wB ?_ ?_<;>intro h<;>simp only[h]))|simp(maxSteps:=4000000) (disch:=first|exact ddL|fail) only[go_sem,simprocAttr,Tryz.f203])
 all_goals skip
theorem CR{T:T}(hT:Good T)(hl:T.fl.length≤1000000){p f:Nat}(hpf:p≠f)(t:Bool):aA Tryz.prog 136 [.ptr f 0 1,.fn (.func 137) [] [.ptr p 0 0]] (flS p f (.lst 5 (T.fl.map ND.c) t) 0 0 .nilfn) (fun v σ'=>v=.tup []∧σ'=flS p f (.lst 5 (T.fl.map ND.c) t) 1 0 (jL T)):=by
 refine(aA.body 12 [] Tryz.func136 rfl rfl rfl rfl ?_)
 have hm:=xW hT hl hpf t
 have h1:=l7 (l:=f) (o:=1) (e:=5) (t:=192) (x:=[.lst 5 (T.fl.map ND.c) t,.int .u32 0,.int .i32 0,.int .u32 0,.nilfn]) (n:=0) rfl
 repeat' (first|(refine nT (aJ _ _ _) h1 ?_)|(refine nU hm ?_)|(with_reducible first|(refine wN fun _ hnl=>?_;revert hnl;(repeat refine wS fun _ _=>?_);intro hnl)|refine wE ?_|(refine wK ?_ ?_<;>intro h)|(refine wB ?_ ?_<;>intro h<;>simp only[h]))|simp(maxSteps:=4000000) (disch:=first|exact ddL|fail) only[go_sem,simprocAttr,Tryz.f136])
 all_goals first|done|exact⟨rfl,rfl⟩
theorem AP{L a:MV}{p f:Nat}(hpf:p≠f):aA Tryz.prog 136 [.ptr f 0 1,.fn (.func 137) [] [.ptr p 0 0]] (flS p f L 1 0 a) (fun v σ'=>v=.tup []∧σ'=flS p f L 1 0 a):=by
 refine(aA.body 12 [] Tryz.func136 rfl rfl rfl rfl ?_)
 have h1:=l7 (l:=f) (o:=1) (e:=5) (t:=192) (x:=[L,.int .u32 1,.int .i32 0,.int .u32 0,a]) (n:=1) rfl
 repeat' (first|(refine nT (aJ _ _ _) h1 ?_)|(with_reducible first|(refine wN fun _ hnl=>?_;revert hnl;(repeat refine wS fun _ _=>?_);intro hnl)|refine wE ?_|(refine wK ?_ ?_<;>intro h)|(refine wB ?_ ?_<;>intro h<;>simp only[h]))|simp(maxSteps:=4000000) (disch:=first|exact ddL|fail) only[go_sem,simprocAttr,Tryz.f136])
 all_goals first|done|exact⟨rfl,rfl⟩
theorem O3{P:Program}{g:FuncId}{ms:List MV}{σ:St}{p f:Nat}{op of of':aW}{r:MV}{k:MV→St→Prop}(hpf:p≠f)(hp:σ p=some op)(hf:σ f=some of)
 (h:aA P g ms ((St.none.set p op).set f of) fun v σ'=>v=r∧σ'=(St.none.set p op).set f of')(hk:R (bQ r (σ.set f of') k)):R (cQ P g ms σ k) :=
 bX h (le2 hp hf) fun v σ' q _=>by
  obtain⟨rfl,rfl⟩:=q
  have e:((St.none.set p op).set f of').over (σ.minus ((St.none.set p op).set f of))=σ.set f of':=by
   funext j
   by_cases h1:j=f
   ·subst h1;simp[St.over,St.set]
   ·by_cases h2:j=p
    ·subst h2;simp[St.over,St.set,h1,hp]
    ·simp[St.over,St.set,St.minus,h1,h2,St.none]
  rw[e]
  exact hk
theorem FK{σ:St}{a a':MV}{l:List MV}(h:View σ a a'):∀(i:Nat) (m m':MV),(a::l)[i]?=some m→(a'::l)[i]?=some m'→View σ m m':=fun i m m' h1 h2=>by
 match i with
 | 0=>simp at h1 h2;subst h1 h2;exact h
 | i+1=>simp at h1 h2;rw[h1] at h2;cases h2;exact .same _
theorem Ak{T:T}(hT:Good T)(hl:T.fl.length≤1000000)(c:CA)(hc:∀k,(c.f.get k).s.size≤1000000)(g:Nat)(hg:g<4294967296)(f:Nat)(t d:Bool) :
  aA Tryz.prog 66 [.ptr f 0 0,.agg c.c,.int .u32 (g:Int)] (St.none.set f (flO (.lst 5 (T.fl.map ND.c) t) (if d=true then 1 else 0) 0 (if d=true then jL T else .nilfn))) (fun v σ'=>v=.bool (T.sem (bW (mA c) g))∧σ'=St.none.set f (flO (.lst 5 (T.fl.map ND.c) t) 1 0 (jL T))):=by
 refine aA.less (Q':=fun v σ'=>v=.bool (T.sem (bW (mA c) g))∧(St.none.set f (flO (.lst 5 (T.fl.map ND.c) t) 1 0 (jL T))).le σ') (aA.body 20 [.tmp 6] Tryz.func66 rfl rfl rfl rfl ?_) fun v σ' h=>⟨_,h.2,h.1,rfl⟩
 have hdo:∀{p},p≠f→aA Tryz.prog 136 [.ptr f 0 1,.fn (.func 137) [] [.ptr p 0 0]] (flS p f (.lst 5 (T.fl.map ND.c) t) (if d=true then 1 else 0) 0 (if d=true then jL T else .nilfn)) (fun v σ'=>v=.tup []∧σ'=flS p f (.lst 5 (T.fl.map ND.c) t) 1 0 (jL T)):=fun {p} hp=>by
  cases d
  ·exact CR hT hl hp t
  ·exact AP hp
 have ha:=FV c hc g hg T hT
 rw[j5] at hdo ⊢
 generalize DU T=fa at ha hdo ⊢
 generalize DT T=ca at ha hdo ⊢
 generalize T.sem (bW (mA c) g)=out at ha ⊢
 have hlen:c.c.length=27:=by simp[CA.c,bU]
 have hcell:c.c.all MV.aN=true:=by simp only[CA.c,List.all_cons,cE];rfl
 generalize c.c=cells at ha hlen hcell ⊢
 obtain⟨dn,hdn⟩:∃x:Int,(if d=true then 1 else 0)=x:=⟨_,rfl⟩
 obtain⟨av,hav⟩:∃x:MV,(if d=true then MV.fn (.func fa) [] ca else .nilfn)=x:=⟨_,rfl⟩
 rw[hdn,hav] at hdo ⊢
 repeat' (first|(refine O3 (by assumption) (by simp[St.set, *]) (by simp[St.set, *]) (hdo (by assumption)) ?_)|(refine gR (.cptr cells::.int .u32 (g:Int)::ca) ha (by constructor) rfl (FK (View.ptr (i:=0) (o:=0) (aJ _ _ _) (by simp))) ?_)|(with_reducible first|(refine wN fun _ hnl=>?_;revert hnl;(repeat refine wS fun _ _=>?_);intro hnl)|refine wE ?_|(refine wK ?_ ?_<;>intro h)|(refine wB ?_ ?_<;>intro h<;>simp only[h]))|simp(maxSteps:=4000000) (disch:=first|exact ddL|fail) only[go_sem,simprocAttr,Tryz.f66,hlen,hcell])
 all_goals exact St.aD (St.none_le _) (by simp[St.set, *])
end
end Go.Proofs.YtppdgejjmhdjhaaGreatDoor
