/- Parts of the proof, joined; conditions: those that its theorems name. -/
import Derived.Test.YtppdgejjmhdjhaaGreatDoorMat
set_option linter.unusedVariables false
set_option linter.unusedSimpArgs false
set_option maxHeartbeats 4000000
namespace Go.Proofs.YtppdgejjmhdjhaaGreatDoor
section
set_option maxRecDepth 100000
set_option maxHeartbeats 4000000
def Hz(op:Int):FuncId:=if op=11 then 207 else 208
def Ag:T→FuncId
 | .leaf x=>xV x.op
 | .one _ _=>206
 | .two x _ _=>Hz x.op
def gQ:T→MV
 | .leaf x=>Cr x
 | .one _ a=>.fn (.func 206) [] [.cptr [gQ a]]
 | .two x a b=>.fn (.func (Hz x.op)) [] [.cptr [gQ a],.cptr [gQ b]]
def Af:T→List MV
 | .leaf x=>xU x
 | .one _ a=>[.cptr [gQ a]]
 | .two _ a b=>[.cptr [gQ a],.cptr [gQ b]]
theorem hP:∀t:T,gQ t=.fn (.func (Ag t)) [] (Af t)
 | .leaf _=>rfl
 | .one _ _=>rfl
 | .two _ _ _=>rfl
theorem Hj(x:ND)(c:CD)(g:Nat):(T.leaf x).sem (dU c g)=dU c g x:=by
 by_cases h1:x.op=1
 ·simp[T.sem,dU,h1]
 ·by_cases h2:x.op=2
  ·simp[T.sem,dU,h2]
  ·simp[T.sem,h1,h2]
theorem B5(c:CA)(hc:∀k,(c.f.get k).s.size≤1000000)(g:Nat)(hg:g<4294967296):∀t:T,Good t→aA Tryz.prog (Ag t) (.cptr c.c::.int .u32 (g:Int)::Af t) St.none (fun r _=>r=.bool (t.sem (dU (kU c) g)))
 | .leaf x,h=>by
  rw[Hj]
  exact Kw c hc g hg x (h.2 x (by simp[T.fl]))
 | .one x a,h=>by
  have ih:=B5 c hc g hg a (xB.1 h).2.2
  have ha:=hP a
  have e:(T.one x a).sem (dU (kU c) g)=!a.sem (dU (kU c) g):=by simp[T.sem]
  rw[e]
  show aA Tryz.prog 206 [.cptr c.c,.int .u32 (g:Int),.cptr [gQ a]] St.none _
  rw[ha]
  refine(aA.body 11 [.tmp 5] Tryz.func206 rfl rfl rfl rfl ?_)
  generalize c.c=cells at ih ⊢
  repeat' (first|(with_reducible first|refine up ih ?_)|(with_reducible first|(refine wN fun _ hnl=>?_;revert hnl;(repeat refine wS fun _ _=>?_);intro hnl)|refine wE ?_|(refine wK ?_ ?_<;>intro h)|(refine wB ?_ ?_<;>intro h<;>simp only[h]))|simp(maxSteps:=4000000) (disch:=first|exact ddL|fail) only[go_sem,simprocAttr,Tryz.f206])
 | .two x a b,h=>by
  obtain⟨q1,_,ga,gb⟩:=xC.1 h
  have ia:=B5 c hc g hg a ga
  have ib:=B5 c hc g hg b gb
  have ha:=hP a
  have hb:=hP b
  have hs:(T.two x a b).sem (dU (kU c) g)=if x.op=11 then a.sem (dU (kU c) g)&&b.sem (dU (kU c) g) else a.sem (dU (kU c) g) || b.sem (dU (kU c) g):=by
   by_cases e:x.op=11<;>simp[T.sem,e]
  rw[hs]
  show aA Tryz.prog (Hz x.op) [.cptr c.c,.int .u32 (g:Int),.cptr [gQ a],.cptr [gQ b]] St.none _
  rw[ha,hb]
  unfold Hz
  generalize c.c=cells at ia ib ⊢
  generalize a.sem (dU (kU c) g)=sa at ia ⊢
  generalize b.sem (dU (kU c) g)=sb at ib ⊢
  by_cases e:x.op=11
  ·rw[if_pos e,if_pos e]
   refine(aA.body 17 [.tmp 6] Tryz.func207 rfl rfl rfl rfl ?_)
   cases sa
   all_goals
    repeat' (first|(with_reducible first|refine up ia ?_|refine up ib ?_)|(with_reducible first|(refine wN fun _ hnl=>?_;revert hnl;(repeat refine wS fun _ _=>?_);intro hnl)|refine wE ?_|(refine wK ?_ ?_<;>intro h)|(refine wB ?_ ?_<;>intro h<;>simp only[h]))|simp(maxSteps:=4000000) (disch:=first|exact ddL|fail) only[go_sem,simprocAttr,Tryz.f207])
    all_goals first|rfl|(cases sb<;>rfl)
  ·rw[if_neg e,if_neg e]
   refine(aA.body 17 [.tmp 6] Tryz.func208 rfl rfl rfl rfl ?_)
   cases sa
   all_goals
    repeat' (first|(with_reducible first|refine up ia ?_|refine up ib ?_)|(with_reducible first|(refine wN fun _ hnl=>?_;revert hnl;(repeat refine wS fun _ _=>?_);intro hnl)|refine wE ?_|(refine wK ?_ ?_<;>intro h)|(refine wB ?_ ?_<;>intro h<;>simp only[h]))|simp(maxSteps:=4000000) (disch:=first|exact ddL|fail) only[go_sem,simprocAttr,Tryz.f208])
    all_goals first|rfl|(cases sb<;>rfl)
end

section
set_option maxRecDepth 100000
set_option maxHeartbeats 4000000
theorem kL{σ:St}{l:Nat}{t:TypeId}{m:MV}(h:σ l=some (.row t 1 [[m]])):View σ (.ptr l 0 0) (.cptr [m]):=View.ptr (i:=0) (o:=0) h (by simp)
theorem iX:∀T:T,Good T→∀(r:List ND) (t:Bool),(T.fl++r).length≤1000000→aA Tryz.prog 138 [.lst 5 ((T.fl++r).map ND.c) t] St.none (fun v _=>v=.tup [gQ T,.lst 5 (r.map ND.c) false])
 | .leaf x,h,r,t,hl=>by
  refine aA.seen (aA.body 42 [.tmp 2,.tmp 3] Tryz.func138 rfl rfl rfl rfl ?_)
  have hp:=eD x.op
  have h0:parts x.op=0:=h.1
  rw[h0] at hp
  have hlf:=Dy x
  simp only[T.fl,List.cons_append,List.nil_append,List.map_cons,gQ,List.length_cons] at hl ⊢
  generalize Cr x=lv at hlf ⊢
  repeat' (first|(with_reducible first|refine up hp ?_|refine up hlf ?_)|(with_reducible first|(refine wN fun _ hnl=>?_;revert hnl;(repeat refine wS fun _ _=>?_);intro hnl)|refine wE ?_|(refine wK ?_ ?_<;>intro h)|(refine wB ?_ ?_<;>intro h<;>simp only[h]))|simp(maxSteps:=4000000) (disch:=first|exact ddL|fail) only[go_sem,simprocAttr,Tryz.f138])
  exact .two (.same _) .loose
 | .one x a,h,r,t,hl=>by
  refine aA.seen (aA.body 42 [.tmp 2,.tmp 3] Tryz.func138 rfl rfl rfl rfl ?_)
  have h0:parts x.op=1:=h.1.1
  have hop:=EF h0
  have hp:aA Tryz.prog 204 [.int .i64 10] St.none (fun r _=>r=.int .i64 1):=eD 10
  simp only[T.fl,List.cons_append,List.length_cons] at hl
  have ih:=iX a (xB.1 h).2.2 r t (by omega)
  have e:((T.one x a).fl++r).map ND.c=x.c::(a.fl++r).map ND.c:=rfl
  rw[e]
  simp only[gQ]
  rw[hP a] at ih ⊢
  generalize Ag a=fa at ih ⊢
  generalize Af a=ca at ih ⊢
  have hlen:((a.fl++r).map ND.c).length=(a.fl++r).length:=List.length_map _
  generalize (a.fl++r).map ND.c=l1 at ih hlen ⊢
  repeat' (first|(with_reducible first|refine up hp ?_|refine up ih ?_)|(with_reducible first|(refine wN fun _ hnl=>?_;revert hnl;(repeat refine wS fun _ _=>?_);intro hnl)|refine wE ?_|(refine wK ?_ ?_<;>intro h)|(refine wB ?_ ?_<;>intro h<;>simp only[h]))|simp(maxSteps:=4000000) (disch:=first|exact ddL|fail) only[go_sem,simprocAttr,Tryz.f138,hop])
  exact .two (.fn rfl (nX (kL (t:=190) (by simp[St.set, *])))) (.same _)
 | .two x a b,h,r,t,hl=>by
  refine aA.seen (aA.body 42 [.tmp 2,.tmp 3] Tryz.func138 rfl rfl rfl rfl ?_)
  obtain⟨q1,_,ga,gb⟩:=xC.1 h
  have hp11:aA Tryz.prog 204 [.int .i64 11] St.none (fun r _=>r=.int .i64 2):=eD 11
  have hp12:aA Tryz.prog 204 [.int .i64 12] St.none (fun r _=>r=.int .i64 2):=eD 12
  simp only[T.fl,List.cons_append,List.length_cons,List.append_assoc] at hl
  have ia:=iX a ga (b.fl++r) t (by omega)
  have ib:=iX b gb r false (by simp only[List.length_append] at hl ⊢;omega)
  have e:((T.two x a b).fl++r).map ND.c=x.c::(a.fl++(b.fl++r)).map ND.c:=by simp[T.fl]
  rw[e]
  simp only[gQ]
  rw[hP a] at ia ⊢
  rw[hP b] at ib ⊢
  generalize Ag a=fa at ia ⊢
  generalize Af a=ca at ia ⊢
  generalize Ag b=fb at ib ⊢
  generalize Af b=cb at ib ⊢
  have hlen:((a.fl++(b.fl++r)).map ND.c).length=(a.fl++(b.fl++r)).length:=List.length_map _
  generalize (a.fl++(b.fl++r)).map ND.c=l1 at ia hlen ⊢
  generalize (b.fl++r).map ND.c=l2 at ia ib ⊢
  unfold Hz
  rcases EG q1 with h1|h1<;>rw[h1]
  ·rw[if_pos rfl]
   repeat' (first|(with_reducible first|refine up hp11 ?_|refine up ia ?_|refine up ib ?_)|(with_reducible first|(refine wN fun _ hnl=>?_;revert hnl;(repeat refine wS fun _ _=>?_);intro hnl)|refine wE ?_|(refine wK ?_ ?_<;>intro h)|(refine wB ?_ ?_<;>intro h<;>simp only[h]))|simp(maxSteps:=4000000) (disch:=first|exact ddL|fail) only[go_sem,simprocAttr,Tryz.f138,h1])
   exact .two (.fn rfl (nY (kL (t:=190) (by simp[St.set, *])) (kL (t:=190) (by simp[St.set, *])))) (.same _)
  ·rw[if_neg (by decide)]
   repeat' (first|(with_reducible first|refine up hp12 ?_|refine up ia ?_|refine up ib ?_)|(with_reducible first|(refine wN fun _ hnl=>?_;revert hnl;(repeat refine wS fun _ _=>?_);intro hnl)|refine wE ?_|(refine wK ?_ ?_<;>intro h)|(refine wB ?_ ?_<;>intro h<;>simp only[h]))|simp(maxSteps:=4000000) (disch:=first|exact ddL|fail) only[go_sem,simprocAttr,Tryz.f138,h1])
   exact .two (.fn rfl (nY (kL (t:=190) (by simp[St.set, *])) (kL (t:=190) (by simp[St.set, *])))) (.same _)
end

section
set_option maxRecDepth 100000
set_option maxHeartbeats 4000000
theorem kT{P:Program}{g:FuncId}{ms:List MV}{σ σ1:St}{r:MV}{k:MV→St→Prop}(h:aA P g ms σ fun v τ=>v=r∧τ=σ1)(hk:R (bF r σ1 k)):R (cN P g ms σ k) :=
 h.mono fun v τ q=>by
  obtain⟨rfl,rfl⟩:=q
  exact hk
abbrev flO(L:MV)(d s:Int)(a:MV):aO:=.row 192 5 [[L,.int .u32 d,.int .i32 s,.int .u32 0,a]]
abbrev flS(p f:Nat)(L:MV)(d s:Int)(a:MV):St:=(St.none.set p (.row 79 1 [[.ptr f 0 0]])).set f (flO L d s a)
theorem xZ{T:T}(hT:Good T)(hl:T.fl.length≤1000000){p f:Nat}(hpf:p≠f)(t:Bool):aA Tryz.prog 137 [.ptr p 0 0] (flS p f (.lst 5 (T.fl.map ND.c) t) 0 1 .nilfn) (fun v σ'=>v=.tup []∧σ'=flS p f (.lst 5 (T.fl.map ND.c) t) 0 1 (gQ T)):=by
 refine(aA.body 12 [] Tryz.func137 rfl rfl rfl rfl ?_)
 have hb:=iX T hT [] t (by simpa using hl)
 rw[List.append_nil,List.map_nil] at hb
 have hfp:=Ne.symm hpf
 rw[hP] at hb ⊢
 generalize Ag T=fa at hb ⊢
 generalize Af T=ca at hb ⊢
 obtain⟨C,c1⟩:∃C:bJ,∀ms,C 138 ms=some ⟨[],fun v=>v=.tup [.fn (.func fa) [] ca,.lst 5 [] false],none⟩:=⟨fnF [(138,⟨[],fun v=>v=.tup [.fn (.func fa) [] ca,.lst 5 [] false],none⟩)],fun _=>cV⟩
 repeat' (first|((with_reducible refine bL mixed ?chk C ?_);(case chk=>decide +kernel))|(with_reducible refine aY (c1 _) hb ?_)|(with_reducible first|(refine wN fun _ hnl=>?_;revert hnl;(repeat refine wS fun _ _=>?_);intro hnl)|refine wE ?_|(refine wK ?_ ?_<;>intro h)|(refine wB ?_ ?_<;>intro h<;>simp only[h]))|simp(maxSteps:=4000000) (disch:=first|exact ddL|fail) only[go_sem,simprocAttr,Tryz.f137])
 all_goals first|exact⟨rfl,rfl⟩|rfl|skip
theorem r7{T:T}(hT:Good T)(hl:T.fl.length≤1000000){p f:Nat}(hpf:p≠f)(t:Bool):aA Tryz.prog 203 [.ptr f 0 1,.fn (.func 137) [] [.ptr p 0 0]] (flS p f (.lst 5 (T.fl.map ND.c) t) 0 0 .nilfn) (fun v σ'=>v=.tup []∧σ'=flS p f (.lst 5 (T.fl.map ND.c) t) 1 0 (gQ T)):=by
 refine(aA.body 21 [] Tryz.func203 rfl rfl rfl rfl ?_)
 have hm:=xZ hT hl hpf t
 have hfp:=Ne.symm hpf
 have h0:=AS (l:=f) (o:=2) (e:=5) (t:=192) (x:=[.lst 5 (T.fl.map ND.c) t,.int .u32 0,.int .i32 0,.int .u32 0,.nilfn]) rfl
 have h1:=jV (l:=f) (o:=1) (e:=5) (t:=192) (x:=[.lst 5 (T.fl.map ND.c) t,.int .u32 0,.int .i32 1,.int .u32 0,.nilfn]) (n:=0) rfl
 repeat' (first|(refine kS (aH _ _ _) h0 ?_)|(refine kS (by simp[St.set]) h1 ?_)|(refine kT hm ?_)|(refine tP (aH _ _ _) rfl ?_)|(refine z6 (aH _ _ _) rfl ?_)|(with_reducible first|(refine wN fun _ hnl=>?_;revert hnl;(repeat refine wS fun _ _=>?_);intro hnl)|refine wE ?_|(refine wK ?_ ?_<;>intro h)|(refine wB ?_ ?_<;>intro h<;>simp only[h]))|simp(maxSteps:=4000000) (disch:=first|exact ddL|fail) only[go_sem,simprocAttr,Tryz.f203])
 all_goals skip
theorem yX{T:T}(hT:Good T)(hl:T.fl.length≤1000000){p f:Nat}(hpf:p≠f)(t:Bool):aA Tryz.prog 136 [.ptr f 0 1,.fn (.func 137) [] [.ptr p 0 0]] (flS p f (.lst 5 (T.fl.map ND.c) t) 0 0 .nilfn) (fun v σ'=>v=.tup []∧σ'=flS p f (.lst 5 (T.fl.map ND.c) t) 1 0 (gQ T)):=by
 refine(aA.body 12 [] Tryz.func136 rfl rfl rfl rfl ?_)
 have hm:=r7 hT hl hpf t
 have h1:=jV (l:=f) (o:=1) (e:=5) (t:=192) (x:=[.lst 5 (T.fl.map ND.c) t,.int .u32 0,.int .i32 0,.int .u32 0,.nilfn]) (n:=0) rfl
 repeat' (first|(refine kS (aH _ _ _) h1 ?_)|(refine kT hm ?_)|(with_reducible first|(refine wN fun _ hnl=>?_;revert hnl;(repeat refine wS fun _ _=>?_);intro hnl)|refine wE ?_|(refine wK ?_ ?_<;>intro h)|(refine wB ?_ ?_<;>intro h<;>simp only[h]))|simp(maxSteps:=4000000) (disch:=first|exact ddL|fail) only[go_sem,simprocAttr,Tryz.f136])
 all_goals first|done|exact⟨rfl,rfl⟩
theorem uY{L a:MV}{p f:Nat}(hpf:p≠f):aA Tryz.prog 136 [.ptr f 0 1,.fn (.func 137) [] [.ptr p 0 0]] (flS p f L 1 0 a) (fun v σ'=>v=.tup []∧σ'=flS p f L 1 0 a):=by
 refine(aA.body 12 [] Tryz.func136 rfl rfl rfl rfl ?_)
 have h1:=jV (l:=f) (o:=1) (e:=5) (t:=192) (x:=[L,.int .u32 1,.int .i32 0,.int .u32 0,a]) (n:=1) rfl
 repeat' (first|(refine kS (aH _ _ _) h1 ?_)|(with_reducible first|(refine wN fun _ hnl=>?_;revert hnl;(repeat refine wS fun _ _=>?_);intro hnl)|refine wE ?_|(refine wK ?_ ?_<;>intro h)|(refine wB ?_ ?_<;>intro h<;>simp only[h]))|simp(maxSteps:=4000000) (disch:=first|exact ddL|fail) only[go_sem,simprocAttr,Tryz.f136])
 all_goals first|done|exact⟨rfl,rfl⟩
theorem Kd{P:Program}{g:FuncId}{ms:List MV}{σ:St}{p f:Nat}{op of of':aO}{r:MV}{k:MV→St→Prop}(hpf:p≠f)(hp:σ p=some op)(hf:σ f=some of)
 (h:aA P g ms ((St.none.set p op).set f of) fun v σ'=>v=r∧σ'=(St.none.set p op).set f of')(hk:R (bF r (σ.set f of') k)):R (cN P g ms σ k) :=
 bM h (le2 hp hf) fun v σ' q _=>by
  obtain⟨rfl,rfl⟩:=q
  have e:((St.none.set p op).set f of').over (σ.minus ((St.none.set p op).set f of))=σ.set f of':=by
   funext j
   by_cases h1:j=f
   ·subst h1;simp[St.over,St.set]
   ·by_cases h2:j=p
    ·subst h2;simp[St.over,St.set,h1,hp]
    ·simp[St.over,St.set,St.minus,h1,h2,St.none]
  rw[e]
  exact hk
theorem BX{σ:St}{a a':MV}{l:List MV}(h:View σ a a'):∀(i:Nat) (m m':MV),(a::l)[i]?=some m→(a'::l)[i]?=some m'→View σ m m':=fun i m m' h1 h2=>by
 match i with
 | 0=>simp at h1 h2;subst h1 h2;exact h
 | i+1=>simp at h1 h2;rw[h1] at h2;cases h2;exact .same _
theorem tY{T:T}(hT:Good T)(hl:T.fl.length≤1000000)(c:CA)(hc:∀k,(c.f.get k).s.size≤1000000)(g:Nat)(hg:g<4294967296)(f:Nat)(t d:Bool) :
  aA Tryz.prog 66 [.ptr f 0 0,.agg c.c,.int .u32 (g:Int)] (St.none.set f (flO (.lst 5 (T.fl.map ND.c) t) (if d=true then 1 else 0) 0 (if d=true then gQ T else .nilfn))) (fun v σ'=>v=.bool (T.sem (dU (kU c) g))∧σ'=St.none.set f (flO (.lst 5 (T.fl.map ND.c) t) 1 0 (gQ T))):=by
 refine aA.less (Q':=fun v σ'=>v=.bool (T.sem (dU (kU c) g))∧(St.none.set f (flO (.lst 5 (T.fl.map ND.c) t) 1 0 (gQ T))).le σ') (aA.body 20 [.tmp 6] Tryz.func66 rfl rfl rfl rfl ?_) fun v σ' h=>⟨_,h.2,h.1,rfl⟩
 have hdo:∀{p},p≠f→aA Tryz.prog 136 [.ptr f 0 1,.fn (.func 137) [] [.ptr p 0 0]] (flS p f (.lst 5 (T.fl.map ND.c) t) (if d=true then 1 else 0) 0 (if d=true then gQ T else .nilfn)) (fun v σ'=>v=.tup []∧σ'=flS p f (.lst 5 (T.fl.map ND.c) t) 1 0 (gQ T)):=fun {p} hp=>by
  cases d
  ·exact yX hT hl hp t
  ·exact uY hp
 have ha:=B5 c hc g hg T hT
 rw[hP] at hdo ⊢
 generalize Ag T=fa at ha hdo ⊢
 generalize Af T=ca at ha hdo ⊢
 generalize T.sem (dU (kU c) g)=out at ha ⊢
 have hlen:c.c.length=27:=by simp[CA.c,cG]
 have hcell:c.c.all MV.aF=true:=by simp only[CA.c,List.all_cons,eL];rfl
 generalize c.c=cells at ha hlen hcell ⊢
 obtain⟨dn,hdn⟩:∃x:Int,(if d=true then 1 else 0)=x:=⟨_,rfl⟩
 obtain⟨av,hav⟩:∃x:MV,(if d=true then MV.fn (.func fa) [] ca else .nilfn)=x:=⟨_,rfl⟩
 rw[hdn,hav] at hdo ⊢
 repeat' (first|(refine Kd (by assumption) (by simp[St.set, *]) (by simp[St.set, *]) (hdo (by assumption)) ?_)|(refine mV (.cptr cells::.int .u32 (g:Int)::ca) ha (by constructor) rfl (BX (View.ptr (i:=0) (o:=0) (aH _ _ _) (by simp))) ?_)|(with_reducible first|(refine wN fun _ hnl=>?_;revert hnl;(repeat refine wS fun _ _=>?_);intro hnl)|refine wE ?_|(refine wK ?_ ?_<;>intro h)|(refine wB ?_ ?_<;>intro h<;>simp only[h]))|simp(maxSteps:=4000000) (disch:=first|exact ddL|fail) only[go_sem,simprocAttr,Tryz.f66,hlen,hcell])
 all_goals exact St.aC (St.none_le _) (by simp[St.set, *])
end

section
abbrev UpI(l:List Int):Prop:=l.Pairwise (·<·)
theorem HB:∀{last:Int} {l:List Int},sW last l=true→UpI l∧∀x,x∈l→last<x∧1≤x∧x<1073741824
 | _,[],_=>⟨.nil,by simp⟩
 | last,x::l,h=>by
  rw[sW,Bool.and_eq_true,decide_eq_true_eq] at h
  obtain⟨⟨h1,h2,h3⟩,h4⟩:=h
  unfold pR at h3
  obtain⟨i1,i2⟩:=HB h4
  refine⟨List.pairwise_cons.2 ⟨fun y hy=>(i2 y hy).1,i1⟩,fun y hy=>?_⟩
  rcases List.mem_cons.1 hy with rfl|hy
  ·exact⟨h1,h2,h3⟩
  ·obtain⟨a,b,c⟩:=i2 y hy
   exact⟨by omega,b,c⟩
end

section
theorem IP{P:Program}{ops:Array Oper}{F:Fence}(o:Oper)(r:List Oper):∀(l:List Oper),(F=Fence.wide∨∃l0,F=Fence.wide.inRound l0∧∀x,x∈l++o::r→∀c,x.op≠.defer c)→o.guard=none→∀{Q:MQ} {Φ0:Phi} {σ0:St} {w0:World} (f:FR) (σ:St) (Φ:Phi) (w:World) (a:Act),
  cR P ops (fun f σ=>sop P o f σ fun v σ'=>cR P ops (Q .normal) r (aU f o.dst v) σ') l f σ→Inv Φ w σ→bS Φ a.tmps f→cF Φ w a.defers f.d →
  Step Φ0 σ0 w0 Φ σ w→wpListIn F 0 P ops (lift Φ0 σ0 w0 Q) (l++o::r) a w:=by
 intro l
 induction l with
 | nil =>
  intro hF hg Q Φ0 σ0 w0 f σ Φ w a h hi hr hd hs
  have hFo:F=Fence.wide∨∃l0,F=Fence.wide.inRound l0∧∀c,o.op≠.defer c:=hF.imp id fun⟨l0,e,q⟩=>⟨l0,e,q o (by simp)⟩
  have hFr:F=Fence.wide∨∃l0,F=Fence.wide.inRound l0∧∀y,y∈r→∀c,y.op≠.defer c:=hF.imp id fun⟨l0,e,q⟩=>⟨l0,e,fun y ho=>q y (by simp[ho])⟩
  have h:sop P o f σ fun v σ'=>cR P ops (Q .normal) r (aU f o.dst v) σ':=h
  simp only[List.nil_append]
  have h':dT ops f o (sop P o f σ fun v σ'=>cR P ops (Q .normal) r (aU f o.dst v) σ') False:=by unfold dT;rw[hg];exact h
  unfold wpListIn
  rcases bN h' hr with⟨hw,hy⟩|⟨hw,hn⟩
  ·rw[if_pos hw]
   refine dO hFo ?_
   exact h Φ w a _ _ hi hr (fun v mv σ' Φ' w' r1 i1 s1 hk=>qA r hFr _ _ Φ' w' (a.put o.dst v) hk i1 (bV (hr.mono s1.le) o.dst r1) (by rw[a8,cX];exact hd.step hi s1) (hs.trans s1))
  ·exact hn.elim
 | cons x rest ih =>
  intro hF hg Q Φ0 σ0 w0 f σ Φ w a h hi hr hd hs
  have hFr:F=Fence.wide∨∃l0,F=Fence.wide.inRound l0∧∀y,y∈rest++o::r→∀c,y.op≠.defer c:=hF.imp id fun⟨l0,e,q⟩=>⟨l0,e,fun y ho=>q y (List.mem_cons_of_mem _ ho)⟩
  have hFo:F=Fence.wide∨∃l0,F=Fence.wide.inRound l0∧∀c,x.op≠.defer c:=hF.imp id fun⟨l0,e,q⟩=>⟨l0,e,q x (List.mem_cons_self ..)⟩
  have hfn:∀g,F.fn g:=fun g=>by rcases hF with rfl|⟨l,rfl,_⟩<;>trivial
  simp only[cR] at h
  simp only[List.cons_append]
  unfold wpListIn
  rcases bN h hr with⟨hw,hy⟩|⟨hw,hn⟩
  ·rw[if_pos hw]
   refine dO hFo ?_
   by_cases hdef:∃c,x.op=.defer c
   ·obtain⟨c,hc⟩:=hdef
    rw[hc] at hy
    have hy:pZ f c fun f'=>cR P ops (fun f σ=>sop P o f σ fun v σ'=>cR P ops (Q .normal) r (aU f o.dst v) σ') rest (aU f' x.dst .junk) σ:=hy
    obtain⟨d,f',h1,h2,h3,h4⟩:=mI (P:=P) (w:=w) hc hy hr hd
    unfold Oper.wp
    rw[h1]
    refine ih hFr hg _ _ Φ w _ h4 hi (bV (a:={ a with defers:=d::a.defers }) h2 x.dst (.junk _)) ?_ hs
    rw[a8,cX]
    exact h3
   ·exact iE (fun c hc=>hdef ⟨c,hc⟩) hy Φ w a _ _ hi hr (fun v mv σ' Φ' w' r1 i1 s1 hk=>ih hFr hg _ _ Φ' w' (a.put x.dst v) hk i1 (bV (hr.mono s1.le) x.dst r1) (by rw[a8,cX];exact hd.step hi s1) (hs.trans s1))
  ·rw[if_neg (by simp[hw])]
   exact⟨fun f _=>hfn f,ih hFr hg _ _ Φ w (a.put x.dst undef) hn hi (bV hr x.dst eF) (by rw[a8,cX];exact hd) hs⟩
theorem r6{P:Program}{id:Nat}{ops:Array Oper}{f:FR}{σ:St}{Q:MQ}(l:List Oper)(o:Oper)(r:List Oper)(he:ops.toList=l++o::r)(hg:o.guard=none)
 (h:cR P ops (fun f σ=>sop P o f σ fun v σ'=>cR P ops (Q .normal) r (aU f o.dst v) σ') l f σ):mwp P (.region id ops false) f σ Q :=
 fun F hF Φ w a hi hr hd=>wpIn_region_list (by
  rw[he]
  refine IP o r l ?_ hg f σ Φ w a h hi hr hd (.refl _ _ _)
  have:=hF.ops
  rw[he] at this
  exact this)
theorem kC{P:Program}{id:Nat}{L:List Oper}{f:FR}{σ:St}{Q:MQ}(l:List Oper)(o:Oper)(r:List Oper)(he:L=l++o::r)(hg:o.guard=none)
 (h:R (cR P (@OfNat.ofNat (Array Oper) (nat_lit 0) (@_root_.id (OfNat (Array Oper) (nat_lit 0)) (OfNat.mk (L.toArray)))) (fun f σ=>sop P o f σ fun v σ'=>R (cR P (@OfNat.ofNat (Array Oper) (nat_lit 0) (@_root_.id (OfNat (Array Oper) (nat_lit 0)) (OfNat.mk (L.toArray)))) (Q .normal) r (aU f o.dst v) σ')) l f σ)):mwp P (.region id L.toArray false) f σ Q :=
 r6 (ops:=L.toArray) l o r he hg h
theorem BO{P:Program}{o:Oper}{f:FR}{σ:St}{k:MV→St→Prop}{t kt et:TypeId}{x:Operand}(ho:o.op=.call { callee:=.builtin .len,args:=#[x],argTypes:=#[t] })(ht:(td P t).k=.map kt et)
 {l:Nat}{es:List (MV × MV)}(hm:aB f x=.mapv l)(hl:σ l=some (.mp es))(hk:k (.int .i64 (es.length:Int)) σ):sop P o f σ k:=by
 intro Φ w a K Q' hi hr hK
 have hum:=kR ht
 have rm:=aD hr x
 rw[hm] at rm
 obtain⟨p,R,hp,hR,hmv⟩:=rm.iM
 obtain⟨p',R',c,clock,hp',hR',hh,hs,hst,hrel⟩:=(hi.own l _ hl).xY
 rw[hp] at hp';cases hp'
 rw[hR] at hR';cases hR'
 have hop:∀r w',(Builtin.len_ #[t] o.type #[a.eval x]).run P w=.ok r w'→(execOp a.eval o).run P w=.ok (.value r) w':=fun r w' h=>by
  unfold execOp
  simp only[ho,resolve,List.map_toArray,List.map_cons,List.map_nil,Sem.run_bind,Sem.run_pure,Result.andThen_ok,invoke]
  show Sem.run P (do pure (Next.value (←Builtin.len_ #[t] o.type #[a.eval x]))) w=_
  simp only[Sem.run_bind,h,Result.andThen_ok,Sem.run_pure]
 refine aX (hop (.int .i64 (es.length:Int)) w ?_) (hK _ _ _ Φ w (.int _ _) hi (.refl _ _ _) hk)
 rw[hmv]
 simp[Builtin.len_,aE hum,Go.MapKept.run_getObj_map hh,goInt,hs]
end
end Go.Proofs.YtppdgejjmhdjhaaGreatDoor
