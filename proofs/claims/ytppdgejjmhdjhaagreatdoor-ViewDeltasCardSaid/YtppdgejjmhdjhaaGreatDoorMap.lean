/- Parts of the proof; conditions: as its theorems name them. -/
import Derived.Test.YtppdgejjmhdjhaaGreatDoorMan
import Derived.Defers
import Derived.Laws.Pointers
import Derived.RegionTactic
import Derived.RegionCalls
set_option linter.unusedVariables false
set_option linter.unusedSimpArgs false
set_option maxHeartbeats 8000000
set_option maxRecDepth 100000
namespace Go.Proofs.YtppdgejjmhdjhaaGreatDoor
section
theorem Ia(a:Addr)(n:Int)(w:World)(hc:w.cell? a=some (.int .u32 n))(hs:a.spot=none):Calls Tryz.prog 202 #[.pointer (some a)] w fun e w'=>e=.returned (.bool (n != 0))∧w'=w:=by
 obtain⟨b,off,sub⟩:=a
 simp only at hs
 subst hs
 have hl:=run_call_load (P:=Tryz.prog) Tryz.func247 (by kernel_rfl) (by kernel_rfl) (by kernel_rfl) .u32 (by kernel_rfl) hc
 go_enter Tryz.func202,Tryz.ntmps202
 go_wp2
 go_ret
 exact⟨rfl,rfl⟩
theorem vB(a:Addr)(x:Value)(u:FrameMode)(w:World)(hc:w.cell? a=some x)(hz:w.frozen? a=false)(hs:a.spot=none) :
  CallsD Tryz.prog 250 #[.pointer (some a),.bool true] u w fun e u' w'=>u'=u∧(e=.returned (.tuple #[])∧w'=w.drew.setCell a (.int .u32 1)):=by
 obtain⟨b,off,sub⟩:=a
 simp only at hs
 subst hs
 have hc':w.drew.cell? ⟨b,off,none⟩=some x:=by go_simp
 have hz':w.drew.frozen? ⟨b,off,none⟩=false:=by go_simp
 have hst:=run_call_store (P:=Tryz.prog) Tryz.func293 (by kernel_rfl) (by kernel_rfl) (by kernel_rfl) (by kernel_rfl) (k:=.u32) (y:=1) hc' hz'
 go_enter_d Tryz.func250,Tryz.ntmps250
 go_wp2
 go_region_calls
 all_goals (go_end0;exact⟨rfl,rfl⟩)
theorem o5{l o e:Nat}{t:TypeId}{x:List MV}{n:Int}(hx:x[o]?=some (.int .u32 n)):aA Tryz.prog 202 [.ptr l 0 o] (St.none.set l (.row t e [x])) (fun v σ'=>v=.bool (n != 0)∧σ'=St.none.set l (.row t e [x])):=by
 refine⟨⟨_,Tryz.func202,rfl,rfl⟩,fun Φ w vs hi hr=>?_⟩
 obtain⟨p,R,v0,hp,hb,hc,hr0,hz,i1,s1⟩:=oA hi (aD _ _ _) hx (m:=.int .u32 n) rfl (.int .u32 n)
 have e0:=hr0.aS
 subst e0
 obtain⟨p',R',hp',hb',he⟩:=yX hr
 rw[hp] at hp';cases hp'
 rw[hb] at hb';cases hb'
 have hv:vs=#[.pointer (some ⟨R,p.bo+o,none⟩)]:=by
  have h1:=hr.1
  apply Array.ext
  ·simpa using h1
  ·intro i h3 h4
   have:i=0:=by simp at h4;omega
   subst this
   simpa[Array.getD_eq_getD_getElem?,Array.getElem?_eq_getElem h3] using he
 subst hv
 refine(Ia ⟨R,p.bo+o,none⟩ n w hc rfl).mono ?_
 rintro e' w' ⟨rfl,rfl⟩
 exact⟨_,_,_,Φ,rfl,.bool _,hi,.refl _ _ _,rfl,rfl⟩
theorem I4{l o e:Nat}{t:TypeId}{x:List MV}(hx:x[o]?=some (.int .i32 0)):aA Tryz.prog 248 [.ptr l 0 o] (St.none.set l (.row t e [x])) (fun v σ'=>v=.tup []∧σ'=St.none.set l (.row t e [x.set o (.int .i32 1)])):=by
 refine⟨⟨_,Tryz.func248,rfl,rfl⟩,fun Φ w vs hi hr=>?_⟩
 obtain⟨p,R,v0,hp,hb,hc,hr0,hz,i1,s1⟩:=oA hi (aD _ _ _) hx (m:=.int .i32 1) rfl (.int .i32 1)
 have e0:=hr0.aS
 subst e0
 obtain⟨p',R',hp',hb',he⟩:=yX hr
 rw[hp] at hp';cases hp'
 rw[hb] at hb';cases hb'
 have hv:vs=#[.pointer (some ⟨R,p.bo+o,none⟩)]:=by
  have h1:=hr.1
  apply Array.ext
  ·simpa using h1
  ·intro i h3 h4
   have:i=0:=by simp at h4;omega
   subst this
   simpa[Array.getD_eq_getD_getElem?,Array.getElem?_eq_getElem h3] using he
 subst hv
 refine(Go.MuLone.lock_free QK ⟨R,p.bo+o,none⟩ w hc hz).mono ?_
 rintro e' w' ⟨rfl,rfl⟩
 refine⟨_,.tup [],_,Φ,rfl,.tup rfl (by simp),i1,s1,rfl,?_⟩
 rw[set_set]
theorem H3{σ:St}{K:St→Prop}{l o e:Nat}{t:TypeId}{x:List MV}(hs:σ l=some (.row t e [x]))(hx:x[o]?=some (.int .i32 1))(hk:R (K (σ.set l (.row t e [x.set o (.int .i32 0)])))):R (Dc Tryz.prog 249 [.ptr l 0 o] σ K):=by
 refine⟨_,QK.f_unlock,rfl,rfl,fun Φ w vs hi hr=>?_⟩
 obtain⟨p,R,v0,hp,hb,hc,hr0,hz,i1,s1⟩:=oA hi hs hx (m:=.int .i32 0) rfl (.int .i32 0)
 have e0:=hr0.aS
 subst e0
 obtain⟨p',R',hp',hb',he⟩:=yX hr
 rw[hp] at hp';cases hp'
 rw[hb] at hb';cases hb'
 have hv:vs=#[.pointer (some ⟨R,p.bo+o,none⟩)]:=by
  have h1:=hr.1
  apply Array.ext
  ·simpa using h1
  ·intro i h3 h4
   have:i=0:=by simp at h4;omega
   subst this
   simpa[Array.getD_eq_getD_getElem?,Array.getElem?_eq_getElem h3] using he
 subst hv
 refine(Go.MuLone.unlock_deferred QK ⟨R,p.bo+o,none⟩ .returning w hc hz).mono ?_
 rintro e' u' w' ⟨rfl,rfl,rfl⟩
 exact⟨rfl,_,_,Φ,rfl,i1,s1,hk⟩
theorem Dd{σ:St}{K:St→Prop}{l o e:Nat}{t:TypeId}{x:List MV}{n:Int}(hs:σ l=some (.row t e [x]))(hx:x[o]?=some (.int .u32 n))(hk:R (K (σ.set l (.row t e [x.set o (.int .u32 1)])))):R (Dc Tryz.prog 250 [.ptr l 0 o,.bool true] σ K):=by
 refine⟨_,Tryz.func250,rfl,rfl,fun Φ w vs hi hr=>?_⟩
 have hd:=hi.grow (w':=w.drew) rfl rfl rfl (kS (Nat.le_succ _)) (Nat.le_refl _) (fun _ _=>rfl)
 obtain⟨p,R,v0,hp,hb,hc,hr0,hz,i1,s1⟩:=oA hd.1 hs hx (m:=.int .u32 1) rfl (.int .u32 1)
 obtain⟨p',R',hp',hb',he⟩:=yX hr
 rw[hp] at hp';cases hp'
 rw[hb] at hb';cases hb'
 have he2:vs.getD 1 undef=.bool true:=by
  have:=hr.2 1 _ rfl
  cases h:vs.getD 1 undef<;>rw[h] at this<;>cases this
  rfl
 have hv:vs=#[.pointer (some ⟨R,p.bo+o,none⟩),.bool true]:=by
  have h1:=hr.1
  apply Array.ext
  ·simpa using h1
  ·intro i h3 h4
   match i,h3 with
   | 0,h3=>simpa[Array.getD_eq_getD_getElem?,Array.getElem?_eq_getElem h3] using he
   | 1,h3=>simpa[Array.getD_eq_getD_getElem?,Array.getElem?_eq_getElem h3] using he2
   | i+2,_=>simp at h4;omega
 subst hv
 refine(vB ⟨R,p.bo+o,none⟩ v0 .returning w (by simpa using hc) (by simpa using hz) rfl).mono ?_
 rintro e' u' w' ⟨rfl,rfl,rfl⟩
 exact⟨rfl,_,_,Φ,rfl,i1,hd.2.trans s1,hk⟩
end

section
def Sg(op:Int):FuncId:=if op=11 then 207 else 208
def Ie:T→FuncId
 | .leaf x=>F4 x.op
 | .one _ _=>206
 | .two x _ _=>Sg x.op
def lP:T→MV
 | .leaf x=>Lk x
 | .one _ a=>.fn (.func 206) [] [.cptr [lP a]]
 | .two x a b=>.fn (.func (Sg x.op)) [] [.cptr [lP a],.cptr [lP b]]
def Ic:T→List MV
 | .leaf x=>F3 x
 | .one _ a=>[.cptr [lP a]]
 | .two _ a b=>[.cptr [lP a],.cptr [lP b]]
theorem mG:∀t:T,lP t=.fn (.func (Ie t)) [] (Ic t)
 | .leaf _=>rfl
 | .one _ _=>rfl
 | .two _ _ _=>rfl
theorem RO(x:ND)(c:CD)(g:Nat):(T.leaf x).sem (cE c g)=cE c g x:=by
 by_cases h1:x.op=1
 ·simp[T.sem,cE,h1]
 ·by_cases h2:x.op=2
  ·simp[T.sem,cE,h2]
  ·simp[T.sem,h1,h2]
theorem KQ(c:CA)(hc:∀k,(c.f.get k).s.size≤1000000)(g:Nat)(hg:g<4294967296):∀t:T,Good t→aA Tryz.prog (Ie t) (.cptr c.c::.int .u32 (g:Int)::Ic t) St.none (fun r _=>r=.bool (t.sem (cE (pA c) g)))
 | .leaf x,h=>by
  rw[RO]
  exact Wp c hc g hg x (h.2 x (by simp[T.fl]))
 | .one x a,h=>by
  have ih:=KQ c hc g hg a (z6.1 h).2.2
  have ha:=mG a
  have e:(T.one x a).sem (cE (pA c) g)=!a.sem (cE (pA c) g):=by simp[T.sem]
  rw[e]
  show aA Tryz.prog 206 [.cptr c.c,.int .u32 (g:Int),.cptr [lP a]] St.none _
  rw[ha]
  refine(mB 11 [.tmp 5] Tryz.func206 ?_)
  generalize c.c=cells at ih ⊢
  repeat' first|(with_reducible first|refine up ih ?_)|refine wZ1 @Tryz.f206.eq_1 ?_|exact wC1 @Tryz.f206.eq_1|fail
 | .two x a b,h=>by
  obtain⟨q1,_,ga,gb⟩:=z7.1 h
  have ia:=KQ c hc g hg a ga
  have ib:=KQ c hc g hg b gb
  have ha:=mG a
  have hb:=mG b
  have hs:(T.two x a b).sem (cE (pA c) g)=if x.op=11 then a.sem (cE (pA c) g)&&b.sem (cE (pA c) g) else a.sem (cE (pA c) g) || b.sem (cE (pA c) g):=by
   by_cases e:x.op=11<;>simp[T.sem,e]
  rw[hs]
  show aA Tryz.prog (Sg x.op) [.cptr c.c,.int .u32 (g:Int),.cptr [lP a],.cptr [lP b]] St.none _
  rw[ha,hb]
  unfold Sg
  generalize c.c=cells at ia ib ⊢
  generalize a.sem (cE (pA c) g)=sa at ia ⊢
  generalize b.sem (cE (pA c) g)=sb at ib ⊢
  by_cases e:x.op=11
  ·rw[if_pos e,if_pos e]
   refine(mB 17 [.tmp 6] Tryz.func207 ?_)
   cases sa
   all_goals
    repeat' first|(with_reducible first|refine up ia ?_|refine up ib ?_)|refine wZ1 @Tryz.f207.eq_1 ?_|exact wC1 @Tryz.f207.eq_1|fail
    all_goals first|rfl|(cases sb<;>rfl)
  ·rw[if_neg e,if_neg e]
   refine(mB 17 [.tmp 6] Tryz.func208 ?_)
   cases sa
   all_goals
    repeat' first|(with_reducible first|refine up ia ?_|refine up ib ?_)|refine wZ1 @Tryz.f208.eq_1 ?_|fail
    all_goals first|rfl|(cases sb<;>rfl)
end

section
theorem qL{σ:St}{l:Nat}{t:TypeId}{m:MV}(h:σ l=some (.row t 1 [[m]])):View σ (.ptr l 0 0) (.cptr [m]):=View.ptr (i:=0) (o:=0) h (by simp)
theorem nY:∀T:T,Good T→∀(r:List ND) (t:Bool),(T.fl++r).length≤1000000→aA Tryz.prog 138 [.lst 5 ((T.fl++r).map ND.c) t] St.none (fun v _=>v=.tup [lP T,.lst 5 (r.map ND.c) false])
 | .leaf x,h,r,t,hl=>by
  refine aA.seen (mB 42 [.tmp 2,.tmp 3] Tryz.func138 ?_)
  have hp:=iD x.op
  have h0:parts x.op=0:=h.1
  rw[h0] at hp
  have hlf:=MZ x
  simp only[T.fl,List.cons_append,List.nil_append,List.map_cons,lP,List.length_cons] at hl ⊢
  generalize Lk x=lv at hlf ⊢
  repeat' first|(with_reducible first|refine up hp ?_|refine up hlf ?_)|(refine wO ?_;intros)|refine wZ1 @Tryz.f138.eq_1 ?_|fail
  exact .two (.same _) .loose
 | .one x a,h,r,t,hl=>by
  refine aA.seen (mB 42 [.tmp 2,.tmp 3] Tryz.func138 ?_)
  have h0:parts x.op=1:=h.1.1
  have hop:=CU h0
  have hp:aA Tryz.prog 204 [.int .i64 10] St.none (fun r _=>r=.int .i64 1):=iD 10
  simp only[T.fl,List.cons_append,List.length_cons] at hl
  have ih:=nY a (z6.1 h).2.2 r t oM
  have e:((T.one x a).fl++r).map ND.c=x.c::(a.fl++r).map ND.c:=rfl
  rw[e]
  simp only[lP]
  rw[mG a] at ih ⊢
  generalize Ie a=fa at ih ⊢
  generalize Ic a=ca at ih ⊢
  have hlen:((a.fl++r).map ND.c).length=(a.fl++r).length:=List.length_map _
  generalize (a.fl++r).map ND.c=l1 at ih hlen ⊢
  repeat' first|(with_reducible first|refine up hp ?_|refine up ih ?_)|(refine wO ?_;intros)|refine wZ2 @Tryz.f138.eq_1 @hop ?_|fail
  exact .two (.fn rfl (xD (qL (t:=190) sS))) (.same _)
 | .two x a b,h,r,t,hl=>by
  refine aA.seen (mB 42 [.tmp 2,.tmp 3] Tryz.func138 ?_)
  obtain⟨q1,_,ga,gb⟩:=z7.1 h
  have hp11:aA Tryz.prog 204 [.int .i64 11] St.none (fun r _=>r=.int .i64 2):=iD 11
  have hp12:aA Tryz.prog 204 [.int .i64 12] St.none (fun r _=>r=.int .i64 2):=iD 12
  simp only[T.fl,List.cons_append,List.length_cons,List.append_assoc] at hl
  have ia:=nY a ga (b.fl++r) t oM
  have ib:=nY b gb r false (by simp only[List.length_append] at hl ⊢;omega)
  have e:((T.two x a b).fl++r).map ND.c=x.c::(a.fl++(b.fl++r)).map ND.c:=by simp[T.fl]
  rw[e]
  simp only[lP]
  rw[mG a] at ia ⊢
  rw[mG b] at ib ⊢
  generalize Ie a=fa at ia ⊢
  generalize Ic a=ca at ia ⊢
  generalize Ie b=fb at ib ⊢
  generalize Ic b=cb at ib ⊢
  have hlen:((a.fl++(b.fl++r)).map ND.c).length=(a.fl++(b.fl++r)).length:=List.length_map _
  generalize (a.fl++(b.fl++r)).map ND.c=l1 at ia hlen ⊢
  generalize (b.fl++r).map ND.c=l2 at ia ib ⊢
  unfold Sg
  rcases CV q1 with h1|h1<;>rw[h1]
  ·rw[if_pos rfl]
   repeat' first|(with_reducible first|refine up hp11 ?_|refine up ia ?_|refine up ib ?_)|(refine wO ?_;intros)|refine wZ2 @Tryz.f138.eq_1 @h1 ?_|fail
   exact .two (.fn rfl (rF (qL (t:=190) sS) (qL (t:=190) sS))) (.same _)
  ·rw[if_neg (by decide)]
   repeat' first|(with_reducible first|refine up hp12 ?_|refine up ia ?_|refine up ib ?_)|(refine wO ?_;intros)|refine wZ2 @Tryz.f138.eq_1 @h1 ?_|fail
   exact .two (.fn rfl (rF (qL (t:=190) sS) (qL (t:=190) sS))) (.same _)
end

section
theorem dI{P:Program}{g:FuncId}{ms:List MV}{σ σ1:St}{r:MV}{k:MV→St→Prop}(h:aA P g ms σ fun v τ=>v=r∧τ=σ1)(hk:R (bT r σ1 k)):R (cW P g ms σ k) :=
 h.mono fun v τ q=>by
  obtain⟨rfl,rfl⟩:=q
  exact hk
abbrev flO(L:MV)(d s:Int)(a:MV):aT:=.row 192 5 [[L,.int .u32 d,.int .i32 s,.int .u32 0,a]]
abbrev flS(p f:Nat)(L:MV)(d s:Int)(a:MV):St:=(St.none.set p (.row 79 1 [[.ptr f 0 0]])).set f (flO L d s a)
theorem Ga{T:T}(hT:Good T)(hl:T.fl.length≤1000000){p f:Nat}(hpf:p≠f)(t:Bool):aA Tryz.prog 137 [.ptr p 0 0] (flS p f (.lst 5 (T.fl.map ND.c) t) 0 1 .nilfn) (fun v σ'=>v=.tup []∧σ'=flS p f (.lst 5 (T.fl.map ND.c) t) 0 1 (lP T)):=by
 refine(mB 12 [] Tryz.func137 ?_)
 have hb:=nY T hT [] t (by simpa using hl)
 rw[List.append_nil,List.map_nil] at hb
 have hfp:=Ne.symm hpf
 rw[mG] at hb ⊢
 generalize Ie T=fa at hb ⊢
 generalize Ic T=ca at hb ⊢
 obtain⟨C,c1⟩:=kw1 138 ⟨[],fun v=>v=.tup [.fn (.func fa) [] ca,.lst 5 [] false],none⟩
 repeat' first|((with_reducible refine aJ mixed ?chk C ?_);(case chk=>decide +kernel))|(with_reducible refine aH (c1 _) hb ?_)|refine wZ1 @Tryz.f137.eq_1 ?_|exact wC1 @Tryz.f137.eq_1|fail
 all_goals first|exact⟨rfl,rfl⟩|rfl|skip
theorem BD{T:T}(hT:Good T)(hl:T.fl.length≤1000000){p f:Nat}(hpf:p≠f)(t:Bool):aA Tryz.prog 203 [.ptr f 0 1,.fn (.func 137) [] [.ptr p 0 0]] (flS p f (.lst 5 (T.fl.map ND.c) t) 0 0 .nilfn) (fun v σ'=>v=.tup []∧σ'=flS p f (.lst 5 (T.fl.map ND.c) t) 1 0 (lP T)):=by
 refine(mB 21 [] Tryz.func203 ?_)
 have hm:=Ga hT hl hpf t
 have hfp:=Ne.symm hpf
 have h0:=I4 (l:=f) (o:=2) (e:=5) (t:=192) (x:=[.lst 5 (T.fl.map ND.c) t,.int .u32 0,.int .i32 0,.int .u32 0,.nilfn]) rfl
 have h1:=o5 (l:=f) (o:=1) (e:=5) (t:=192) (x:=[.lst 5 (T.fl.map ND.c) t,.int .u32 0,.int .i32 1,.int .u32 0,.nilfn]) (n:=0) rfl
 repeat' first|(refine cU (aD _ _ _) h0 ?_)|(refine cU (by simp[St.set]) h1 ?_)|(refine dI hm ?_)|(refine Dd (aD _ _ _) rfl ?_)|(refine H3 (aD _ _ _) rfl ?_)|refine wZ1 @Tryz.f203.eq_1 ?_|exact wC1 @Tryz.f203.eq_1|fail
 all_goals skip
theorem GY{T:T}(hT:Good T)(hl:T.fl.length≤1000000){p f:Nat}(hpf:p≠f)(t:Bool):aA Tryz.prog 136 [.ptr f 0 1,.fn (.func 137) [] [.ptr p 0 0]] (flS p f (.lst 5 (T.fl.map ND.c) t) 0 0 .nilfn) (fun v σ'=>v=.tup []∧σ'=flS p f (.lst 5 (T.fl.map ND.c) t) 1 0 (lP T)):=by
 refine(mB 12 [] Tryz.func136 ?_)
 have hm:=BD hT hl hpf t
 have h1:=o5 (l:=f) (o:=1) (e:=5) (t:=192) (x:=[.lst 5 (T.fl.map ND.c) t,.int .u32 0,.int .i32 0,.int .u32 0,.nilfn]) (n:=0) rfl
 repeat' first|(refine cU (aD _ _ _) h1 ?_)|(refine dI hm ?_)|refine wZ1 @Tryz.f136.eq_1 ?_|exact wC1 @Tryz.f136.eq_1|fail
 all_goals first|done|exact⟨rfl,rfl⟩
theorem Ee{L a:MV}{p f:Nat}(hpf:p≠f):aA Tryz.prog 136 [.ptr f 0 1,.fn (.func 137) [] [.ptr p 0 0]] (flS p f L 1 0 a) (fun v σ'=>v=.tup []∧σ'=flS p f L 1 0 a):=by
 refine(mB 12 [] Tryz.func136 ?_)
 have h1:=o5 (l:=f) (o:=1) (e:=5) (t:=192) (x:=[L,.int .u32 1,.int .i32 0,.int .u32 0,a]) (n:=1) rfl
 repeat' first|(refine cU (aD _ _ _) h1 ?_)|refine wZ1 @Tryz.f136.eq_1 ?_|exact wC1 @Tryz.f136.eq_1|fail
 all_goals first|done|exact⟨rfl,rfl⟩
theorem VX{P:Program}{g:FuncId}{ms:List MV}{σ:St}{p f:Nat}{op of of':aT}{r:MV}{k:MV→St→Prop}(hpf:p≠f)(hp:σ p=some op)(hf:σ f=some of)
 (h:aA P g ms ((St.none.set p op).set f of) fun v σ'=>v=r∧σ'=(St.none.set p op).set f of')(hk:R (bT r (σ.set f of') k)):R (cW P g ms σ k) :=
 bK h (le2 hp hf) fun v σ' q _=>by
  obtain⟨rfl,rfl⟩:=q
  have e:((St.none.set p op).set f of').over (σ.minus ((St.none.set p op).set f of))=σ.set f of':=by
   funext j
   by_cases h1:j=f
   ·subst h1;simp[St.over,St.set]
   ·by_cases h2:j=p
    ·subst h2;simp[St.over,St.set,h1,hp]
    ·simp[St.over,St.set,St.minus,h1,h2,St.none]
  rw[e]
  exact hk
theorem KG{σ:St}{a a':MV}{l:List MV}(h:View σ a a'):∀(i:Nat) (m m':MV),(a::l)[i]?=some m→(a'::l)[i]?=some m'→View σ m m':=fun i m m' h1 h2=>by
 match i with
 | 0=>simp at h1 h2;subst h1 h2;exact h
 | i+1=>simp at h1 h2;rw[h1] at h2;cases h2;exact .same _
theorem DB{T:T}(hT:Good T)(hl:T.fl.length≤1000000)(c:CA)(hc:∀k,(c.f.get k).s.size≤1000000)(g:Nat)(hg:g<4294967296)(f:Nat)(t d:Bool) :
  aA Tryz.prog 66 [.ptr f 0 0,.agg c.c,.int .u32 (g:Int)] (St.none.set f (flO (.lst 5 (T.fl.map ND.c) t) (if d=true then 1 else 0) 0 (if d=true then lP T else .nilfn))) (fun v σ'=>v=.bool (T.sem (cE (pA c) g))∧σ'=St.none.set f (flO (.lst 5 (T.fl.map ND.c) t) 1 0 (lP T))):=by
 refine aA.less (Q':=fun v σ'=>v=.bool (T.sem (cE (pA c) g))∧(St.none.set f (flO (.lst 5 (T.fl.map ND.c) t) 1 0 (lP T))).le σ') (mB 20 [.tmp 6] Tryz.func66 ?_) fun v σ' h=>⟨_,h.2,h.1,rfl⟩
 have hdo:∀{p},p≠f→aA Tryz.prog 136 [.ptr f 0 1,.fn (.func 137) [] [.ptr p 0 0]] (flS p f (.lst 5 (T.fl.map ND.c) t) (if d=true then 1 else 0) 0 (if d=true then lP T else .nilfn)) (fun v σ'=>v=.tup []∧σ'=flS p f (.lst 5 (T.fl.map ND.c) t) 1 0 (lP T)):=fun {p} hp=>by
  cases d
  ·exact GY hT hl hp t
  ·exact Ee hp
 have ha:=KQ c hc g hg T hT
 rw[mG] at hdo ⊢
 generalize Ie T=fa at ha hdo ⊢
 generalize Ic T=ca at ha hdo ⊢
 generalize T.sem (cE (pA c) g)=out at ha ⊢
 have hlen:c.c.length=27:=by simp[CA.c,cP]
 have hcell:c.c.all MV.aL=true:=by simp only[CA.c,List.all_cons,dP];rfl
 generalize c.c=cells at ha hlen hcell ⊢
 obtain⟨dn,hdn⟩:∃x:Int,(if d=true then 1 else 0)=x:=⟨_,rfl⟩
 obtain⟨av,hav⟩:∃x:MV,(if d=true then MV.fn (.func fa) [] ca else .nilfn)=x:=⟨_,rfl⟩
 rw[hdn,hav] at hdo ⊢
 repeat' first|(refine VX (by assumption) sS sS (hdo (by assumption)) ?_)|(refine uW (.cptr cells::.int .u32 (g:Int)::ca) ha (by constructor) rfl (KG (View.ptr (i:=0) (o:=0) (aD _ _ _) (by simp))) ?_)|(refine wO ?_;intros)|refine wZ3 @Tryz.f66.eq_1 @hlen @hcell ?_|fail
 all_goals exact St.aB (St.none_le _) sS
end

section
abbrev UpI(l:List Int):Prop:=l.Pairwise (·<·)
theorem EY:∀{last:Int} {l:List Int},rN last l=true→UpI l∧∀x,x∈l→last<x∧1≤x∧x<1073741824
 | _,[],_=>⟨.nil,by simp⟩
 | last,x::l,h=>by
  rw[rN,Bool.and_eq_true,decide_eq_true_eq] at h
  obtain⟨⟨h1,h2,h3⟩,h4⟩:=h
  unfold mM at h3
  obtain⟨i1,i2⟩:=EY h4
  refine⟨List.pairwise_cons.2 ⟨fun y hy=>(i2 y hy).1,i1⟩,fun y hy=>?_⟩
  rcases List.mem_cons.1 hy with rfl|hy
  ·exact⟨h1,h2,h3⟩
  ·obtain⟨a,b,c⟩:=i2 y hy
   exact⟨by omega,b,c⟩
theorem Sl{nx last:Int}{cs:List CA}(h:j0 nx last cs=true):UpI (cs.map CA.id):=List.pairwise_map.2 (mH h).2
end

section
inductive InD (D:Nat→Prop):MV→Prop where
 | flat {m:MV} (h:Flat m):InD D m
 | ptr {l i o:Nat} (h:D l):InD D (.ptr l i o)
 | vec {e l lo n:Nat} (h:D l):InD D (.vec e l lo n)
 | mapv {l:Nat} (h:D l):InD D (.mapv l)
 | lst {e:Nat} {xs:List (List MV)} {t:Bool} (h:∀x,x∈xs→∀m,m∈x→InD D m):InD D (.lst e xs t)
 | cptr {cs:List MV} (h:∀m,m∈cs→InD D m):InD D (.cptr cs)
 | agg {cs:List MV} (h:∀m,m∈cs→InD D m):InD D (.agg cs)
 | fn {f:Fn} {ms ns:List MV} (h1:∀m,m∈ms→InD D m) (h2:∀m,m∈ns→InD D m):InD D (.fn f ms ns)
theorem InD.of{D:Nat→Prop}{m:MV}(h:nC m):InD D m:=by
 induction h with
 | flat h=>exact .flat h
 | lst _ ih=>exact .lst ih
 | cptr _ ih=>exact .cptr ih
 | agg _ ih=>exact .agg ih
theorem InD.rel{D:Nat→Prop}{Φ Φ':Phi}(hs:∀a v,Φ.snap a=some v→Φ'.snap a=some v)(ho:∀l p,D l→Φ.obj l=some p→Φ'.obj l=some p){m:MV}(h:InD D m):∀{v:Value},Rel Φ v m→Rel Φ' v m:=by
 induction h with
 | flat h=>intro v r;exact h.rel r
 | ptr h =>
  intro v r
  cases r with
  | ptr h1 h2=>exact .ptr (ho _ _ h h1) h2
 | vec h =>
  intro v r
  cases r with
  | vec h1 h2 h3 h4=>exact .vec (ho _ _ h h1) h2 h3 h4
  | vec0 a h1 h2=>exact .vec0 a (ho _ _ h h1) h2
  | vecn h1 h2 h3=>exact .vecn (ho _ _ h h1) h2 h3
 | mapv h =>
  intro v r
  cases r with
  | mapv h1 h2=>exact .mapv (ho _ _ h h1) h2
 | lst h ih =>
  intro v r
  cases r with
  | lstn=>exact .lstn _ _
  | lst0 a _ cap _ ht hm=>exact .lst0 a _ cap _ ht hm
  | lst hl h0 hcap hm ht hx vs hc hr =>
   exact .lst hl h0 hcap hm ht hx vs (fun i x j m a b=>⟨(hc i x j m a b).1,hs _ _ (hc i x j m a b).2⟩) fun i x j m a b=>ih x (List.mem_of_getElem? a) m (List.mem_of_getElem? b) (hr i x j m a b)
 | cptr h ih =>
  intro v r
  cases r with
  | cptr vs hc hr=>exact .cptr vs (fun j m hm=>⟨(hc j m hm).1,hs _ _ (hc j m hm).2⟩) fun j m hm=>ih m (List.mem_of_getElem? hm) (hr j m hm)
 | agg h ih =>
  intro v r
  cases r with
  | agg h1 h2 h3=>exact .agg h1 h2 fun i m hm=>ih m (List.mem_of_getElem? hm) (h3 i m hm)
 | fn h1 h2 ih1 ih2 =>
  intro v r
  cases r with
  | fn _ k1 k2 r1 r2=>exact .fn _ k1 k2 (fun i m hm=>ih1 m (List.mem_of_getElem? hm) (r1 i m hm)) fun i m hm=>ih2 m (List.mem_of_getElem? hm) (r2 i m hm)
def UB(P:Program)(g:FuncId)(ns:List MV)(σi:St)(xs:List (List MV))(K:St→Prop):Prop :=
 Enters P g∧∀(l:Nat) (Y:Nat→YS→Prop) (Yx:YS→Prop) (Φ:Phi) (w:World) (S:YS) (vs:Array Value),s7 P l xs Y Yx Φ σi w.heap.size→Inv Φ w σi→Apt Φ σi S w→Y 0 S→iS Φ vs ns →
  Calls P g (#[.func (.yield l) #[] #[]]++vs) w fun e w'=>∃v Φ' σ' S',e=.returned v∧Inv Φ' w' σ'∧Apt Φ' σ' S' w'∧eU Φ σi w S Φ' σ' w' S'∧(Y xs.length S'∨Yx S')∧K σ'
theorem RR{σ:St}{a k:Nat}{o x:aT}(h:(σ.set a o) k=some x):(k=a∧x=o)∨(k≠a∧σ k=some x):=by
 by_cases e:k=a
 ·subst e;rw[aD] at h;exact .inl ⟨rfl,(Option.some.inj h).symm⟩
 ·rw[aG _ _ _ _ e] at h;exact .inr ⟨e,h⟩
theorem bA.cut{f:FR}{σ:St}{q:Nat}{t:TypeId}{e:Nat}{xs ex:List (List MV)}(h:σ q=some (.row t e (xs++ex))):bA f σ f (σ.set q (.row t e xs)):=by
 have hd:∀l o,(σ.set q (.row t e xs)) l=some o→∃o',σ l=some o':=fun l o hl=>by
  rcases RR hl with⟨rfl,rfl⟩|⟨_,h1⟩
  ·exact⟨_,h⟩
  ·exact⟨_,h1⟩
 refine⟨rfl,fun Φ w vs hi hr=>⟨Φ,⟨fun l o hl=>?_,fun a b o o' p p' R h1 h2 h3 h4 h5 h6=>?_,hi.snap,fun l o p R a v h1 h2 h3 h4=>?_,hi.fresh⟩,hr,.refl _,rfl,rfl,rfl,Nat.le_refl _,Nat.le_refl _,fun _ _ _=>rfl,fun _ _ hv=>.inl hv,fun l o hl=>.inl (hd l o hl),fun R hR=>.inl ?_⟩⟩
 ·rcases RR hl with⟨rfl,rfl⟩|⟨_,h1⟩
  ·obtain⟨p,h1,h2,h3,h4,h5,h6⟩:=hi.own l _ h
   have at_:∀{i:Nat} {x:List MV},xs[i]?=some x→(xs++ex)[i]?=some x:=fun hx=>by
    rw[List.getElem?_append_left (List.getElem?_eq_some_iff.1 hx).1];exact hx
   refine⟨p,h1,h2,by rw[List.length_append] at h3;omega,h4,fun i x hx=>h5 i x (at_ hx),?_⟩
   cases hb:p.blk with
   | none=>simp only[hb] at h6;exact h6
   | some R =>
    simp only[hb] at h6
    obtain⟨c,fz,k1,k2,k3,k4⟩:=h6
    exact⟨c,fz,k1,k2,k3,fun i x j m hx hm=>k4 i x j m (at_ hx) hm⟩
  ·exact hi.own l o h1
 ·obtain⟨oa,ha⟩:=hd a o h1
  obtain⟨ob,hb⟩:=hd b o' h2
  exact hi.inj a b oa ob p p' R ha hb h3 h4 h5 h6
 ·obtain⟨oa,ha⟩:=hd l o h1
  exact hi.apart l oa p R a v ha h2 h3 h4
 ·obtain⟨l,o,p,h1,h2,h3⟩:=hR
  obtain⟨oa,ha⟩:=hd l o h1
  exact⟨l,oa,p,ha,h2,h3⟩
def WK(n:Nat)(K:St→Prop):YQ
 | .normal,f,σ,t=>f.d=[]∧(t=some n∨t=none)∧K σ
 | .ret,f,σ,t=>f.d=[]∧(t=some n∨t=none)∧K σ
 | _,_,_,_=>False
theorem F5{P:Program}{fn:Func}{tmps:Array Value}{C:YC}{t:Option Nat}(hrs:fn.results.toList=[]){Φ0:Phi}{σ0:St}{w0:World}{S0:YS}(h0:Φ0.base=w0.heap.size){R:Ending→World→Prop}{K:St→Prop}(hR:∀v Φ' w' σ' S',kF C Φ' σ' w' S' t→eU Φ0 σ0 w0 S0 Φ' σ' w' S'→K σ'→R (.returned v) w') :
  ∀(ds:List Deferred) (Φ:Phi) (w:World) (σ:St) (S:YS),eC Φ w ds []→kF C Φ σ w S t→eU Φ0 σ0 w0 S0 Φ σ w S→K σ→jZ P fn tmps R ds w:=by
 intro ds
 induction ds with
 | nil =>
  intro Φ w σ S _ hi hs hk
  refine⟨.tuple #[],?_,hR _ Φ w σ S hi hs hk⟩
  rw[oO]
  have:fn.results=#[]:=Array.toList_eq_nil_iff.1 hrs
  simp only[this]
  first|rfl|simp[Sem.run_bind,Sem.run_pure]
 | cons x ds ih =>
  intro Φ w σ S hd hi hs hk
  rcases hd with⟨D,h1,h2,h3,h4,h5⟩|⟨g,ms,r,cap,h,_⟩
  ·refine .inl ⟨D,_,h1,run_takeDeferred h3,?_⟩
   have hDb:w0.heap.size≤D:=by rw[←h0,←hs.le.base];exact h2
   have i':=hi.inv.putObj (.deferred none) h3 (fun _ _ _ e=>by cases e) (fun _ _ e=>by cases e)
   have s':eU Φ0 σ0 w0 S0 Φ σ (w.putObj D (.deferred none)) S :=
    ⟨hs.le,hs.os,hs.tape,hs.output,hs.drawn,by rw[World.putObj_size];exact hs.size,fun k hk hn hw=>(World.putObj_heap_other oM).trans (hs.block k hk hn hw),hs.snapn,hs.ownd,hs.wr,hs.sn⟩
   refine ih Φ _ σ S ?_ ⟨i',hi.apt.putObj _ h3,hi.snapn,hi.ownd,by rw[World.putObj_size];exact hi.size,hi.st⟩ s' hk
   have:∀(xs:List Deferred) (d:List (FuncId × List MV)),(∀y,y∈xs→y.target≠.collected D)→eC Φ w xs d→eC Φ (w.putObj D (.deferred none)) xs d:=by
    intro xs
    induction xs with
    | nil=>intro d _ h;exact⟨h.1,by rw[World.putObj_size];exact h.2⟩
    | cons y xs ihx =>
     intro d hy h
     rcases h with⟨D',k1,k2,k3,k4,k5⟩|⟨g,ms,r,cap,k1,k2,k3,k4⟩
     ·refine .inl ⟨D',k1,k2,?_,k4,ihx d (fun z hz=>hy z (by simp[hz])) k5⟩
      rw[World.putObj_heap_other]
      ·exact k3
      ·intro e;exact hy y (by simp) (by rw[k1,e])
     ·exact .inr ⟨g,ms,r,cap,k1,k2,k3,ihx r (fun z hz=>hy z (by simp[hz])) k4⟩
   exact this ds [] h4 h5
  ·cases h
theorem UB.gW{P:Program}{g:FuncId}{fn:Func}{c:Code}{ns:List MV}{σi:St}{xs:List (List MV)}{K:St→Prop}(n:Nat)(hf:P.funcs[g]?=some fn)(hb:fn.body=some c)(hn:(fn.name == "runtime.NumGoroutine")=false)
 (hn':max fn.ntmps (ns.length+1)=n)(hrs:fn.results.toList=[])
 (h:∀C:YC,C.xs=xs→s7 P C.l C.xs C.Y C.Yx C.Φ0 C.σ0 C.n0→ywp P C c ⟨n,iG 0 (.fn (.yield C.l) [] []::ns),[]⟩ σi (some 0) (WK xs.length K)):UB P g ns σi xs K:=by
 refine⟨⟨fn,hf,by simp[hb],hn⟩,fun l Y Yx Φ w S vs hspec hi ha h0 hr=>?_⟩
 obtain⟨C,hC⟩:∃C:YC,C=⟨l,xs,Y,Yx,Φ.aX w.heap.size,σi,w.heap.size⟩:=⟨_,rfl⟩
 have hargs:iS (Φ.aX w.heap.size) (#[Value.func (.yield l) #[] #[]]++vs) (.fn (.yield l) [] []::ns):=by
  refine⟨by simp[hr.1];omega,fun i m hm=>?_⟩
  cases i with
  | zero =>
   simp only[List.getElem?_cons_zero,Option.some.injEq] at hm
   subst hm
   have e:(#[Value.func (.yield l) #[] #[]]++vs).getD 0 undef=Value.func (.yield l) #[] #[]:=by
    simp[Array.getD_eq_getD_getElem?,Array.getElem?_append]
   rw[e]
   exact uE _ (.func (.yield l) #[] #[])
  | succ i =>
   have:=(hr.2 i m (by simpa using hm)).aX w.heap.size
   have e:(#[Value.func (.yield l) #[] #[]]++vs).getD (i+1) undef=vs.getD i undef:=by
    simp[Array.getD_eq_getD_getElem?,Array.getElem?_append]
   rw[e];exact this
 have hfr:=vJ (fn:=fn) hargs
 rw[List.length_cons,hn'] at hfr
 have hbody:=h C (by rw[hC]) (by rw[hC];exact hspec.aX _)
 have hst:kF C (Φ.aX w.heap.size) σi w S (some 0):=by
  subst hC
  exact⟨hi.aX _,ha.aX _,fun a v q=>.inl q,fun R q=>.inl q,Nat.le_refl _,h0⟩
 have hl:C.l=l:=by rw[hC]
 rw[hl] at hbody
 refine(nZ (R:=fun e w'=>∃v Φ' σ' S',e=.returned v∧(kF C Φ' σ' w' S' (some xs.length)∨kF C Φ' σ' w' S' none)∧eU (Φ.aX w.heap.size) σi w S Φ' σ' w' S'∧K σ') hf hb (wp_mono (wpIn_wide.1 (hbody _ .wide (Φ.aX w.heap.size) w { tmps:=_,defers:=[] } S hst hfr ⟨rfl,Nat.le_refl _⟩)) ?_)).mono ?_
 ·rintro e a' w' ⟨f',σ',t',Φ',S',q1,q2,q3,q4,q5⟩
  have fin:(t'=some xs.length∨t'=none)→f'.d=[]→K σ'→jZ P fn a'.tmps (fun e w'=>∃v Φ' σ' S',e=.returned v∧(kF C Φ' σ' w' S' (some xs.length)∨kF C Φ' σ' w' S' none)∧eU (Φ.aX w.heap.size) σi w S Φ' σ' w' S'∧K σ') a'.defers w':=by
   intro ht hd hk
   rw[hd] at q3
   rcases ht with rfl|rfl
   ·exact F5 (K:=K) (P:=P) (fn:=fn) (tmps:=a'.tmps) hrs (Φ0:=Φ.aX w.heap.size) (w0:=w) rfl (fun v Φ'' w'' σ'' S'' q qs k=>⟨v,Φ'',σ'',S'',rfl,.inl q,qs,k⟩) a'.defers Φ' w' σ' S' q3 q1 q4 hk
   ·exact F5 (K:=K) (P:=P) (fn:=fn) (tmps:=a'.tmps) hrs (Φ0:=Φ.aX w.heap.size) (w0:=w) rfl (fun v Φ'' w'' σ'' S'' q qs k=>⟨v,Φ'',σ'',S'',rfl,.inr q,qs,k⟩) a'.defers Φ' w' σ' S' q3 q1 q4 hk
  cases e with
  | normal=>exact⟨.inl rfl,fin q5.2.1 q5.1 q5.2.2⟩
  | ret=>exact⟨.inr rfl,fin q5.2.1 q5.1 q5.2.2⟩
  | _=>exact q5.elim
 ·rintro e w' ⟨v,Φ',σ',S',rfl,q,qs,hk⟩
  subst hC
  rcases q with q|q
  ·exact⟨v,Φ'.aX Φ.base,σ',S',rfl,q.inv.aX _,q.apt.aX _,qs.aX,.inl q.st,hk⟩
  ·exact⟨v,Φ'.aX Φ.base,σ',S',rfl,q.inv.aX _,q.apt.aX _,qs.aX,.inr q.st,hk⟩
structure zB (A:Nat→Prop) (Φ0:Phi) (σ0:St) (n0:Nat) (Φ:Phi) (σ:St):Prop where
 le:Φ0.le Φ
 snapn:∀a v,Φ.snap a=some v→Φ0.snap a=some v∨n0≤a.block∨aY Φ0 σ0 a.block
 locs:∀l o,σ l=some o→A l∨Φ0.obj l=none
 ownd:∀R,aY Φ σ R→aY Φ0 σ0 R∨n0≤R
theorem zB.step{A:Nat→Prop}{Φ0 Φ Φ':Phi}{σ0 σ σ':St}{n0:Nat}{w w':World}(h:zB A Φ0 σ0 n0 Φ σ)(hn:n0≤w.heap.size)(k:Step Φ σ w Φ' σ' w'):zB A Φ0 σ0 n0 Φ' σ' where
 le:=h.le.trans k.le
 snapn:=fun a v hv=>by
  rcases k.snapn a v hv with q|q|q
  ·exact h.snapn a v q
  ·exact .inr (.inl (Nat.le_trans hn q))
  ·rcases h.ownd _ q with q|q
   ·exact .inr (.inr q)
   ·exact .inr (.inl q)
 locs:=fun l o hl=>by
  rcases k.locs l o hl with⟨o',q⟩|q
  ·exact h.locs l o' q
  ·right
   cases hl:Φ0.obj l with
   | none=>rfl
   | some p=>have:=h.le.obj l p hl;simp[this] at q
 ownd:=fun R hR=>by
  rcases k.ownd R hR with q|q
  ·exact h.ownd R q
  ·exact .inr (Nat.le_trans hn q)
structure SG (A:Nat→Prop) (Φ0:Phi) (σ0:St) (n0:Nat) (tmps:Array Value) (fc:FR) (l:Nat) (st:Loop) (σ:St) (S:YS) (Φ:Phi):Prop where
 inv:Inv Φ S.w σ
 frame:dD Φ tmps fc
 step:zB A Φ0 σ0 n0 Φ σ
 wr:∀k,S.wr k↔(aY Φ σ k∨k=l)
 sn:∀a,S.sn a=Φ.snap a
 lrec:S.w.heap[l]?=some (.loop st)
 size:n0≤S.w.heap.size
 base:Φ.base≤S.w.heap.size
theorem SG.agree{A:Nat→Prop}{Φ0 Φ:Phi}{σ0 σ:St}{n0:Nat}{tmps:Array Value}{fc:FR}{l:Nat}{st:Loop}{S:YS}(h:SG A Φ0 σ0 n0 tmps fc l st σ S Φ):oU S S.w :=
 ⟨fun _ _=>rfl,fun k hk=>by
  rcases (h.wr k).1 hk with q|rfl
  ·obtain⟨l',o,p,h1,h2,h3⟩:=q
   obtain⟨p',e,hlt⟩:=(h.inv.own l' o h1).place
   rw[h2] at e;cases e
   exact hlt k h3
  ·exact(Array.getElem?_eq_some_iff.1 h.lrec).1,(fun k hk x e=>by
  rcases (h.wr k).1 hk with q|rfl
  ·exact h.inv.mark e q
  ·rw[h.lrec] at e;cases e),fun a v q=>h.inv.snap a v (by rw[←h.sn a];exact q),Nat.le_refl _,rfl,rfl,rfl,Nat.le_refl _⟩
theorem SG.at{A:Nat→Prop}{Φ0 Φ:Phi}{σ0 σ:St}{n0:Nat}{tmps:Array Value}{fc:FR}{l:Nat}{st:Loop}{S:YS}(h:SG A Φ0 σ0 n0 tmps fc l st σ S Φ){w:World}(ha:oU S w){Ψ:Phi}(ho:∀m,Ψ.obj m=none)
 (hs:∀a v,Ψ.snap a=some v→w.cell? a=some v∧¬S.wr a.block∧(Φ0.snap a=some v∨n0≤a.block∨aY Φ0 σ0 a.block)) :
  ∃Φ',Inv Φ' w σ∧dD Φ' tmps fc∧zB A Φ0 σ0 n0 Φ' σ∧(∀k,aY Φ' σ k↔aY Φ σ k)∧(∀a v,Φ'.snap a=some v→S.sn a=some v∨Ψ.snap a=some v)∧(∀v m,Rel Ψ v m→Rel Φ' v m)∧w.heap[l]?=some (.loop st)∧Φ'.base≤w.heap.size:=by
 obtain⟨Φ',hΦ⟩:∃Φ':Phi,Φ'={ Φ with snap:=fun a=>match Φ.snap a with|some v=>some v|none=>Ψ.snap a }:=⟨_,rfl⟩
 have hle:Φ.le Φ':=by subst hΦ;exact⟨fun a v q=>by simp[q],fun _ _ q=>q,rfl⟩
 have hobj:Φ'.obj=Φ.obj:=by subst hΦ;rfl
 have hb:Φ'.base=Φ.base:=by subst hΦ;rfl
 have hsn:∀a v,Φ'.snap a=some v→Φ.snap a=some v∨Ψ.snap a=some v:=fun a v q=>by
  subst hΦ
  simp only at q
  cases e:Φ.snap a with
  | none=>rw[e] at q;exact .inr q
  | some u=>rw[e] at q;exact .inl q
 have hwr:∀k,aY Φ σ k→w.heap[k]?=S.w.heap[k]?:=fun k hk=>ha.same k ((h.wr k).2 (.inl hk))
 have hown:∀k,aY Φ' σ k↔aY Φ σ k:=fun k=>by unfold aY;rw[hobj]
 refine⟨Φ',⟨fun l' o hl=>(h.inv.own l' o hl).mono hle fun p R h1 h2=>hwr R ⟨l',o,p,hl,h1,h2⟩,fun a b o o' p p' R h1 h2 h3 h4=>?_,fun a v q=>?_,fun l' o p R a v h1 h2 h3 q=>?_,?_⟩,h.frame.mono hle,⟨h.step.le.trans hle,fun a v q=>?_,h.step.locs,fun R hR=>h.step.ownd R ((hown R).1 hR)⟩,hown,fun a v q=>?_,fun v m r=>?_,?_,?_⟩
 ·rw[hobj] at h3 h4;exact h.inv.inj a b o o' p p' R h1 h2 h3 h4
 ·rcases hsn a v q with q|q
  ·exact ha.sn a v (by rw[h.sn a];exact q)
  ·exact(hs a v q).1
 ·rw[hobj] at h2
  rcases hsn a v q with q|q
  ·exact h.inv.apart l' o p R a v h1 h2 h3 q
  ·intro e
   exact(hs a v q).2.1 ((h.wr _).2 (.inl ⟨l',o,p,h1,h2,e ▸ h3⟩))
 ·obtain⟨n,hn⟩:=h.inv.fresh.1.1
  exact⟨⟨⟨n,fun k hk=>by rw[hobj];exact hn k hk⟩,fun k p hk=>h.inv.fresh.1.2 k p (by rw[←hobj];exact hk)⟩,fun g i v q=>hle.snap _ _ (h.inv.fresh.2.1 g i v q),h.inv.fresh.2.2.mono hle.snap⟩
 ·rcases hsn a v q with q|q
  ·exact h.step.snapn a v q
  ·exact(hs a v q).2.2
 ·rcases hsn a v q with q|q
  ·exact .inl (by rw[h.sn a];exact q)
  ·exact .inr q
 ·refine r.Gx (fun a u q=>?_) (fun l' p q=>by rw[ho l'] at q;cases q)
  have h1:=(hs a u q).1
  subst hΦ
  simp only
  cases e:Φ.snap a with
  | none=>exact q
  | some u' =>
   have h2:=ha.sn a u' (by rw[h.sn a];exact e)
   rw[h1] at h2
   simpa using h2.symm
 ·rw[ha.same l ((h.wr l).2 (.inr rfl))];exact h.lrec
 ·rw[hb];exact Nat.le_trans h.base ha.size
end

section
theorem TR{P:Program}{ops:Array Oper}{F:Fence}(o:Oper)(r:List Oper):∀(l:List Oper),(F=Fence.wide∨∃l0,F=Fence.wide.inRound l0∧∀x,x∈l++o::r→∀c,x.op≠.defer c)→o.guard=none→∀{Q:MQ} {Φ0:Phi} {σ0:St} {w0:World} (f:FR) (σ:St) (Φ:Phi) (w:World) (a:Act),
  dL P ops (fun f σ=>sop P o f σ fun v σ'=>dL P ops (Q .normal) r (bD f o.dst v) σ') l f σ→Inv Φ w σ→dD Φ a.tmps f→eC Φ w a.defers f.d →
  Step Φ0 σ0 w0 Φ σ w→wpListIn F 0 P ops (lift Φ0 σ0 w0 Q) (l++o::r) a w:=by
 intro l
 induction l with
 | nil =>
  intro hF hg Q Φ0 σ0 w0 f σ Φ w a h hi hr hd hs
  have hFo:F=Fence.wide∨∃l0,F=Fence.wide.inRound l0∧∀c,o.op≠.defer c:=hF.imp id fun⟨l0,e,q⟩=>⟨l0,e,q o (by simp)⟩
  have hFr:F=Fence.wide∨∃l0,F=Fence.wide.inRound l0∧∀y,y∈r→∀c,y.op≠.defer c:=hF.imp id fun⟨l0,e,q⟩=>⟨l0,e,fun y ho=>q y (by simp[ho])⟩
  have h:sop P o f σ fun v σ'=>dL P ops (Q .normal) r (bD f o.dst v) σ':=h
  simp only[List.nil_append]
  have h':fX ops f o (sop P o f σ fun v σ'=>dL P ops (Q .normal) r (bD f o.dst v) σ') False:=by unfold fX;rw[hg];exact h
  unfold wpListIn
  rcases cI h' hr with⟨hw,hy⟩|⟨hw,hn⟩
  ·rw[if_pos hw]
   refine eS hFo ?_
   exact h Φ w a _ _ hi hr (fun v mv σ' Φ' w' r1 i1 s1 hk=>sI r hFr _ _ Φ' w' (a.put o.dst v) hk i1 (cL (hr.mono s1.le) o.dst r1) (by rw[bO,dZ];exact hd.step hi s1) (hs.trans s1))
  ·exact hn.elim
 | cons x rest ih =>
  intro hF hg Q Φ0 σ0 w0 f σ Φ w a h hi hr hd hs
  have hFr:F=Fence.wide∨∃l0,F=Fence.wide.inRound l0∧∀y,y∈rest++o::r→∀c,y.op≠.defer c:=hF.imp id fun⟨l0,e,q⟩=>⟨l0,e,fun y ho=>q y (List.mem_cons_of_mem _ ho)⟩
  have hFo:F=Fence.wide∨∃l0,F=Fence.wide.inRound l0∧∀c,x.op≠.defer c:=hF.imp id fun⟨l0,e,q⟩=>⟨l0,e,q x (List.mem_cons_self ..)⟩
  have hfn:∀g,F.fn g:=fun g=>by rcases hF with rfl|⟨l,rfl,_⟩<;>trivial
  simp only[dL] at h
  simp only[List.cons_append]
  unfold wpListIn
  rcases cI h hr with⟨hw,hy⟩|⟨hw,hn⟩
  ·rw[if_pos hw]
   refine eS hFo ?_
   by_cases hdef:∃c,x.op=.defer c
   ·obtain⟨c,hc⟩:=hdef
    rw[hc] at hy
    have hy:vS f c fun f'=>dL P ops (fun f σ=>sop P o f σ fun v σ'=>dL P ops (Q .normal) r (bD f o.dst v) σ') rest (bD f' x.dst .junk) σ:=hy
    obtain⟨d,f',h1,h2,h3,h4⟩:=oF (P:=P) (w:=w) hc hy hr hd
    unfold Oper.wp
    rw[h1]
    refine ih hFr hg _ _ Φ w _ h4 hi (cL (a:={ a with defers:=d::a.defers }) h2 x.dst (.junk _)) ?_ hs
    rw[bO,dZ]
    exact h3
   ·exact kN (fun c hc=>hdef ⟨c,hc⟩) hy Φ w a _ _ hi hr (fun v mv σ' Φ' w' r1 i1 s1 hk=>ih hFr hg _ _ Φ' w' (a.put x.dst v) hk i1 (cL (hr.mono s1.le) x.dst r1) (by rw[bO,dZ];exact hd.step hi s1) (hs.trans s1))
  ·rw[if_neg (by simp[hw])]
   exact⟨fun f _=>hfn f,ih hFr hg _ _ Φ w (a.put x.dst undef) hn hi (cL hr x.dst gP) (by rw[bO,dZ];exact hd) hs⟩
theorem BC{P:Program}{id:Nat}{ops:Array Oper}{f:FR}{σ:St}{Q:MQ}(l:List Oper)(o:Oper)(r:List Oper)(he:ops.toList=l++o::r)(hg:o.guard=none)
 (h:dL P ops (fun f σ=>sop P o f σ fun v σ'=>dL P ops (Q .normal) r (bD f o.dst v) σ') l f σ):mwp P (.region id ops false) f σ Q :=
 fun F hF Φ w a hi hr hd=>wpIn_region_list (by
  rw[he]
  refine TR o r l ?_ hg f σ Φ w a h hi hr hd (.refl _ _ _)
  have:=hF.ops
  rw[he] at this
  exact this)
theorem bQ{P:Program}{id:Nat}{L:List Oper}{f:FR}{σ:St}{Q:MQ}(l:List Oper)(o:Oper)(r:List Oper)(he:L=l++o::r)(hg:o.guard=none)
 (h:R (dL P (@OfNat.ofNat (Array Oper) (nat_lit 0) (@_root_.id (OfNat (Array Oper) (nat_lit 0)) (OfNat.mk (L.toArray)))) (fun f σ=>sop P o f σ fun v σ'=>R (dL P (@OfNat.ofNat (Array Oper) (nat_lit 0) (@_root_.id (OfNat (Array Oper) (nat_lit 0)) (OfNat.mk (L.toArray)))) (Q .normal) r (bD f o.dst v) σ')) l f σ)):mwp P (.region id L.toArray false) f σ Q :=
 BC (ops:=L.toArray) l o r he hg h
theorem A5{P:Program}{o:Oper}{f:FR}{σ:St}{k:MV→St→Prop}{t kt et:TypeId}{x:Operand}(ho:o.op=.call { callee:=.builtin .len,args:=#[x],argTypes:=#[t] })(ht:(td P t).k=.map kt et)
 {l:Nat}{es:List (MV × MV)}(hm:aE f x=.mapv l)(hl:σ l=some (.mp es))(hk:k (.int .i64 (es.length:Int)) σ):sop P o f σ k:=by
 intro Φ w a K Q' hi hr hK
 have hum:=rE ht
 have rm:=aI hr x
 rw[hm] at rm
 obtain⟨p,R,hp,hR,hmv⟩:=rm.nI
 obtain⟨p',R',c,clock,hp',hR',hh,hs,hst,hrel⟩:=(hi.own l _ hl).F9
 rw[hp] at hp';cases hp'
 rw[hR] at hR';cases hR'
 have hop:∀r w',(Builtin.len_ #[t] o.type #[a.eval x]).run P w=.ok r w'→(execOp a.eval o).run P w=.ok (.value r) w':=fun r w' h=>by
  unfold execOp
  simp only[ho,resolve,List.map_toArray,List.map_cons,List.map_nil,Sem.run_bind,Sem.run_pure,Result.andThen_ok,invoke]
  show Sem.run P (do pure (Next.value (←Builtin.len_ #[t] o.type #[a.eval x]))) w=_
  simp only[Sem.run_bind,h,Result.andThen_ok,Sem.run_pure]
 refine bJ (hop (.int .i64 (es.length:Int)) w ?_) (hK _ _ _ Φ w (.int _ _) hi (.refl _ _ _) hk)
 rw[hmv]
 simp[Builtin.len_,aK hum,Go.MapKept.run_getObj_map hh,goInt,hs]
end
end Go.Proofs.YtppdgejjmhdjhaaGreatDoor
