/- Parts of the proof; conditions: as its theorems name them. -/
import Derived.Test.YtppdgejjmhdjhaaGreatDoorM9m
import Derived.Defers
import Derived.Laws.Pointers
import Derived.RegionTactic
import Derived.RegionCalls
set_option linter.unusedVariables false
set_option linter.unusedSimpArgs false
set_option maxHeartbeats 8000000
set_option maxRecDepth 100000
namespace Go.Proofs.YtppdgejjmhdjhaaGreatDoor
section
theorem Sfx.get{bs:BL}{r:RD}(h:Sfx bs r){i:Nat}(hi:i<r.l.length):bs.getD (bs.length - r.l.length+i) 0=r.l.getD i 0:=by
 have:=h.drop
 rw[←this,List.getD_eq_getElem?_getD,List.getD_eq_getElem?_getD,List.getElem?_drop,this]
end

section
class Few (bs:BL):Prop where
 h:bs.length≤1000000
end

section
theorem H3(a:Addr)(n:Int)(w:World)(hc:w.cell? a=some (.int .u32 n))(hs:a.spot=none):Calls Tryz.prog 202 #[.pointer (some a)] w fun e w'=>e=.returned (.bool (n != 0))∧w'=w:=by
 obtain⟨b,off,sub⟩:=a
 simp only at hs
 subst hs
 have hl:=run_call_load (P:=Tryz.prog) Tryz.func247 (by kernel_rfl) (by kernel_rfl) (by kernel_rfl) .u32 (by kernel_rfl) hc
 go_enter Tryz.func202,Tryz.ntmps202
 go_wp2
 go_ret
 exact⟨rfl,rfl⟩
theorem vE(a:Addr)(x:Value)(u:FrameMode)(w:World)(hc:w.cell? a=some x)(hz:w.frozen? a=false)(hs:a.spot=none) :
  CallsD Tryz.prog 250 #[.pointer (some a),.bool true] u w fun e u' w'=>u'=u∧(e=.returned (.tuple #[])∧w'=w.drew.setCell a (.int .u32 1)):=by
 obtain⟨b,off,sub⟩:=a
 simp only at hs
 subst hs
 have hc':w.drew.cell? ⟨b,off,none⟩=some x:=by go_simp
 have hz':w.drew.frozen? ⟨b,off,none⟩=false:=by go_simp
 have hst:=run_call_store (P:=Tryz.prog) Tryz.func293 (by kernel_rfl) (by kernel_rfl) (by kernel_rfl) (by kernel_rfl) (k:=.u32) (y:=1) hc' hz'
 go_enter_d Tryz.func250,Tryz.ntmps250
 go_wp2
 go_region_calls
 all_goals (go_end0;exact⟨rfl,rfl⟩)
theorem o8{l o e:Nat}{t:TypeId}{x:List MV}{n:Int}(hx:x[o]?=some (.int .u32 n)):aA Tryz.prog 202 [.ptr l 0 o] (St.none.set l (.row t e [x])) (fun v σ'=>v=.bool (n != 0)∧σ'=St.none.set l (.row t e [x])):=by
 refine⟨⟨_,Tryz.func202,rfl,rfl⟩,fun Φ w vs hi hr=>?_⟩
 obtain⟨p,R,v0,hp,hb,hc,hr0,hz,i1,s1⟩:=nX hi (aD _ _ _) hx (m:=.int .u32 n) rfl (.int .u32 n)
 have e0:=hr0.aT
 subst e0
 obtain⟨p',R',hp',hb',he⟩:=yY hr
 rw[hp] at hp';cases hp'
 rw[hb] at hb';cases hb'
 have hv:vs=#[.pointer (some ⟨R,p.bo+o,none⟩)]:=by
  have h1:=hr.1
  apply Array.ext
  ·simpa using h1
  ·intro i h3 h4
   have:i=0:=by simp at h4;omega
   subst this
   simpa[Array.getD_eq_getD_getElem?,Array.getElem?_eq_getElem h3] using he
 subst hv
 refine(H3 ⟨R,p.bo+o,none⟩ n w hc rfl).mono ?_
 rintro e' w' ⟨rfl,rfl⟩
 exact⟨_,_,_,Φ,rfl,.bool _,hi,.refl _ _ _,rfl,rfl⟩
theorem IX{l o e:Nat}{t:TypeId}{x:List MV}(hx:x[o]?=some (.int .i32 0)):aA Tryz.prog 248 [.ptr l 0 o] (St.none.set l (.row t e [x])) (fun v σ'=>v=.tup []∧σ'=St.none.set l (.row t e [x.set o (.int .i32 1)])):=by
 refine⟨⟨_,Tryz.func248,rfl,rfl⟩,fun Φ w vs hi hr=>?_⟩
 obtain⟨p,R,v0,hp,hb,hc,hr0,hz,i1,s1⟩:=nX hi (aD _ _ _) hx (m:=.int .i32 1) rfl (.int .i32 1)
 have e0:=hr0.aT
 subst e0
 obtain⟨p',R',hp',hb',he⟩:=yY hr
 rw[hp] at hp';cases hp'
 rw[hb] at hb';cases hb'
 have hv:vs=#[.pointer (some ⟨R,p.bo+o,none⟩)]:=by
  have h1:=hr.1
  apply Array.ext
  ·simpa using h1
  ·intro i h3 h4
   have:i=0:=by simp at h4;omega
   subst this
   simpa[Array.getD_eq_getD_getElem?,Array.getElem?_eq_getElem h3] using he
 subst hv
 refine(Go.MuLone.lock_free QI ⟨R,p.bo+o,none⟩ w hc hz).mono ?_
 rintro e' w' ⟨rfl,rfl⟩
 refine⟨_,.tup [],_,Φ,rfl,.tup rfl (by simp),i1,s1,rfl,?_⟩
 rw[set_set]
theorem HU{σ:St}{K:St→Prop}{l o e:Nat}{t:TypeId}{x:List MV}(hs:σ l=some (.row t e [x]))(hx:x[o]?=some (.int .i32 1))(hk:R (K (σ.set l (.row t e [x.set o (.int .i32 0)])))):R (C0 Tryz.prog 249 [.ptr l 0 o] σ K):=by
 refine⟨_,QI.f_unlock,rfl,rfl,fun Φ w vs hi hr=>?_⟩
 obtain⟨p,R,v0,hp,hb,hc,hr0,hz,i1,s1⟩:=nX hi hs hx (m:=.int .i32 0) rfl (.int .i32 0)
 have e0:=hr0.aT
 subst e0
 obtain⟨p',R',hp',hb',he⟩:=yY hr
 rw[hp] at hp';cases hp'
 rw[hb] at hb';cases hb'
 have hv:vs=#[.pointer (some ⟨R,p.bo+o,none⟩)]:=by
  have h1:=hr.1
  apply Array.ext
  ·simpa using h1
  ·intro i h3 h4
   have:i=0:=by simp at h4;omega
   subst this
   simpa[Array.getD_eq_getD_getElem?,Array.getElem?_eq_getElem h3] using he
 subst hv
 refine(Go.MuLone.unlock_deferred QI ⟨R,p.bo+o,none⟩ .returning w hc hz).mono ?_
 rintro e' u' w' ⟨rfl,rfl,rfl⟩
 exact⟨rfl,_,_,Φ,rfl,i1,s1,hk⟩
theorem C4{σ:St}{K:St→Prop}{l o e:Nat}{t:TypeId}{x:List MV}{n:Int}(hs:σ l=some (.row t e [x]))(hx:x[o]?=some (.int .u32 n))(hk:R (K (σ.set l (.row t e [x.set o (.int .u32 1)])))):R (C0 Tryz.prog 250 [.ptr l 0 o,.bool true] σ K):=by
 refine⟨_,Tryz.func250,rfl,rfl,fun Φ w vs hi hr=>?_⟩
 have hd:=hi.grow (w':=w.drew) rfl rfl rfl (kM (Nat.le_succ _)) (Nat.le_refl _) (fun _ _=>rfl)
 obtain⟨p,R,v0,hp,hb,hc,hr0,hz,i1,s1⟩:=nX hd.1 hs hx (m:=.int .u32 1) rfl (.int .u32 1)
 obtain⟨p',R',hp',hb',he⟩:=yY hr
 rw[hp] at hp';cases hp'
 rw[hb] at hb';cases hb'
 have he2:vs.getD 1 undef=.bool true:=by
  have:=hr.2 1 _ rfl
  cases h:vs.getD 1 undef<;>rw[h] at this<;>cases this
  rfl
 have hv:vs=#[.pointer (some ⟨R,p.bo+o,none⟩),.bool true]:=by
  have h1:=hr.1
  apply Array.ext
  ·simpa using h1
  ·intro i h3 h4
   match i,h3 with
   | 0,h3=>simpa[Array.getD_eq_getD_getElem?,Array.getElem?_eq_getElem h3] using he
   | 1,h3=>simpa[Array.getD_eq_getD_getElem?,Array.getElem?_eq_getElem h3] using he2
   | i+2,_=>simp at h4;omega
 subst hv
 refine(vE ⟨R,p.bo+o,none⟩ v0 .returning w (by simpa using hc) (by simpa using hz) rfl).mono ?_
 rintro e' u' w' ⟨rfl,rfl,rfl⟩
 exact⟨rfl,_,_,Φ,rfl,i1,hd.2.trans s1,hk⟩
end

section
def Se(op:Int):FuncId:=if op=11 then 207 else 208
def H6:T→FuncId
 | .leaf x=>FD x.op
 | .one _ _=>206
 | .two x _ _=>Se x.op
def lL:T→MV
 | .leaf x=>Le x
 | .one _ a=>.fn (.func 206) [] [.cptr [lL a]]
 | .two x a b=>.fn (.func (Se x.op)) [] [.cptr [lL a],.cptr [lL b]]
def H5:T→List MV
 | .leaf x=>FC x
 | .one _ a=>[.cptr [lL a]]
 | .two _ a b=>[.cptr [lL a],.cptr [lL b]]
theorem l9:∀t:T,lL t=.fn (.func (H6 t)) [] (H5 t)
 | .leaf _=>rfl
 | .one _ _=>rfl
 | .two _ _ _=>rfl
theorem RN(x:ND)(c:CD)(g:Nat):(T.leaf x).sem (cI c g)=cI c g x:=by
 by_cases h1:x.op=1
 ·simp[T.sem,cI,h1]
 ·by_cases h2:x.op=2
  ·simp[T.sem,cI,h2]
  ·simp[T.sem,h1,h2]
theorem KF(c:CA)(hc:∀k,(c.f.get k).s.size≤1000000)(g:Nat)(hg:g<4294967296):∀t:T,Good t→aA Tryz.prog (H6 t) (.cptr c.c::.int .u32 (g:Int)::H5 t) St.none (fun r _=>r=.bool (t.sem (cI (pD c) g)))
 | .leaf x,h=>by
  rw[RN]
  exact We c hc g hg x (h.2 x (by simp[T.fl]))
 | .one x a,h=>by
  have ih:=KF c hc g hg a (zW.1 h).2.2
  have ha:=l9 a
  have e:(T.one x a).sem (cI (pD c) g)=!a.sem (cI (pD c) g):=by simp[T.sem]
  rw[e]
  show aA Tryz.prog 206 [.cptr c.c,.int .u32 (g:Int),.cptr [lL a]] St.none _
  rw[ha]
  refine(mB 11 [.tmp 5] Tryz.func206 ?_)
  generalize c.c=cells at ih ⊢
  repeat' first|(with_reducible first|refine up ih ?_)|refine wZ1 @Tryz.f206.eq_1 ?_|exact wC1 @Tryz.f206.eq_1|fail
 | .two x a b,h=>by
  obtain⟨q1,_,ga,gb⟩:=zX.1 h
  have ia:=KF c hc g hg a ga
  have ib:=KF c hc g hg b gb
  have ha:=l9 a
  have hb:=l9 b
  have hs:(T.two x a b).sem (cI (pD c) g)=if x.op=11 then a.sem (cI (pD c) g)&&b.sem (cI (pD c) g) else a.sem (cI (pD c) g) || b.sem (cI (pD c) g):=by
   by_cases e:x.op=11<;>simp[T.sem,e]
  rw[hs]
  show aA Tryz.prog (Se x.op) [.cptr c.c,.int .u32 (g:Int),.cptr [lL a],.cptr [lL b]] St.none _
  rw[ha,hb]
  unfold Se
  generalize c.c=cells at ia ib ⊢
  generalize a.sem (cI (pD c) g)=sa at ia ⊢
  generalize b.sem (cI (pD c) g)=sb at ib ⊢
  by_cases e:x.op=11
  ·rw[if_pos e,if_pos e]
   refine(mB 17 [.tmp 6] Tryz.func207 ?_)
   cases sa
   all_goals
    repeat' first|(with_reducible first|refine up ia ?_|refine up ib ?_)|refine wZ1 @Tryz.f207.eq_1 ?_|exact wC1 @Tryz.f207.eq_1|fail
    all_goals first|rfl|(cases sb<;>rfl)
  ·rw[if_neg e,if_neg e]
   refine(mB 17 [.tmp 6] Tryz.func208 ?_)
   cases sa
   all_goals
    repeat' first|(with_reducible first|refine up ia ?_|refine up ib ?_)|refine wZ1 @Tryz.f208.eq_1 ?_|fail
    all_goals first|rfl|(cases sb<;>rfl)
end

section
theorem qL{σ:St}{l:Nat}{t:TypeId}{m:MV}(h:σ l=some (.row t 1 [[m]])):View σ (.ptr l 0 0) (.cptr [m]):=View.ptr (i:=0) (o:=0) h (by simp)
theorem nV:∀T:T,Good T→∀(r:List ND) (t:Bool),(T.fl++r).length≤1000000→aA Tryz.prog 138 [.lst 5 ((T.fl++r).map ND.c) t] St.none (fun v _=>v=.tup [lL T,.lst 5 (r.map ND.c) false])
 | .leaf x,h,r,t,hl=>by
  refine aA.seen (mB 42 [.tmp 2,.tmp 3] Tryz.func138 ?_)
  have hp:=iJ x.op
  have h0:parts x.op=0:=h.1
  rw[h0] at hp
  have hlf:=MR x
  simp only[T.fl,List.cons_append,List.nil_append,List.map_cons,lL,List.length_cons] at hl ⊢
  generalize Le x=lv at hlf ⊢
  repeat' first|(with_reducible first|refine up hp ?_|refine up hlf ?_)|(refine wO ?_;intros)|refine wZ1 @Tryz.f138.eq_1 ?_|fail
  exact .two (.same _) .loose
 | .one x a,h,r,t,hl=>by
  refine aA.seen (mB 42 [.tmp 2,.tmp 3] Tryz.func138 ?_)
  have h0:parts x.op=1:=h.1.1
  have hop:=CI h0
  have hp:aA Tryz.prog 204 [.int .i64 10] St.none (fun r _=>r=.int .i64 1):=iJ 10
  simp only[T.fl,List.cons_append,List.length_cons] at hl
  have ih:=nV a (zW.1 h).2.2 r t oM
  have e:((T.one x a).fl++r).map ND.c=x.c::(a.fl++r).map ND.c:=rfl
  rw[e]
  simp only[lL]
  rw[l9 a] at ih ⊢
  generalize H6 a=fa at ih ⊢
  generalize H5 a=ca at ih ⊢
  have hlen:((a.fl++r).map ND.c).length=(a.fl++r).length:=List.length_map _
  generalize (a.fl++r).map ND.c=l1 at ih hlen ⊢
  repeat' first|(with_reducible first|refine up hp ?_|refine up ih ?_)|(refine wO ?_;intros)|refine wZ2 @Tryz.f138.eq_1 @hop ?_|fail
  exact .two (.fn rfl (rG (qL (t:=190) sS))) (.same _)
 | .two x a b,h,r,t,hl=>by
  refine aA.seen (mB 42 [.tmp 2,.tmp 3] Tryz.func138 ?_)
  obtain⟨q1,_,ga,gb⟩:=zX.1 h
  have hp11:aA Tryz.prog 204 [.int .i64 11] St.none (fun r _=>r=.int .i64 2):=iJ 11
  have hp12:aA Tryz.prog 204 [.int .i64 12] St.none (fun r _=>r=.int .i64 2):=iJ 12
  simp only[T.fl,List.cons_append,List.length_cons,List.append_assoc] at hl
  have ia:=nV a ga (b.fl++r) t oM
  have ib:=nV b gb r false (by simp only[List.length_append] at hl ⊢;omega)
  have e:((T.two x a b).fl++r).map ND.c=x.c::(a.fl++(b.fl++r)).map ND.c:=by simp[T.fl]
  rw[e]
  simp only[lL]
  rw[l9 a] at ia ⊢
  rw[l9 b] at ib ⊢
  generalize H6 a=fa at ia ⊢
  generalize H5 a=ca at ia ⊢
  generalize H6 b=fb at ib ⊢
  generalize H5 b=cb at ib ⊢
  have hlen:((a.fl++(b.fl++r)).map ND.c).length=(a.fl++(b.fl++r)).length:=List.length_map _
  generalize (a.fl++(b.fl++r)).map ND.c=l1 at ia hlen ⊢
  generalize (b.fl++r).map ND.c=l2 at ia ib ⊢
  unfold Se
  rcases CJ q1 with h1|h1<;>rw[h1]
  ·rw[if_pos rfl]
   repeat' first|(with_reducible first|refine up hp11 ?_|refine up ia ?_|refine up ib ?_)|(refine wO ?_;intros)|refine wZ2 @Tryz.f138.eq_1 @h1 ?_|fail
   exact .two (.fn rfl (lJ (qL (t:=190) sS) (qL (t:=190) sS))) (.same _)
  ·rw[if_neg (by decide)]
   repeat' first|(with_reducible first|refine up hp12 ?_|refine up ia ?_|refine up ib ?_)|(refine wO ?_;intros)|refine wZ2 @Tryz.f138.eq_1 @h1 ?_|fail
   exact .two (.fn rfl (lJ (qL (t:=190) sS) (qL (t:=190) sS))) (.same _)
end

section
theorem dL{P:Program}{g:FuncId}{ms:List MV}{σ σ1:St}{r:MV}{k:MV→St→Prop}(h:aA P g ms σ fun v τ=>v=r∧τ=σ1)(hk:R (bY r σ1 k)):R (cU P g ms σ k) :=
 h.mono fun v τ q=>by
  obtain⟨rfl,rfl⟩:=q
  exact hk
abbrev flO(L:MV)(d s:Int)(a:MV):aW:=.row 192 5 [[L,.int .u32 d,.int .i32 s,.int .u32 0,a]]
abbrev flS(p f:Nat)(L:MV)(d s:Int)(a:MV):St:=(St.none.set p (.row 79 1 [[.ptr f 0 0]])).set f (flO L d s a)
theorem FI{T:T}(hT:Good T)(hl:T.fl.length≤1000000){p f:Nat}(hpf:p≠f)(t:Bool):aA Tryz.prog 137 [.ptr p 0 0] (flS p f (.lst 5 (T.fl.map ND.c) t) 0 1 .nilfn) (fun v σ'=>v=.tup []∧σ'=flS p f (.lst 5 (T.fl.map ND.c) t) 0 1 (lL T)):=by
 refine(mB 12 [] Tryz.func137 ?_)
 have hb:=nV T hT [] t (by simpa using hl)
 rw[List.append_nil,List.map_nil] at hb
 have hfp:=Ne.symm hpf
 rw[l9] at hb ⊢
 generalize H6 T=fa at hb ⊢
 generalize H5 T=ca at hb ⊢
 obtain⟨C,c1⟩:=kw1 138 ⟨[],fun v=>v=.tup [.fn (.func fa) [] ca,.lst 5 [] false],none⟩
 repeat' first|((with_reducible refine aI mixed ?chk C ?_);(case chk=>decide +kernel))|(with_reducible refine aG (c1 _) hb ?_)|refine wZ1 @Tryz.f137.eq_1 ?_|exact wC1 @Tryz.f137.eq_1|fail
 all_goals first|exact⟨rfl,rfl⟩|rfl|skip
theorem BB{T:T}(hT:Good T)(hl:T.fl.length≤1000000){p f:Nat}(hpf:p≠f)(t:Bool):aA Tryz.prog 203 [.ptr f 0 1,.fn (.func 137) [] [.ptr p 0 0]] (flS p f (.lst 5 (T.fl.map ND.c) t) 0 0 .nilfn) (fun v σ'=>v=.tup []∧σ'=flS p f (.lst 5 (T.fl.map ND.c) t) 1 0 (lL T)):=by
 refine(mB 21 [] Tryz.func203 ?_)
 have hm:=FI hT hl hpf t
 have hfp:=Ne.symm hpf
 have h0:=IX (l:=f) (o:=2) (e:=5) (t:=192) (x:=[.lst 5 (T.fl.map ND.c) t,.int .u32 0,.int .i32 0,.int .u32 0,.nilfn]) rfl
 have h1:=o8 (l:=f) (o:=1) (e:=5) (t:=192) (x:=[.lst 5 (T.fl.map ND.c) t,.int .u32 0,.int .i32 1,.int .u32 0,.nilfn]) (n:=0) rfl
 repeat' first|(refine cZ (aD _ _ _) h0 ?_)|(refine cZ (by simp[St.set]) h1 ?_)|(refine dL hm ?_)|(refine C4 (aD _ _ _) rfl ?_)|(refine HU (aD _ _ _) rfl ?_)|refine wZ1 @Tryz.f203.eq_1 ?_|exact wC1 @Tryz.f203.eq_1|fail
 all_goals skip
theorem GG{T:T}(hT:Good T)(hl:T.fl.length≤1000000){p f:Nat}(hpf:p≠f)(t:Bool):aA Tryz.prog 136 [.ptr f 0 1,.fn (.func 137) [] [.ptr p 0 0]] (flS p f (.lst 5 (T.fl.map ND.c) t) 0 0 .nilfn) (fun v σ'=>v=.tup []∧σ'=flS p f (.lst 5 (T.fl.map ND.c) t) 1 0 (lL T)):=by
 refine(mB 12 [] Tryz.func136 ?_)
 have hm:=BB hT hl hpf t
 have h1:=o8 (l:=f) (o:=1) (e:=5) (t:=192) (x:=[.lst 5 (T.fl.map ND.c) t,.int .u32 0,.int .i32 0,.int .u32 0,.nilfn]) (n:=0) rfl
 repeat' first|(refine cZ (aD _ _ _) h1 ?_)|(refine dL hm ?_)|refine wZ1 @Tryz.f136.eq_1 ?_|exact wC1 @Tryz.f136.eq_1|fail
 all_goals first|done|exact⟨rfl,rfl⟩
theorem DU{L a:MV}{p f:Nat}(hpf:p≠f):aA Tryz.prog 136 [.ptr f 0 1,.fn (.func 137) [] [.ptr p 0 0]] (flS p f L 1 0 a) (fun v σ'=>v=.tup []∧σ'=flS p f L 1 0 a):=by
 refine(mB 12 [] Tryz.func136 ?_)
 have h1:=o8 (l:=f) (o:=1) (e:=5) (t:=192) (x:=[L,.int .u32 1,.int .i32 0,.int .u32 0,a]) (n:=1) rfl
 repeat' first|(refine cZ (aD _ _ _) h1 ?_)|refine wZ1 @Tryz.f136.eq_1 ?_|exact wC1 @Tryz.f136.eq_1|fail
 all_goals first|done|exact⟨rfl,rfl⟩
theorem VN{P:Program}{g:FuncId}{ms:List MV}{σ:St}{p f:Nat}{op of of':aW}{r:MV}{k:MV→St→Prop}(hpf:p≠f)(hp:σ p=some op)(hf:σ f=some of)
 (h:aA P g ms ((St.none.set p op).set f of) fun v σ'=>v=r∧σ'=(St.none.set p op).set f of')(hk:R (bY r (σ.set f of') k)):R (cU P g ms σ k) :=
 bJ h (le2 hp hf) fun v σ' q _=>by
  obtain⟨rfl,rfl⟩:=q
  have e:((St.none.set p op).set f of').over (σ.minus ((St.none.set p op).set f of))=σ.set f of':=by
   funext j
   by_cases h1:j=f
   ·subst h1;simp[St.over,St.set]
   ·by_cases h2:j=p
    ·subst h2;simp[St.over,St.set,h1,hp]
    ·simp[St.over,St.set,St.minus,h1,h2,St.none]
  rw[e]
  exact hk
theorem Kw{σ:St}{a a':MV}{l:List MV}(h:View σ a a'):∀(i:Nat) (m m':MV),(a::l)[i]?=some m→(a'::l)[i]?=some m'→View σ m m':=fun i m m' h1 h2=>by
 match i with
 | 0=>simp at h1 h2;subst h1 h2;exact h
 | i+1=>simp at h1 h2;rw[h1] at h2;cases h2;exact .same _
theorem Dl{T:T}(hT:Good T)(hl:T.fl.length≤1000000)(c:CA)(hc:∀k,(c.f.get k).s.size≤1000000)(g:Nat)(hg:g<4294967296)(f:Nat)(t d:Bool) :
  aA Tryz.prog 66 [.ptr f 0 0,.agg c.c,.int .u32 (g:Int)] (St.none.set f (flO (.lst 5 (T.fl.map ND.c) t) (if d=true then 1 else 0) 0 (if d=true then lL T else .nilfn))) (fun v σ'=>v=.bool (T.sem (cI (pD c) g))∧σ'=St.none.set f (flO (.lst 5 (T.fl.map ND.c) t) 1 0 (lL T))):=by
 refine aA.less (Q':=fun v σ'=>v=.bool (T.sem (cI (pD c) g))∧(St.none.set f (flO (.lst 5 (T.fl.map ND.c) t) 1 0 (lL T))).le σ') (mB 20 [.tmp 6] Tryz.func66 ?_) fun v σ' h=>⟨_,h.2,h.1,rfl⟩
 have hdo:∀{p},p≠f→aA Tryz.prog 136 [.ptr f 0 1,.fn (.func 137) [] [.ptr p 0 0]] (flS p f (.lst 5 (T.fl.map ND.c) t) (if d=true then 1 else 0) 0 (if d=true then lL T else .nilfn)) (fun v σ'=>v=.tup []∧σ'=flS p f (.lst 5 (T.fl.map ND.c) t) 1 0 (lL T)):=fun {p} hp=>by
  cases d
  ·exact GG hT hl hp t
  ·exact DU hp
 have ha:=KF c hc g hg T hT
 rw[l9] at hdo ⊢
 generalize H6 T=fa at ha hdo ⊢
 generalize H5 T=ca at ha hdo ⊢
 generalize T.sem (cI (pD c) g)=out at ha ⊢
 have hlen:c.c.length=27:=by simp[CA.c,cN]
 have hcell:c.c.all MV.aL=true:=by simp only[CA.c,List.all_cons,dS];rfl
 generalize c.c=cells at ha hlen hcell ⊢
 obtain⟨dn,hdn⟩:∃x:Int,(if d=true then 1 else 0)=x:=⟨_,rfl⟩
 obtain⟨av,hav⟩:∃x:MV,(if d=true then MV.fn (.func fa) [] ca else .nilfn)=x:=⟨_,rfl⟩
 rw[hdn,hav] at hdo ⊢
 repeat' first|(refine VN (by assumption) sS sS (hdo (by assumption)) ?_)|(refine nQ (.cptr cells::.int .u32 (g:Int)::ca) ha (by constructor) rfl (Kw (View.ptr (i:=0) (o:=0) (aD _ _ _) (by simp))) ?_)|(refine wO ?_;intros)|refine wZ3 @Tryz.f66.eq_1 @hlen @hcell ?_|fail
 all_goals exact St.aB (St.none_le _) sS
end

section
abbrev UpI(l:List Int):Prop:=l.Pairwise (·<·)
theorem EG:∀{last:Int} {l:List Int},rQ last l=true→UpI l∧∀x,x∈l→last<x∧1≤x∧x<1073741824
 | _,[],_=>⟨.nil,by simp⟩
 | last,x::l,h=>by
  rw[rQ,Bool.and_eq_true,decide_eq_true_eq] at h
  obtain⟨⟨h1,h2,h3⟩,h4⟩:=h
  unfold mG at h3
  obtain⟨i1,i2⟩:=EG h4
  refine⟨List.pairwise_cons.2 ⟨fun y hy=>(i2 y hy).1,i1⟩,fun y hy=>?_⟩
  rcases List.mem_cons.1 hy with rfl|hy
  ·exact⟨h1,h2,h3⟩
  ·obtain⟨a,b,c⟩:=i2 y hy
   exact⟨by omega,b,c⟩
theorem Sg{nx last:Int}{cs:List CA}(h:jV nx last cs=true):UpI (cs.map CA.id):=List.pairwise_map.2 (mA h).2
end
end Go.Proofs.YtppdgejjmhdjhaaGreatDoor
