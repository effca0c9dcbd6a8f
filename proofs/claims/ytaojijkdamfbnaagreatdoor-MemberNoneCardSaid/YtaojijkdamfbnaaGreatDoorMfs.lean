/- Parts of the proof, joined; conditions: those that its theorems name. -/
import Derived.Test.YtaojijkdamfbnaaGreatDoorMfr
import Derived.Defers
import Derived.Laws.Pointers
import Derived.RegionTactic
import Derived.RegionCalls
set_option linter.unusedVariables false
set_option linter.unusedSimpArgs false
set_option maxHeartbeats 4000000
namespace Go.Proofs.YtaojijkdamfbnaaGreatDoor
section
set_option maxRecDepth 100000
theorem Sfx.get{bs:BL}{r:RD}(h:Sfx bs r){i:Nat}(hi:i<r.l.length):bs.getD (bs.length - r.l.length+i) 0=r.l.getD i 0:=by
 have:=h.drop
 rw[←this,List.getD_eq_getElem?_getD,List.getD_eq_getElem?_getD,List.getElem?_drop,this]
end

section
set_option maxRecDepth 100000
class Few (bs:BL):Prop where
 h:bs.length≤1000000
end

section
set_option maxRecDepth 100000
set_option maxHeartbeats 4000000
theorem Cr(a:Addr)(n:Int)(w:World)(hc:w.cell? a=some (.int .u32 n))(hs:a.spot=none):Calls Tryz.prog 127 #[.pointer (some a)] w fun e w'=>e=.returned (.bool (n != 0))∧w'=w:=by
 obtain⟨b,off,sub⟩:=a
 simp only at hs
 subst hs
 have hl:=run_call_load (P:=Tryz.prog) Tryz.func159 (by kernel_rfl) (by kernel_rfl) (by kernel_rfl) .u32 (by kernel_rfl) hc
 go_enter Tryz.func127,Tryz.ntmps127
 go_wp2
 go_ret
 exact⟨rfl,rfl⟩
theorem pT(a:Addr)(x:Value)(u:FrameMode)(w:World)(hc:w.cell? a=some x)(hz:w.frozen? a=false)(hs:a.spot=none) :
  CallsD Tryz.prog 162 #[.pointer (some a),.bool true] u w fun e u' w'=>u'=u∧(e=.returned (.tuple #[])∧w'=w.drew.setCell a (.int .u32 1)):=by
 obtain⟨b,off,sub⟩:=a
 simp only at hs
 subst hs
 have hc':w.drew.cell? ⟨b,off,none⟩=some x:=by go_simp
 have hz':w.drew.frozen? ⟨b,off,none⟩=false:=by go_simp
 have hst:=run_call_store (P:=Tryz.prog) Tryz.func194 (by kernel_rfl) (by kernel_rfl) (by kernel_rfl) (by kernel_rfl) (k:=.u32) (y:=1) hc' hz'
 go_enter_d Tryz.func162,Tryz.ntmps162
 go_wp2
 go_region_calls
 all_goals (go_end0;exact⟨rfl,rfl⟩)
theorem lO{l o e:Nat}{t:TypeId}{x:List MV}{n:Int}(hx:x[o]?=some (.int .u32 n)):aA Tryz.prog 127 [.ptr l 0 o] (St.none.set l (.row t e [x])) (fun v σ'=>v=.bool (n != 0)∧σ'=St.none.set l (.row t e [x])):=by
 refine⟨⟨_,Tryz.func127,rfl,rfl⟩,fun Φ w vs hi hr=>?_⟩
 obtain⟨p,R,v0,hp,hb,hc,hr0,hz,i1,s1⟩:=kQ hi (aF _ _ _) hx (m:=.int .u32 n) rfl (.int .u32 n)
 have e0:=hr0.aU
 subst e0
 obtain⟨p',R',hp',hb',he⟩:=rZ hr
 rw[hp] at hp';cases hp'
 rw[hb] at hb';cases hb'
 have hv:vs=#[.pointer (some ⟨R,p.bo+o,none⟩)]:=by
  have h1:=hr.1
  apply Array.ext
  ·simpa using h1
  ·intro i h3 h4
   have:i=0:=by simp at h4;omega
   subst this
   simpa[Array.getD_eq_getD_getElem?,Array.getElem?_eq_getElem h3] using he
 subst hv
 refine(Cr ⟨R,p.bo+o,none⟩ n w hc rfl).mono ?_
 rintro e' w' ⟨rfl,rfl⟩
 exact⟨_,_,_,Φ,rfl,.bool _,hi,.refl _ _ _,rfl,rfl⟩
theorem Dh{l o e:Nat}{t:TypeId}{x:List MV}(hx:x[o]?=some (.int .i32 0)):aA Tryz.prog 160 [.ptr l 0 o] (St.none.set l (.row t e [x])) (fun v σ'=>v=.tup []∧σ'=St.none.set l (.row t e [x.set o (.int .i32 1)])):=by
 refine⟨⟨_,Tryz.func160,rfl,rfl⟩,fun Φ w vs hi hr=>?_⟩
 obtain⟨p,R,v0,hp,hb,hc,hr0,hz,i1,s1⟩:=kQ hi (aF _ _ _) hx (m:=.int .i32 1) rfl (.int .i32 1)
 have e0:=hr0.aU
 subst e0
 obtain⟨p',R',hp',hb',he⟩:=rZ hr
 rw[hp] at hp';cases hp'
 rw[hb] at hb';cases hb'
 have hv:vs=#[.pointer (some ⟨R,p.bo+o,none⟩)]:=by
  have h1:=hr.1
  apply Array.ext
  ·simpa using h1
  ·intro i h3 h4
   have:i=0:=by simp at h4;omega
   subst this
   simpa[Array.getD_eq_getD_getElem?,Array.getElem?_eq_getElem h3] using he
 subst hv
 refine(Go.MuLone.lock_free Jp ⟨R,p.bo+o,none⟩ w hc hz).mono ?_
 rintro e' w' ⟨rfl,rfl⟩
 refine⟨_,.tup [],_,Φ,rfl,.tup rfl (by simp),i1,s1,rfl,?_⟩
 rw[set_set]
theorem Cl{σ:St}{K:St→Prop}{l o e:Nat}{t:TypeId}{x:List MV}(hs:σ l=some (.row t e [x]))(hx:x[o]?=some (.int .i32 1))(hk:R (K (σ.set l (.row t e [x.set o (.int .i32 0)])))):R (x0 Tryz.prog 161 [.ptr l 0 o] σ K):=by
 refine⟨_,Jp.f_unlock,rfl,rfl,fun Φ w vs hi hr=>?_⟩
 obtain⟨p,R,v0,hp,hb,hc,hr0,hz,i1,s1⟩:=kQ hi hs hx (m:=.int .i32 0) rfl (.int .i32 0)
 have e0:=hr0.aU
 subst e0
 obtain⟨p',R',hp',hb',he⟩:=rZ hr
 rw[hp] at hp';cases hp'
 rw[hb] at hb';cases hb'
 have hv:vs=#[.pointer (some ⟨R,p.bo+o,none⟩)]:=by
  have h1:=hr.1
  apply Array.ext
  ·simpa using h1
  ·intro i h3 h4
   have:i=0:=by simp at h4;omega
   subst this
   simpa[Array.getD_eq_getD_getElem?,Array.getElem?_eq_getElem h3] using he
 subst hv
 refine(Go.MuLone.unlock_deferred Jp ⟨R,p.bo+o,none⟩ .returning w hc hz).mono ?_
 rintro e' u' w' ⟨rfl,rfl,rfl⟩
 exact⟨rfl,_,_,Φ,rfl,i1,s1,hk⟩
theorem x6{σ:St}{K:St→Prop}{l o e:Nat}{t:TypeId}{x:List MV}{n:Int}(hs:σ l=some (.row t e [x]))(hx:x[o]?=some (.int .u32 n))(hk:R (K (σ.set l (.row t e [x.set o (.int .u32 1)])))):R (x0 Tryz.prog 162 [.ptr l 0 o,.bool true] σ K):=by
 refine⟨_,Tryz.func162,rfl,rfl,fun Φ w vs hi hr=>?_⟩
 have hd:=hi.grow (w':=w.drew) rfl rfl rfl (iM (Nat.le_succ _)) (Nat.le_refl _) (fun _ _=>rfl)
 obtain⟨p,R,v0,hp,hb,hc,hr0,hz,i1,s1⟩:=kQ hd.1 hs hx (m:=.int .u32 1) rfl (.int .u32 1)
 obtain⟨p',R',hp',hb',he⟩:=rZ hr
 rw[hp] at hp';cases hp'
 rw[hb] at hb';cases hb'
 have he2:vs.getD 1 undef=.bool true:=by
  have:=hr.2 1 _ rfl
  cases h:vs.getD 1 undef<;>rw[h] at this<;>cases this
  rfl
 have hv:vs=#[.pointer (some ⟨R,p.bo+o,none⟩),.bool true]:=by
  have h1:=hr.1
  apply Array.ext
  ·simpa using h1
  ·intro i h3 h4
   match i,h3 with
   | 0,h3=>simpa[Array.getD_eq_getD_getElem?,Array.getElem?_eq_getElem h3] using he
   | 1,h3=>simpa[Array.getD_eq_getD_getElem?,Array.getElem?_eq_getElem h3] using he2
   | i+2,_=>simp at h4;omega
 subst hv
 refine(pT ⟨R,p.bo+o,none⟩ v0 .returning w (by simpa using hc) (by simpa using hz) rfl).mono ?_
 rintro e' u' w' ⟨rfl,rfl,rfl⟩
 exact⟨rfl,_,_,Φ,rfl,i1,hd.2.trans s1,hk⟩
end

section
set_option maxRecDepth 100000
set_option maxHeartbeats 4000000
def Ke(op:Int):FuncId:=if op=11 then 131 else 132
def Cu:T→FuncId
 | .leaf x=>A0 x.op
 | .one _ _=>130
 | .two x _ _=>Ke x.op
def iT:T→MV
 | .leaf x=>xF x
 | .one _ a=>.fn (.func 130) [] [.cptr [iT a]]
 | .two x a b=>.fn (.func (Ke x.op)) [] [.cptr [iT a],.cptr [iT b]]
def Ct:T→List MV
 | .leaf x=>xE x
 | .one _ a=>[.cptr [iT a]]
 | .two _ a b=>[.cptr [iT a],.cptr [iT b]]
theorem jT:∀t:T,iT t=.fn (.func (Cu t)) [] (Ct t)
 | .leaf _=>rfl
 | .one _ _=>rfl
 | .two _ _ _=>rfl
theorem J0(x:ND)(c:CD)(g:Nat):(T.leaf x).sem (eZ c g)=eZ c g x:=by
 by_cases h1:x.op=1
 ·simp[T.sem,eZ,h1]
 ·by_cases h2:x.op=2
  ·simp[T.sem,eZ,h2]
  ·simp[T.sem,h1,h2]
theorem EB(c:CA)(hc:∀k,(c.f.get k).s.size≤1000000)(g:Nat)(hg:g<4294967296):∀t:T,Good t→aA Tryz.prog (Cu t) (.cptr c.c::.int .u32 (g:Int)::Ct t) St.none (fun r _=>r=.bool (t.sem (eZ (nC c) g)))
 | .leaf x,h=>by
  rw[J0]
  exact Ns c hc g hg x (h.2 x (by simp[T.fl]))
 | .one x a,h=>by
  have ih:=EB c hc g hg a (AK.1 h).2.2
  have ha:=jT a
  have e:(T.one x a).sem (eZ (nC c) g)=!a.sem (eZ (nC c) g):=by simp[T.sem]
  rw[e]
  show aA Tryz.prog 130 [.cptr c.c,.int .u32 (g:Int),.cptr [iT a]] St.none _
  rw[ha]
  refine(aA.body 11 [.tmp 5] Tryz.func130 rfl rfl rfl rfl ?_)
  generalize c.c=cells at ih ⊢
  repeat' (first|(with_reducible first|refine up ih ?_)|(with_reducible first|(refine wN fun _ hnl=>?_;revert hnl;(repeat refine wS fun _ _=>?_);intro hnl)|refine wE ?_|(refine wK ?_ ?_<;>intro h)|(refine wB ?_ ?_<;>intro h<;>simp only[h]))|simp(maxSteps:=4000000) (disch:=first|exact ddL|fail) only[go_sem,simprocAttr,Tryz.f130])
 | .two x a b,h=>by
  obtain⟨q1,_,ga,gb⟩:=AL.1 h
  have ia:=EB c hc g hg a ga
  have ib:=EB c hc g hg b gb
  have ha:=jT a
  have hb:=jT b
  have hs:(T.two x a b).sem (eZ (nC c) g)=if x.op=11 then a.sem (eZ (nC c) g)&&b.sem (eZ (nC c) g) else a.sem (eZ (nC c) g) || b.sem (eZ (nC c) g):=by
   by_cases e:x.op=11<;>simp[T.sem,e]
  rw[hs]
  show aA Tryz.prog (Ke x.op) [.cptr c.c,.int .u32 (g:Int),.cptr [iT a],.cptr [iT b]] St.none _
  rw[ha,hb]
  unfold Ke
  generalize c.c=cells at ia ib ⊢
  generalize a.sem (eZ (nC c) g)=sa at ia ⊢
  generalize b.sem (eZ (nC c) g)=sb at ib ⊢
  by_cases e:x.op=11
  ·rw[if_pos e,if_pos e]
   refine(aA.body 17 [.tmp 6] Tryz.func131 rfl rfl rfl rfl ?_)
   cases sa
   all_goals
    repeat' (first|(with_reducible first|refine up ia ?_|refine up ib ?_)|(with_reducible first|(refine wN fun _ hnl=>?_;revert hnl;(repeat refine wS fun _ _=>?_);intro hnl)|refine wE ?_|(refine wK ?_ ?_<;>intro h)|(refine wB ?_ ?_<;>intro h<;>simp only[h]))|simp(maxSteps:=4000000) (disch:=first|exact ddL|fail) only[go_sem,simprocAttr,Tryz.f131])
    all_goals first|rfl|(cases sb<;>rfl)
  ·rw[if_neg e,if_neg e]
   refine(aA.body 17 [.tmp 6] Tryz.func132 rfl rfl rfl rfl ?_)
   cases sa
   all_goals
    repeat' (first|(with_reducible first|refine up ia ?_|refine up ib ?_)|(with_reducible first|(refine wN fun _ hnl=>?_;revert hnl;(repeat refine wS fun _ _=>?_);intro hnl)|refine wE ?_|(refine wK ?_ ?_<;>intro h)|(refine wB ?_ ?_<;>intro h<;>simp only[h]))|simp(maxSteps:=4000000) (disch:=first|exact ddL|fail) only[go_sem,simprocAttr,Tryz.f132])
    all_goals first|rfl|(cases sb<;>rfl)
end

section
set_option maxRecDepth 100000
set_option maxHeartbeats 4000000
theorem mP{σ:St}{l:Nat}{t:TypeId}{m:MV}(h:σ l=some (.row t 1 [[m]])):View σ (.ptr l 0 0) (.cptr [m]):=View.ptr (i:=0) (o:=0) h (by simp)
theorem kO:∀T:T,Good T→∀(r:List ND) (t:Bool),(T.fl++r).length≤1000000→aA Tryz.prog 90 [.lst 5 ((T.fl++r).map ND.c) t] St.none (fun v _=>v=.tup [iT T,.lst 5 (r.map ND.c) false])
 | .leaf x,h,r,t,hl=>by
  refine aA.seen (aA.body 42 [.tmp 2,.tmp 3] Tryz.func90 rfl rfl rfl rfl ?_)
  have hp:=fM x.op
  have h0:parts x.op=0:=h.1
  rw[h0] at hp
  have hlf:=Ga x
  simp only[T.fl,List.cons_append,List.nil_append,List.map_cons,iT,List.length_cons] at hl ⊢
  generalize xF x=lv at hlf ⊢
  repeat' (first|(with_reducible first|refine up hp ?_|refine up hlf ?_)|(with_reducible first|(refine wN fun _ hnl=>?_;revert hnl;(repeat refine wS fun _ _=>?_);intro hnl)|refine wE ?_|(refine wK ?_ ?_<;>intro h)|(refine wB ?_ ?_<;>intro h<;>simp only[h]))|simp(maxSteps:=4000000) (disch:=first|exact ddL|fail) only[go_sem,simprocAttr,Tryz.f90])
  exact .two (.same _) .loose
 | .one x a,h,r,t,hl=>by
  refine aA.seen (aA.body 42 [.tmp 2,.tmp 3] Tryz.func90 rfl rfl rfl rfl ?_)
  have h0:parts x.op=1:=h.1.1
  have hop:=Hj h0
  have hp:aA Tryz.prog 125 [.int .i64 10] St.none (fun r _=>r=.int .i64 1):=fM 10
  simp only[T.fl,List.cons_append,List.length_cons] at hl
  have ih:=kO a (AK.1 h).2.2 r t (by omega)
  have e:((T.one x a).fl++r).map ND.c=x.c::(a.fl++r).map ND.c:=rfl
  rw[e]
  simp only[iT]
  rw[jT a] at ih ⊢
  generalize Cu a=fa at ih ⊢
  generalize Ct a=ca at ih ⊢
  have hlen:((a.fl++r).map ND.c).length=(a.fl++r).length:=List.length_map _
  generalize (a.fl++r).map ND.c=l1 at ih hlen ⊢
  repeat' (first|(with_reducible first|refine up hp ?_|refine up ih ?_)|(with_reducible first|(refine wN fun _ hnl=>?_;revert hnl;(repeat refine wS fun _ _=>?_);intro hnl)|refine wE ?_|(refine wK ?_ ?_<;>intro h)|(refine wB ?_ ?_<;>intro h<;>simp only[h]))|simp(maxSteps:=4000000) (disch:=first|exact ddL|fail) only[go_sem,simprocAttr,Tryz.f90,hop])
  exact .two (.fn rfl (mZ (mP (t:=109) (by simp[St.set, *])))) (.same _)
 | .two x a b,h,r,t,hl=>by
  refine aA.seen (aA.body 42 [.tmp 2,.tmp 3] Tryz.func90 rfl rfl rfl rfl ?_)
  obtain⟨q1,_,ga,gb⟩:=AL.1 h
  have hp11:aA Tryz.prog 125 [.int .i64 11] St.none (fun r _=>r=.int .i64 2):=fM 11
  have hp12:aA Tryz.prog 125 [.int .i64 12] St.none (fun r _=>r=.int .i64 2):=fM 12
  simp only[T.fl,List.cons_append,List.length_cons,List.append_assoc] at hl
  have ia:=kO a ga (b.fl++r) t (by omega)
  have ib:=kO b gb r false (by simp only[List.length_append] at hl ⊢;omega)
  have e:((T.two x a b).fl++r).map ND.c=x.c::(a.fl++(b.fl++r)).map ND.c:=by simp[T.fl]
  rw[e]
  simp only[iT]
  rw[jT a] at ia ⊢
  rw[jT b] at ib ⊢
  generalize Cu a=fa at ia ⊢
  generalize Ct a=ca at ia ⊢
  generalize Cu b=fb at ib ⊢
  generalize Ct b=cb at ib ⊢
  have hlen:((a.fl++(b.fl++r)).map ND.c).length=(a.fl++(b.fl++r)).length:=List.length_map _
  generalize (a.fl++(b.fl++r)).map ND.c=l1 at ia hlen ⊢
  generalize (b.fl++r).map ND.c=l2 at ia ib ⊢
  unfold Ke
  rcases Hk q1 with h1|h1<;>rw[h1]
  ·rw[if_pos rfl]
   repeat' (first|(with_reducible first|refine up hp11 ?_|refine up ia ?_|refine up ib ?_)|(with_reducible first|(refine wN fun _ hnl=>?_;revert hnl;(repeat refine wS fun _ _=>?_);intro hnl)|refine wE ?_|(refine wK ?_ ?_<;>intro h)|(refine wB ?_ ?_<;>intro h<;>simp only[h]))|simp(maxSteps:=4000000) (disch:=first|exact ddL|fail) only[go_sem,simprocAttr,Tryz.f90,h1])
   exact .two (.fn rfl (nA (mP (t:=109) (by simp[St.set, *])) (mP (t:=109) (by simp[St.set, *])))) (.same _)
  ·rw[if_neg (by decide)]
   repeat' (first|(with_reducible first|refine up hp12 ?_|refine up ia ?_|refine up ib ?_)|(with_reducible first|(refine wN fun _ hnl=>?_;revert hnl;(repeat refine wS fun _ _=>?_);intro hnl)|refine wE ?_|(refine wK ?_ ?_<;>intro h)|(refine wB ?_ ?_<;>intro h<;>simp only[h]))|simp(maxSteps:=4000000) (disch:=first|exact ddL|fail) only[go_sem,simprocAttr,Tryz.f90,h1])
   exact .two (.fn rfl (nA (mP (t:=109) (by simp[St.set, *])) (mP (t:=109) (by simp[St.set, *])))) (.same _)
end

section
set_option maxRecDepth 100000
set_option maxHeartbeats 4000000
theorem eU{P:Program}{g:FuncId}{ms:List MV}{σ σ1:St}{r:MV}{k:MV→St→Prop}(h:aA P g ms σ fun v τ=>v=r∧τ=σ1)(hk:R (bR r σ1 k)):R (cX P g ms σ k) :=
 h.mono fun v τ q=>by
  obtain⟨rfl,rfl⟩:=q
  exact hk
abbrev flO(L:MV)(d s:Int)(a:MV):aV:=.row 111 5 [[L,.int .u32 d,.int .i32 s,.int .u32 0,a]]
abbrev flS(p f:Nat)(L:MV)(d s:Int)(a:MV):St:=(St.none.set p (.row 36 1 [[.ptr f 0 0]])).set f (flO L d s a)
theorem A7{T:T}(hT:Good T)(hl:T.fl.length≤1000000){p f:Nat}(hpf:p≠f)(t:Bool):aA Tryz.prog 89 [.ptr p 0 0] (flS p f (.lst 5 (T.fl.map ND.c) t) 0 1 .nilfn) (fun v σ'=>v=.tup []∧σ'=flS p f (.lst 5 (T.fl.map ND.c) t) 0 1 (iT T)):=by
 refine(aA.body 12 [] Tryz.func89 rfl rfl rfl rfl ?_)
 have hb:=kO T hT [] t (by simpa using hl)
 rw[List.append_nil,List.map_nil] at hb
 have hfp:=Ne.symm hpf
 rw[jT] at hb ⊢
 generalize Cu T=fa at hb ⊢
 generalize Ct T=ca at hb ⊢
 obtain⟨C,c1⟩:∃C:b9,∀ms,C 90 ms=some ⟨[],fun v=>v=.tup [.fn (.func fa) [] ca,.lst 5 [] false],none⟩:=⟨fnF [(90,⟨[],fun v=>v=.tup [.fn (.func fa) [] ca,.lst 5 [] false],none⟩)],fun _=>gZ⟩
 repeat' (first|((with_reducible refine aZ mixed ?chk C ?_);(case chk=>decide +kernel))|(with_reducible refine aW (c1 _) hb ?_)|(with_reducible first|(refine wN fun _ hnl=>?_;revert hnl;(repeat refine wS fun _ _=>?_);intro hnl)|refine wE ?_|(refine wK ?_ ?_<;>intro h)|(refine wB ?_ ?_<;>intro h<;>simp only[h]))|simp(maxSteps:=4000000) (disch:=first|exact ddL|fail) only[go_sem,simprocAttr,Tryz.f89])
 all_goals first|exact⟨rfl,rfl⟩|rfl|skip
theorem vM{T:T}(hT:Good T)(hl:T.fl.length≤1000000){p f:Nat}(hpf:p≠f)(t:Bool):aA Tryz.prog 128 [.ptr f 0 1,.fn (.func 89) [] [.ptr p 0 0]] (flS p f (.lst 5 (T.fl.map ND.c) t) 0 0 .nilfn) (fun v σ'=>v=.tup []∧σ'=flS p f (.lst 5 (T.fl.map ND.c) t) 1 0 (iT T)):=by
 refine(aA.body 21 [] Tryz.func128 rfl rfl rfl rfl ?_)
 have hm:=A7 hT hl hpf t
 have hfp:=Ne.symm hpf
 have h0:=Dh (l:=f) (o:=2) (e:=5) (t:=111) (x:=[.lst 5 (T.fl.map ND.c) t,.int .u32 0,.int .i32 0,.int .u32 0,.nilfn]) rfl
 have h1:=lO (l:=f) (o:=1) (e:=5) (t:=111) (x:=[.lst 5 (T.fl.map ND.c) t,.int .u32 0,.int .i32 1,.int .u32 0,.nilfn]) (n:=0) rfl
 repeat' (first|(refine r8 (aF _ _ _) h0 ?_)|(refine r8 (by simp[St.set]) h1 ?_)|(refine eU hm ?_)|(refine x6 (aF _ _ _) rfl ?_)|(refine Cl (aF _ _ _) rfl ?_)|(with_reducible first|(refine wN fun _ hnl=>?_;revert hnl;(repeat refine wS fun _ _=>?_);intro hnl)|refine wE ?_|(refine wK ?_ ?_<;>intro h)|(refine wB ?_ ?_<;>intro h<;>simp only[h]))|simp(maxSteps:=4000000) (disch:=first|exact ddL|fail) only[go_sem,simprocAttr,Tryz.f128])
 all_goals skip
theorem BE{T:T}(hT:Good T)(hl:T.fl.length≤1000000){p f:Nat}(hpf:p≠f)(t:Bool):aA Tryz.prog 88 [.ptr f 0 1,.fn (.func 89) [] [.ptr p 0 0]] (flS p f (.lst 5 (T.fl.map ND.c) t) 0 0 .nilfn) (fun v σ'=>v=.tup []∧σ'=flS p f (.lst 5 (T.fl.map ND.c) t) 1 0 (iT T)):=by
 refine(aA.body 12 [] Tryz.func88 rfl rfl rfl rfl ?_)
 have hm:=vM hT hl hpf t
 have h1:=lO (l:=f) (o:=1) (e:=5) (t:=111) (x:=[.lst 5 (T.fl.map ND.c) t,.int .u32 0,.int .i32 0,.int .u32 0,.nilfn]) (n:=0) rfl
 repeat' (first|(refine r8 (aF _ _ _) h1 ?_)|(refine eU hm ?_)|(with_reducible first|(refine wN fun _ hnl=>?_;revert hnl;(repeat refine wS fun _ _=>?_);intro hnl)|refine wE ?_|(refine wK ?_ ?_<;>intro h)|(refine wB ?_ ?_<;>intro h<;>simp only[h]))|simp(maxSteps:=4000000) (disch:=first|exact ddL|fail) only[go_sem,simprocAttr,Tryz.f88])
 all_goals first|done|exact⟨rfl,rfl⟩
theorem zL{L a:MV}{p f:Nat}(hpf:p≠f):aA Tryz.prog 88 [.ptr f 0 1,.fn (.func 89) [] [.ptr p 0 0]] (flS p f L 1 0 a) (fun v σ'=>v=.tup []∧σ'=flS p f L 1 0 a):=by
 refine(aA.body 12 [] Tryz.func88 rfl rfl rfl rfl ?_)
 have h1:=lO (l:=f) (o:=1) (e:=5) (t:=111) (x:=[L,.int .u32 1,.int .i32 0,.int .u32 0,a]) (n:=1) rfl
 repeat' (first|(refine r8 (aF _ _ _) h1 ?_)|(with_reducible first|(refine wN fun _ hnl=>?_;revert hnl;(repeat refine wS fun _ _=>?_);intro hnl)|refine wE ?_|(refine wK ?_ ?_<;>intro h)|(refine wB ?_ ?_<;>intro h<;>simp only[h]))|simp(maxSteps:=4000000) (disch:=first|exact ddL|fail) only[go_sem,simprocAttr,Tryz.f88])
 all_goals first|done|exact⟨rfl,rfl⟩
theorem M8{P:Program}{g:FuncId}{ms:List MV}{σ:St}{p f:Nat}{op of of':aV}{r:MV}{k:MV→St→Prop}(hpf:p≠f)(hp:σ p=some op)(hf:σ f=some of)
 (h:aA P g ms ((St.none.set p op).set f of) fun v σ'=>v=r∧σ'=(St.none.set p op).set f of')(hk:R (bR r (σ.set f of') k)):R (cX P g ms σ k) :=
 cA h (le2 hp hf) fun v σ' q _=>by
  obtain⟨rfl,rfl⟩:=q
  have e:((St.none.set p op).set f of').over (σ.minus ((St.none.set p op).set f of))=σ.set f of':=by
   funext j
   by_cases h1:j=f
   ·subst h1;simp[St.over,St.set]
   ·by_cases h2:j=p
    ·subst h2;simp[St.over,St.set,h1,hp]
    ·simp[St.over,St.set,St.minus,h1,h2,St.none]
  rw[e]
  exact hk
theorem Es{σ:St}{a a':MV}{l:List MV}(h:View σ a a'):∀(i:Nat) (m m':MV),(a::l)[i]?=some m→(a'::l)[i]?=some m'→View σ m m':=fun i m m' h1 h2=>by
 match i with
 | 0=>simp at h1 h2;subst h1 h2;exact h
 | i+1=>simp at h1 h2;rw[h1] at h2;cases h2;exact .same _
theorem yM{T:T}(hT:Good T)(hl:T.fl.length≤1000000)(c:CA)(hc:∀k,(c.f.get k).s.size≤1000000)(g:Nat)(hg:g<4294967296)(f:Nat)(t d:Bool) :
  aA Tryz.prog 47 [.ptr f 0 0,.agg c.c,.int .u32 (g:Int)] (St.none.set f (flO (.lst 5 (T.fl.map ND.c) t) (if d=true then 1 else 0) 0 (if d=true then iT T else .nilfn))) (fun v σ'=>v=.bool (T.sem (eZ (nC c) g))∧σ'=St.none.set f (flO (.lst 5 (T.fl.map ND.c) t) 1 0 (iT T))):=by
 refine aA.less (Q':=fun v σ'=>v=.bool (T.sem (eZ (nC c) g))∧(St.none.set f (flO (.lst 5 (T.fl.map ND.c) t) 1 0 (iT T))).le σ') (aA.body 20 [.tmp 6] Tryz.func47 rfl rfl rfl rfl ?_) fun v σ' h=>⟨_,h.2,h.1,rfl⟩
 have hdo:∀{p},p≠f→aA Tryz.prog 88 [.ptr f 0 1,.fn (.func 89) [] [.ptr p 0 0]] (flS p f (.lst 5 (T.fl.map ND.c) t) (if d=true then 1 else 0) 0 (if d=true then iT T else .nilfn)) (fun v σ'=>v=.tup []∧σ'=flS p f (.lst 5 (T.fl.map ND.c) t) 1 0 (iT T)):=fun {p} hp=>by
  cases d
  ·exact BE hT hl hp t
  ·exact zL hp
 have ha:=EB c hc g hg T hT
 rw[jT] at hdo ⊢
 generalize Cu T=fa at ha hdo ⊢
 generalize Ct T=ca at ha hdo ⊢
 generalize T.sem (eZ (nC c) g)=out at ha ⊢
 have hlen:c.c.length=27:=by simp[CA.c,bW]
 have hcell:c.c.all MV.aP=true:=by simp only[CA.c,List.all_cons,cJ];rfl
 generalize c.c=cells at ha hlen hcell ⊢
 obtain⟨dn,hdn⟩:∃x:Int,(if d=true then 1 else 0)=x:=⟨_,rfl⟩
 obtain⟨av,hav⟩:∃x:MV,(if d=true then MV.fn (.func fa) [] ca else .nilfn)=x:=⟨_,rfl⟩
 rw[hdn,hav] at hdo ⊢
 repeat' (first|(refine M8 (by assumption) (by simp[St.set, *]) (by simp[St.set, *]) (hdo (by assumption)) ?_)|(refine uU (.cptr cells::.int .u32 (g:Int)::ca) ha (by constructor) rfl (Es (View.ptr (i:=0) (o:=0) (aF _ _ _) (by simp))) ?_)|(with_reducible first|(refine wN fun _ hnl=>?_;revert hnl;(repeat refine wS fun _ _=>?_);intro hnl)|refine wE ?_|(refine wK ?_ ?_<;>intro h)|(refine wB ?_ ?_<;>intro h<;>simp only[h]))|simp(maxSteps:=4000000) (disch:=first|exact ddL|fail) only[go_sem,simprocAttr,Tryz.f47,hlen,hcell])
 all_goals exact St.aD (St.none_le _) (by simp[St.set, *])
end
end Go.Proofs.YtaojijkdamfbnaaGreatDoor
