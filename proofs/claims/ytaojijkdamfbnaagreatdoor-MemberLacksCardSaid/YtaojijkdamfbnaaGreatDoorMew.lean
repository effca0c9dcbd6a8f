/- Parts of the proof, joined; conditions: those that its theorems name. -/
import Derived.Test.YtaojijkdamfbnaaGreatDoorMer
import Derived.Test.YtaojijkdamfbnaaGreatDoorMev
import Derived.Conc.MuLone
import Derived.Test.YtaojijkdamfbnaaGreatDoorRows
import Derived.Conc.MuLib
import Derived.KernelRfl
import Derived.Defers
import Derived.Laws.Pointers
import Derived.RegionTactic
import Derived.RegionCalls
set_option linter.unusedVariables false
set_option linter.unusedSimpArgs false
set_option maxHeartbeats 4000000
namespace Go.Proofs.YtaojijkdamfbnaaGreatDoor
section
set_option maxRecDepth 100000
set_option maxHeartbeats 4000000
abbrev NP(a:Int):Prop:=-9223372036854775808≤a∧a≤9223372036854775807
end

section
set_option maxRecDepth 100000
set_option maxHeartbeats 4000000
def zM(f:F8):Bool:=(List.range 8).any fun i=>decide (200<(f.get i).s.size)
theorem pP(f:F8):aA Tryz.prog 55 [.agg (fc f)] St.none (fun r _=>r=.bool (zM f)):=by
 refine aA.cC (aA.body 14 [.tmp 2] Tryz.func55 rfl rfl rfl rfl ?_)
 repeat' (first|(with_reducible first|(refine wT ?_;(first|((fail_if_success (have:=nl1));refine wN fun nl1 hnl=>?_)|refine wN fun _ hnl=>?_);revert hnl;(repeat refine wS fun _ _=>?_);intro hnl)|refine wE ?_|(refine wK ?_ ?_<;>intro h)|(refine wB ?_ ?_<;>intro h<;>simp only[h]))|simp(maxSteps:=4000000) (disch:=first|exact ddL|fail) only[go_sem,simprocAttr,Tryz.f55,FXs])
 refine aH (α:=Nat) (fun i=>⟨14,[(3,.int .i64 (i:Int)),(1,.ptr nl1 0 0)],[]⟩)
  (fun _=>St.none.set nl1 (.row 40 24 [fc f])) (fun i=>i≤8∧(List.range i).any (fun i=>decide (200<(f.get i).s.size))=false) (fun i=>8 - i) (.of (.less ?_ (St.le_refl _)) ⟨0,rfl,rfl,Nat.zero_le _,rfl⟩) ?_
 ·simp(maxSteps:=4000000) (disch:=first|exact ddL|fail) only[go_sem,simprocAttr,aC,aB]
  all_goals rfl
 ·rintro i ⟨hi,hq⟩
  by_cases hlt:i<8
  ·have hg:=fun d=>zB (f:=f) (d:=d) hlt
   obtain⟨v,hv⟩:∃v,f.get i=v:=⟨_,rfl⟩
   rw[hv] at hg
   by_cases hb:200<v.s.size
   ·have e:zM f=true:=List.any_eq_true.2 ⟨i,List.mem_range.2 hlt,by rw[hv];exact decide_eq_true hb⟩
    rw[e]
    repeat' (first|(with_reducible first|(refine wT ?_;(first|((fail_if_success (have:=nl1));refine wN fun nl1 hnl=>?_)|refine wN fun _ hnl=>?_);revert hnl;(repeat refine wS fun _ _=>?_);intro hnl)|refine wE ?_|(refine wK ?_ ?_<;>intro h)|(refine wB ?_ ?_<;>intro h<;>simp only[h]))|simp(maxSteps:=4000000) (disch:=first|exact ddL|fail) only[go_sem,simprocAttr,FXs,hg])
    all_goals first|exact⟨_,St.le_refl _,rfl⟩|exact⟨_,St.le_refl _⟩|(exfalso;omega)
   ·repeat' (first|(with_reducible first|(refine wT ?_;(first|((fail_if_success (have:=nl1));refine wN fun nl1 hnl=>?_)|refine wN fun _ hnl=>?_);revert hnl;(repeat refine wS fun _ _=>?_);intro hnl)|refine wE ?_|(refine wK ?_ ?_<;>intro h)|(refine wB ?_ ?_<;>intro h<;>simp only[h]))|simp(maxSteps:=4000000) (disch:=first|exact ddL|fail) only[go_sem,simprocAttr,FXs,hg])
    all_goals (try (exfalso;omega))
    refine .of (.less ?_ (St.le_refl _)) ⟨i+1,rfl,rfl,⟨by omega,?_⟩,by omega⟩
    ·simp(maxSteps:=4000000) (disch:=first|exact ddL|fail) only[go_sem,simprocAttr,aC,aB]
     all_goals rfl
    ·rw[List.range_succ,List.any_append,hq,List.any_cons,List.any_nil,hv,decide_eq_false hb];rfl
  ·have hie:i=8:=by omega
   subst hie
   have e:zM f=false:=hq
   rw[e]
   repeat' (first|(with_reducible first|(refine wT ?_;(first|((fail_if_success (have:=nl1));refine wN fun nl1 hnl=>?_)|refine wN fun _ hnl=>?_);revert hnl;(repeat refine wS fun _ _=>?_);intro hnl)|refine wE ?_|(refine wK ?_ ?_<;>intro h)|(refine wB ?_ ?_<;>intro h<;>simp only[h]))|simp(maxSteps:=4000000) (disch:=first|exact ddL|fail) only[go_sem,simprocAttr])
   all_goals first|exact⟨_,St.le_refl _,rfl⟩|exact⟨_,St.le_refl _⟩
end

section
open Go.Conc.Locks
section
variable {P:Program} {L:MuLink}
def No(n n':Int)(o:Option aX)(l:Nat)(σ:St)(k:MV→St→Prop):Prop:=match o with
 | some (.row t e [.int .i32 a::rest])=>fD (a=n) (bP (.tup []) (σ.set l (.row t e [.int .i32 n'::rest])) k)
 | _=>False
theorem D6{n n' a:Int}{l:Nat}{σ:St}{k:MV→St→Prop}{t:TypeId}{e:Nat}{rest:List MV}:R (No n n' (some (.row t e [.int .i32 a::rest])) l σ k)=R (fD (E (a=n)) (bP (.tup []) (σ.set l (.row t e [.int .i32 n'::rest])) k)):=rfl
end
attribute [go_sem] D6
end

section
abbrev mu:Go.Conc.Locks.MuLink:={ lock:=160,unlock:=161,ilock:=192,iunlock:=193,lockSlow:=210,unlockSlow:=213,disable:=206,enable:=208,acquire:=209,relMerge:=211,cas32:=207,add32:=212,tMutex:=105,tIMutex:=103,tPMutex:=223,tPIMutex:=232,tPI32:=234,tUP:=236,tNoCopy:=98,tU32:=28 }
theorem JT:Go.Conc.Locks.MuLib Tryz.prog mu :=
  ⟨Tryz.func160,Tryz.func161,Tryz.func192,Tryz.func193,Tryz.func206,Tryz.func208,Tryz.func209,Tryz.func211,Tryz.func207,Tryz.func212,Tryz.underlying103,Tryz.runUnderlying103,Tryz.sizeOf103,Tryz.isAgg103,Tryz.zeroValue103,Tryz.underlying105,Tryz.runUnderlying105,Tryz.sizeOf105,Tryz.isAgg105,Tryz.zeroValue105,Tryz.underlying223,Tryz.runUnderlying223,Tryz.sizeOf223,Tryz.isAgg223,Tryz.zeroValue223,Tryz.underlying232,Tryz.runUnderlying232,Tryz.sizeOf232,Tryz.isAgg232,Tryz.zeroValue232,Tryz.underlying234,Tryz.runUnderlying234,Tryz.sizeOf234,Tryz.isAgg234,Tryz.zeroValue234,Tryz.underlying236,Tryz.runUnderlying236,Tryz.sizeOf236,Tryz.isAgg236,Tryz.zeroValue236,Tryz.underlying98,Tryz.runUnderlying98,Tryz.sizeOf98,Tryz.isAgg98,Tryz.zeroValue98,Tryz.underlying21,Tryz.runUnderlying21,Tryz.sizeOf21,Tryz.isAgg21,Tryz.zeroValue21,(by kernel_rfl)⟩
end

section
set_option maxRecDepth 100000
set_option maxHeartbeats 4000000
theorem CW(a:Addr)(n:Int)(w:World)(hc:w.cell? a=some (.int .u32 n))(hs:a.spot=none):Calls Tryz.prog 127 #[.pointer (some a)] w fun e w'=>e=.returned (.bool (n != 0))∧w'=w:=by
 obtain⟨b,off,sub⟩:=a
 simp only at hs
 subst hs
 have hl:=run_call_load (P:=Tryz.prog) Tryz.func159 (by kernel_rfl) (by kernel_rfl) (by kernel_rfl) .u32 (by kernel_rfl) hc
 go_enter Tryz.func127,Tryz.ntmps127
 go_wp2
 go_ret
 exact⟨rfl,rfl⟩
theorem p8(a:Addr)(x:Value)(u:FrameMode)(w:World)(hc:w.cell? a=some x)(hz:w.frozen? a=false)(hs:a.spot=none) :
  CallsD Tryz.prog 162 #[.pointer (some a),.bool true] u w fun e u' w'=>u'=u∧(e=.returned (.tuple #[])∧w'=w.drew.setCell a (.int .u32 1)):=by
 obtain⟨b,off,sub⟩:=a
 simp only at hs
 subst hs
 have hc':w.drew.cell? ⟨b,off,none⟩=some x:=by go_simp
 have hz':w.drew.frozen? ⟨b,off,none⟩=false:=by go_simp
 have hst:=run_call_store (P:=Tryz.prog) Tryz.func194 (by kernel_rfl) (by kernel_rfl) (by kernel_rfl) (by kernel_rfl) (k:=.u32) (y:=1) hc' hz'
 go_enter_d Tryz.func162,Tryz.ntmps162
 go_wp2
 go_region_calls
 all_goals (go_end0;exact⟨rfl,rfl⟩)
theorem lW{l o e:Nat}{t:TypeId}{x:List MV}{n:Int}(hx:x[o]?=some (.int .u32 n)):aA Tryz.prog 127 [.ptr l 0 o] (St.none.set l (.row t e [x])) (fun v σ'=>v=.bool (n != 0)∧σ'=St.none.set l (.row t e [x])):=by
 refine⟨⟨_,Tryz.func127,rfl,rfl⟩,fun Φ w vs hi hr=>?_⟩
 obtain⟨p,R,v0,hp,hb,hc,hr0,hz,i1,s1⟩:=kV hi (aJ _ _ _) hx (m:=.int .u32 n) rfl (.int .u32 n)
 have e0:=hr0.aW
 subst e0
 obtain⟨p',R',hp',hb',he⟩:=sF hr
 rw[hp] at hp';cases hp'
 rw[hb] at hb';cases hb'
 have hv:vs=#[.pointer (some ⟨R,p.bo+o,none⟩)]:=by
  have h1:=hr.1
  apply Array.ext
  ·simpa using h1
  ·intro i h3 h4
   have:i=0:=by simp at h4;omega
   subst this
   simpa[Array.getD_eq_getD_getElem?,Array.getElem?_eq_getElem h3] using he
 subst hv
 refine(CW ⟨R,p.bo+o,none⟩ n w hc rfl).mono ?_
 rintro e' w' ⟨rfl,rfl⟩
 exact⟨_,_,_,Φ,rfl,.bool _,hi,.refl _ _ _,rfl,rfl⟩
theorem DF{l o e:Nat}{t:TypeId}{x:List MV}(hx:x[o]?=some (.int .i32 0)):aA Tryz.prog 160 [.ptr l 0 o] (St.none.set l (.row t e [x])) (fun v σ'=>v=.tup []∧σ'=St.none.set l (.row t e [x.set o (.int .i32 1)])):=by
 refine⟨⟨_,Tryz.func160,rfl,rfl⟩,fun Φ w vs hi hr=>?_⟩
 obtain⟨p,R,v0,hp,hb,hc,hr0,hz,i1,s1⟩:=kV hi (aJ _ _ _) hx (m:=.int .i32 1) rfl (.int .i32 1)
 have e0:=hr0.aW
 subst e0
 obtain⟨p',R',hp',hb',he⟩:=sF hr
 rw[hp] at hp';cases hp'
 rw[hb] at hb';cases hb'
 have hv:vs=#[.pointer (some ⟨R,p.bo+o,none⟩)]:=by
  have h1:=hr.1
  apply Array.ext
  ·simpa using h1
  ·intro i h3 h4
   have:i=0:=by simp at h4;omega
   subst this
   simpa[Array.getD_eq_getD_getElem?,Array.getElem?_eq_getElem h3] using he
 subst hv
 refine(Go.MuLone.lock_free JT ⟨R,p.bo+o,none⟩ w hc hz).mono ?_
 rintro e' w' ⟨rfl,rfl⟩
 refine⟨_,.tup [],_,Φ,rfl,.tup rfl (by simp),i1,s1,rfl,?_⟩
 rw[set_set]
theorem CQ{σ:St}{K:St→Prop}{l o e:Nat}{t:TypeId}{x:List MV}(hs:σ l=some (.row t e [x]))(hx:x[o]?=some (.int .i32 1))(hk:R (K (σ.set l (.row t e [x.set o (.int .i32 0)])))):R (yU Tryz.prog 161 [.ptr l 0 o] σ K):=by
 refine⟨_,JT.f_unlock,rfl,rfl,fun Φ w vs hi hr=>?_⟩
 obtain⟨p,R,v0,hp,hb,hc,hr0,hz,i1,s1⟩:=kV hi hs hx (m:=.int .i32 0) rfl (.int .i32 0)
 have e0:=hr0.aW
 subst e0
 obtain⟨p',R',hp',hb',he⟩:=sF hr
 rw[hp] at hp';cases hp'
 rw[hb] at hb';cases hb'
 have hv:vs=#[.pointer (some ⟨R,p.bo+o,none⟩)]:=by
  have h1:=hr.1
  apply Array.ext
  ·simpa using h1
  ·intro i h3 h4
   have:i=0:=by simp at h4;omega
   subst this
   simpa[Array.getD_eq_getD_getElem?,Array.getElem?_eq_getElem h3] using he
 subst hv
 refine(Go.MuLone.unlock_deferred JT ⟨R,p.bo+o,none⟩ .returning w hc hz).mono ?_
 rintro e' u' w' ⟨rfl,rfl,rfl⟩
 exact⟨rfl,_,_,Φ,rfl,i1,s1,hk⟩
theorem yV{σ:St}{K:St→Prop}{l o e:Nat}{t:TypeId}{x:List MV}{n:Int}(hs:σ l=some (.row t e [x]))(hx:x[o]?=some (.int .u32 n))(hk:R (K (σ.set l (.row t e [x.set o (.int .u32 1)])))):R (yU Tryz.prog 162 [.ptr l 0 o,.bool true] σ K):=by
 refine⟨_,Tryz.func162,rfl,rfl,fun Φ w vs hi hr=>?_⟩
 have hd:=hi.grow (w':=w.drew) rfl rfl rfl (iO (Nat.le_succ _)) (Nat.le_refl _) (fun _ _=>rfl)
 obtain⟨p,R,v0,hp,hb,hc,hr0,hz,i1,s1⟩:=kV hd.1 hs hx (m:=.int .u32 1) rfl (.int .u32 1)
 obtain⟨p',R',hp',hb',he⟩:=sF hr
 rw[hp] at hp';cases hp'
 rw[hb] at hb';cases hb'
 have he2:vs.getD 1 undef=.bool true:=by
  have:=hr.2 1 _ rfl
  cases h:vs.getD 1 undef<;>rw[h] at this<;>cases this
  rfl
 have hv:vs=#[.pointer (some ⟨R,p.bo+o,none⟩),.bool true]:=by
  have h1:=hr.1
  apply Array.ext
  ·simpa using h1
  ·intro i h3 h4
   match i,h3 with
   | 0,h3=>simpa[Array.getD_eq_getD_getElem?,Array.getElem?_eq_getElem h3] using he
   | 1,h3=>simpa[Array.getD_eq_getD_getElem?,Array.getElem?_eq_getElem h3] using he2
   | i+2,_=>simp at h4;omega
 subst hv
 refine(p8 ⟨R,p.bo+o,none⟩ v0 .returning w (by simpa using hc) (by simpa using hz) rfl).mono ?_
 rintro e' u' w' ⟨rfl,rfl,rfl⟩
 exact⟨rfl,_,_,Φ,rfl,i1,hd.2.trans s1,hk⟩
end

section
set_option maxRecDepth 100000
set_option maxHeartbeats 4000000
def KH(op:Int):FuncId:=if op=11 then 131 else 132
def CZ:T→FuncId
 | .leaf x=>Bs x.op
 | .one _ _=>130
 | .two x _ _=>KH x.op
def iX:T→MV
 | .leaf x=>xZ x
 | .one _ a=>.fn (.func 130) [] [.cptr [iX a]]
 | .two x a b=>.fn (.func (KH x.op)) [] [.cptr [iX a],.cptr [iX b]]
def CY:T→List MV
 | .leaf x=>xY x
 | .one _ a=>[.cptr [iX a]]
 | .two _ a b=>[.cptr [iX a],.cptr [iX b]]
theorem jX:∀t:T,iX t=.fn (.func (CZ t)) [] (CY t)
 | .leaf _=>rfl
 | .one _ _=>rfl
 | .two _ _ _=>rfl
theorem Kt(x:ND)(c:CD)(g:Nat):(T.leaf x).sem (bT c g)=bT c g x:=by
 by_cases h1:x.op=1
 ·simp[T.sem,bT,h1]
 ·by_cases h2:x.op=2
  ·simp[T.sem,bT,h2]
  ·simp[T.sem,h1,h2]
theorem E1(c:CA)(hc:∀k,(c.f.get k).s.size≤1000000)(g:Nat)(hg:g<4294967296):∀t:T,Good t→aA Tryz.prog (CZ t) (.cptr c.c::.int .u32 (g:Int)::CY t) St.none (fun r _=>r=.bool (t.sem (bT (lY c) g)))
 | .leaf x,h=>by
  rw[Kt]
  exact N2 c hc g hg x (h.2 x (by simp[T.fl]))
 | .one x a,h=>by
  have ih:=E1 c hc g hg a (tE.1 h).2.2
  have ha:=jX a
  have e:(T.one x a).sem (bT (lY c) g)=!a.sem (bT (lY c) g):=by simp[T.sem]
  rw[e]
  show aA Tryz.prog 130 [.cptr c.c,.int .u32 (g:Int),.cptr [iX a]] St.none _
  rw[ha]
  refine(aA.body 11 [.tmp 5] Tryz.func130 rfl rfl rfl rfl ?_)
  generalize c.c=cells at ih ⊢
  repeat' (first|(with_reducible first|refine up ih ?_)|(with_reducible first|(refine wN fun _ hnl=>?_;revert hnl;(repeat refine wS fun _ _=>?_);intro hnl)|refine wE ?_|(refine wK ?_ ?_<;>intro h)|(refine wB ?_ ?_<;>intro h<;>simp only[h]))|simp(maxSteps:=4000000) (disch:=first|exact ddL|fail) only[go_sem,simprocAttr,Tryz.f130])
 | .two x a b,h=>by
  obtain⟨q1,_,ga,gb⟩:=tF.1 h
  have ia:=E1 c hc g hg a ga
  have ib:=E1 c hc g hg b gb
  have ha:=jX a
  have hb:=jX b
  have hs:(T.two x a b).sem (bT (lY c) g)=if x.op=11 then a.sem (bT (lY c) g)&&b.sem (bT (lY c) g) else a.sem (bT (lY c) g) || b.sem (bT (lY c) g):=by
   by_cases e:x.op=11<;>simp[T.sem,e]
  rw[hs]
  show aA Tryz.prog (KH x.op) [.cptr c.c,.int .u32 (g:Int),.cptr [iX a],.cptr [iX b]] St.none _
  rw[ha,hb]
  unfold KH
  generalize c.c=cells at ia ib ⊢
  generalize a.sem (bT (lY c) g)=sa at ia ⊢
  generalize b.sem (bT (lY c) g)=sb at ib ⊢
  by_cases e:x.op=11
  ·rw[if_pos e,if_pos e]
   refine(aA.body 17 [.tmp 6] Tryz.func131 rfl rfl rfl rfl ?_)
   cases sa
   all_goals
    repeat' (first|(with_reducible first|refine up ia ?_|refine up ib ?_)|(with_reducible first|(refine wN fun _ hnl=>?_;revert hnl;(repeat refine wS fun _ _=>?_);intro hnl)|refine wE ?_|(refine wK ?_ ?_<;>intro h)|(refine wB ?_ ?_<;>intro h<;>simp only[h]))|simp(maxSteps:=4000000) (disch:=first|exact ddL|fail) only[go_sem,simprocAttr,Tryz.f131])
    all_goals first|rfl|(cases sb<;>rfl)
  ·rw[if_neg e,if_neg e]
   refine(aA.body 17 [.tmp 6] Tryz.func132 rfl rfl rfl rfl ?_)
   cases sa
   all_goals
    repeat' (first|(with_reducible first|refine up ia ?_|refine up ib ?_)|(with_reducible first|(refine wN fun _ hnl=>?_;revert hnl;(repeat refine wS fun _ _=>?_);intro hnl)|refine wE ?_|(refine wK ?_ ?_<;>intro h)|(refine wB ?_ ?_<;>intro h<;>simp only[h]))|simp(maxSteps:=4000000) (disch:=first|exact ddL|fail) only[go_sem,simprocAttr,Tryz.f132])
    all_goals first|rfl|(cases sb<;>rfl)
end

section
set_option maxRecDepth 100000
set_option maxHeartbeats 4000000
theorem mZ{σ:St}{l:Nat}{t:TypeId}{m:MV}(h:σ l=some (.row t 1 [[m]])):View σ (.ptr l 0 0) (.cptr [m]):=View.ptr (i:=0) (o:=0) h (by simp)
theorem kT:∀T:T,Good T→∀(r:List ND) (t:Bool),(T.fl++r).length≤1000000→aA Tryz.prog 90 [.lst 5 ((T.fl++r).map ND.c) t] St.none (fun v _=>v=.tup [iX T,.lst 5 (r.map ND.c) false])
 | .leaf x,h,r,t,hl=>by
  refine aA.seen (aA.body 42 [.tmp 2,.tmp 3] Tryz.func90 rfl rfl rfl rfl ?_)
  have hp:=fP x.op
  have h0:parts x.op=0:=h.1
  rw[h0] at hp
  have hlf:=GD x
  simp only[T.fl,List.cons_append,List.nil_append,List.map_cons,iX,List.length_cons] at hl ⊢
  generalize xZ x=lv at hlf ⊢
  repeat' (first|(with_reducible first|refine up hp ?_|refine up hlf ?_)|(with_reducible first|(refine wN fun _ hnl=>?_;revert hnl;(repeat refine wS fun _ _=>?_);intro hnl)|refine wE ?_|(refine wK ?_ ?_<;>intro h)|(refine wB ?_ ?_<;>intro h<;>simp only[h]))|simp(maxSteps:=4000000) (disch:=first|exact ddL|fail) only[go_sem,simprocAttr,Tryz.f90])
  exact .two (.same _) .loose
 | .one x a,h,r,t,hl=>by
  refine aA.seen (aA.body 42 [.tmp 2,.tmp 3] Tryz.func90 rfl rfl rfl rfl ?_)
  have h0:parts x.op=1:=h.1.1
  have hop:=yG h0
  have hp:aA Tryz.prog 125 [.int .i64 10] St.none (fun r _=>r=.int .i64 1):=fP 10
  simp only[T.fl,List.cons_append,List.length_cons] at hl
  have ih:=kT a (tE.1 h).2.2 r t (by omega)
  have e:((T.one x a).fl++r).map ND.c=x.c::(a.fl++r).map ND.c:=rfl
  rw[e]
  simp only[iX]
  rw[jX a] at ih ⊢
  generalize CZ a=fa at ih ⊢
  generalize CY a=ca at ih ⊢
  have hlen:((a.fl++r).map ND.c).length=(a.fl++r).length:=List.length_map _
  generalize (a.fl++r).map ND.c=l1 at ih hlen ⊢
  repeat' (first|(with_reducible first|refine up hp ?_|refine up ih ?_)|(with_reducible first|(refine wN fun _ hnl=>?_;revert hnl;(repeat refine wS fun _ _=>?_);intro hnl)|refine wE ?_|(refine wK ?_ ?_<;>intro h)|(refine wB ?_ ?_<;>intro h<;>simp only[h]))|simp(maxSteps:=4000000) (disch:=first|exact ddL|fail) only[go_sem,simprocAttr,Tryz.f90,hop])
  exact .two (.fn rfl (nL (mZ (t:=109) (by simp[St.set, *])))) (.same _)
 | .two x a b,h,r,t,hl=>by
  refine aA.seen (aA.body 42 [.tmp 2,.tmp 3] Tryz.func90 rfl rfl rfl rfl ?_)
  obtain⟨q1,_,ga,gb⟩:=tF.1 h
  have hp11:aA Tryz.prog 125 [.int .i64 11] St.none (fun r _=>r=.int .i64 2):=fP 11
  have hp12:aA Tryz.prog 125 [.int .i64 12] St.none (fun r _=>r=.int .i64 2):=fP 12
  simp only[T.fl,List.cons_append,List.length_cons,List.append_assoc] at hl
  have ia:=kT a ga (b.fl++r) t (by omega)
  have ib:=kT b gb r false (by simp only[List.length_append] at hl ⊢;omega)
  have e:((T.two x a b).fl++r).map ND.c=x.c::(a.fl++(b.fl++r)).map ND.c:=by simp[T.fl]
  rw[e]
  simp only[iX]
  rw[jX a] at ia ⊢
  rw[jX b] at ib ⊢
  generalize CZ a=fa at ia ⊢
  generalize CY a=ca at ia ⊢
  generalize CZ b=fb at ib ⊢
  generalize CY b=cb at ib ⊢
  have hlen:((a.fl++(b.fl++r)).map ND.c).length=(a.fl++(b.fl++r)).length:=List.length_map _
  generalize (a.fl++(b.fl++r)).map ND.c=l1 at ia hlen ⊢
  generalize (b.fl++r).map ND.c=l2 at ia ib ⊢
  unfold KH
  rcases yH q1 with h1|h1<;>rw[h1]
  ·rw[if_pos rfl]
   repeat' (first|(with_reducible first|refine up hp11 ?_|refine up ia ?_|refine up ib ?_)|(with_reducible first|(refine wN fun _ hnl=>?_;revert hnl;(repeat refine wS fun _ _=>?_);intro hnl)|refine wE ?_|(refine wK ?_ ?_<;>intro h)|(refine wB ?_ ?_<;>intro h<;>simp only[h]))|simp(maxSteps:=4000000) (disch:=first|exact ddL|fail) only[go_sem,simprocAttr,Tryz.f90,h1])
   exact .two (.fn rfl (nM (mZ (t:=109) (by simp[St.set, *])) (mZ (t:=109) (by simp[St.set, *])))) (.same _)
  ·rw[if_neg (by decide)]
   repeat' (first|(with_reducible first|refine up hp12 ?_|refine up ia ?_|refine up ib ?_)|(with_reducible first|(refine wN fun _ hnl=>?_;revert hnl;(repeat refine wS fun _ _=>?_);intro hnl)|refine wE ?_|(refine wK ?_ ?_<;>intro h)|(refine wB ?_ ?_<;>intro h<;>simp only[h]))|simp(maxSteps:=4000000) (disch:=first|exact ddL|fail) only[go_sem,simprocAttr,Tryz.f90,h1])
   exact .two (.fn rfl (nM (mZ (t:=109) (by simp[St.set, *])) (mZ (t:=109) (by simp[St.set, *])))) (.same _)
end

section
set_option maxRecDepth 100000
set_option maxHeartbeats 4000000
theorem eZ{P:Program}{g:FuncId}{ms:List MV}{σ σ1:St}{r:MV}{k:MV→St→Prop}(h:aA P g ms σ fun v τ=>v=r∧τ=σ1)(hk:R (bP r σ1 k)):R (cX P g ms σ k) :=
 h.mono fun v τ q=>by
  obtain⟨rfl,rfl⟩:=q
  exact hk
abbrev flO(L:MV)(d s:Int)(a:MV):aX:=.row 111 5 [[L,.int .u32 d,.int .i32 s,.int .u32 0,a]]
abbrev flS(p f:Nat)(L:MV)(d s:Int)(a:MV):St:=(St.none.set p (.row 36 1 [[.ptr f 0 0]])).set f (flO L d s a)
theorem Bw{T:T}(hT:Good T)(hl:T.fl.length≤1000000){p f:Nat}(hpf:p≠f)(t:Bool):aA Tryz.prog 89 [.ptr p 0 0] (flS p f (.lst 5 (T.fl.map ND.c) t) 0 1 .nilfn) (fun v σ'=>v=.tup []∧σ'=flS p f (.lst 5 (T.fl.map ND.c) t) 0 1 (iX T)):=by
 refine(aA.body 12 [] Tryz.func89 rfl rfl rfl rfl ?_)
 have hb:=kT T hT [] t (by simpa using hl)
 rw[List.append_nil,List.map_nil] at hb
 have hfp:=Ne.symm hpf
 rw[jX] at hb ⊢
 generalize CZ T=fa at hb ⊢
 generalize CY T=ca at hb ⊢
 obtain⟨C,c1⟩:∃C:b9,∀ms,C 90 ms=some ⟨[],fun v=>v=.tup [.fn (.func fa) [] ca,.lst 5 [] false],none⟩:=⟨fnF [(90,⟨[],fun v=>v=.tup [.fn (.func fa) [] ca,.lst 5 [] false],none⟩)],fun _=>eU⟩
 repeat' (first|((with_reducible refine aT mixed ?chk C ?_);(case chk=>decide +kernel))|(with_reducible refine aP (c1 _) hb ?_)|(with_reducible first|(refine wN fun _ hnl=>?_;revert hnl;(repeat refine wS fun _ _=>?_);intro hnl)|refine wE ?_|(refine wK ?_ ?_<;>intro h)|(refine wB ?_ ?_<;>intro h<;>simp only[h]))|simp(maxSteps:=4000000) (disch:=first|exact ddL|fail) only[go_sem,simprocAttr,Tryz.f89])
 all_goals first|exact⟨rfl,rfl⟩|rfl|skip
theorem wP{T:T}(hT:Good T)(hl:T.fl.length≤1000000){p f:Nat}(hpf:p≠f)(t:Bool):aA Tryz.prog 128 [.ptr f 0 1,.fn (.func 89) [] [.ptr p 0 0]] (flS p f (.lst 5 (T.fl.map ND.c) t) 0 0 .nilfn) (fun v σ'=>v=.tup []∧σ'=flS p f (.lst 5 (T.fl.map ND.c) t) 1 0 (iX T)):=by
 refine(aA.body 21 [] Tryz.func128 rfl rfl rfl rfl ?_)
 have hm:=Bw hT hl hpf t
 have hfp:=Ne.symm hpf
 have h0:=DF (l:=f) (o:=2) (e:=5) (t:=111) (x:=[.lst 5 (T.fl.map ND.c) t,.int .u32 0,.int .i32 0,.int .u32 0,.nilfn]) rfl
 have h1:=lW (l:=f) (o:=1) (e:=5) (t:=111) (x:=[.lst 5 (T.fl.map ND.c) t,.int .u32 0,.int .i32 1,.int .u32 0,.nilfn]) (n:=0) rfl
 repeat' (first|(refine sK (aJ _ _ _) h0 ?_)|(refine sK (by simp[St.set]) h1 ?_)|(refine eZ hm ?_)|(refine yV (aJ _ _ _) rfl ?_)|(refine CQ (aJ _ _ _) rfl ?_)|(with_reducible first|(refine wN fun _ hnl=>?_;revert hnl;(repeat refine wS fun _ _=>?_);intro hnl)|refine wE ?_|(refine wK ?_ ?_<;>intro h)|(refine wB ?_ ?_<;>intro h<;>simp only[h]))|simp(maxSteps:=4000000) (disch:=first|exact ddL|fail) only[go_sem,simprocAttr,Tryz.f128])
 all_goals skip
theorem B6{T:T}(hT:Good T)(hl:T.fl.length≤1000000){p f:Nat}(hpf:p≠f)(t:Bool):aA Tryz.prog 88 [.ptr f 0 1,.fn (.func 89) [] [.ptr p 0 0]] (flS p f (.lst 5 (T.fl.map ND.c) t) 0 0 .nilfn) (fun v σ'=>v=.tup []∧σ'=flS p f (.lst 5 (T.fl.map ND.c) t) 1 0 (iX T)):=by
 refine(aA.body 12 [] Tryz.func88 rfl rfl rfl rfl ?_)
 have hm:=wP hT hl hpf t
 have h1:=lW (l:=f) (o:=1) (e:=5) (t:=111) (x:=[.lst 5 (T.fl.map ND.c) t,.int .u32 0,.int .i32 0,.int .u32 0,.nilfn]) (n:=0) rfl
 repeat' (first|(refine sK (aJ _ _ _) h1 ?_)|(refine eZ hm ?_)|(with_reducible first|(refine wN fun _ hnl=>?_;revert hnl;(repeat refine wS fun _ _=>?_);intro hnl)|refine wE ?_|(refine wK ?_ ?_<;>intro h)|(refine wB ?_ ?_<;>intro h<;>simp only[h]))|simp(maxSteps:=4000000) (disch:=first|exact ddL|fail) only[go_sem,simprocAttr,Tryz.f88])
 all_goals first|done|exact⟨rfl,rfl⟩
theorem Af{L a:MV}{p f:Nat}(hpf:p≠f):aA Tryz.prog 88 [.ptr f 0 1,.fn (.func 89) [] [.ptr p 0 0]] (flS p f L 1 0 a) (fun v σ'=>v=.tup []∧σ'=flS p f L 1 0 a):=by
 refine(aA.body 12 [] Tryz.func88 rfl rfl rfl rfl ?_)
 have h1:=lW (l:=f) (o:=1) (e:=5) (t:=111) (x:=[L,.int .u32 1,.int .i32 0,.int .u32 0,a]) (n:=1) rfl
 repeat' (first|(refine sK (aJ _ _ _) h1 ?_)|(with_reducible first|(refine wN fun _ hnl=>?_;revert hnl;(repeat refine wS fun _ _=>?_);intro hnl)|refine wE ?_|(refine wK ?_ ?_<;>intro h)|(refine wB ?_ ?_<;>intro h<;>simp only[h]))|simp(maxSteps:=4000000) (disch:=first|exact ddL|fail) only[go_sem,simprocAttr,Tryz.f88])
 all_goals first|done|exact⟨rfl,rfl⟩
theorem NJ{P:Program}{g:FuncId}{ms:List MV}{σ:St}{p f:Nat}{op of of':aX}{r:MV}{k:MV→St→Prop}(hpf:p≠f)(hp:σ p=some op)(hf:σ f=some of)
 (h:aA P g ms ((St.none.set p op).set f of) fun v σ'=>v=r∧σ'=(St.none.set p op).set f of')(hk:R (bP r (σ.set f of') k)):R (cX P g ms σ k) :=
 cD h (le2 hp hf) fun v σ' q _=>by
  obtain⟨rfl,rfl⟩:=q
  have e:((St.none.set p op).set f of').over (σ.minus ((St.none.set p op).set f of))=σ.set f of':=by
   funext j
   by_cases h1:j=f
   ·subst h1;simp[St.over,St.set]
   ·by_cases h2:j=p
    ·subst h2;simp[St.over,St.set,h1,hp]
    ·simp[St.over,St.set,St.minus,h1,h2,St.none]
  rw[e]
  exact hk
theorem ES{σ:St}{a a':MV}{l:List MV}(h:View σ a a'):∀(i:Nat) (m m':MV),(a::l)[i]?=some m→(a'::l)[i]?=some m'→View σ m m':=fun i m m' h1 h2=>by
 match i with
 | 0=>simp at h1 h2;subst h1 h2;exact h
 | i+1=>simp at h1 h2;rw[h1] at h2;cases h2;exact .same _
theorem zF{T:T}(hT:Good T)(hl:T.fl.length≤1000000)(c:CA)(hc:∀k,(c.f.get k).s.size≤1000000)(g:Nat)(hg:g<4294967296)(f:Nat)(t d:Bool) :
  aA Tryz.prog 47 [.ptr f 0 0,.agg c.c,.int .u32 (g:Int)] (St.none.set f (flO (.lst 5 (T.fl.map ND.c) t) (if d=true then 1 else 0) 0 (if d=true then iX T else .nilfn))) (fun v σ'=>v=.bool (T.sem (bT (lY c) g))∧σ'=St.none.set f (flO (.lst 5 (T.fl.map ND.c) t) 1 0 (iX T))):=by
 refine aA.less (Q':=fun v σ'=>v=.bool (T.sem (bT (lY c) g))∧(St.none.set f (flO (.lst 5 (T.fl.map ND.c) t) 1 0 (iX T))).le σ') (aA.body 20 [.tmp 6] Tryz.func47 rfl rfl rfl rfl ?_) fun v σ' h=>⟨_,h.2,h.1,rfl⟩
 have hdo:∀{p},p≠f→aA Tryz.prog 88 [.ptr f 0 1,.fn (.func 89) [] [.ptr p 0 0]] (flS p f (.lst 5 (T.fl.map ND.c) t) (if d=true then 1 else 0) 0 (if d=true then iX T else .nilfn)) (fun v σ'=>v=.tup []∧σ'=flS p f (.lst 5 (T.fl.map ND.c) t) 1 0 (iX T)):=fun {p} hp=>by
  cases d
  ·exact B6 hT hl hp t
  ·exact Af hp
 have ha:=E1 c hc g hg T hT
 rw[jX] at hdo ⊢
 generalize CZ T=fa at ha hdo ⊢
 generalize CY T=ca at ha hdo ⊢
 generalize T.sem (bT (lY c) g)=out at ha ⊢
 have hlen:c.c.length=27:=by simp[CA.c,bV]
 have hcell:c.c.all MV.aQ=true:=by simp only[CA.c,List.all_cons,cF];rfl
 generalize c.c=cells at ha hlen hcell ⊢
 obtain⟨dn,hdn⟩:∃x:Int,(if d=true then 1 else 0)=x:=⟨_,rfl⟩
 obtain⟨av,hav⟩:∃x:MV,(if d=true then MV.fn (.func fa) [] ca else .nilfn)=x:=⟨_,rfl⟩
 rw[hdn,hav] at hdo ⊢
 repeat' (first|(refine NJ (by assumption) (by simp[St.set, *]) (by simp[St.set, *]) (hdo (by assumption)) ?_)|(refine vK (.cptr cells::.int .u32 (g:Int)::ca) ha (by constructor) rfl (ES (View.ptr (i:=0) (o:=0) (aJ _ _ _) (by simp))) ?_)|(with_reducible first|(refine wN fun _ hnl=>?_;revert hnl;(repeat refine wS fun _ _=>?_);intro hnl)|refine wE ?_|(refine wK ?_ ?_<;>intro h)|(refine wB ?_ ?_<;>intro h<;>simp only[h]))|simp(maxSteps:=4000000) (disch:=first|exact ddL|fail) only[go_sem,simprocAttr,Tryz.f47,hlen,hcell])
 all_goals exact St.aE (St.none_le _) (by simp[St.set, *])
end

section
def cV(kl kb kr:Bool):List Int→List Int→List Int
 | [],b=>if kr=true then b else[]
 | x::a,[]=>if kl=true then x::a else[]
 | x::a,y::b=>if x<y then(if kl=true then[x] else[])++cV kl kb kr a (y::b) else if y<x then(if kr=true then[y] else[])++cV kl kb kr (x::a) b else(if kb=true then[x] else[])++cV kl kb kr a b
termination_by a b=>a.length+b.length
theorem nB{kl kb kr:Bool}{b:List Int}:cV kl kb kr [] b=if kr=true then b else[]:=by rw[cV]
theorem jW{kl kb kr:Bool}:∀{a:List Int},cV kl kb kr a []=if kl=true then a else[]
 | []=>by rw[cV];split<;>simp
 | x::a=>by rw[cV]
theorem o8{kl kb kr:Bool}{x y:Int}{a b:List Int}(h:x<y):cV kl kb kr (x::a) (y::b)=(if kl=true then[x] else[])++cV kl kb kr a (y::b):=by rw[cV,if_pos h]
theorem o7{kl kb kr:Bool}{x y:Int}{a b:List Int}(h:y<x):cV kl kb kr (x::a) (y::b)=(if kr=true then[y] else[])++cV kl kb kr (x::a) b:=by rw[cV,if_neg (by omega),if_pos h]
theorem o6{kl kb kr:Bool}{x y:Int}{a b:List Int}(h1:¬x<y)(h2:¬y<x):cV kl kb kr (x::a) (y::b)=(if kb=true then[x] else[])++cV kl kb kr a b:=by rw[cV,if_neg h1,if_neg h2]
theorem nA{kl kb kr:Bool}:∀(n:Nat) (a b:List Int),a.length+b.length≤n→(cV kl kb kr a b).length≤a.length+b.length
 | n,[],b,h=>by rw[nB];split<;>simp
 | n,x::a,[],h=>by rw[jW];split<;>simp
 | 0,x::a,y::b,h=>by simp at h
 | n+1,x::a,y::b,h=>by
  simp only[List.length_cons] at h
  by_cases h1:x<y
  ·rw[o8 h1,List.length_append]
   have:=nA (kl:=kl) (kb:=kb) (kr:=kr) n a (y::b) (by simp;omega)
   simp only[List.length_cons] at this ⊢
   have h3:(if kl=true then[x] else[]).length≤1:=by split<;>simp
   omega
  ·by_cases h2:y<x
   ·rw[o7 h2,List.length_append]
    have:=nA (kl:=kl) (kb:=kb) (kr:=kr) n (x::a) b (by simp;omega)
    simp only[List.length_cons] at this ⊢
    have h3:(if kr=true then[y] else[]).length≤1:=by split<;>simp
    omega
   ·rw[o6 h1 h2,List.length_append]
    have:=nA (kl:=kl) (kb:=kb) (kr:=kr) n a b (by omega)
    simp only[List.length_cons] at this ⊢
    have h3:(if kb=true then[x] else[]).length≤1:=by split<;>simp
    omega
abbrev UpI(l:List Int):Prop:=l.Pairwise (·<·)
theorem jV:∀(n:Nat) (a b:List Int),a.length+b.length≤n→UpI a→UpI b→cV true false false a b=bF a b
 | n,[],b,h,_,_=>by rw[nB];rfl
 | n,x::a,[],h,_,_=>by
  rw[jW,bF,if_pos rfl]
  exact(List.filter_eq_self.2 fun _ _=>rfl).symm
 | 0,x::a,y::b,h,_,_=>by simp at h
 | n+1,x::a,y::b,h,ha,hb=>by
  simp only[List.length_cons] at h
  obtain⟨ha1,ha2⟩:=List.pairwise_cons.1 ha
  obtain⟨hb1,hb2⟩:=List.pairwise_cons.1 hb
  by_cases h1:x<y
  ·rw[o8 h1,jV n a (y::b) (by simp;omega) ha2 hb,if_pos rfl]
   have hx:x∉y::b:=fun hm=>by
    rcases List.mem_cons.1 hm with e|hm
    ·omega
    ·have:=hb1 x hm;omega
   simp only[bF,List.filter_cons,hx,decide_false,Bool.not_false,if_true]
   rfl
  ·by_cases h2:y<x
   ·rw[o7 h2,jV n (x::a) b (by simp;omega) ha hb2,if_neg (by simp),List.nil_append]
    unfold bF
    refine List.filter_congr fun z hz=>?_
    have:z≠y:=fun e=>by
     rcases List.mem_cons.1 hz with e'|hz
     ·omega
     ·have:=ha1 z hz;omega
    simp[this]
   ·have e:x=y:=by omega
    subst e
    rw[o6 h1 h2,jV n a b (by omega) ha2 hb2,if_neg (by simp),List.nil_append]
    have h3:bF a (x::b)=bF a b:=by
     unfold bF
     refine List.filter_congr fun z hz=>?_
     have:z≠x:=fun e=>by have:=ha1 z hz;omega
     simp[this]
    rw[←h3]
    simp[bF]
theorem kR:∀(n:Nat) (a b:List Int),a.length+b.length≤n→UpI a→UpI b→cV false true false a b=a.filter fun x=>decide (x∈b)
 | n,[],b,h,_,_=>by rw[nB];rfl
 | n,x::a,[],h,_,_=>by
  rw[jW]
  simp
 | 0,x::a,y::b,h,_,_=>by simp at h
 | n+1,x::a,y::b,h,ha,hb=>by
  simp only[List.length_cons] at h
  obtain⟨ha1,ha2⟩:=List.pairwise_cons.1 ha
  obtain⟨hb1,hb2⟩:=List.pairwise_cons.1 hb
  by_cases h1:x<y
  ·rw[o8 h1,kR n a (y::b) (by simp;omega) ha2 hb,if_neg (by simp),List.nil_append]
   have hx:x∉y::b:=fun hm=>by
    rcases List.mem_cons.1 hm with e|hm
    ·omega
    ·have:=hb1 x hm;omega
   rw[List.filter_cons,if_neg (by simpa using hx)]
  ·by_cases h2:y<x
   ·rw[o7 h2,kR n (x::a) b (by simp;omega) ha hb2,if_neg (by simp),List.nil_append]
    refine List.filter_congr fun z hz=>?_
    have:z≠y:=fun e=>by
     rcases List.mem_cons.1 hz with e'|hz
     ·omega
     ·have:=ha1 z hz;omega
    simp[this]
   ·have e:x=y:=by omega
    subst e
    rw[o6 h1 h2,kR n a b (by omega) ha2 hb2,if_pos rfl]
    have h3:a.filter (fun z=>decide (z∈x::b))=a.filter fun z=>decide (z∈b):=by
     refine List.filter_congr fun z hz=>?_
     have:z≠x:=fun e=>by have:=ha1 z hz;omega
     simp[this]
    rw[List.filter_cons,if_pos (by simp),h3]
    rfl
theorem AJ:∀{last:Int} {l:List Int},fA last l=true→UpI l∧∀x,x∈l→last<x∧1≤x∧x<1073741824
 | _,[],_=>⟨.nil,by simp⟩
 | last,x::l,h=>by
  rw[fA,Bool.and_eq_true,decide_eq_true_eq] at h
  obtain⟨⟨h1,h2,h3⟩,h4⟩:=h
  unfold gC at h3
  obtain⟨i1,i2⟩:=AJ h4
  refine⟨List.pairwise_cons.2 ⟨fun y hy=>(i2 y hy).1,i1⟩,fun y hy=>?_⟩
  rcases List.mem_cons.1 hy with rfl|hy
  ·exact⟨h1,h2,h3⟩
  ·obtain⟨a,b,c⟩:=i2 y hy
   exact⟨by omega,b,c⟩
theorem KJ{nx last:Int}{cs:List CA}(h:dD nx last cs=true):UpI (cs.map CA.id):=List.pairwise_map.2 (jY h).2
end
end Go.Proofs.YtaojijkdamfbnaaGreatDoor
