/- Parts of the proof, joined; conditions: those that its theorems name. -/
import Derived.Test.YtojmhmejdihaaaaGreatDoorStu
import Derived.Defers
import Derived.Laws.Pointers
import Derived.RegionTactic
import Derived.RegionCalls
set_option linter.unusedVariables false
set_option linter.unusedSimpArgs false
set_option maxHeartbeats 4000000
namespace Go.Proofs.YtojmhmejdihaaaaGreatDoor
section
set_option maxRecDepth 100000
set_option maxHeartbeats 8000000
theorem Fv(a b:BK)(h1:a.cards.length≤1000000)(h2:a.dead.length≤1000000)(h3:a.gr.length≤1000000)(h4:∀g,g∈a.gr→g.mem.length≤1000000):aA Tryz.prog 91 [.agg a.c,.agg b.c] St.none (fun r _=>r=.bool (decide (a=b))):=by
 refine aA.bF (aA.body 38 [.tmp 4] Tryz.func91 rfl rfl rfl rfl ?_)
 have c1:=sT a.cards b.cards h1 false false
 have c2:=Fw a.dead b.dead h2 false false
 have c3:=Bc a.gr b.gr h3 h4 false false
 obtain⟨res,hres⟩:∃r,decide (a=b)=r:=⟨_,rfl⟩
 have e:Unit→decide (a.sq=b.sq∧a.nx=b.nx∧a.cards=b.cards∧a.dead=b.dead∧a.gr=b.gr)=res:=fun _=>by
  rw[←hres]
  exact decide_eq_decide.mpr JN.symm
 rw[hres]
 clear hres
 repeat' (first|(with_reducible first|refine up c1 ?_|refine up c2 ?_|refine up c3 ?_)|(with_reducible first|(refine wN fun _ hnl=>?_;revert hnl;(repeat refine wS fun _ _=>?_);intro hnl)|refine wE ?_|(refine wK ?_ ?_<;>intro h)|(refine wB ?_ ?_<;>intro h<;>simp only[h]))|simp(maxSteps:=4000000) (disch:=first|exact ddL|fail) only[go_sem,simprocAttr,Tryz.f91])
 all_goals first|refine⟨_,St.le_refl _,?_⟩|skip
 all_goals rw[←e ()]
 all_goals clear e
 all_goals simp[*]
end

section
set_option maxRecDepth 100000
set_option maxHeartbeats 4000000
theorem DL(a:Addr)(n:Int)(w:World)(hc:w.cell? a=some (.int .u32 n))(hs:a.spot=none):Calls Tryz.prog 269 #[.pointer (some a)] w fun e w'=>e=.returned (.bool (n != 0))∧w'=w:=by
 obtain⟨b,off,sub⟩:=a
 simp only at hs
 subst hs
 have hl:=run_call_load (P:=Tryz.prog) Tryz.func311 (by kernel_rfl) (by kernel_rfl) (by kernel_rfl) .u32 (by kernel_rfl) hc
 go_enter Tryz.func269,Tryz.ntmps269
 go_wp2
 go_ret
 exact⟨rfl,rfl⟩
theorem rE(a:Addr)(x:Value)(u:FrameMode)(w:World)(hc:w.cell? a=some x)(hz:w.frozen? a=false)(hs:a.spot=none) :
  CallsD Tryz.prog 314 #[.pointer (some a),.bool true] u w fun e u' w'=>u'=u∧(e=.returned (.tuple #[])∧w'=w.drew.setCell a (.int .u32 1)):=by
 obtain⟨b,off,sub⟩:=a
 simp only at hs
 subst hs
 have hc':w.drew.cell? ⟨b,off,none⟩=some x:=by go_simp
 have hz':w.drew.frozen? ⟨b,off,none⟩=false:=by go_simp
 have hst:=run_call_store (P:=Tryz.prog) Tryz.func353 (by kernel_rfl) (by kernel_rfl) (by kernel_rfl) (by kernel_rfl) (k:=.u32) (y:=1) hc' hz'
 go_enter_d Tryz.func314,Tryz.ntmps314
 go_wp2
 go_region_calls
 all_goals (go_end0;exact⟨rfl,rfl⟩)
theorem mC{l o e:Nat}{t:TypeId}{x:List MV}{n:Int}(hx:x[o]?=some (.int .u32 n)):aA Tryz.prog 269 [.ptr l 0 o] (St.none.set l (.row t e [x])) (fun v σ'=>v=.bool (n != 0)∧σ'=St.none.set l (.row t e [x])):=by
 refine⟨⟨_,Tryz.func269,rfl,rfl⟩,fun Φ w vs hi hr=>?_⟩
 obtain⟨p,R,v0,hp,hb,hc,hr0,hz,i1,s1⟩:=hZ hi (aM _ _ _) hx (m:=.int .u32 n) rfl (.int .u32 n)
 have e0:=hr0.aX
 subst e0
 obtain⟨p',R',hp',hb',he⟩:=nX hr
 rw[hp] at hp';cases hp'
 rw[hb] at hb';cases hb'
 have hv:vs=#[.pointer (some ⟨R,p.bo+o,none⟩)]:=by
  have h1:=hr.1
  apply Array.ext
  ·simpa using h1
  ·intro i h3 h4
   have:i=0:=by simp at h4;omega
   subst this
   simpa[Array.getD_eq_getD_getElem?,Array.getElem?_eq_getElem h3] using he
 subst hv
 refine(DL ⟨R,p.bo+o,none⟩ n w hc rfl).mono ?_
 rintro e' w' ⟨rfl,rfl⟩
 exact⟨_,_,_,Φ,rfl,.bool _,hi,.refl _ _ _,rfl,rfl⟩
theorem Ex{l o e:Nat}{t:TypeId}{x:List MV}(hx:x[o]?=some (.int .i32 0)):aA Tryz.prog 312 [.ptr l 0 o] (St.none.set l (.row t e [x])) (fun v σ'=>v=.tup []∧σ'=St.none.set l (.row t e [x.set o (.int .i32 1)])):=by
 refine⟨⟨_,Tryz.func312,rfl,rfl⟩,fun Φ w vs hi hr=>?_⟩
 obtain⟨p,R,v0,hp,hb,hc,hr0,hz,i1,s1⟩:=hZ hi (aM _ _ _) hx (m:=.int .i32 1) rfl (.int .i32 1)
 have e0:=hr0.aX
 subst e0
 obtain⟨p',R',hp',hb',he⟩:=nX hr
 rw[hp] at hp';cases hp'
 rw[hb] at hb';cases hb'
 have hv:vs=#[.pointer (some ⟨R,p.bo+o,none⟩)]:=by
  have h1:=hr.1
  apply Array.ext
  ·simpa using h1
  ·intro i h3 h4
   have:i=0:=by simp at h4;omega
   subst this
   simpa[Array.getD_eq_getD_getElem?,Array.getElem?_eq_getElem h3] using he
 subst hv
 refine(Go.MuLone.lock_free K6 ⟨R,p.bo+o,none⟩ w hc hz).mono ?_
 rintro e' w' ⟨rfl,rfl⟩
 refine⟨_,.tup [],_,Φ,rfl,.tup rfl (by simp),i1,s1,rfl,?_⟩
 rw[set_set]
theorem Dz{σ:St}{K:St→Prop}{l o e:Nat}{t:TypeId}{x:List MV}(hs:σ l=some (.row t e [x]))(hx:x[o]?=some (.int .i32 1))(hk:R (K (σ.set l (.row t e [x.set o (.int .i32 0)])))):R (Ac Tryz.prog 313 [.ptr l 0 o] σ K):=by
 refine⟨_,K6.f_unlock,rfl,rfl,fun Φ w vs hi hr=>?_⟩
 obtain⟨p,R,v0,hp,hb,hc,hr0,hz,i1,s1⟩:=hZ hi hs hx (m:=.int .i32 0) rfl (.int .i32 0)
 have e0:=hr0.aX
 subst e0
 obtain⟨p',R',hp',hb',he⟩:=nX hr
 rw[hp] at hp';cases hp'
 rw[hb] at hb';cases hb'
 have hv:vs=#[.pointer (some ⟨R,p.bo+o,none⟩)]:=by
  have h1:=hr.1
  apply Array.ext
  ·simpa using h1
  ·intro i h3 h4
   have:i=0:=by simp at h4;omega
   subst this
   simpa[Array.getD_eq_getD_getElem?,Array.getElem?_eq_getElem h3] using he
 subst hv
 refine(Go.MuLone.unlock_deferred K6 ⟨R,p.bo+o,none⟩ .returning w hc hz).mono ?_
 rintro e' u' w' ⟨rfl,rfl,rfl⟩
 exact⟨rfl,_,_,Φ,rfl,i1,s1,hk⟩
theorem Ad{σ:St}{K:St→Prop}{l o e:Nat}{t:TypeId}{x:List MV}{n:Int}(hs:σ l=some (.row t e [x]))(hx:x[o]?=some (.int .u32 n))(hk:R (K (σ.set l (.row t e [x.set o (.int .u32 1)])))):R (Ac Tryz.prog 314 [.ptr l 0 o,.bool true] σ K):=by
 refine⟨_,Tryz.func314,rfl,rfl,fun Φ w vs hi hr=>?_⟩
 have hd:=hi.grow (w':=w.drew) rfl rfl rfl (iZ (Nat.le_succ _)) (Nat.le_refl _) (fun _ _=>rfl)
 obtain⟨p,R,v0,hp,hb,hc,hr0,hz,i1,s1⟩:=hZ hd.1 hs hx (m:=.int .u32 1) rfl (.int .u32 1)
 obtain⟨p',R',hp',hb',he⟩:=nX hr
 rw[hp] at hp';cases hp'
 rw[hb] at hb';cases hb'
 have he2:vs.getD 1 undef=.bool true:=by
  have:=hr.2 1 _ rfl
  cases h:vs.getD 1 undef<;>rw[h] at this<;>cases this
  rfl
 have hv:vs=#[.pointer (some ⟨R,p.bo+o,none⟩),.bool true]:=by
  have h1:=hr.1
  apply Array.ext
  ·simpa using h1
  ·intro i h3 h4
   match i,h3 with
   | 0,h3=>simpa[Array.getD_eq_getD_getElem?,Array.getElem?_eq_getElem h3] using he
   | 1,h3=>simpa[Array.getD_eq_getD_getElem?,Array.getElem?_eq_getElem h3] using he2
   | i+2,_=>simp at h4;omega
 subst hv
 refine(rE ⟨R,p.bo+o,none⟩ v0 .returning w (by simpa using hc) (by simpa using hz) rfl).mono ?_
 rintro e' u' w' ⟨rfl,rfl,rfl⟩
 exact⟨rfl,_,_,Φ,rfl,i1,hd.2.trans s1,hk⟩
end

section
set_option maxRecDepth 100000
set_option maxHeartbeats 4000000
def Me(op:Int):FuncId:=if op=11 then 273 else 274
def DO:T→FuncId
 | .leaf x=>Cb x.op
 | .one _ _=>272
 | .two x _ _=>Me x.op
def jS:T→MV
 | .leaf x=>Gu x
 | .one _ a=>.fn (.func 272) [] [.cptr [jS a]]
 | .two x a b=>.fn (.func (Me x.op)) [] [.cptr [jS a],.cptr [jS b]]
def DN:T→List MV
 | .leaf x=>Ca x
 | .one _ a=>[.cptr [jS a]]
 | .two _ a b=>[.cptr [jS a],.cptr [jS b]]
theorem kG:∀t:T,jS t=.fn (.func (DO t)) [] (DN t)
 | .leaf _=>rfl
 | .one _ _=>rfl
 | .two _ _ _=>rfl
theorem LV(x:ND)(c:CD)(g:Nat):(T.leaf x).sem (cB c g)=cB c g x:=by
 by_cases h1:x.op=1
 ·simp[T.sem,cB,h1]
 ·by_cases h2:x.op=2
  ·simp[T.sem,cB,h2]
  ·simp[T.sem,h1,h2]
theorem F6(c:CA)(hc:∀k,(c.f.get k).s.size≤1000000)(g:Nat)(hg:g<4294967296):∀t:T,Good t→aA Tryz.prog (DO t) (.cptr c.c::.int .u32 (g:Int)::DN t) St.none (fun r _=>r=.bool (t.sem (cB (oE c) g)))
 | .leaf x,h=>by
  rw[LV]
  exact PM c hc g hg x (h.2 x (by simp[T.fl]))
 | .one x a,h=>by
  have ih:=F6 c hc g hg a (uP.1 h).2.2
  have ha:=kG a
  have e:(T.one x a).sem (cB (oE c) g)=!a.sem (cB (oE c) g):=by simp[T.sem]
  rw[e]
  show aA Tryz.prog 272 [.cptr c.c,.int .u32 (g:Int),.cptr [jS a]] St.none _
  rw[ha]
  refine(aA.body 11 [.tmp 5] Tryz.func272 rfl rfl rfl rfl ?_)
  generalize c.c=cells at ih ⊢
  repeat' (first|(with_reducible first|refine up ih ?_)|(with_reducible first|(refine wN fun _ hnl=>?_;revert hnl;(repeat refine wS fun _ _=>?_);intro hnl)|refine wE ?_|(refine wK ?_ ?_<;>intro h)|(refine wB ?_ ?_<;>intro h<;>simp only[h]))|simp(maxSteps:=4000000) (disch:=first|exact ddL|fail) only[go_sem,simprocAttr,Tryz.f272])
 | .two x a b,h=>by
  obtain⟨q1,_,ga,gb⟩:=uQ.1 h
  have ia:=F6 c hc g hg a ga
  have ib:=F6 c hc g hg b gb
  have ha:=kG a
  have hb:=kG b
  have hs:(T.two x a b).sem (cB (oE c) g)=if x.op=11 then a.sem (cB (oE c) g)&&b.sem (cB (oE c) g) else a.sem (cB (oE c) g) || b.sem (cB (oE c) g):=by
   by_cases e:x.op=11<;>simp[T.sem,e]
  rw[hs]
  show aA Tryz.prog (Me x.op) [.cptr c.c,.int .u32 (g:Int),.cptr [jS a],.cptr [jS b]] St.none _
  rw[ha,hb]
  unfold Me
  generalize c.c=cells at ia ib ⊢
  generalize a.sem (cB (oE c) g)=sa at ia ⊢
  generalize b.sem (cB (oE c) g)=sb at ib ⊢
  by_cases e:x.op=11
  ·rw[if_pos e,if_pos e]
   refine(aA.body 17 [.tmp 6] Tryz.func273 rfl rfl rfl rfl ?_)
   cases sa
   all_goals
    repeat' (first|(with_reducible first|refine up ia ?_|refine up ib ?_)|(with_reducible first|(refine wN fun _ hnl=>?_;revert hnl;(repeat refine wS fun _ _=>?_);intro hnl)|refine wE ?_|(refine wK ?_ ?_<;>intro h)|(refine wB ?_ ?_<;>intro h<;>simp only[h]))|simp(maxSteps:=4000000) (disch:=first|exact ddL|fail) only[go_sem,simprocAttr,Tryz.f273])
    all_goals first|rfl|(cases sb<;>rfl)
  ·rw[if_neg e,if_neg e]
   refine(aA.body 17 [.tmp 6] Tryz.func274 rfl rfl rfl rfl ?_)
   cases sa
   all_goals
    repeat' (first|(with_reducible first|refine up ia ?_|refine up ib ?_)|(with_reducible first|(refine wN fun _ hnl=>?_;revert hnl;(repeat refine wS fun _ _=>?_);intro hnl)|refine wE ?_|(refine wK ?_ ?_<;>intro h)|(refine wB ?_ ?_<;>intro h<;>simp only[h]))|simp(maxSteps:=4000000) (disch:=first|exact ddL|fail) only[go_sem,simprocAttr,Tryz.f274])
    all_goals first|rfl|(cases sb<;>rfl)
end

section
set_option maxRecDepth 100000
set_option maxHeartbeats 4000000
theorem nN{σ:St}{l:Nat}{t:TypeId}{m:MV}(h:σ l=some (.row t 1 [[m]])):View σ (.ptr l 0 0) (.cptr [m]):=View.ptr (i:=0) (o:=0) h (by simp)
theorem lJ:∀T:T,Good T→∀(r:List ND) (t:Bool),(T.fl++r).length≤1000000→aA Tryz.prog 192 [.lst 5 ((T.fl++r).map ND.c) t] St.none (fun v _=>v=.tup [jS T,.lst 5 (r.map ND.c) false])
 | .leaf x,h,r,t,hl=>by
  refine aA.seen (aA.body 42 [.tmp 2,.tmp 3] Tryz.func192 rfl rfl rfl rfl ?_)
  have hp:=gD x.op
  have h0:parts x.op=0:=h.1
  rw[h0] at hp
  have hlf:=HJ x
  simp only[T.fl,List.cons_append,List.nil_append,List.map_cons,jS,List.length_cons] at hl ⊢
  generalize Gu x=lv at hlf ⊢
  repeat' (first|(with_reducible first|refine up hp ?_|refine up hlf ?_)|(with_reducible first|(refine wN fun _ hnl=>?_;revert hnl;(repeat refine wS fun _ _=>?_);intro hnl)|refine wE ?_|(refine wK ?_ ?_<;>intro h)|(refine wB ?_ ?_<;>intro h<;>simp only[h]))|simp(maxSteps:=4000000) (disch:=first|exact ddL|fail) only[go_sem,simprocAttr,Tryz.f192])
  exact .two (.same _) .loose
 | .one x a,h,r,t,hl=>by
  refine aA.seen (aA.body 42 [.tmp 2,.tmp 3] Tryz.func192 rfl rfl rfl rfl ?_)
  have h0:parts x.op=1:=h.1.1
  have hop:=zR h0
  have hp:aA Tryz.prog 267 [.int .i64 10] St.none (fun r _=>r=.int .i64 1):=gD 10
  simp only[T.fl,List.cons_append,List.length_cons] at hl
  have ih:=lJ a (uP.1 h).2.2 r t (by omega)
  have e:((T.one x a).fl++r).map ND.c=x.c::(a.fl++r).map ND.c:=rfl
  rw[e]
  simp only[jS]
  rw[kG a] at ih ⊢
  generalize DO a=fa at ih ⊢
  generalize DN a=ca at ih ⊢
  have hlen:((a.fl++r).map ND.c).length=(a.fl++r).length:=List.length_map _
  generalize (a.fl++r).map ND.c=l1 at ih hlen ⊢
  repeat' (first|(with_reducible first|refine up hp ?_|refine up ih ?_)|(with_reducible first|(refine wN fun _ hnl=>?_;revert hnl;(repeat refine wS fun _ _=>?_);intro hnl)|refine wE ?_|(refine wK ?_ ?_<;>intro h)|(refine wB ?_ ?_<;>intro h<;>simp only[h]))|simp(maxSteps:=4000000) (disch:=first|exact ddL|fail) only[go_sem,simprocAttr,Tryz.f192,hop])
  exact .two (.fn rfl (fK (nN (t:=185) (by simp[St.set, *])))) (.same _)
 | .two x a b,h,r,t,hl=>by
  refine aA.seen (aA.body 42 [.tmp 2,.tmp 3] Tryz.func192 rfl rfl rfl rfl ?_)
  obtain⟨q1,_,ga,gb⟩:=uQ.1 h
  have hp11:aA Tryz.prog 267 [.int .i64 11] St.none (fun r _=>r=.int .i64 2):=gD 11
  have hp12:aA Tryz.prog 267 [.int .i64 12] St.none (fun r _=>r=.int .i64 2):=gD 12
  simp only[T.fl,List.cons_append,List.length_cons,List.append_assoc] at hl
  have ia:=lJ a ga (b.fl++r) t (by omega)
  have ib:=lJ b gb r false (by simp only[List.length_append] at hl ⊢;omega)
  have e:((T.two x a b).fl++r).map ND.c=x.c::(a.fl++(b.fl++r)).map ND.c:=by simp[T.fl]
  rw[e]
  simp only[jS]
  rw[kG a] at ia ⊢
  rw[kG b] at ib ⊢
  generalize DO a=fa at ia ⊢
  generalize DN a=ca at ia ⊢
  generalize DO b=fb at ib ⊢
  generalize DN b=cb at ib ⊢
  have hlen:((a.fl++(b.fl++r)).map ND.c).length=(a.fl++(b.fl++r)).length:=List.length_map _
  generalize (a.fl++(b.fl++r)).map ND.c=l1 at ia hlen ⊢
  generalize (b.fl++r).map ND.c=l2 at ia ib ⊢
  unfold Me
  rcases zS q1 with h1|h1<;>rw[h1]
  ·rw[if_pos rfl]
   repeat' (first|(with_reducible first|refine up hp11 ?_|refine up ia ?_|refine up ib ?_)|(with_reducible first|(refine wN fun _ hnl=>?_;revert hnl;(repeat refine wS fun _ _=>?_);intro hnl)|refine wE ?_|(refine wK ?_ ?_<;>intro h)|(refine wB ?_ ?_<;>intro h<;>simp only[h]))|simp(maxSteps:=4000000) (disch:=first|exact ddL|fail) only[go_sem,simprocAttr,Tryz.f192,h1])
   exact .two (.fn rfl (lH (nN (t:=185) (by simp[St.set, *])) (nN (t:=185) (by simp[St.set, *])))) (.same _)
  ·rw[if_neg (by decide)]
   repeat' (first|(with_reducible first|refine up hp12 ?_|refine up ia ?_|refine up ib ?_)|(with_reducible first|(refine wN fun _ hnl=>?_;revert hnl;(repeat refine wS fun _ _=>?_);intro hnl)|refine wE ?_|(refine wK ?_ ?_<;>intro h)|(refine wB ?_ ?_<;>intro h<;>simp only[h]))|simp(maxSteps:=4000000) (disch:=first|exact ddL|fail) only[go_sem,simprocAttr,Tryz.f192,h1])
   exact .two (.fn rfl (lH (nN (t:=185) (by simp[St.set, *])) (nN (t:=185) (by simp[St.set, *])))) (.same _)
end

section
def dL(kl kb kr:Bool):List Int→List Int→List Int
 | [],b=>if kr=true then b else[]
 | x::a,[]=>if kl=true then x::a else[]
 | x::a,y::b=>if x<y then(if kl=true then[x] else[])++dL kl kb kr a (y::b) else if y<x then(if kr=true then[y] else[])++dL kl kb kr (x::a) b else(if kb=true then[x] else[])++dL kl kb kr a b
termination_by a b=>a.length+b.length
theorem rF{kl kb kr:Bool}{b:List Int}:dL kl kb kr [] b=if kr=true then b else[]:=by rw[dL]
theorem mD{kl kb kr:Bool}:∀{a:List Int},dL kl kb kr a []=if kl=true then a else[]
 | []=>by rw[dL];split<;>simp
 | x::a=>by rw[dL]
theorem uC{kl kb kr:Bool}{x y:Int}{a b:List Int}(h:x<y):dL kl kb kr (x::a) (y::b)=(if kl=true then[x] else[])++dL kl kb kr a (y::b):=by rw[dL,if_pos h]
theorem uB{kl kb kr:Bool}{x y:Int}{a b:List Int}(h:y<x):dL kl kb kr (x::a) (y::b)=(if kr=true then[y] else[])++dL kl kb kr (x::a) b:=by rw[dL,if_neg (by omega),if_pos h]
theorem uA{kl kb kr:Bool}{x y:Int}{a b:List Int}(h1:¬x<y)(h2:¬y<x):dL kl kb kr (x::a) (y::b)=(if kb=true then[x] else[])++dL kl kb kr a b:=by rw[dL,if_neg h1,if_neg h2]
theorem nO{kl kb kr:Bool}:∀(n:Nat) (a b:List Int),a.length+b.length≤n→(dL kl kb kr a b).length≤a.length+b.length
 | n,[],b,h=>by rw[rF];split<;>simp
 | n,x::a,[],h=>by rw[mD];split<;>simp
 | 0,x::a,y::b,h=>by simp at h
 | n+1,x::a,y::b,h=>by
  simp only[List.length_cons] at h
  by_cases h1:x<y
  ·rw[uC h1,List.length_append]
   have:=nO (kl:=kl) (kb:=kb) (kr:=kr) n a (y::b) (by simp;omega)
   simp only[List.length_cons] at this ⊢
   have h3:(if kl=true then[x] else[]).length≤1:=by split<;>simp
   omega
  ·by_cases h2:y<x
   ·rw[uB h2,List.length_append]
    have:=nO (kl:=kl) (kb:=kb) (kr:=kr) n (x::a) b (by simp;omega)
    simp only[List.length_cons] at this ⊢
    have h3:(if kr=true then[y] else[]).length≤1:=by split<;>simp
    omega
   ·rw[uA h1 h2,List.length_append]
    have:=nO (kl:=kl) (kb:=kb) (kr:=kr) n a b (by omega)
    simp only[List.length_cons] at this ⊢
    have h3:(if kb=true then[x] else[]).length≤1:=by split<;>simp
    omega
abbrev UpI(l:List Int):Prop:=l.Pairwise (·<·)
theorem kE:∀(n:Nat) (a b:List Int),a.length+b.length≤n→UpI a→UpI b→dL true false false a b=cG a b
 | n,[],b,h,_,_=>by rw[rF];rfl
 | n,x::a,[],h,_,_=>by
  rw[mD,cG,if_pos rfl]
  exact(List.filter_eq_self.2 fun _ _=>rfl).symm
 | 0,x::a,y::b,h,_,_=>by simp at h
 | n+1,x::a,y::b,h,ha,hb=>by
  simp only[List.length_cons] at h
  obtain⟨ha1,ha2⟩:=List.pairwise_cons.1 ha
  obtain⟨hb1,hb2⟩:=List.pairwise_cons.1 hb
  by_cases h1:x<y
  ·rw[uC h1,kE n a (y::b) (by simp;omega) ha2 hb,if_pos rfl]
   have hx:x∉y::b:=fun hm=>by
    rcases List.mem_cons.1 hm with e|hm
    ·omega
    ·have:=hb1 x hm;omega
   simp only[cG,List.filter_cons,hx,decide_false,Bool.not_false,if_true]
   rfl
  ·by_cases h2:y<x
   ·rw[uB h2,kE n (x::a) b (by simp;omega) ha hb2,if_neg (by simp),List.nil_append]
    unfold cG
    refine List.filter_congr fun z hz=>?_
    have:z≠y:=fun e=>by
     rcases List.mem_cons.1 hz with e'|hz
     ·omega
     ·have:=ha1 z hz;omega
    simp[this]
   ·have e:x=y:=by omega
    subst e
    rw[uA h1 h2,kE n a b (by omega) ha2 hb2,if_neg (by simp),List.nil_append]
    have h3:cG a (x::b)=cG a b:=by
     unfold cG
     refine List.filter_congr fun z hz=>?_
     have:z≠x:=fun e=>by have:=ha1 z hz;omega
     simp[this]
    rw[←h3]
    simp[cG]
theorem FT:∀{last:Int} {l:List Int},fP last l=true→UpI l∧∀x,x∈l→last<x∧1≤x∧x<1073741824
 | _,[],_=>⟨.nil,by simp⟩
 | last,x::l,h=>by
  rw[fP,Bool.and_eq_true,decide_eq_true_eq] at h
  obtain⟨⟨h1,h2,h3⟩,h4⟩:=h
  unfold eD at h3
  obtain⟨i1,i2⟩:=FT h4
  refine⟨List.pairwise_cons.2 ⟨fun y hy=>(i2 y hy).1,i1⟩,fun y hy=>?_⟩
  rcases List.mem_cons.1 hy with rfl|hy
  ·exact⟨h1,h2,h3⟩
  ·obtain⟨a,b,c⟩:=i2 y hy
   exact⟨by omega,b,c⟩
theorem Mg{nx last:Int}{cs:List CA}(h:dO nx last cs=true):UpI (cs.map CA.id):=List.pairwise_map.2 (iR h).2
end

section
set_option maxRecDepth 100000
set_option maxHeartbeats 8000000
abbrev saR(l:List RW):SA:=⟨bkZ,[],l⟩
abbrev stO(l:List RW):bE:=.row 30 7 [(saR l).c]
theorem xD(o:Nat)(ok:Bool):aA Tryz.prog 80 [.ptr o 0 0] (St.none.set o (.row 4 1 [[.bool ok]])) (fun v σ'=>v=.bool ok∧σ'=St.none.set o (.row 4 1 [[.bool ok]])):=by
 refine(aA.body 3 [.tmp 1] Tryz.func80 rfl rfl rfl rfl ?_)
 repeat' (first|(with_reducible first|(refine wN fun _ hnl=>?_;revert hnl;(repeat refine wS fun _ _=>?_);intro hnl)|refine wE ?_|(refine wK ?_ ?_<;>intro h)|(refine wB ?_ ?_<;>intro h<;>simp only[h]))|simp(maxSteps:=4000000) (disch:=first|decide|assumption|omega|(simp only[wL];omega)) only[go_sem,simprocAttr,Tryz.f80])
 all_goals exact⟨rfl,rfl⟩
theorem Mq(p s b:Nat)(l:List RW)(h:s≠p):aA Tryz.prog 81 [.ptr p 0 0,.ptr s 0 0] ((St.none.set p (.row 43 1 [[.ptr b 0 0]])).set s (stO l)) (fun v σ'=>v=.bool true∧σ'=(St.none.set p (.row 43 1 [[.ptr b 0 0]])).set s (stO l)):=by
 refine(aA.body 13 [.tmp 2] Tryz.func81 rfl rfl rfl rfl ?_)
 have h':=Ne.symm h
 have hs:=Bi b
 repeat' (first|(with_reducible first|refine up hs ?_)|(with_reducible first|(refine wN fun _ hnl=>?_;revert hnl;(repeat refine wS fun _ _=>?_);intro hnl)|refine wE ?_|(refine wK ?_ ?_<;>intro h)|(refine wB ?_ ?_<;>intro h<;>simp only[h]))|simp(maxSteps:=4000000) (disch:=first|decide|assumption|omega|(simp only[wL];omega)) only[go_sem,simprocAttr,Tryz.f81,bkZ,List.map_nil])
 all_goals exact⟨rfl,rfl⟩
theorem Mr(s:Nat)(l:List RW)(hl:l.length≤1000000)(hf:∀r,r∈l→r.ans.fl.length≤1000000):aA Tryz.prog 83 [.ptr s 0 0] (St.none.set s (stO l)) (fun v σ'=>v=.bool (cE l)∧σ'=St.none.set s (stO l)):=by
 refine(aA.body 11 [.tmp 1] Tryz.func83 rfl rfl rfl rfl ?_)
 have hs:=sM l hl hf
 repeat' (first|(with_reducible first|refine up hs ?_)|(with_reducible first|(refine wN fun _ hnl=>?_;revert hnl;(repeat refine wS fun _ _=>?_);intro hnl)|refine wE ?_|(refine wK ?_ ?_<;>intro h)|(refine wB ?_ ?_<;>intro h<;>simp only[h]))|simp(maxSteps:=4000000) (disch:=first|decide|assumption|omega|(simp only[wL];omega)) only[go_sem,simprocAttr,Tryz.f83,bkZ,List.map_nil])
 all_goals exact⟨rfl,rfl⟩
theorem Ms(s:Nat)(l:List RW):aA Tryz.prog 85 [.ptr s 0 0] (St.none.set s (stO l)) (fun v σ'=>v=.bool true∧σ'=St.none.set s (stO l)):=by
 refine(aA.body 22 [.tmp 1] Tryz.func85 rfl rfl rfl rfl ?_)
 repeat' (first|(with_reducible first|(refine wN fun _ hnl=>?_;revert hnl;(repeat refine wS fun _ _=>?_);intro hnl)|refine wE ?_|(refine wK ?_ ?_<;>intro h)|(refine wB ?_ ?_<;>intro h<;>simp only[h]))|simp(maxSteps:=4000000) (disch:=first|decide|assumption|omega|(simp only[wL];omega)) only[go_sem,simprocAttr,Tryz.f85,bkZ,List.map_nil])
 refine aD (α:=Unit) (fun _=>⟨22,[(7,.int .i64 0),(6,.int .i64 0)],[]⟩)
  (fun _=>St.none.set s (stO l)) (fun _=>True) (fun _=>0) ?_ ?_
 ·refine .of (.less ?_ (St.le_refl _)) ⟨(),rfl,rfl,trivial⟩
  simp(maxSteps:=4000000) (disch:=first|decide|assumption|omega|(simp only[wL];omega)) only[go_sem,simprocAttr,aC,aB]
  all_goals first|rfl|(simp;done)
 ·rintro⟨⟩ -
  repeat' (first|(with_reducible first|(refine wN fun _ hnl=>?_;revert hnl;(repeat refine wS fun _ _=>?_);intro hnl)|refine wE ?_|(refine wK ?_ ?_<;>intro h)|(refine wB ?_ ?_<;>intro h<;>simp only[h]))|simp(maxSteps:=4000000) (disch:=first|decide|assumption|omega|(simp only[wL];omega)) only[go_sem,simprocAttr])
  all_goals exact⟨rfl,rfl⟩
theorem yO(l:List RW)(hl:l.length≤1000000)(hf:∀r,r∈l→r.ans.fl.length≤1000000):aA Tryz.prog 16 [.agg (saR l).c] St.none (fun r _=>r=.int .i64 (if cE l=true then 0 else 3)):=by
 refine aA.bF (aA.body 32 [.tmp 2] Tryz.func16 rfl rfl rfl rfl ?_)
 have hln:∀r,r∈l→r.ans.fl.length≤1000000:=hf
 obtain⟨res,hres⟩:∃b,cE l=b:=⟨_,rfl⟩
 have h3:=fun s=>Mr s l hl hf
 rw[hres] at h3 ⊢
 repeat' (first|(refine DA Ag ?_;(intro pm ps pb hm hl hb hlm hbm hbl;have hml:=Ne.symm hlm;have hmb:=Ne.symm hbm;have hlb:=Ne.symm hbl;have m1:=(bL hm).1;have l1:=(bL hl).1;have b1:=(bL hb).1;have m2:=Ne.symm m1;have l2:=Ne.symm l1;have b2:=Ne.symm b1))|(with_reducible first|(refine wT ?_;(first|((fail_if_success (have:=nl1));refine wN fun nl1 hnl=>?_)|((fail_if_success (have:=nl2));refine wN fun nl2 hnl=>?_)|((fail_if_success (have:=nl3));refine wN fun nl3 hnl=>?_)|((fail_if_success (have:=nl4));refine wN fun nl4 hnl=>?_)|refine wN fun _ hnl=>?_);revert hnl;(repeat refine wS fun _ _=>?_);intro hnl)|refine wE ?_|(refine wK ?_ ?_<;>intro h)|(refine wB ?_ ?_<;>intro h<;>simp only[h]))|simp(maxSteps:=4000000) (disch:=first|decide|assumption|omega|(simp only[wL];omega)) only[go_sem,simprocAttr,Tryz.f16,bkZ,List.map_nil])
 have d21:nl2≠nl1:=by assumption
 have d31:nl3≠nl1:=by assumption
 have d32:nl3≠nl2:=by assumption
 have d41:nl4≠nl1:=by assumption
 have d42:nl4≠nl2:=by assumption
 have d43:nl4≠nl3:=by assumption
 obtain⟨S,hS⟩:∃S:St,S=(((St.none.set nl1 (stO l)).set nl2 (.row 43 1 [[.ptr pb 0 0]])).set nl3 (.row 4 1 [[.bool true]])).set nl4 (.row 32 1 [[.fn (.func 80) [] [.ptr nl3 0 0]],[.fn (.func 81) [] [.ptr nl2 0 0,.ptr nl1 0 0]],[.fn (.func 83) [] [.ptr nl1 0 0]],[.fn (.func 85) [] [.ptr nl1 0 0]]]):=⟨_,rfl⟩
 have s1:S nl1=some (stO l):=by subst hS;simp[St.set, *,Ne.symm d21,Ne.symm d31,Ne.symm d41]
 have s2:S nl2=some (.row 43 1 [[.ptr pb 0 0]]):=by subst hS;simp[St.set,Ne.symm d42,Ne.symm d32]
 have s3:S nl3=some (.row 4 1 [[.bool true]]):=by subst hS;simp[St.set,Ne.symm d43]
 have s4:S nl4=some (.row 32 1 [[.fn (.func 80) [] [.ptr nl3 0 0]],[.fn (.func 81) [] [.ptr nl2 0 0,.ptr nl1 0 0]],[.fn (.func 83) [] [.ptr nl1 0 0]],[.fn (.func 85) [] [.ptr nl1 0 0]]]):=by subst hS;simp[St.set]
 refine aD (α:=Nat) (fun i=>⟨32,[(21,.int .i64 (i:Int)),(20,.int .i64 4),(19,.vec 1 nl4 0 4)],[]⟩) (fun _=>S) (fun i=>i≤4∧(3≤i→res=true)) (fun i=>4 - i) ?_ ?_
 ·refine .of (.less ?_ (σ1:=S) ?_) ⟨0,rfl,rfl,by omega,by omega⟩
  ·simp(maxSteps:=4000000) (disch:=first|decide|assumption|omega|(simp only[wL];omega)) only[go_sem,simprocAttr,aC,aB]
   all_goals first|rfl|(simp;done)
  ·subst hS
   exact St.aL (St.aL (St.aL (St.aL (St.none_le _) (by simp[St.set,bkZ, *])) (by simp[St.set, *])) (by simp[St.set, *])) (by simp[St.set, *])
 ·rintro i ⟨hi,h3i⟩
  obtain rfl|rfl|rfl|rfl|rfl:i=0∨i=1∨i=2∨i=3∨i=4:=by omega
  ·repeat' (first|(refine bS (xD nl3 true) (St.aL (St.none_le _) s3) ?_)|(with_reducible first|(refine wT ?_;(first|((fail_if_success (have:=nl1));refine wN fun nl1 hnl=>?_)|((fail_if_success (have:=nl2));refine wN fun nl2 hnl=>?_)|((fail_if_success (have:=nl3));refine wN fun nl3 hnl=>?_)|((fail_if_success (have:=nl4));refine wN fun nl4 hnl=>?_)|refine wN fun _ hnl=>?_);revert hnl;(repeat refine wS fun _ _=>?_);intro hnl)|refine wE ?_|(refine wK ?_ ?_<;>intro h)|(refine wB ?_ ?_<;>intro h<;>simp only[h]))|simp(maxSteps:=4000000) (disch:=first|decide|assumption|omega|(simp only[wL];omega)) only[go_sem,simprocAttr,s1,s2,s3,s4])
   refine .of (.less ?_ (St.le_refl _)) ⟨1,rfl,rfl,⟨by omega,by omega⟩,by omega⟩
   simp(maxSteps:=4000000) (disch:=first|decide|assumption|omega|(simp only[wL];omega)) only[go_sem,simprocAttr,aC,aB]
   all_goals first|rfl|(simp;done)
  ·repeat' (first|(refine bS (Mq nl2 nl1 pb l (Ne.symm d21)) (St.aL (St.aL (St.none_le _) s2) s1) ?_)|(with_reducible first|(refine wT ?_;(first|((fail_if_success (have:=nl1));refine wN fun nl1 hnl=>?_)|((fail_if_success (have:=nl2));refine wN fun nl2 hnl=>?_)|((fail_if_success (have:=nl3));refine wN fun nl3 hnl=>?_)|((fail_if_success (have:=nl4));refine wN fun nl4 hnl=>?_)|refine wN fun _ hnl=>?_);revert hnl;(repeat refine wS fun _ _=>?_);intro hnl)|refine wE ?_|(refine wK ?_ ?_<;>intro h)|(refine wB ?_ ?_<;>intro h<;>simp only[h]))|simp(maxSteps:=4000000) (disch:=first|decide|assumption|omega|(simp only[wL];omega)) only[go_sem,simprocAttr,s1,s2,s3,s4])
   refine .of (.less ?_ (St.le_refl _)) ⟨2,rfl,rfl,⟨by omega,by omega⟩,by omega⟩
   simp(maxSteps:=4000000) (disch:=first|decide|assumption|omega|(simp only[wL];omega)) only[go_sem,simprocAttr,aC,aB]
   all_goals first|rfl|(simp;done)
  ·cases res
   ·repeat' (first|(refine bS (h3 nl1) (St.aL (St.none_le _) s1) ?_)|(with_reducible first|(refine wT ?_;(first|((fail_if_success (have:=nl1));refine wN fun nl1 hnl=>?_)|((fail_if_success (have:=nl2));refine wN fun nl2 hnl=>?_)|((fail_if_success (have:=nl3));refine wN fun nl3 hnl=>?_)|((fail_if_success (have:=nl4));refine wN fun nl4 hnl=>?_)|refine wN fun _ hnl=>?_);revert hnl;(repeat refine wS fun _ _=>?_);intro hnl)|refine wE ?_|(refine wK ?_ ?_<;>intro h)|(refine wB ?_ ?_<;>intro h<;>simp only[h]))|simp(maxSteps:=4000000) (disch:=first|decide|assumption|omega|(simp only[wL];omega)) only[go_sem,simprocAttr,s1,s2,s3,s4])
    all_goals first|exact⟨_,St.le_refl _,rfl⟩|exact⟨_,St.le_refl _⟩
   ·repeat' (first|(refine bS (h3 nl1) (St.aL (St.none_le _) s1) ?_)|(with_reducible first|(refine wT ?_;(first|((fail_if_success (have:=nl1));refine wN fun nl1 hnl=>?_)|((fail_if_success (have:=nl2));refine wN fun nl2 hnl=>?_)|((fail_if_success (have:=nl3));refine wN fun nl3 hnl=>?_)|((fail_if_success (have:=nl4));refine wN fun nl4 hnl=>?_)|refine wN fun _ hnl=>?_);revert hnl;(repeat refine wS fun _ _=>?_);intro hnl)|refine wE ?_|(refine wK ?_ ?_<;>intro h)|(refine wB ?_ ?_<;>intro h<;>simp only[h]))|simp(maxSteps:=4000000) (disch:=first|decide|assumption|omega|(simp only[wL];omega)) only[go_sem,simprocAttr,s1,s2,s3,s4])
    refine .of (.less ?_ (St.le_refl _)) ⟨3,rfl,rfl,⟨by omega,by simp⟩,by omega⟩
    simp(maxSteps:=4000000) (disch:=first|decide|assumption|omega|(simp only[wL];omega)) only[go_sem,simprocAttr,aC,aB]
    all_goals first|rfl|(simp;done)
  ·repeat' (first|(refine bS (Ms nl1 l) (St.aL (St.none_le _) s1) ?_)|(with_reducible first|(refine wT ?_;(first|((fail_if_success (have:=nl1));refine wN fun nl1 hnl=>?_)|((fail_if_success (have:=nl2));refine wN fun nl2 hnl=>?_)|((fail_if_success (have:=nl3));refine wN fun nl3 hnl=>?_)|((fail_if_success (have:=nl4));refine wN fun nl4 hnl=>?_)|refine wN fun _ hnl=>?_);revert hnl;(repeat refine wS fun _ _=>?_);intro hnl)|refine wE ?_|(refine wK ?_ ?_<;>intro h)|(refine wB ?_ ?_<;>intro h<;>simp only[h]))|simp(maxSteps:=4000000) (disch:=first|decide|assumption|omega|(simp only[wL];omega)) only[go_sem,simprocAttr,s1,s2,s3,s4])
   refine .of (.less ?_ (St.le_refl _)) ⟨4,rfl,rfl,⟨by omega,fun _=>h3i (by omega)⟩,by omega⟩
   simp(maxSteps:=4000000) (disch:=first|decide|assumption|omega|(simp only[wL];omega)) only[go_sem,simprocAttr,aC,aB]
   all_goals first|rfl|(simp;done)
  ·have:=h3i (by omega)
   subst this
   repeat' (first|(with_reducible first|(refine wT ?_;(first|((fail_if_success (have:=nl1));refine wN fun nl1 hnl=>?_)|((fail_if_success (have:=nl2));refine wN fun nl2 hnl=>?_)|((fail_if_success (have:=nl3));refine wN fun nl3 hnl=>?_)|((fail_if_success (have:=nl4));refine wN fun nl4 hnl=>?_)|refine wN fun _ hnl=>?_);revert hnl;(repeat refine wS fun _ _=>?_);intro hnl)|refine wE ?_|(refine wK ?_ ?_<;>intro h)|(refine wB ?_ ?_<;>intro h<;>simp only[h]))|simp(maxSteps:=4000000) (disch:=first|decide|assumption|omega|(simp only[wL];omega)) only[go_sem,simprocAttr,s1,s2,s3,s4])
   all_goals first|exact⟨_,St.le_refl _,rfl⟩|exact⟨_,St.le_refl _⟩
end
end Go.Proofs.YtojmhmejdihaaaaGreatDoor
