/- Parts of the proof, joined; conditions: those that its theorems name. -/
import Derived.Test.YtaojijkdamfbnaaGreatDoorMbzl
import Derived.Test.YtaojijkdamfbnaaGreatDoorMbzm
set_option linter.unusedVariables false
set_option linter.unusedSimpArgs false
set_option maxHeartbeats 4000000
namespace Go.Proofs.YtaojijkdamfbnaaGreatDoor
section
set_option maxRecDepth 100000
set_option maxHeartbeats 8000000
theorem LW:∀t:T,t.fl≠[]:=fun t=>by cases t<;>simp[T.fl]
theorem J2{x:ND}(h:bU [x]=0):mP [x]=.leaf x:=by
 have ht:=(r0 h).2.1
 cases hc:mP [x] with
 | leaf y=>rw[hc] at ht;simp only[T.fl,List.cons.injEq,and_true] at ht;rw[ht]
 | one y a=>rw[hc] at ht;simp only[T.fl,List.cons.injEq] at ht;exact absurd ht.2 (LW a)
 | two y a b=>rw[hc] at ht;simp only[T.fl,List.cons.injEq,List.append_eq_nil_iff] at ht;exact absurd ht.2.1 (LW a)
theorem D1{x:ND}(h:bU [x]=0)(gr:List GR)(c:CA):gI gr [x] c=if x.op=1 then true else if x.op=2 then false else bS (lU c) (grB gr c.id) x:=by
 unfold gI
 rw[J2 h];rfl
def pa1:PA:=⟨1,0,f80⟩
def ex1:CA:=cN 1 pa1
def ex2:CA:=cN 2 pa1
end

section
set_option maxRecDepth 100000
set_option maxHeartbeats 8000000
theorem J8{P:Program}{g:FuncId}{ms:List MV}{σ τ:St}{m l b:Nat}{om ol ob:aX}{r:MV}{k:MV→St→Prop}(h:aA P g ms τ fun v σ'=>v=r∧σ'=((τ.set m om).set l ol).set b ob)(hle:τ.le σ)(hk:R (bT r (((σ.set m om).set l ol).set b ob) k)):R (eC P g ms σ k) :=
 cK h hle fun v σ' hv _=>by
  obtain⟨rfl,rfl⟩:=hv
  rw[bW,bW,bW,oB hle];exact hk
abbrev mlb(m l b:Nat)(om ol ob:aX):St:=((St.none.set m om).set l ol).set b ob
theorem My{m l b:Nat}{om ol ob om' ol' ob':aX}:mlb m l b om' ol' ob'=(((mlb m l b om ol ob).set m om').set l ol').set b ob':=by
 funext j
 by_cases h1:j=b
 ·simp[St.set,h1]
 ·by_cases h2:j=l
  ·simp[St.set,h1,h2]
  ·by_cases h3:j=m<;>simp[St.set,h1,h2,h3]
def exE:ED:=⟨1,0,0,pa1⟩
theorem No:exE.c=.int .i64 1::.int .i64 0::.int .i64 0::.int .u32 1::.int .u32 0::fc f80:=rfl
theorem LV{nx sq:Int}{m l b:Nat}(hlm:l≠m)(hbm:b≠m)(hbl:b≠l)(D g:MV)(cs:List CA)(hn:cs.length<48)(hx0:0≤nx)(hx:nx<1073741824)(hnew:nx∉cs.map CA.id)(h0:0≤sq)(h1:sq≤1000000000000) :
  aA Tryz.prog 39 [.ptr b 0 0,.agg (.int .i64 1::.int .i64 0::.int .i64 0::.int .u32 1::.int .u32 0::fc f80)] (mlb m l b (.mp (cEs cs)) (shO nx m D) (cF sq l g)) (fun v σ'=>v=.tup [.lst 2 (lL sq [nx]) false,.int .i64 0]∧σ'=(((mlb m l b (.mp (cEs cs)) (shO nx m D) (cF sq l g)).set m (.mp (cEs (cs++[cN nx pa1])))).set l (shO (nx+1) m D)).set b (cF (sq+1) l g)):=by
 rw[←No]
 refine(Hc hlm hbm hbl D g cs pa1 (by decide +kernel) hn hx0 hx hnew h0 h1).mono ?_
 rintro v σ' ⟨q1,q2⟩
 exact⟨q1,q2.trans My⟩
theorem I4{σ:St}{m l b:Nat}{om ol ob:aX}(hm:σ m=some om)(hl:σ l=some ol)(hb:σ b=some ob):(mlb m l b om ol ob).le σ:=St.aH (St.aH (St.aH (St.none_le _) hm) hl) hb
theorem J7{P:Program}{g:FuncId}{ms:List MV}{σ:St}{n:Nat}{on o:aX}{u:Nat→MV}{k:MV→St→Prop}(hn:σ n=some on)(h:aA P g ms (St.none.set n on) fun v σ'=>∃q,v=u q∧σ'=St.none.set q o)(hk:∀q,(σ.del n) q=none→R (bT (u q) ((σ.del n).set q o) k)):R (eC P g ms σ k) :=
 cK h (St.aH (St.none_le _) hn) fun v σ' hv hf=>by
  obtain⟨q,rfl,rfl⟩:=hv
  have e:(St.none.set q o).over (σ.minus (St.none.set n on))=(σ.del n).set q o:=by
   rw[bW,dX]
   congr 1
   funext j
   by_cases h2:j=n
   ·subst h2;simp[St.set,St.minus,St.del]
   ·simp[St.set,St.none,St.minus,St.del,h2]
  rw[e]
  refine hk q ?_
  rcases hf q o (aJ _ _ _) with h|⟨o',h⟩
  ·simp[St.del,h]
  ·by_cases h2:q=n
   ·subst h2;simp[St.del]
   ·rw[aP _ _ _ _ h2] at h;cases h
theorem Bz(x:ND)(h:bU [x]=0)(n:Nat):aA Tryz.prog 12 [.vec 5 n 0 1] (St.none.set n (.row 84 5 [x.c])) (fun v σ'=>∃q,v=.ptr q 0 0∧σ'=St.none.set q (flD [x] false)) :=
 aA.pre (ms':=[.lst 5 ([x].map ND.c) false]) rfl (bD.freeze (St.none.set n (.row 84 5 [x.c])) (St.le_refl _) (St.none_le _) (fun k o hk=>by cases hk) (fun p hp=>by
  simp only[kC,List.mem_singleton] at hp
  subst hp
  exact View.vecAll (aJ _ _ _) rfl)) (rB [x] (by simp) false h)
end

section
set_option maxRecDepth 100000
set_option maxHeartbeats 8000000
theorem Lo(pb pf:Nat)(hne:pf≠pb):oR Tryz.prog 95 [.ptr pb 0 0,.ptr pf 0 0] ((St.none.set pb (.row 33 1 [[.nilp]])).set pf (.row 36 1 [[.nilp]])) [] (fun τ=>True):=by
 refine oR.gF 27 Tryz.func95 rfl rfl rfl rfl fun C hC hspec=>?_
 have hcs:=DH
 have hne':=Ne.symm hne
 refine eF (eQ (gS ?_))
 repeat' (first|(refine aQ hcs ?_)|(with_reducible first|(refine wN fun _ hnl=>?_;revert hnl;(repeat refine wS fun _ _=>?_);intro hnl)|refine wE ?_|(refine wK ?_ ?_<;>intro h)|(refine wB ?_ ?_<;>intro h<;>simp only[h]))|simp(maxSteps:=4000000) (disch:=first|exact ddL|fail) only[go_sem,simprocAttr,Tryz.f95])
 refine eF (kN (uV (α:=Unit) (fun a=>⟨27,[(0,.fn (.yield C.l) [] []),(9,.int .i64 0),(8,.int .i64 0),(7,.bC),(1,.ptr pb 0 0),(2,.ptr pf 0 0)],[]⟩) (fun a=>(St.none.set pb (.row 33 1 [[.nilp]])).set pf (.row 36 1 [[.nilp]])) (fun a=>some 0)
   (fun a=>True) (fun a=>0) ?_ ?_))
 ·refine .of (.less ?_ (St.le_refl _)) ⟨(),rfl,rfl,rfl,trivial⟩
  simp(maxSteps:=4000000) (disch:=first|exact ddL|fail) only[go_sem,simprocAttr,aC,aB]
  all_goals first|rfl|(simp;done)
 ·rintro⟨⟩ -
  refine eQ (gS ?_)
  repeat' (first|(with_reducible first|(refine wN fun _ hnl=>?_;revert hnl;(repeat refine wS fun _ _=>?_);intro hnl)|refine wE ?_|(refine wK ?_ ?_<;>intro h)|(refine wB ?_ ?_<;>intro h<;>simp only[h]))|simp(maxSteps:=4000000) (disch:=first|exact ddL|fail) only[go_sem,simprocAttr])
  refine eF (eQ (gS ?_))
  repeat' (first|(with_reducible first|(refine wN fun _ hnl=>?_;revert hnl;(repeat refine wS fun _ _=>?_);intro hnl)|refine wE ?_|(refine wK ?_ ?_<;>intro h)|(refine wB ?_ ?_<;>intro h<;>simp only[h]))|simp(maxSteps:=4000000) (disch:=first|exact ddL|fail) only[go_sem,simprocAttr])
  exact⟨rfl,.inl rfl,trivial⟩
theorem Bu:aA Tryz.prog 52 [.nilp,.nilp] St.none (fun v σ'=>∃m l,l≠m∧v=.fn (.func 95) [] [.ptr m 0 0,.ptr l 0 0]∧σ'=(St.none.set m (.row 33 1 [[.nilp]])).set l (.row 36 1 [[.nilp]])):=by
 refine(aA.body 6 [.tmp 4] Tryz.func52 rfl rfl rfl rfl ?_)
 repeat' (first|(with_reducible first|(refine wN fun _ hnl=>?_;revert hnl;(repeat refine wS fun _ _=>?_);intro hnl)|refine wE ?_|(refine wK ?_ ?_<;>intro h)|(refine wB ?_ ?_<;>intro h<;>simp only[h]))|simp(maxSteps:=4000000) (disch:=first|exact ddL|fail) only[go_sem,simprocAttr,Tryz.f52])
 all_goals exact⟨_,_,by assumption,rfl,rfl⟩
theorem Lp:aA Tryz.prog 15 [.nilp,.nilp] St.none (fun v _=>v=.bC):=by
 refine(aA.body 17 [.tmp 4] Tryz.func15 rfl rfl rfl rfl ?_)
 have hal:=Bu
 repeat' (first|(refine pP hal ?_;(intro pb pf hpb hpf hne;have hpb1:=hpb;have hpf1:=hpf;simp only[aY] at hpb1 hpf1))|(with_reducible first|(refine wT ?_;(first|((fail_if_success (have:=nl1));refine wN fun nl1 hnl=>?_)|refine wN fun _ hnl=>?_);revert hnl;(repeat refine wS fun _ _=>?_);intro hnl)|refine wE ?_|(refine wK ?_ ?_<;>intro h)|(refine wB ?_ ?_<;>intro h<;>simp only[h]))|simp(maxSteps:=4000000) (disch:=first|exact ddL|fail) only[go_sem,simprocAttr,Tryz.f15])
 obtain⟨b1,-⟩:=hpb1
 obtain⟨c1,-⟩:=hpf1
 have b1':=Ne.symm b1
 have c1':=Ne.symm c1
 refine eF (nQ (gf:=95) (xs:=[]) rfl (σi:=(St.none.set pb (.row 33 1 [[.nilp]])).set pf (.row 36 1 [[.nilp]])) (St.lG (St.lG (St.none_le _))) (Lo pb pf hne).forget ?_ rfl rfl
  (fc:=⟨17,[(5,.ptr nl1 0 0)],[]⟩) rfl (α:=Unit) (fun j a=>St.none.set nl1 (.row 46 1 [[.bC]])) (fun j a=>True) ?_ ?_ ?_)
 ·intro x hx;cases hx
 ·refine .of (.less (l1:=[(5,.ptr nl1 0 0)]) ?_ ?_) ⟨rfl,(),rfl,trivial⟩
  ·simp(maxSteps:=4000000) (disch:=first|exact ddL|fail) only[go_sem,simprocAttr,aC,aB]
   all_goals first|rfl|(simp;done)
  ·refine St.aH (St.none_le _) ?_
   unfold St.minus
   simp[St.set,b1',c1']
   rfl
 ·intro j x a hx;simp at hx
 ·intro a _
  show R _
  repeat' (first|(with_reducible first|(refine wT ?_;(first|((fail_if_success (have:=nl1));refine wN fun nl1 hnl=>?_)|refine wN fun _ hnl=>?_);revert hnl;(repeat refine wS fun _ _=>?_);intro hnl)|refine wE ?_|(refine wK ?_ ?_<;>intro h)|(refine wB ?_ ?_<;>intro h<;>simp only[h]))|simp(maxSteps:=4000000) (disch:=first|exact ddL|fail) only[go_sem,simprocAttr])
theorem JB(mk:UInt32)(cur:Int):aA Tryz.prog 29 [.nilp,.nilp,.int .u32 (mk.toNat:Int),.int .i64 cur,.int .i64 1] St.none (fun r _=>r=.tup [.lst 28 [] false,.int .i64 1073741824]):=by
 refine aA.seen (aA.gF 66 [.tmp 10,.tmp 11] Tryz.func29 rfl rfl rfl rfl ?_)
 have h:=Lp
 refine dM (dW ?_)
 repeat' (first|(with_reducible first|(refine wN fun _ hnl=>?_;revert hnl;(repeat refine wS fun _ _=>?_);intro hnl)|refine wE ?_|(refine wK ?_ ?_<;>intro h)|(refine wB ?_ ?_<;>intro h<;>simp only[h]))|simp(maxSteps:=4000000) (disch:=first|exact ddL|fail) only[go_sem,simprocAttr])
 refine eF (ES (good:=fun f' σ'=>∃M,f'=⟨66,[(4,.int .i64 1),(3,.int .i64 M),(2,.int .u32 (mk.toNat:Int)),(1,.nilp),(0,.nilp)],[]⟩∧σ'=St.none) (dW ?_) ?_)
 ·repeat' (first|(with_reducible first|(refine wN fun _ hnl=>?_;revert hnl;(repeat refine wS fun _ _=>?_);intro hnl)|refine wE ?_|(refine wK ?_ ?_<;>intro h)|(refine wB ?_ ?_<;>intro h<;>simp only[h]))|simp(maxSteps:=4000000) (disch:=first|exact ddL|fail) only[go_sem,simprocAttr])
  all_goals
   refine .of (.less ?_ (St.le_refl _)) ⟨(if 0 > cur then 0 else cur),rfl,rfl⟩
   simp(maxSteps:=4000000) (disch:=first|exact ddL|fail) only[go_sem,simprocAttr,aC,aB]
   all_goals first|rfl|omega|(simp;done)|(simp;omega)
 rintro _ _ ⟨M,rfl,rfl⟩
 refine dW ?_
 repeat' (first|(with_reducible refine aQ h ?_)|(with_reducible first|(refine wN fun _ hnl=>?_;revert hnl;(repeat refine wS fun _ _=>?_);intro hnl)|refine wE ?_|(refine wK ?_ ?_<;>intro h)|(refine wB ?_ ?_<;>intro h<;>simp only[h]))|simp(maxSteps:=4000000) (disch:=first|exact ddL|fail) only[go_sem,simprocAttr])
 all_goals (try (exfalso;omega))
 refine aG (α:=Unit) (fun _=>⟨66,[(27,.int .i64 0),(26,.int .i64 0),(12,.bC),(4,.int .i64 1)],[]⟩) (fun _=>St.none) (fun _=>True) (fun _=>0) (.of (.less ?_ (St.le_refl _)) ⟨(),rfl,rfl,trivial⟩) ?_
 ·simp(maxSteps:=4000000) (disch:=first|exact ddL|fail) only[go_sem,simprocAttr,aC,aB]
  all_goals first|rfl|(simp;done)
 ·intro _ _
  repeat' (first|(with_reducible first|(refine wN fun _ hnl=>?_;revert hnl;(repeat refine wS fun _ _=>?_);intro hnl)|refine wE ?_|(refine wK ?_ ?_<;>intro h)|(refine wB ?_ ?_<;>intro h<;>simp only[h]))|simp(maxSteps:=4000000) (disch:=first|exact ddL|fail) only[go_sem,simprocAttr])
  all_goals (try (exfalso;omega))
  exact hY (.nil _ _)
theorem Az(s:SET):aA Tryz.prog 27 [.agg s.c] St.none (fun r _=>∃b,r=.bool b∧(b=true→Fit s)):=by
 refine(aA.body 23 [.tmp 2] Tryz.func27 rfl rfl rfl rfl ?_)
 have hg:=Ka s.bk
 have hp:=zV s.fl false
 have hm:=zS s.mask
 obtain⟨kb,hk⟩:∃kb,j8 s.bk=kb:=⟨_,rfl⟩
 obtain⟨pe,hpe⟩:∃pe,bU s.fl=pe:=⟨_,rfl⟩
 rw[hpe] at hp
 obtain⟨mb,hmb⟩:∃mb,decide (s.mask.toNat≤511)=mb:=⟨_,rfl⟩
 rw[hmb] at hm
 cases kb
 ·repeat' (first|((refine kL hg ?_;rintro _ ⟨gb,rfl,hgb⟩;cases gb))|(refine aQ (hk ▸ iF s.bk (by have:=(hgb rfl).1;omega) (by have:=(hgb rfl).2.1;omega) (hgb rfl).2.2.1 (hgb rfl).2.2.2) ?_)|(refine aQ hp ?_)|(refine aQ hm ?_)|(with_reducible first|(refine wN fun _ hnl=>?_;revert hnl;(repeat refine wS fun _ _=>?_);intro hnl)|refine wE ?_|(refine wK ?_ ?_<;>intro h)|(refine wB ?_ ?_<;>intro h<;>simp only[h]))|simp(maxSteps:=4000000) (disch:=first|exact ddL|fail) only[go_sem,simprocAttr,List.map_cons,List.map_nil])
  all_goals exact⟨_,rfl,fun h=>by cases h⟩
 ·by_cases h0:pe=0
  ·cases mb
   ·repeat' (first|((refine kL hg ?_;rintro _ ⟨gb,rfl,hgb⟩;cases gb))|(refine aQ (hk ▸ iF s.bk (by have:=(hgb rfl).1;omega) (by have:=(hgb rfl).2.1;omega) (hgb rfl).2.2.1 (hgb rfl).2.2.2) ?_)|(refine aQ hp ?_)|(refine aQ hm ?_)|(with_reducible first|(refine wN fun _ hnl=>?_;revert hnl;(repeat refine wS fun _ _=>?_);intro hnl)|refine wE ?_|(refine wK ?_ ?_<;>intro h)|(refine wB ?_ ?_<;>intro h<;>simp only[h]))|simp(maxSteps:=4000000) (disch:=first|exact ddL|fail) only[go_sem,simprocAttr,h0,List.map_cons,List.map_nil])
    all_goals exact⟨_,rfl,fun h=>by cases h⟩
   ·subst h0
    repeat' (first|((refine kL hg ?_;rintro _ ⟨gb,rfl,hgb⟩;cases gb))|(refine aQ (hk ▸ iF s.bk (by have:=(hgb rfl).1;omega) (by have:=(hgb rfl).2.1;omega) (hgb rfl).2.2.1 (hgb rfl).2.2.2) ?_)|(refine aQ hp ?_)|(refine aQ hm ?_)|(with_reducible first|(refine wN fun _ hnl=>?_;revert hnl;(repeat refine wS fun _ _=>?_);intro hnl)|refine wE ?_|(refine wK ?_ ?_<;>intro h)|(refine wB ?_ ?_<;>intro h<;>simp only[h]))|simp(maxSteps:=4000000) (disch:=first|exact ddL|fail) only[go_sem,simprocAttr,List.map_cons,List.map_nil])
    all_goals first|exact⟨_,rfl,fun _=>⟨hk,(hgb rfl).1,(hgb rfl).2.1,(hgb rfl).2.2.1,(hgb rfl).2.2.2,hpe,of_decide_eq_true hmb⟩⟩|exact⟨_,rfl,fun h=>by cases h⟩
  ·repeat' (first|((refine kL hg ?_;rintro _ ⟨gb,rfl,hgb⟩;cases gb))|(refine aQ (hk ▸ iF s.bk (by have:=(hgb rfl).1;omega) (by have:=(hgb rfl).2.1;omega) (hgb rfl).2.2.1 (hgb rfl).2.2.2) ?_)|(refine aQ hp ?_)|(refine aQ hm ?_)|(with_reducible first|(refine wN fun _ hnl=>?_;revert hnl;(repeat refine wS fun _ _=>?_);intro hnl)|refine wE ?_|(refine wK ?_ ?_<;>intro h)|(refine wB ?_ ?_<;>intro h<;>simp only[h]))|simp(maxSteps:=4000000) (disch:=first|exact ddL|fail) only[go_sem,simprocAttr,h0,List.map_cons,List.map_nil])
   all_goals exact⟨_,rfl,fun h=>by cases h⟩
def vA:BK:=⟨2,3,[ex1,ex2],[],[]⟩
theorem Es:BkR vA:=⟨by decide,by decide,by decide,by decide,by decide +kernel,by decide +kernel,by decide,by decide,by decide +kernel⟩
def exA:ND:=⟨1,0,va0⟩
theorem CH:bU [exA]=0:=by decide +kernel
theorem wO:dS vA [exA] 1 1073741824=[gR ex1 1,gR ex2 1]:=by
 rw[wW Es]
 have h1:∀c,gI vA.gr [exA] c=true:=fun c=>by rw[D1 CH];rfl
 have:shC vA [exA]=[ex1,ex2]:=by
  unfold shC
  show List.filter _ [ex1,ex2]=_
  simp[h1]
 rw[this];rfl
theorem H3:eG (dS vA [exA] 1 1073741824) 0 1=([gR ex1 1],1):=by rw[wO];decide +kernel
theorem H4:eG (dS vA [exA] 1 1073741824) 1 1=([gR ex2 1],1073741824):=by rw[wO];decide +kernel
theorem Et{m l q b f:Nat}(D:nD m l q b)(hf:f≠m∧f≠l∧f≠q∧f≠b)(d:Bool)(cur:Int)(c:CA)(n:Int)(h:eG (dS vA [exA] 1 1073741824) cur 1=([c],n)):aA Tryz.prog 29 [.ptr b 0 0,.ptr f 0 0,.int .u32 1,.int .i64 cur,.int .i64 1] (bfS m l q b vA f [exA] d) (fun r σ'=>r=.tup [.lst 28 [(IT.mk 1 c).k] false,.int .i64 n]∧σ'=bfS m l q b vA f [exA] true):=by
 have k:=pE Es (by decide) (by decide) D hf CH (by decide) d 1 cur 1 (by decide)
 rw[h] at k
 have e:(d || decide (0<vA.cards.length))=true:=by cases d<;>rfl
 rw[e] at k
 exact k
theorem xX:aA Tryz.prog 28 [] St.none (fun r _=>r=.bool true):=by
 refine aA.cU (aA.body 50 [.tmp 0] Tryz.func28 rfl rfl rfl rfl ?_)
 have k1:=fun {m l q b:Nat} (D:nD m l q b)=>LV (nx:=1) (sq:=0) D.lm D.bm D.bl (.vec 3 q 0 0) (.lst 2 [] false) [] (by decide) (by decide) (by decide) (by decide) (by decide) (by decide)
 have k2:=fun {m l q b:Nat} (D:nD m l q b)=>LV (nx:=2) (sq:=1) D.lm D.bm D.bl (.vec 3 q 0 0) (.lst 2 [] false) [ex1] (by decide) (by decide) (by decide) (by decide +kernel) (by decide) (by decide)
 have hnew:aA Tryz.prog 38 [] St.none _:=Ah
 repeat' (first|((refine E9 hnew ?_;intro m l q b hm hl hq hb D;clear hm hl hq hb;simp only[bk1,List.map_nil,List.length_nil];have D':=D;obtain⟨d1,d2,d3,d4,d5,d6⟩:=D;have e1:=Ne.symm d1;have e2:=Ne.symm d2;have e3:=Ne.symm d3;have e4:=Ne.symm d4;have e5:=Ne.symm d5;have e6:=Ne.symm d6))|(with_reducible first|(refine wN fun _ hnl=>?_;revert hnl;(repeat refine wS fun _ _=>?_);intro hnl)|refine wE ?_|(refine wK ?_ ?_<;>intro h)|(refine wB ?_ ?_<;>intro h<;>simp only[h]))|simp(maxSteps:=4000000) (disch:=first|exact ddL|fail) only[go_sem,simprocAttr,Tryz.f28,FXs])
 refine J8 (k1 D') (I4 (by simp[St.set, *]) (by simp[St.set, *]) (by simp[St.set, *])) ?_
 rw[show(cN 1 pa1)=ex1 from rfl,List.nil_append]
 repeat' (first|(with_reducible first|(refine wN fun _ hnl=>?_;revert hnl;(repeat refine wS fun _ _=>?_);intro hnl)|refine wE ?_|(refine wK ?_ ?_<;>intro h)|(refine wB ?_ ?_<;>intro h<;>simp only[h]))|simp(maxSteps:=4000000) (disch:=first|exact ddL|fail) only[go_sem,simprocAttr,FXs])
 refine J8 (k2 D') (I4 (by simp[St.set, *]) (by simp[St.set, *]) (by simp[St.set, *])) ?_
 rw[show(cN 2 pa1)=ex2 from rfl,List.singleton_append]
 repeat' (first|(with_reducible first|(refine wN fun _ hnl=>?_;revert hnl;(repeat refine wS fun _ _=>?_);intro hnl)|refine wE ?_|(refine wK ?_ ?_<;>intro h)|(refine wB ?_ ?_<;>intro h<;>simp only[h]))|simp(maxSteps:=4000000) (disch:=first|exact ddL|fail) only[go_sem,simprocAttr,FXs])
 refine J7 (aJ _ _ _) (Bz exA CH _) fun f hf=>?_
 have hf0:=hf
 repeat' (first|(with_reducible first|(refine wN fun _ hnl=>?_;revert hnl;(repeat refine wS fun _ _=>?_);intro hnl)|refine wE ?_|(refine wK ?_ ?_<;>intro h)|(refine wB ?_ ?_<;>intro h<;>simp only[h]))|simp(maxSteps:=4000000) (disch:=first|exact ddL|fail) only[go_sem,simprocAttr,FXs])
 have fm:f≠m:=fun e=>by subst e;simp[St.set,St.del, *] at hf
 have fl:f≠l:=fun e=>by subst e;simp[St.set,St.del, *] at hf
 have fq:f≠q:=fun e=>by subst e;simp[St.set,St.del, *] at hf
 have fb:f≠b:=fun e=>by subst e;simp[St.set,St.del, *] at hf
 have fm':=Ne.symm fm
 have fl':=Ne.symm fl
 have fq':=Ne.symm fq
 have fb':=Ne.symm fb
 clear hf hf0
 refine uT (Et D' ⟨fm,fl,fq,fb⟩ false 0 _ _ H3) (xY (by show _=some (aX.mp (cEs [ex1,ex2]));simp[St.set, *]) (by show _=some (shO 3 m (.vec 3 q 0 0));simp[St.set, *]) (by show _=some (aX.row 90 3 []);simp[St.set, *]) (by show _=some (cF 2 l (.lst 2 [] false));simp[St.set, *]) (aJ _ _ _)) ?_
 repeat' (first|(with_reducible first|(refine wN fun _ hnl=>?_;revert hnl;(repeat refine wS fun _ _=>?_);intro hnl)|refine wE ?_|(refine wK ?_ ?_<;>intro h)|(refine wB ?_ ?_<;>intro h<;>simp only[h]))|simp(maxSteps:=4000000) (disch:=first|exact ddL|fail) only[go_sem,simprocAttr,FXs])
 refine uT (Et D' ⟨fm,fl,fq,fb⟩ true 1 _ _ H4) (xY (by show _=some (aX.mp (cEs [ex1,ex2]));simp[St.set, *]) (by show _=some (shO 3 m (.vec 3 q 0 0));simp[St.set, *]) (by show _=some (aX.row 90 3 []);simp[St.set, *]) (by show _=some (cF 2 l (.lst 2 [] false));simp[St.set, *]) (aJ _ _ _)) ?_
 repeat' (first|(with_reducible first|(refine wN fun _ hnl=>?_;revert hnl;(repeat refine wS fun _ _=>?_);intro hnl)|refine wE ?_|(refine wK ?_ ?_<;>intro h)|(refine wB ?_ ?_<;>intro h<;>simp only[h]))|simp(maxSteps:=4000000) (disch:=first|exact ddL|fail) only[go_sem,simprocAttr,FXs])
 all_goals first|exact⟨_,St.le_refl _,rfl⟩|exact⟨_,St.le_refl _⟩
end

section
set_option maxRecDepth 100000
set_option maxHeartbeats 8000000
theorem Mt{P:Program}{C:b9}{g:FuncId}{ms:List MV}{σ:St}{q:MV→Prop}{k:MV→St→Prop}(hC:C g ms=some ⟨[],q,none⟩)(h:aA P g ms St.none fun v _=>q v)(hq:∃v,q v)(hk:∀v,q v→R (bT v σ k)):R (oA P C g ms σ k) :=
 KJ [] [] hC rfl h.pure hq hk
theorem BA{B:BK}(hb:BkR B)(h3:B.gr.length≤1000000)(h4:∀g,g∈B.gr→g.mem.length≤1000000){m l q b f:Nat}(D:nD m l q b)(hf:f≠m∧f≠l∧f≠q∧f≠b){fl:List ND}(hp:bU fl=0)(hdd:B.dead.length≤1000000)(d:Bool)(mk:UInt32)(cur room:Int) :
  aA Tryz.prog 29 [.ptr b 0 0,.ptr f 0 0,.int .u32 (mk.toNat:Int),.int .i64 cur,.int .i64 room] (bfS m l q b B f fl d) (fun r σ'=>r=.tup [.lst 28 (IT.ks (inI (eG (dS B fl mk 1073741824) cur room).1)) false,.int .i64 (eG (dS B fl mk 1073741824) cur room).2]∧σ'=bfS m l q b B f fl (d || decide (1≤room)&&decide (0<B.cards.length))):=by
 by_cases h:room<1
 ·rw[show(d || decide (1≤room)&&decide (0<B.cards.length))=d by rw[decide_eq_false (by omega:¬1≤room)];cases d<;>rfl]
  exact zK hf.2.2.2 d mk cur room _ h
 ·rw[show(d || decide (1≤room)&&decide (0<B.cards.length))=(d || decide (0<B.cards.length)) by rw[decide_eq_true (by omega:1≤room),Bool.true_and]]
  exact pE hb h3 h4 D hf hp hdd d mk cur room (by omega)
theorem H5{W:List CA}(cur room:Int):(eG W cur room).1.length≤W.length:=by
 have:(cJ W cur).length≤W.length:=List.length_filter_le _ _
 unfold eG
 split
 ·simp
 ·split
  ·exact this
  ·rw[List.length_take];omega
theorem sO(s:SET)(room:Int):aA Tryz.prog 7 [.agg s.c,.int .i64 room] St.none (fun r _=>r=.bool true):=by
 refine aA.cU (aA.body 99 [.tmp 4] Tryz.func7 rfl rfl rfl rfl ?_)
 have hfit:=Az s
 have haw:=xX
 have hm1:=DN s.cur room
 have hm2:=zT s.cur room
 obtain⟨M,hM⟩:∃M,tF s.cur room=M:=⟨_,rfl⟩
 rw[hM] at hm1 hm2
 obtain⟨C1,c1,c2,c3,c4⟩:∃C:b9,(∀ms,C 27 ms=some ⟨[],fun r=>∃b,r=.bool b∧(b=true→Fit s),none⟩)∧(∀ms,C 31 ms=some ⟨[],fun v=>v=.int .i64 M,none⟩)∧(∀ms,C 32 ms=some ⟨[],fun v=>v=.int .i64 M,none⟩)∧∀ms,C 28 ms=some ⟨[],fun v=>v=.bool true,none⟩ :=
  ⟨fnF [(27,⟨[],fun r=>∃b,r=.bool b∧(b=true→Fit s),none⟩),(31,⟨[],fun v=>v=.int .i64 M,none⟩),(32,⟨[],fun v=>v=.int .i64 M,none⟩),(28,⟨[],fun v=>v=.bool true,none⟩)],fun _=>dE,fun _=>fX dE,fun _=>fX (fX dE),fun _=>fX (fX (fX dE))⟩
 repeat' (first|(with_reducible first|(refine wN fun _ hnl=>?_;revert hnl;(repeat refine wS fun _ _=>?_);intro hnl)|refine wE ?_|(refine wK ?_ ?_<;>intro h)|(refine wB ?_ ?_<;>intro h<;>simp only[h]))|simp(maxSteps:=4000000) (disch:=first|exact ddL|fail) only[go_sem,simprocAttr,Tryz.f7,FXs])
 refine aS mixed (by decide +kernel) C1 ?_
 repeat' (first|((refine Mt (c1 _) hfit ⟨.bool false,false,rfl,fun h=>by cases h⟩ ?_;rintro _ ⟨fb,rfl,hfb⟩;cases fb))|(with_reducible refine aO (c2 _) hm1 ?_)|(with_reducible refine aO (c3 _) hm2 ?_)|(with_reducible first|(refine wN fun _ hnl=>?_;revert hnl;(repeat refine wS fun _ _=>?_);intro hnl)|refine wE ?_|(refine wK ?_ ?_<;>intro h)|(refine wB ?_ ?_<;>intro h<;>simp only[h]))|simp(maxSteps:=4000000) (disch:=first|exact ddL|fail) only[go_sem,simprocAttr,FXs,List.map_cons,List.map_nil])
 ·refine aS mixed (by decide +kernel) C1 ?_
  repeat' (first|(with_reducible refine aO (c2 _) hm1 ?_)|(with_reducible refine aO (c3 _) hm2 ?_)|(with_reducible refine aO (c4 _) haw ?_)|(with_reducible first|(refine wN fun _ hnl=>?_;revert hnl;(repeat refine wS fun _ _=>?_);intro hnl)|refine wE ?_|(refine wK ?_ ?_<;>intro h)|(refine wB ?_ ?_<;>intro h<;>simp only[h]))|simp(maxSteps:=4000000) (disch:=first|exact ddL|fail) only[go_sem,simprocAttr,FXs])
  all_goals first|exact⟨_,St.le_refl _⟩|exact⟨_,St.le_refl _,rfl⟩
 ·obtain⟨h1,h2,h3,h4,h5,h6,h7⟩:=hfb rfl
  have hb:=HP h1
  have hc6:s.bk.cards.length≤1000000:=by omega
  have hd6:s.bk.dead.length≤1000000:=by omega
  have hf6:s.fl.length≤1000000:=by have:=(r0 h6).2.2;omega
  have hld:=xZ hc6 hd6 h4 h5 h1
  have hnew:=rB s.fl hf6 false h6
  have hnx:=fun {m l q b f:Nat} (D:nD m l q b) (hf:f≠m∧f≠l∧f≠q∧f≠b)=>BA hb h4 h5 D hf h6 hd6 false s.mask s.cur room
  have hrn:=DT s.bk hb h4 h5 s.fl h6 false s.mask s.cur room
  have hnn:=JB s.mask s.cur
  have hXl:(eG (dS s.bk s.fl s.mask 1073741824) s.cur room).1.length≤1000000:=by
   refine Nat.le_trans (H5 _ _) ?_
   unfold dS
   rw[List.length_map]
   exact Nat.le_trans (List.length_filter_le _ _) hc6
  obtain⟨⟨X,to⟩,hX⟩:∃X,eG (dS s.bk s.fl s.mask 1073741824) s.cur room=X:=⟨_,rfl⟩
  rw[hX] at hrn hXl
  simp only[hX] at hnx
  simp only at hrn hXl hnx
  have hsm:=BU X X hXl false false
  rw[decide_eq_true rfl] at hsm
  obtain⟨I,hI⟩:∃I,IT.ks (inI X)=I:=⟨_,rfl⟩
  rw[hI] at hrn hsm
  simp only[hI] at hnx
  obtain⟨d1,hd1⟩:∃d1,(false || decide (1≤room)&&decide (0<s.bk.cards.length))=d1:=⟨_,rfl⟩
  simp only[hd1] at hnx
  obtain⟨C2,k1⟩:∃C:b9,∀ms,C 12 ms=some ⟨[],fun _=>True,some ([flD s.fl false],fun l=>.ptr l 0 0)⟩:=⟨fnF [(12,⟨[],fun _=>True,some ([flD s.fl false],fun l=>.ptr l 0 0)⟩)],fun _=>dE⟩
  repeat' (first|((refine E9 hld ?_;intro m l q b hm hl hq hbn D;simp only[aY] at hm hl hq hbn;obtain⟨m1,-⟩:=hm;obtain⟨l1,-⟩:=hl;obtain⟨q1,-⟩:=hq;obtain⟨b1,-⟩:=hbn;have m1':=Ne.symm m1;have l1':=Ne.symm l1;have q1':=Ne.symm q1;have b1':=Ne.symm b1;have D':=D;obtain⟨g1,g2,g3,g4,g5,g6⟩:=D;have e1:=Ne.symm g1;have e2:=Ne.symm g2;have e3:=Ne.symm g3;have e4:=Ne.symm g4;have e5:=Ne.symm g5;have e6:=Ne.symm g6))|(with_reducible first|(refine wN fun _ hnl=>?_;revert hnl;(repeat refine wS fun _ _=>?_);intro hnl)|refine wE ?_|(refine wK ?_ ?_<;>intro h)|(refine wB ?_ ?_<;>intro h<;>simp only[h]))|simp(maxSteps:=4000000) (disch:=first|exact ddL|fail) only[go_sem,simprocAttr,FXs])
  refine eU mixed C2 [_,_,_,_,_,_,_,_,_] [_,_,_,_,_] rfl (by decide +kernel) ?_
  repeat' (first|((refine Io (k1 _) hnew ?_;intro f hf;simp only[aY] at hf;obtain⟨f1,f2,f3,f4,f5,-⟩:=hf;have f1':=Ne.symm f1;have f2':=Ne.symm f2;have f3':=Ne.symm f3;have f4':=Ne.symm f4;have f5':=Ne.symm f5))|(with_reducible first|(refine wN fun _ hnl=>?_;revert hnl;(repeat refine wS fun _ _=>?_);intro hnl)|refine wE ?_|(refine wK ?_ ?_<;>intro h)|(refine wB ?_ ?_<;>intro h<;>simp only[h]))|simp(maxSteps:=4000000) (disch:=first|exact ddL|fail) only[go_sem,simprocAttr,FXs])
  refine uT (hnx D' ⟨f4,f3,f2,f1⟩) (xY (by simp[St.set, *]) (by simp[St.set, *]) (by simp[St.set, *]) (by simp[St.set, *]) (by simp[St.set, *])) ?_
  repeat' (first|(with_reducible refine aQ hrn ?_)|(with_reducible refine aQ hnn ?_)|(with_reducible refine aQ hsm ?_)|(with_reducible refine aQ haw ?_)|(with_reducible first|(refine wN fun _ hnl=>?_;revert hnl;(repeat refine wS fun _ _=>?_);intro hnl)|refine wE ?_|(refine wK ?_ ?_<;>intro h)|(refine wB ?_ ?_<;>intro h<;>simp only[h]))|simp(maxSteps:=4000000) (disch:=first|exact ddL|fail) only[go_sem,simprocAttr,FXs])
  all_goals first|exact⟨_,St.le_refl _⟩|exact⟨_,St.le_refl _,rfl⟩
end
end Go.Proofs.YtaojijkdamfbnaaGreatDoor
