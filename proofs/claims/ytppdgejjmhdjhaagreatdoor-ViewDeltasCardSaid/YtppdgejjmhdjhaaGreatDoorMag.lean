/- Parts of the proof; conditions: as its theorems name them. -/
import Derived.Test.YtppdgejjmhdjhaaGreatDoorMae
import Derived.Test.YtppdgejjmhdjhaaGreatDoorMaf
set_option linter.unusedVariables false
set_option linter.unusedSimpArgs false
set_option maxHeartbeats 8000000
set_option maxRecDepth 100000
namespace Go.Proofs.YtppdgejjmhdjhaaGreatDoor
section
abbrev RE.c(a:RE):List MV:=a.k (.lst 5 (a.fl.map ND.c) false)
abbrev IT.ks(l:List IT):List (List MV):=l.map fun x=>.int .i64 x.kd::.int .i64 x.c.id::.int .i64 x.c.ver::.int .u32 (x.c.lab.toNat:Int)::fc x.c.f
abbrev PG.c(p:PG):List MV:=p.k (.lst 28 (IT.ks p.items) false)
abbrev CM.c(c:CM):List MV:=c.k (.lst 5 (c.fl.map ND.c) false)
def iF(σ:St):List MV→List MV→Prop
 | [],[]=>True
 | m::ms,m'::ms'=>View σ m m'∧iF σ ms ms'
 | _,_=>False
theorem iF.same{σ:St}:∀ms:List MV,iF σ ms ms
 | []=>trivial
 | m::ms=>⟨.same m,iF.same ms⟩
theorem iF.app{σ:St}:∀{a b c d:List MV},iF σ a b→iF σ c d→iF σ (a++c) (b++d)
 | [],[],_,_,_,h=>h
 | _::_,_::_,_,_,h,k=>⟨h.1,iF.app h.2 k⟩
theorem iF.len{σ:St}:∀{a b:List MV},iF σ a b→a.length=b.length
 | [],[],_=>rfl
 | _::_,_::_,h=>congrArg (·+1) (iF.len h.2)
theorem iF.at{σ:St}:∀{a b:List MV},iF σ a b→∀(i:Nat) (m m':MV),a[i]?=some m→b[i]?=some m'→View σ m m'
 | _::_,_::_,h,0,m,m',h1,h2=>by simp at h1 h2;subst h1 h2;exact h.1
 | _::_,_::_,h,i+1,m,m',h1,h2=>by simp at h1 h2;exact h.2.at i m m' h1 h2
theorem View.Xj{σ:St}{ms ms':List MV}(h:iF σ ms ms')(hc:ms'.all MV.aL=true):View σ (.agg ms) (.agg ms') :=
 .agg h.len (fun i m hm=>List.all_eq_true.1 hc m (List.mem_of_getElem? hm)) h.at
theorem View.aM{σ:St}{e:Nat}{xs:List (List MV)}(h:xs=[]):View σ .aM (.lst e xs false):=by subst h;exact .nil e false
theorem IH{f:F8}{r:List MV}:(fc f++r).all MV.aL=r.all MV.aL:=by rw[List.all_append,dP,Bool.true_and]
theorem Fx{f:F8}{a b:List MV}:(fc f++a)++b=fc f++(a++b):=List.append_assoc _ _ _
theorem Xa:((UInt32.toNat 0:Nat):Int)=0:=rfl
theorem RE.cell(a:RE):a.c.all MV.aL=true:=rfl
theorem PG.cell(a:PG):a.c.all MV.aL=true:=rfl
theorem CM.cell(c:CM):c.c.all MV.aL=true:=by
 simp only[CM.c,CM.k,List.all_cons,List.all_append,dP];rfl
end

section
inductive Fk:Prop→Prop→Prop→Prop
 | i {c A B:Prop}:Fk (R (mif c A B)) (c→R A) (¬c→R B)
 | f {p:Prop} [Decidable p] {A B:Prop}:Fk (R (kL (.bool (decide p)) A B)) (p→R A) (¬p→R B)
 | g {p:Prop} [Decidable p] {A B:Prop}:Fk (R (cG (.bool (decide p)) true A B)) (p→R A) (¬p→R B)
 | h {p:Prop} [Decidable p] {A B:Prop}:Fk (R (cG (.bool (decide p)) false A B)) (¬p→R A) (p→R B)
theorem wK{p a b:Prop}(h1:a)(h2:b)(e:Fk p a b:=by first|exact .i|exact .f|exact .g|exact .h):p:=by
 cases e
 ·exact wI h1 h2
 ·exact wF h1 h2
 ·exact wG h1 h2
 ·exact wH h1 h2
inductive Fb:Prop→Prop→Prop→Prop
 | b {b:Bool} {A B:Prop}:Fb (R (kL (.bool b) A B)) (b=true→R A) (b=false→R B)
 | g {b want:Bool} {A B:Prop}:Fb (R (cG (.bool b) want A B)) (b=want→R A) (b=(!want)→R B)
theorem wB{p a b:Prop}(h1:a)(h2:b)(e:Fb p a b:=by first|exact .b|exact .g):p:=by
 cases e
 ·exact cK h1 h2
 ·exact cC h1 h2
theorem wE{id:Nat}{l:List Oper}{f:FR}{σ:St}{Q:MQ}(h:R (kM Tryz.prog (fun _ _=>none) (@OfNat.ofNat (Array Oper) (nat_lit 0) (@_root_.id (OfNat (Array Oper) (nat_lit 0)) (OfNat.mk (l.toArray)))) (Q .normal) (@OfNat.ofNat (List Oper) (nat_lit 0) (@_root_.id (OfNat (List Oper) (nat_lit 0)) (OfNat.mk l))) f σ))
 (hchk:(chk l.toArray&&l.all fun o=>oL o.op)=true:=by decide +kernel):R (rS Tryz.prog id (@OfNat.ofNat (List Oper) (nat_lit 0) (@_root_.id (OfNat (List Oper) (nat_lit 0)) (OfNat.mk l))) f σ Q):=wD hchk h
inductive Up (l:Nat) (o o':aT):St→St→Prop
 | u0 {σ:St}:Up l o o' (σ.set l o) (σ.set l o')
 | u1 {σ:St} {j:Nat} {oj:aT} (h:j≠l):Up l o o' ((σ.set l o).set j oj) ((σ.set l o').set j oj)
 | u2 {σ:St} {j i:Nat} {oj oi:aT} (h:j≠l) (h1:i≠l):Up l o o' (((σ.set l o).set j oj).set i oi) (((σ.set l o').set j oj).set i oi)
 | u3 {σ:St} {j i m:Nat} {oj oi om:aT} (h:j≠l) (h1:i≠l) (h2:m≠l):Up l o o' ((((σ.set l o).set j oj).set i oi).set m om) ((((σ.set l o').set j oj).set i oi).set m om)
theorem FXs:(type_of% @K5)∧(type_of% @cP)∧(type_of% @dP)∧(type_of% @K4)∧(type_of% @kI)∧(type_of% @KY)∧(type_of% @Fz)∧(type_of% @K3)∧(type_of% @pI)∧(type_of% @zT)∧(type_of% @HZ)∧(type_of% @Ba)∧(type_of% @pK)∧(type_of% @zZ)∧(type_of% @pJ)∧(type_of% @Cj)∧(type_of% @tF)∧(type_of% @K0)∧(type_of% @Dw)∧(type_of% @KZ)∧(∀{f:F8} {i:Nat} {v:VA} (h:i<8),(f.set i v).get i=v) :=
 ⟨K5,cP,dP,K4,kI,KY,Fz,K3,pI,zT,HZ,Ba,pK,zZ,pJ,Cj,tF,K0,Dw,KZ,F8.S9⟩
theorem FYs:(type_of% FXs)∧(type_of% @IH)∧(type_of% @Fx)∧(∀{α:Type} (l:List α),l++[]=l)∧(∀{α:Type} (l:List α),l.take 0=[])∧(type_of% Xa)∧(∀{α:Type} (a:α) (l r:List α),a::l++r=a::(l++r))∧(∀{α:Type} (l:List α),[]++l=l) :=
 ⟨FXs,IH,Fx,List.append_nil,fun _=>List.take_zero,Xa,fun _ _ _=>List.cons_append,List.nil_append⟩
end

section
def val:BL→Nat
 | []=>0
 | c::l=>c.toNat % 128+128 * val l
end

section
theorem FG{s:Nat}{i:Nat}(h:i<32):hasB s (i:Int)=bit s i:=by
 unfold hasB bit
 rw[Nat.testBit_eq_decide_div_mod_eq]
 refine decide_eq_decide.mpr ?_
 rw[Int.toNat_natCast]
 constructor
 ·exact fun h=>h.2.2
 ·exact fun k=>⟨by omega,by omega,k⟩
theorem rA(m:UInt32)(i:Nat)(h:i<32):aA Tryz.prog 178 [.int .u32 (m.toNat:Int),.int .i64 (i:Int)] St.none (fun r _=>r=.bool (bit m.toNat i)):=by
 have:=rD m.toNat (i:Int) m.toNat_lt
 rwa [FG h] at this
theorem sN(m:UInt32):aA Tryz.prog 177 [.int .u32 (m.toNat:Int)] St.none (fun r _=>r=.bool (bit m.toNat 8)):=by
 refine(mB 5 [.tmp 2] Tryz.func177 ?_)
 have h:=rA m 8 (by decide)
 repeat' first|(with_reducible first|refine up h ?_)|refine wZ1 @Tryz.f177.eq_1 ?_|exact wC1 @Tryz.f177.eq_1|fail
 all_goals rfl
theorem uF(m:UInt32):aA Tryz.prog 12 [.int .u32 (m.toNat:Int)] St.none (fun r _=>r=.bool (decide (m.toNat≤511))):=by
 refine(mB 5 [.tmp 2] Tryz.func12 ?_)
 repeat' first|refine wZ1 @Tryz.f12.eq_1 ?_|fail
 all_goals first|rfl|(refine decide_eq_decide.mpr ?_;omega)
end

section
theorem St.tV(σ τ:St):(σ.minus τ).le σ:=fun l o h=>(dJ h).2
theorem BB{P:Program}{g:Operand}{ps:Array Tmp}{assign body:Code}{f:FR}{σ:St}{Q:MQ}{gf:FuncId}{ns:List MV}(hg:aE f g=.fn (.func gf) [] ns){σi:St}(hle:σi.le σ){xs:List (List MV)}
 (hseq:OU P gf ns σi xs)(hx:∀x,x∈xs→x.length=ps.size)(nda:j9 assign=true)(ndb:j9 body=true){α:Type}(fc:FR)(hd0:fc.d=f.d)(S:Nat→α→St)(p:Nat→α→Prop)
 (h0:Gh f (σ.minus σi) fun f1 σ1=>f1=fc∧∃a,σ1=S 0 a∧p 0 a)
 (round:∀i x a,xs[i]?=some x→p i a→mwp P assign (rU ⟨fc.n,fc.l,[]⟩ ps.toList x) (S i a) (Q4 fun f1 σ1=>mwp P body f1 σ1 (EF Q fc fun σ2=>∃b,σ2=S (i+1) b∧p (i+1) b)))
 (done:∀a,p xs.length a→Q .normal fc (S xs.length a)):mwp P (.rangeFunc g ps assign body) f σ Q:=by
 intro F hF Φ w a hi hr hd
 have hF':F=Fence.wide:=by
  rcases hF with h|⟨l,_,h⟩
  ·exact h
  ·cases h
 subst hF'
 obtain⟨f1,σ1,Φ1,-,⟨rfl,a0,rfl,p0⟩,i1,r1,st1⟩:=h0 Φ w a.tmps (hi.less (St.tV σ σi)) hr
 have hv:=aI hr g
 rw[hg] at hv
 obtain⟨first,cap,he,hfirst,hcap⟩:=hv.sC
 have hfe:first=#[]:=by
  have:=hfirst.1
  exact Array.eq_empty_of_size_eq_zero (by simpa using this)
 subst hfe
 obtain⟨fnn,hfn,hbody,hname⟩:=hseq.1
 have eg:∀(args:Array Value) (w:World),(callFunc gf args).run P w=.ok (.enter gf args) w:=fun args w=>by
  simp only[callFunc,Sem.run_bind,run_program,hfn,hname,hbody,Result.andThen_ok,Bool.false_eq_true,if_false,Sem.run_pure]
 refine wpIn_rangeFunc fun fn _=>?_
 obtain⟨rec,hrec⟩:∃rec:LoopState→Option Code→Loop,rec=fun st pe=>{ state:=st,pending:=pe,fn,tmps:=a.tmps,params:=ps,assign,body,defers:=w.heap.size }:=⟨_,rfl⟩
 obtain⟨W1,hW1⟩:∃W1,(w.alloc (.deferred (some []))).alloc (.loop (rec .ready none))=W1:=⟨_,rfl⟩
 have sz1:W1.heap.size=w.heap.size+2:=by rw[←hW1,World.size_alloc,World.size_alloc]
 have old:∀k,k<w.heap.size→W1.heap[k]?=w.heap[k]?:=fun k hk=>by
  rw[←hW1]
  show((w.heap.push _).push _)[k]?=_
  rw[Array.getElem?_push,if_neg (by simp;omega),Array.getElem?_push,if_neg oM]
 have hL:W1.heap[w.heap.size+1]?=some (.loop (rec .ready none)):=by
  rw[←hW1];have:=World.alloc_heap_new (w.alloc (.deferred (some []))) (.loop (rec .ready none));rwa [World.size_alloc] at this
 have hD:W1.heap[w.heap.size]?=some (Obj.deferred (some [])):=by
  rw[←hW1]
  show((w.heap.push _).push _)[w.heap.size]?=_
  rw[Array.getElem?_push,if_neg (by simp),Array.getElem?_push,if_pos rfl]
 have eos:W1.os=w.os:=by rw[←hW1];rfl
 have eta:W1.tape=w.tape:=by rw[←hW1];rfl
 have eou:W1.output=w.output:=by rw[←hW1];rfl
 have edr:drw W1=drw w:=by rw[←hW1];rfl
 have gr:∀{Φ:Phi} {σ:St},Inv Φ w σ→Inv Φ W1 σ∧Step Φ σ w Φ σ W1:=fun h=>h.grow eos eta eou oM oM old
 have own1:∀k,aY Φ1 (S 0 a0) k→aY Φ (σ.minus σi) k:=fun k hk=>by
  rcases st1.ownd k hk with q|q
  ·exact q
  ·exfalso
   obtain⟨l,o,p,h1,h2,h3⟩:=hk
   obtain⟨p',e,hlt⟩:=(i1.own l o h1).place
   rw[h2] at e;cases e
   have:=hlt k h3
   omega
 have ownσ:∀{τ:St},τ.le σ→∀k,aY Φ τ k→aY Φ σ k:=fun hτ k hk=>hk.less hτ
 have apart2:∀k,aY Φ (σ.minus σi) k→¬aY Φ σi k:=fun k ⟨l,o,p,h1,h2,h3⟩ ⟨l',o',p',h4,h5,h6⟩=>by
  have e:=hi.inj l l' o o' p p' k (dJ h1).2 (hle l' o' h4) h2 h5 h3 h6
  subst e
  have:=(dJ h1).1
  rw[h4] at this;cases this
 have hb:=hd.base
 obtain⟨S0,hS0⟩:∃S0:YS,S0=⟨W1,fun k=>aY Φ1 (S 0 a0) k∨k=w.heap.size+1,Φ1.snap⟩:=⟨_,rfl⟩
 have c0:s6 Φ σ w.heap.size Φ1 (S 0 a0):=⟨st1.le,fun b v q=>(st1.snapn b v q).imp_right (fun q=>q.imp_right (ownσ (St.tV _ _) _)),fun l o q=>by
  rcases st1.locs l o q with⟨o',h⟩|h
  ·exact .inl ⟨o',(dJ h).2⟩
  ·exact .inr h,fun R hR=>.inl (ownσ (St.tV _ _) _ (own1 R hR))⟩
 have cst0:CSt Φ σ w.heap.size a.tmps f1 (w.heap.size+1) (rec .ready none) (S 0 a0) S0 Φ1:=by
  subst hS0
  exact⟨(gr i1).1,r1,c0,fun _=>Iff.rfl,fun _=>rfl,hL,by simp only;omega,by simp only;rw[st1.le.base];omega⟩
 have apt0:Apt Φ σi S0 W1:=by
  have hag:=cst0.agree
  subst hS0
  refine⟨hag,fun k hk=>?_,fun b v q'=>?_,fun b v q hk=>?_⟩
  ·rcases hk with hk|rfl
   ·exact apart2 k (own1 k hk)
   ·exact(gr (hi.less hle)).1.DP hL
  ·rintro⟨l,o,p,h1,h2,h3⟩
   rcases st1.snapn b v q' with q|q|q
   ·exact hi.apart l o p b.block b v (hle l o h1) h2 h3 q rfl
   ·have hlt:=World.block_lt_of_cell? w b (i1.snap b v q')
    omega
   ·exact apart2 _ q ⟨l,o,p,h1,h2,h3⟩
  ·have hbl:=World.block_lt_of_cell? w b (hi.snap b v q)
   rcases hk with hk|hk
   ·obtain⟨l,o,p,h1,h2,h3⟩:=own1 _ hk
    exact hi.apart l o p b.block b v (dJ h1).2 h2 h3 q rfl
   ·omega
 refine⟨w.heap.size+1,[{ target:=.collected w.heap.size,args:=#[] }],W1,{ target:=.fn (.func gf) cap,args:=#[.func (.yield (w.heap.size+1)) #[] #[]] },W1,gf,
  #[.func (.yield (w.heap.size+1)) #[] #[]]++cap,W1,?_,?_,fun _ _=>trivial,?_,(fun q=>by cases q),?_⟩
 ·rw[←hW1,hrec];exact run_enterLoop_outer _ _ _ _ _
 ·simp only[resolve,he]
  simp[go_sem]
 ·simp[invoke,go_sem,eg]
 ·refine callsIn_wide.2 ((hseq.2 (w.heap.size+1)
   (fun i Sx=>∃b Φc,p i b∧CSt Φ σ w.heap.size a.tmps f1 (w.heap.size+1) (rec .ready none) (S i b) Sx Φc)
   (fun Sx=>∃c σc Φc,((c=.ret∧Q .ret f1 σc)∨∃id,c=.exit id∧Q (.exit id) f1 σc)∧CSt Φ σ w.heap.size a.tmps f1 (w.heap.size+1) (rec .done (some c)) σc Sx Φc)
   Φ W1 S0 cap ?_ (gr (hi.less hle)).1 apt0 ⟨a0,Φ1,p0,cst0⟩ hcap).mono ?_)
  ·rintro i x Sx W Ψ vs hix ⟨b,Φc,pb,cs⟩ hag hsz ho hs hvs
   have hx':=hx x (List.mem_of_getElem? hix)
   have:=RG (P:=P) rec hrec nda ndb hx' (round i x b hix pb) cs hag oM ho (fun u v q=>⟨(hs u v q).1,(hs u v q).2.1,(hs u v q).2.2.imp_right fun q=>q.imp (fun q=>by omega) (ownσ hle _)⟩) hvs
   obtain⟨fn',t',as',bd',e1,e2⟩:=this
   refine⟨fn',t',as',bd',e1,e2.mono ?_⟩
   rintro e w' ⟨bb,S',q1,q2,q3,q4,q5,q6,q7,q8,q9,q10,q11,q12⟩
   refine⟨bb,S',q1,q2,q3,q4,q5,q6,q7,q8,q9,q10,q11,?_⟩
   cases bb with
   | true =>
    obtain⟨σ2,Φ2,⟨b',rfl,pb'⟩,cs'⟩:=q12
    exact⟨b',Φ2,pb',cs'⟩
   | false=>exact q12
  ·rintro e w3 ⟨v,Φe,σe,S',rfl,ie,apt,stS,hy⟩
   -- the loop's side behind the iterator
   have fin:∀(st:Loop) (σc:St) (Φc:Phi),CSt Φ σ w.heap.size a.tmps f1 (w.heap.size+1) st σc S' Φc→st.state≠.busy→∃w4,(Instr.endLoop (w.heap.size+1)).run P w3=.ok st.pending w4 ∧
     Inv Φc w4 σc∧Step Φ σ w Φc σc w4∧eC Φc w4 ({ target:=.collected w.heap.size,args:=#[] }::a.defers) f1.d:=by
    intro st σc Φc cs hbusy
    have hlr:w3.heap[w.heap.size+1]?=some (.loop st):=(apt.agree.same _ ((cs.wr _).2 (.inr rfl))).trans cs.lrec
    obtain⟨w4,hw4⟩:∃w4,w3.putObj (w.heap.size+1) (.loop { st with state:=.exhausted })=w4:=⟨_,rfl⟩
    have hend:=run_endLoop (P:=P) hlr hbusy
    rw[hw4] at hend
    have sz4:w4.heap.size=w3.heap.size:=by rw[←hw4,World.putObj_size]
    have szz:w.heap.size+2≤w3.heap.size:=by have:=stS.size;omega
    have i3:Inv Φc w3 σc:=by
     have hwr:∀k,aY Φc σc k→w3.heap[k]?=S'.w.heap[k]?:=fun k hk=>apt.agree.same k ((cs.wr k).2 (.inl hk))
     exact⟨fun l' o hl=>(cs.inv.own l' o hl).mono (.refl _) fun p R h1 h2=>hwr R ⟨l',o,p,hl,h1,h2⟩,cs.inv.inj,fun b u q=>apt.agree.sn b u (by rw[cs.sn b];exact q),cs.inv.apart,cs.inv.fresh⟩
    have i4:Inv Φc w4 σc:=by rw[←hw4];exact i3.putObj _ hlr (fun _ _ _ e=>by cases e) (fun _ _ e=>by cases e)
    have blk:∀k,k<w.heap.size→¬aY Φ σ k→w4.heap[k]?=w.heap[k]?:=fun k hk hn=>by
     rw[←hw4,World.putObj_heap_other oM,stS.block k oM (fun q=>hn (ownσ hle k q)) (fun q=>?_),old k hk]
     subst hS0
     rcases q with q|q
     ·exact hn (ownσ (St.tV _ _) k (own1 k q))
     ·omega
    have hmark:w4.heap[w.heap.size]?=some (Obj.deferred (some [])):=by
     rw[←hw4,World.putObj_heap_other oM,stS.block _ oM ((gr (hi.less hle)).1.mark hD) (fun q=>?_),hD]
     subst hS0
     rcases q with q|q
     ·exact(gr i1).1.mark hD q
     ·omega
    have step4:Step Φ σ w Φc σc w4 :=
     ⟨cs.step.le,by rw[←hw4];exact stS.os.trans eos,by rw[←hw4];exact stS.tape.trans eta,by rw[←hw4];exact stS.output.trans eou,by
      have e:drw w4=drw w3:=by rw[←hw4];rfl
      have:=stS.drawn;omega,by omega,blk,cs.step.snapn,cs.step.locs,cs.step.ownd⟩
    refine⟨w4,hend,i4,step4,.inl ⟨w.heap.size,rfl,by rw[cs.step.le.base];exact hb,hmark,fun y hy e=>?_,hd0 ▸ hd.step hi step4⟩⟩
    -- the mark is a new one
    have:∀(ds:List Deferred) (d:List (FuncId × List MV)),eC Φ w ds d→∀y,y∈ds→y.target≠.collected w.heap.size:=by
     intro ds
     induction ds with
     | nil=>intro d _ y hy;cases hy
     | cons z ds ih =>
      intro d h y hy
      rcases h with⟨D,k1,k2,k3,k4,k5⟩|⟨g,ms,r,cp,k1,k2,k3,k4⟩
      ·rcases List.mem_cons.1 hy with rfl|hy
       ·rw[k1];intro e;cases e
        have:=(Array.getElem?_eq_some_iff.1 k3).1
        omega
       ·exact ih d k5 y hy
      ·rcases List.mem_cons.1 hy with rfl|hy
       ·rw[k2];intro e;cases e
       ·exact ih r k4 y hy
    exact this a.defers f.d hd y hy e
   rcases hy with⟨b,Φc,pb,cs⟩|⟨c,σc,Φc,hc,cs⟩
   ·obtain⟨w4,hend,i4,s4,d4⟩:=fin _ _ _ cs (by rw[hrec];simp)
    refine⟨none,w4,by rw[hend,hrec],f1,_,Φc,d4,cs.frame,i4,s4,done b pb⟩
   ·obtain⟨w4,hend,i4,s4,d4⟩:=fin _ _ _ cs (by rw[hrec];simp)
    refine⟨some c,w4,by rw[hend,hrec],?_⟩
    rcases hc with⟨rfl,q⟩|⟨id,rfl,q⟩
    ·exact wpIn_ret ⟨f1,_,Φc,d4,cs.frame,i4,s4,q⟩
    ·exact wpIn_exit ⟨f1,_,Φc,d4,cs.frame,i4,s4,q⟩
end

section
inductive nC:MV→Prop where
 | flat {m:MV} (h:Flat m):nC m
 | lst {e:Nat} {xs:List (List MV)} {t:Bool} (h:∀x,x∈xs→∀m,m∈x→nC m):nC (.lst e xs t)
 | cptr {cs:List MV} (h:∀m,m∈cs→nC m):nC (.cptr cs)
 | agg {cs:List MV} (h:∀m,m∈cs→nC m):nC (.agg cs)
theorem nC.rel{Φ Φ':Phi}(hs:∀a v,Φ.snap a=some v→Φ'.snap a=some v){m:MV}(h:nC m):∀{v:Value},Rel Φ v m→Rel Φ' v m:=by
 induction h with
 | flat h=>intro v r;exact h.rel r
 | lst h ih =>
  intro v r
  cases r with
  | lstn=>exact .lstn _ _
  | lst0 a _ cap _ ht hm=>exact .lst0 a _ cap _ ht hm
  | lst hl h0 hcap hm ht hx vs hc hr =>
   exact .lst hl h0 hcap hm ht hx vs (fun i x j m a b=>⟨(hc i x j m a b).1,hs _ _ (hc i x j m a b).2⟩) fun i x j m a b=>ih x (List.mem_of_getElem? a) m (List.mem_of_getElem? b) (hr i x j m a b)
 | cptr h ih =>
  intro v r
  cases r with
  | cptr vs hc hr=>exact .cptr vs (fun j m hm=>⟨(hc j m hm).1,hs _ _ (hc j m hm).2⟩) fun j m hm=>ih m (List.mem_of_getElem? hm) (hr j m hm)
 | agg h ih =>
  intro v r
  cases r with
  | agg h1 h2 h3=>exact .agg h1 h2 fun i m hm=>ih m (List.mem_of_getElem? hm) (h3 i m hm)
structure YC where
 l:Nat
 xs:List (List MV)
 Y:Nat→YS→Prop
 Yx:YS→Prop
 Φ0:Phi
 σ0:St
 n0:Nat
def YC.st(C:YC):Option Nat→YS→Prop
 | some i,S=>C.Y i S
 | none,S=>C.Yx S
structure kF (C:YC) (Φ:Phi) (σ:St) (w:World) (S:YS) (t:Option Nat):Prop where
 inv:Inv Φ w σ
 apt:Apt Φ σ S w
 snapn:∀a v,Φ.snap a=some v→C.Φ0.snap a=some v∨C.n0≤a.block∨aY C.Φ0 C.σ0 a.block
 ownd:∀R,aY Φ σ R→aY C.Φ0 C.σ0 R∨C.n0≤R
 size:C.n0≤w.heap.size
 st:C.st t S
abbrev YQ:=Exit→FR→St→Option Nat→Prop
def CC(C:YC)(Φ:Phi)(σ:St)(w:World)(S:YS)(Q:YQ):Exit→Act→World→Prop:=fun e a' w' =>
 ∃f' σ' t' Φ' S',kF C Φ' σ' w' S' t'∧dD Φ' a'.tmps f'∧eC Φ' w' a'.defers f'.d∧eU Φ σ w S Φ' σ' w' S'∧Q e f' σ' t'
def ywp(P:Program)(C:YC)(c:Code)(f:FR)(σ:St)(t:Option Nat)(Q:YQ):Prop :=
 ∀F,FOk F c→∀Φ w a S,kF C Φ σ w S t→dD Φ a.tmps f→eC Φ w a.defers f.d→c.wpIn F 0 P (CC C Φ σ w S Q) a w
section rules
variable {P:Program} {C:YC} {f:FR} {σ:St} {t:Option Nat} {Q:YQ}
theorem Ae{Φ Φ1:Phi}{σ σ1:St}{w0 w1:World}{S S1:YS}(h:eU Φ σ w0 S Φ1 σ1 w1 S1){e:Exit}{a:Act}{w:World}(k:CC C Φ1 σ1 w1 S1 Q e a w):CC C Φ σ w0 S Q e a w :=
 let ⟨f',σ',t',Φ',S',h1,h2,h3,h4,h5⟩:=k
 ⟨f',σ',t',Φ',S',h1,h2,h3,h.trans h4,h5⟩
theorem kF.go{Φ Φ':Phi}{σ σ':St}{w w':World}{S:YS}(h:kF C Φ σ w S t)(i:Inv Φ' w' σ')(s:Step Φ σ w Φ' σ' w'):kF C Φ' σ' w' S t :=
 ⟨i,h.apt.step s,fun a v q=>by
  rcases s.snapn a v q with q|q|q
  ·exact h.snapn a v q
  ·exact .inr (.inl (Nat.le_trans h.size q))
  ·rcases h.ownd _ q with q|q
   ·exact .inr (.inr q)
   ·exact .inr (.inl q),fun R hR=>by
  rcases s.ownd R hR with q|q
  ·exact h.ownd R q
  ·exact .inr (Nat.le_trans h.size q),Nat.le_trans h.size s.size,h.st⟩
theorem V7{c:Code}(h:mwp P c f σ fun e f' σ'=>Q e f' σ' t):ywp P C c f σ t Q :=
 fun F hF Φ w a S hi hr hd=>wpIn_mono (h F hF Φ w a hi.inv hr hd) fun _ _ _ ⟨f',σ',Φ',x1,x2,x3,x4,q⟩=>⟨f',σ',t,Φ',S,hi.go x3 x4,x2,x1,.of S x4,q⟩
def H2(next:FR→St→Option Nat→Prop)(Q:YQ):YQ
 | .normal,f,σ,t=>next f σ t
 | e,f,σ,t=>Q e f σ t
theorem zA{x y:Code}(h:ywp P C x f σ t (H2 (fun f' σ' t'=>ywp P C y f' σ' t' Q) Q)):ywp P C (.seq x y) f σ t Q:=by
 intro F hF Φ w a S hi hr hd
 refine wpIn_seq (wpIn_mono (h F hF.seq1 Φ w a S hi hr hd) fun e a' w' ⟨f',σ',t',Φ',S',h1,h2,h3,h4,q⟩=>?_)
 cases e with
 | normal=>exact wpIn_mono (q F hF.VM Φ' w' a' S' h1 h2 h3) fun _ _ _ hq=>Ae h4 hq
 | _=>exact⟨f',σ',t',Φ',S',h1,h2,h3,h4,q⟩
def vD(id:Nat)(Q:YQ):YQ
 | .exit id',f,σ,t=>if id'=id then Q .normal f σ t else Q (.exit id') f σ t
 | e,f,σ,t=>Q e f σ t
theorem Da{id:Nat}{c:Code}(h:ywp P C c f σ t (vD id Q)):ywp P C (.block id c) f σ t Q:=by
 intro F hF Φ w a S hi hr hd
 refine wpIn_block (wpIn_mono (h F hF.block Φ w a S hi hr hd) fun e a' w' ⟨f',σ',t',Φ',S',h1,h2,h3,h4,q⟩=>?_)
 cases e with
 | exit id' =>
  simp only[Exit.inBlock]
  simp only[vD] at q
  split
  ·rw[if_pos (by assumption)] at q;exact⟨f',σ',t',Φ',S',h1,h2,h3,h4,q⟩
  ·rw[if_neg (by assumption)] at q;exact⟨f',σ',t',Φ',S',h1,h2,h3,h4,q⟩
 | _=>exact⟨f',σ',t',Φ',S',h1,h2,h3,h4,q⟩
theorem V6{c:Code}(h:Gh f σ fun f1 σ1=>ywp P C c f1 σ1 t Q):ywp P C c f σ t Q:=by
 intro F hF Φ w a S hi hr hd
 obtain⟨f1,σ1,Φ1,hf,k1,i1,r1,s1⟩:=h Φ w a.tmps hi.inv hr
 exact wpIn_mono (k1 F hF Φ1 w a S (hi.go i1 s1) r1 (hf ▸ hd.step hi.inv s1)) fun _ _ _ hq=>Ae (.of S s1) hq
theorem SF{α:Type}{c:Code}(Fr:α→FR)(Sr:α→St)(T:α→Option Nat)(p:α→Prop)(μ:α→Nat)(h0:Gh f σ fun f1 σ1=>∃a,f1=Fr a∧σ1=Sr a∧t=T a∧p a)
 (round:∀a,p a→ywp P C c (Fr a) (Sr a) (T a) (H2 (fun f' σ' t'=>Gh f' σ' fun f1 σ1=>∃b,f1=Fr b∧σ1=Sr b∧t'=T b∧p b∧μ b<μ a) Q)):ywp P C (.loop c) f σ t Q:=by
 refine V6 (fun Φ w vs hi hr=>?_)
 obtain⟨f1,σ1,Φ1,hf,⟨a0,e1,e2,e3,p0⟩,i1,r1,s1⟩:=h0 Φ w vs hi hr
 subst e1;subst e2;subst e3
 refine⟨_,_,Φ1,hf,?_,i1,r1,s1⟩
 clear h0 hi hr s1 i1 r1 hf
 intro Fe hF Φ w a S hi hr hd b k cs hro hb hroom
 have key:∀n x Φ w a S,μ x=n→p x→kF C Φ (Sr x) w S (T x)→dD Φ a.tmps (Fr x)→eC Φ w a.defers (Fr x).d →
   ∃e a' w',CC C Φ (Sr x) w S Q e a' w'∧ArrivesIn (Machine.fenced P Fe) P (lone (b.atR a (.code c::.inLoop c::k)) cs w) b k cs e a' w':=by
  intro n
  induction n using Nat.strongRecOn with
  | _ n ih =>
   intro x Φ w a S hn hI hi hr hd
   obtain⟨e,a₁,w₁,hq,harr⟩:=round x hI Fe hF.loop Φ w a S hi hr hd b (.inLoop c::k) cs hro hb hroom
   cases e with
   | normal =>
    obtain⟨f',σ',t',Φ',S',y1,y2,y3,y4,g2⟩:=hq
    obtain⟨f2,σ2,Φ2,g0,⟨x2,e1,e2,e3,hI2,hlt⟩,i2,r2,s2⟩:=g2 Φ' w₁ a₁.tmps y1.inv y2
    subst e1;subst e2;subst e3
    obtain⟨e₂,a₂,w₂,hq₂,harr₂⟩:=ih (μ x2) (hn ▸ hlt) x2 Φ2 w₁ a₁ S' rfl hI2 (y1.go i2 s2) r2 (g0 ▸ y3.step y1.inv s2)
    exact⟨e₂,a₂,w₂,Ae (y4.trans (.of S' s2)) hq₂,.of_steps (StepsIn.trans harr (.one (fenced_calm hb hroom rfl) stepR_inLoop)) harr₂⟩
   | exit id=>exact⟨_,a₁,w₁,hq,.pass (x:=.inLoop c) rfl (fun _ _=>.inl (by simp)) harr⟩
   | goto l=>exact⟨_,a₁,w₁,hq,.pass (x:=.inLoop c) rfl (fun _ _=>.inl (by simp)) harr⟩
   | ret=>exact⟨_,a₁,w₁,hq,.pass (x:=.inLoop c) rfl (fun _ _=>.inl (by simp)) harr⟩
   | panic ch=>exact⟨_,a₁,w₁,hq,.pass (x:=.inLoop c) rfl (fun _ _=>.inl (by simp)) harr⟩
   | outgrown=>exact⟨_,a₁,w₁,hq,.pass (x:=.inLoop c) rfl (fun _ _=>.inl (by simp)) harr⟩
 obtain⟨e,a',w',hq,harr⟩:=key _ a0 Φ w a S rfl p0 hi hr hd
 exact⟨e,a',w',hq,.of_steps (.one (fenced_calm hb hroom rfl) stepR_loop) harr⟩
theorem GC{ops:Array Oper}{K:FR→St→Prop}{F:Fence}{Qm:Exit→Act→World→Prop}{rest:List Oper}:∀(l:List Oper),(F=Fence.wide∨∃l0,F=Fence.wide.inRound l0)→(∀o,o∈l→∀c,o.op≠.defer c)→∀(f:FR) (σ:St) (Φ:Phi) (w:World) (a:Act),
  dL P ops K l f σ→Inv Φ w σ→dD Φ a.tmps f→eC Φ w a.defers f.d →
  (∀f' σ' Φ' w' a',K f' σ'→Inv Φ' w' σ'→dD Φ' a'.tmps f'→eC Φ' w' a'.defers f'.d→Step Φ σ w Φ' σ' w'→wpListIn F 0 P ops Qm rest a' w')→wpListIn F 0 P ops Qm (l++rest) a w:=by
 intro l hF
 have hfn:∀g,F.fn g:=fun g=>by rcases hF with rfl|⟨l,rfl⟩<;>trivial
 induction l with
 | nil=>intro _ f σ Φ w a h hi hr hd hk;exact hk f σ Φ w a h hi hr hd (.refl _ _ _)
 | cons o r ih =>
  intro hdf f σ Φ w a h hi hr hd hk
  have hdo:∀c,o.op≠.defer c:=hdf o (by simp)
  have ih:=ih fun o ho=>hdf o (by simp[ho])
  have hFo:F=Fence.wide∨∃l0,F=Fence.wide.inRound l0∧∀c,o.op≠.defer c:=hF.imp id fun⟨l0,e⟩=>⟨l0,e,hdo⟩
  simp only[dL] at h
  rw[List.cons_append]
  unfold wpListIn
  rcases cI h hr with⟨hw,hy⟩|⟨hw,hn⟩
  ·rw[if_pos hw]
   refine eS hFo (kN hdo hy Φ w a _ _ hi hr fun v mv σ' Φ' w' r1 i1 s1 hk1=>?_)
   exact ih _ _ Φ' w' (a.put o.dst v) hk1 i1 (cL (hr.mono s1.le) o.dst r1) (by rw[bO,dZ];exact hd.step hi s1) fun f' σ' Φ2 w2 a2 k1 k2 k3 k4 k5=>hk f' σ' Φ2 w2 a2 k1 k2 k3 k4 (s1.trans k5)
  ·rw[if_neg (by simp[hw])]
   exact⟨fun f _=>hfn f,ih _ _ Φ w (a.put o.dst undef) hn hi (cL hr o.dst gP) (by rw[bO,dZ];exact hd) hk⟩
theorem BV{F:Fence}(hF:F=Fence.wide∨∃l,F=Fence.wide.inRound l){n:Nat}{l:Nat}{fn:FuncId}{tmps:Array Value}{assign body:Code}{w:World}{R:Ending→World→Prop}(h:RoundIn Fence.wide n P l fn tmps assign body w R):RoundIn F n P l fn tmps assign body w R:=by
 rcases hF with rfl|⟨l0,rfl⟩
 ·exact h
 ·exact h
theorem KK{id:Nat}{ops:Array Oper}(pre:List Oper)(y:Oper)(post:List Oper)(ho:ops.toList=pre++y::post)(hpre:∀o,o∈pre→∀c,o.op≠.defer c)(hpost:∀o,o∈post→∀c,o.op≠.defer c)
 {o:Operand}{args:Array Operand}{ts:Array TypeId}(hy:y.op=.call ⟨.value o,args,ts⟩)(hg:y.guard=none){i:Nat}(ht:t=some i){x:List MV}(hx:C.xs[i]?=some x)(hno:∀m,m∈x→nC m)
 (hspec:s7 P C.l C.xs C.Y C.Yx C.Φ0 C.σ0 C.n0)
 (h:dL P ops (fun f1 σ1=>aE f1 o=.fn (.yield C.l) [] []∧args.toList.map (aE f1)=x∧dL P ops (fun f2 σ2=>Q .normal f2 σ2 (some (i+1))) post (bD f1 y.dst (.bool true)) σ1 ∧
   dL P ops (fun f2 σ2=>Q .normal f2 σ2 none) post (bD f1 y.dst (.bool false)) σ1) pre f σ):ywp P C (.region id ops false) f σ t Q:=by
 intro F hF Φ w a S hi hr hd
 subst ht
 have hF':F=Fence.wide∨∃l0,F=Fence.wide.inRound l0:=Or.imp (fun q=>q) (fun⟨l0,e,_⟩=>⟨l0,e⟩) hF
 have hro:F.room 0:=hF.room 0
 refine wpIn_region_list ?_
 rw[ho]
 refine GC pre hF' hpre f σ Φ w a h hi.inv hr hd fun f1 σ1 Φ1 w1 a1 hk i1 r1 d1 s1=>?_
 obtain⟨hv,hargs,ht,hfl⟩:=hk
 have hi1:=hi.go i1 s1
 unfold wpListIn
 rw[if_pos (by unfold Region.wanted;rw[hg])]
 have rv:=aI r1 o
 rw[hv] at rv
 obtain⟨first,cap,he,h1,h2⟩:=rv.sC
 have e1:first=#[]:=Array.eq_empty_of_size_eq_zero (by simpa using h1.1)
 have e2:cap=#[]:=Array.eq_empty_of_size_eq_zero (by simpa using h2.1)
 subst e1 e2
 have hrels:=nQ r1 args
 rw[hargs] at hrels
 obtain⟨Ψ,hΨ⟩:∃Ψ:Phi,Ψ=⟨Φ1.snap,fun _=>none,0⟩:=⟨_,rfl⟩
 have hrels':iS Ψ (args.map a1.eval) x:=⟨hrels.1,fun j m hm=>by
  subst hΨ
  exact nC.rel (Φ:=Φ1) (Φ':=⟨Φ1.snap,fun _=>none,0⟩) (fun _ _ q=>q) (hno m (List.mem_of_getElem? hm)) (hrels.2 j m hm)⟩
 obtain⟨fn,tmps,assign,body,hrun,hround⟩:=hspec i x S w1 Ψ (args.map a1.eval) hx hi1.st hi1.apt.agree hi1.size (fun m=>by subst hΨ;rfl) (fun b v q=>by
  subst hΨ
  exact⟨i1.snap b v q,hi1.apt.snap b v q,hi1.snapn b v q⟩) hrels'
 have hsem:(y.semAt F.round a1.eval).run P w1=.ok (.round C.l fn tmps assign body) w1:=by
  rw[Oper.semAt_eq _ _ _ (by rw[hy];intro c e;cases e)]
  unfold execOp
  simp only[hy,resolve,he,Deferred.ofValue,Sem.run_bind,Sem.run_pure,Result.andThen_ok,invoke,Array.empty_append,Array.append_empty]
  exact hrun
 refine⟨fun g _=>hF.fn g,?_⟩
 rw[hsem]
 refine⟨(fun q=>by rw[hF.depth] at q;cases q),?_⟩
 refine(BV hF' hround).mono ?_
 rintro e w2 ⟨b,S',rfl,hS1,hS2,hS3,hS4,hS5,hS6,hS7,hS8,hS9,hS10,hS11⟩
 -- our own side is as it was
 have ow:∀k,aY Φ1 σ1 k→w2.heap[k]?=w1.heap[k]?:=fun k hk=>by
  refine hS8 k ?_ fun q=>hi1.apt.own k q hk
  obtain⟨l,ob,p,q1,q2,q3⟩:=hk
  obtain⟨p',e,hlt⟩:=(i1.own l ob q1).place
  rw[q2] at e;cases e
  exact hlt k q3
 have i2:Inv Φ1 w2 σ1:=⟨fun l ob hl=>(i1.own l ob hl).mono (.refl _) fun p R q1 q2=>ow R ⟨l,ob,p,hl,q1,q2⟩,i1.inj,fun c v q=>by
   have hb:=World.block_lt_of_cell? w1 c (i1.snap c v q)
   rw[World.gC (hS8 c.block hb (hi1.apt.snap c v q))]
   exact i1.snap c v q,i1.apart,i1.fresh⟩
 have apt2:Apt Φ1 σ1 S' w2:=by
  have lt1:∀k,aY Φ1 σ1 k→k<w1.heap.size:=fun k ⟨l,ob,p,q1,q2,q3⟩=>by
   obtain⟨p',e,hlt⟩:=(i1.own l ob q1).place
   rw[q2] at e;cases e
   exact hlt k q3
  refine⟨hS2,fun k hk ho=>?_,fun c v q ho=>?_,fun c v q hk=>?_⟩
  ·rcases hS9 k hk with q|q
   ·exact hi1.apt.own k q ho
   ·have:=lt1 k ho;omega
  ·rcases hS10 c v q with q|q|q|q
   ·exact hi1.apt.snown c v q ho
   ·exact hi1.apt.own _ q ho
   ·have:=lt1 _ ho;omega
   ·subst hΨ
    obtain⟨l,ob,p,q1,q2,q3⟩:=ho
    exact i1.apart l ob p c.block c v q1 q2 q3 q rfl
  ·rcases hS9 _ hk with p|p
   ·exact hi1.apt.snap c v q p
   ·have:=World.block_lt_of_cell? w1 c (i1.snap c v q);omega
 have st2:eU Φ1 σ1 w1 S Φ1 σ1 w2 S':=⟨.refl _,hS3,hS4,hS5,hS6,hS7,fun k hk _ hw=>hS8 k hk hw,fun c v q=>.inl q,fun R q=>.inl q,hS9,fun c v q=>by
  subst hΨ
  rcases hS10 c v q with q|q|q|q
  ·exact .inl q
  ·exact .inr (.inl q)
  ·exact .inr (.inr (.inl q))
  ·exact .inr (.inr (.inr (.inl q)))⟩
 have d2:eC Φ1 w2 a1.defers f1.d:=d1.mono (.refl _) hS7 fun D hD=>by
  rw[hS8 D (Array.getElem?_eq_some_iff.1 hD).1 (fun q=>hi1.apt.agree.nomark D q _ ((hi1.apt.agree.same D q).symm.trans hD))]
  exact hD
 have go:∀(b:Bool) (t':Option Nat),C.st t' S'→dL P ops (fun f2 σ2=>Q .normal f2 σ2 t') post (bD f1 y.dst (.bool b)) σ1→wpListIn F 0 P ops (CC C Φ σ w S Q) post (a1.put y.dst (.bool b)) w2:=by
  intro b t' hst hm
  have hyi:kF C Φ1 σ1 w2 S' t':=⟨i2,apt2,hi1.snapn,hi1.ownd,Nat.le_trans hi1.size hS7,hst⟩
  have:=GC (rest:=[]) (Qm:=CC C Φ σ w S Q) post hF' hpost (bD f1 y.dst (.bool b)) σ1 Φ1 w2 (a1.put y.dst (.bool b)) hm i2 (cL r1 y.dst (.bool b)) (by rw[bO,dZ];exact d2) fun f2 σ2 Φ2 w3 a3 k1 k2 k3 k4 k5=>by
   unfold wpListIn
   exact⟨f2,σ2,t',Φ2,S',hyi.go k2 k5,k3,k4,((eU.of S s1).trans st2).trans (.of S' k5),k1⟩
  rwa [List.append_nil] at this
 cases b with
 | true=>exact go true (some (i+1)) (by rw[if_pos rfl] at hS11;exact hS11) ht
 | false=>exact go false none (by rw[if_neg (by decide)] at hS11;exact hS11) hfl
end rules
theorem Apt.putObj{Φ:Phi}{σ:St}{S:YS}{w:World}(h:Apt Φ σ S w){D:Nat}{x:Option (List Deferred)}(o':Obj)(hD:w.heap[D]?=some (Obj.deferred x)):Apt Φ σ S (w.putObj D o'):=by
 have hne:∀k,S.wr k→k≠D:=fun k hk e=>h.agree.nomark k hk x (by rw[←h.agree.same k hk,e];exact hD)
 refine⟨⟨fun k hk=>(World.putObj_heap_other (hne k hk)).trans (h.agree.same k hk),h.agree.lt,h.agree.nomark,fun a v q=>?_,by rw[World.putObj_size];exact h.agree.size,h.agree.os,h.agree.tape,h.agree.output,h.agree.drawn⟩,h.own,h.snown,h.snap⟩
 have hc:=h.agree.sn a v q
 rw[←hc]
 refine World.gC (World.putObj_heap_other fun e=>?_)
 rw[World.cell?,e,hD] at hc
 simp at hc
theorem Ll{P:Program}{fn:Func}{tmps:Array Value}{C:YC}{t:Option Nat}(hrs:fn.results.toList=[]){Φ0:Phi}{σ0:St}{w0:World}{S0:YS}(h0:Φ0.base=w0.heap.size){R:Ending→World→Prop}(hR:∀v Φ' w' σ' S',kF C Φ' σ' w' S' t→eU Φ0 σ0 w0 S0 Φ' σ' w' S'→R (.returned v) w') :
  ∀(ds:List Deferred) (Φ:Phi) (w:World) (σ:St) (S:YS),eC Φ w ds []→kF C Φ σ w S t→eU Φ0 σ0 w0 S0 Φ σ w S→jZ P fn tmps R ds w:=by
 intro ds
 induction ds with
 | nil =>
  intro Φ w σ S _ hi hs
  refine⟨.tuple #[],?_,hR _ Φ w σ S hi hs⟩
  rw[oO]
  have:fn.results=#[]:=Array.toList_eq_nil_iff.1 hrs
  simp only[this]
  first|rfl|simp[Sem.run_bind,Sem.run_pure]
 | cons x ds ih =>
  intro Φ w σ S hd hi hs
  rcases hd with⟨D,h1,h2,h3,h4,h5⟩|⟨g,ms,r,cap,h,_⟩
  ·refine .inl ⟨D,_,h1,run_takeDeferred h3,?_⟩
   have hDb:w0.heap.size≤D:=by rw[←h0,←hs.le.base];exact h2
   have i':=hi.inv.putObj (.deferred none) h3 (fun _ _ _ e=>by cases e) (fun _ _ e=>by cases e)
   have s':eU Φ0 σ0 w0 S0 Φ σ (w.putObj D (.deferred none)) S :=
    ⟨hs.le,hs.os,hs.tape,hs.output,hs.drawn,by rw[World.putObj_size];exact hs.size,fun k hk hn hw=>(World.putObj_heap_other oM).trans (hs.block k hk hn hw),hs.snapn,hs.ownd,hs.wr,hs.sn⟩
   refine ih Φ _ σ S ?_ ⟨i',hi.apt.putObj _ h3,hi.snapn,hi.ownd,by rw[World.putObj_size];exact hi.size,hi.st⟩ s'
   have:∀(xs:List Deferred) (d:List (FuncId × List MV)),(∀y,y∈xs→y.target≠.collected D)→eC Φ w xs d→eC Φ (w.putObj D (.deferred none)) xs d:=by
    intro xs
    induction xs with
    | nil=>intro d _ h;exact⟨h.1,by rw[World.putObj_size];exact h.2⟩
    | cons y xs ihx =>
     intro d hy h
     rcases h with⟨D',k1,k2,k3,k4,k5⟩|⟨g,ms,r,cap,k1,k2,k3,k4⟩
     ·refine .inl ⟨D',k1,k2,?_,k4,ihx d (fun z hz=>hy z (by simp[hz])) k5⟩
      rw[World.putObj_heap_other]
      ·exact k3
      ·intro e;exact hy y (by simp) (by rw[k1,e])
     ·exact .inr ⟨g,ms,r,cap,k1,k2,k3,ihx r (fun z hz=>hy z (by simp[hz])) k4⟩
   exact this ds [] h4 h5
  ·cases h
def VK(n:Nat):YQ
 | .normal,f,_,t=>f.d=[]∧(t=some n∨t=none)
 | .ret,f,_,t=>f.d=[]∧(t=some n∨t=none)
 | _,_,_,_=>False
theorem s7.aX{P:Program}{l:Nat}{xs:List (List MV)}{Y:Nat→YS→Prop}{Yx:YS→Prop}{Φ:Phi}{σ:St}{n0:Nat}(h:s7 P l xs Y Yx Φ σ n0)(n:Nat):s7 P l xs Y Yx (Φ.aX n) σ n0 :=
 fun i x S w' Ψ vs h1 h2 h3 h4 h5 h6 h7=>h i x S w' Ψ vs h1 h2 h3 h4 h5 h6 h7
theorem Apt.aX{Φ:Phi}{σ:St}{S:YS}{w:World}(h:Apt Φ σ S w)(n:Nat):Apt (Φ.aX n) σ S w:=⟨h.agree,h.own,h.snown,h.snap⟩
theorem eU.aX{Φ Φ':Phi}{σ σ':St}{w w':World}{S S':YS}{n:Nat}(h:eU (Φ.aX n) σ w S Φ' σ' w' S'):eU Φ σ w S (Φ'.aX Φ.base) σ' w' S' :=
 ⟨⟨h.le.snap,h.le.obj,rfl⟩,h.os,h.tape,h.output,h.drawn,h.size,h.block,h.snapn,h.ownd,h.wr,h.sn⟩
theorem OU.gW{P:Program}{g:FuncId}{fn:Func}{c:Code}{ns:List MV}{σi:St}{xs:List (List MV)}(n:Nat)(hf:P.funcs[g]?=some fn)(hb:fn.body=some c)(hn:(fn.name == "runtime.NumGoroutine")=false)
 (hn':max fn.ntmps (ns.length+1)=n)(hrs:fn.results.toList=[])
 (h:∀C:YC,C.xs=xs→s7 P C.l C.xs C.Y C.Yx C.Φ0 C.σ0 C.n0→ywp P C c ⟨n,iG 0 (.fn (.yield C.l) [] []::ns),[]⟩ σi (some 0) (VK xs.length)):OU P g ns σi xs:=by
 refine⟨⟨fn,hf,by simp[hb],hn⟩,fun l Y Yx Φ w S vs hspec hi ha h0 hr=>?_⟩
 obtain⟨C,hC⟩:∃C:YC,C=⟨l,xs,Y,Yx,Φ.aX w.heap.size,σi,w.heap.size⟩:=⟨_,rfl⟩
 have hargs:iS (Φ.aX w.heap.size) (#[Value.func (.yield l) #[] #[]]++vs) (.fn (.yield l) [] []::ns):=by
  refine⟨by simp[hr.1];omega,fun i m hm=>?_⟩
  cases i with
  | zero =>
   simp only[List.getElem?_cons_zero,Option.some.injEq] at hm
   subst hm
   have e:(#[Value.func (.yield l) #[] #[]]++vs).getD 0 undef=Value.func (.yield l) #[] #[]:=by
    simp[Array.getD_eq_getD_getElem?,Array.getElem?_append]
   rw[e]
   exact uE _ (.func (.yield l) #[] #[])
  | succ i =>
   have:=(hr.2 i m (by simpa using hm)).aX w.heap.size
   have e:(#[Value.func (.yield l) #[] #[]]++vs).getD (i+1) undef=vs.getD i undef:=by
    simp[Array.getD_eq_getD_getElem?,Array.getElem?_append]
   rw[e];exact this
 have hfr:=vJ (fn:=fn) hargs
 rw[List.length_cons,hn'] at hfr
 have hbody:=h C (by rw[hC]) (by rw[hC];exact hspec.aX _)
 have hst:kF C (Φ.aX w.heap.size) σi w S (some 0):=by
  subst hC
  exact⟨hi.aX _,ha.aX _,fun a v q=>.inl q,fun R q=>.inl q,Nat.le_refl _,h0⟩
 have hl:C.l=l:=by rw[hC]
 rw[hl] at hbody
 refine(nZ (R:=fun e w'=>∃v Φ' σ' S',e=.returned v∧(kF C Φ' σ' w' S' (some xs.length)∨kF C Φ' σ' w' S' none)∧eU (Φ.aX w.heap.size) σi w S Φ' σ' w' S') hf hb (wp_mono (wpIn_wide.1 (hbody _ .wide (Φ.aX w.heap.size) w { tmps:=_,defers:=[] } S hst hfr ⟨rfl,Nat.le_refl _⟩)) ?_)).mono ?_
 ·rintro e a' w' ⟨f',σ',t',Φ',S',q1,q2,q3,q4,q5⟩
  have fin:(t'=some xs.length∨t'=none)→f'.d=[]→jZ P fn a'.tmps (fun e w'=>∃v Φ' σ' S',e=.returned v∧(kF C Φ' σ' w' S' (some xs.length)∨kF C Φ' σ' w' S' none)∧eU (Φ.aX w.heap.size) σi w S Φ' σ' w' S') a'.defers w':=by
   intro ht hd
   rw[hd] at q3
   rcases ht with rfl|rfl
   ·exact Ll (P:=P) (fn:=fn) (tmps:=a'.tmps) hrs (Φ0:=Φ.aX w.heap.size) (w0:=w) rfl (fun v Φ'' w'' σ'' S'' q qs=>⟨v,Φ'',σ'',S'',rfl,.inl q,qs⟩) a'.defers Φ' w' σ' S' q3 q1 q4
   ·exact Ll (P:=P) (fn:=fn) (tmps:=a'.tmps) hrs (Φ0:=Φ.aX w.heap.size) (w0:=w) rfl (fun v Φ'' w'' σ'' S'' q qs=>⟨v,Φ'',σ'',S'',rfl,.inr q,qs⟩) a'.defers Φ' w' σ' S' q3 q1 q4
  cases e with
  | normal=>exact⟨.inl rfl,fin q5.2 q5.1⟩
  | ret=>exact⟨.inr rfl,fin q5.2 q5.1⟩
  | _=>exact q5.elim
 ·rintro e w' ⟨v,Φ',σ',S',rfl,q,qs⟩
  subst hC
  rcases q with q|q
  ·exact⟨v,Φ'.aX Φ.base,σ',S',rfl,q.inv.aX _,q.apt.aX _,qs.aX,.inl q.st⟩
  ·exact⟨v,Φ'.aX Φ.base,σ',S',rfl,q.inv.aX _,q.apt.aX _,qs.aX,.inr q.st⟩
end

section
structure C2 (Φ0:Phi) (σ0:St) (n0:Nat) (Φ:Phi) (σ:St):Prop where
 le:Φ0.le Φ
 snapn:∀a v,Φ.snap a=some v→Φ0.snap a=some v∨n0≤a.block∨aY Φ0 σ0 a.block
 ownd:∀R,aY Φ σ R→aY Φ0 σ0 R∨n0≤R
structure Bg (C:YC) (Φ0:Phi) (σ0:St) (n0:Nat) (So0:YS) (tmps:Array Value) (fc:FR) (l:Nat) (st:Loop) (σ:St) (S:YS) (Φ:Phi) (So:YS) (t:Option Nat):Prop where
 inv:kF C Φ σ S.w So t
 frame:dD Φ tmps fc
 step:C2 Φ0 σ0 n0 Φ σ
 wr:∀k,S.wr k↔(aY Φ σ k∨k=l∨So.wr k)
 sn:∀a,S.sn a=(match Φ.snap a with|some v=>some v|none=>So.sn a)
 lrec:S.w.heap[l]?=some (.loop st)
 size:n0≤S.w.heap.size
 base:Φ.base≤S.w.heap.size
 owr:∀k,So.wr k→So0.wr k∨n0≤k
 osn:∀a v,So.sn a=some v→So0.sn a=some v∨So0.wr a.block∨n0≤a.block∨Φ0.snap a=some v∨aY Φ0 σ0 a.block
section
variable {C:YC} {Φ0 Φ:Phi} {σ0 σ:St} {n0:Nat} {So0:YS} {tmps:Array Value} {fc:FR} {l:Nat} {st:Loop} {S:YS} {So:YS} {t:Option Nat}
theorem Bg.LM(h:Bg C Φ0 σ0 n0 So0 tmps fc l st σ S Φ So t){a:Addr}{v:Value}(q:Φ.snap a=some v):S.sn a=some v:=by rw[h.sn a,q]
theorem Bg.WM(h:Bg C Φ0 σ0 n0 So0 tmps fc l st σ S Φ So t){a:Addr}{v:Value}(q:So.sn a=some v):S.sn a=some v:=by
 rw[h.sn a]
 cases e:Φ.snap a with
 | none=>exact q
 | some u =>
  have h1:=h.inv.inv.snap a u e
  have h2:=h.inv.apt.agree.sn a v q
  rw[h1] at h2
  simpa using h2
theorem Bg.RY(h:Bg C Φ0 σ0 n0 So0 tmps fc l st σ S Φ So t){a:Addr}{v:Value}(q:S.sn a=some v):Φ.snap a=some v∨So.sn a=some v:=by
 rw[h.sn a] at q
 cases e:Φ.snap a with
 | none=>rw[e] at q;exact .inr q
 | some u=>rw[e] at q;exact .inl q
theorem Bg.agree(h:Bg C Φ0 σ0 n0 So0 tmps fc l st σ S Φ So t):oU S S.w :=
 ⟨fun _ _=>rfl,fun k hk=>by
  rcases (h.wr k).1 hk with q|rfl|q
  ·obtain⟨l',o,p,h1,h2,h3⟩:=q
   obtain⟨p',e,hlt⟩:=(h.inv.inv.own l' o h1).place
   rw[h2] at e;cases e
   exact hlt k h3
  ·exact(Array.getElem?_eq_some_iff.1 h.lrec).1
  ·exact Nat.lt_of_lt_of_le (h.inv.apt.agree.lt k q) h.inv.apt.agree.size,(fun k hk x e=>by
  rcases (h.wr k).1 hk with q|rfl|q
  ·exact h.inv.inv.mark e q
  ·rw[h.lrec] at e;cases e
  ·exact h.inv.apt.agree.nomark k q x ((h.inv.apt.agree.same k q).symm.trans e)),fun a v q=>by
  rcases h.RY q with q|q
  ·exact h.inv.inv.snap a v q
  ·exact h.inv.apt.agree.sn a v q,Nat.le_refl _,rfl,rfl,rfl,Nat.le_refl _⟩
theorem Bg.at(h:Bg C Φ0 σ0 n0 So0 tmps fc l st σ S Φ So t)(k1:∀a v,Φ0.snap a=some v→C.Φ0.snap a=some v∨C.n0≤a.block∨aY C.Φ0 C.σ0 a.block)(k2:∀R,aY Φ0 σ0 R→aY C.Φ0 C.σ0 R∨C.n0≤R)(k3:C.n0≤n0)
 {w:World}(ha:oU S w){Ψ:Phi}(ho:∀m,Ψ.obj m=none)
 (hs:∀a v,Ψ.snap a=some v→w.cell? a=some v∧¬S.wr a.block∧(Φ0.snap a=some v∨n0≤a.block∨aY Φ0 σ0 a.block)) :
  ∃Φ',kF C Φ' σ w So t∧dD Φ' tmps fc∧C2 Φ0 σ0 n0 Φ' σ∧(∀k,aY Φ' σ k↔aY Φ σ k)∧(∀a v,Φ'.snap a=some v→Φ.snap a=some v∨Ψ.snap a=some v)∧(∀v m,Rel Ψ v m→Rel Φ' v m)∧w.heap[l]?=some (.loop st)∧Φ'.base≤w.heap.size:=by
 obtain⟨Φ',hΦ⟩:∃Φ':Phi,Φ'={ Φ with snap:=fun a=>match Φ.snap a with|some v=>some v|none=>Ψ.snap a }:=⟨_,rfl⟩
 have hle:Φ.le Φ':=by subst hΦ;exact⟨fun a v q=>by simp[q],fun _ _ q=>q,rfl⟩
 have hobj:Φ'.obj=Φ.obj:=by subst hΦ;rfl
 have hb:Φ'.base=Φ.base:=by subst hΦ;rfl
 have hsn:∀a v,Φ'.snap a=some v→Φ.snap a=some v∨Ψ.snap a=some v:=fun a v q=>by
  subst hΦ
  simp only at q
  cases e:Φ.snap a with
  | none=>rw[e] at q;exact .inr q
  | some u=>rw[e] at q;exact .inl q
 have hwr:∀k,aY Φ σ k→w.heap[k]?=S.w.heap[k]?:=fun k hk=>ha.same k ((h.wr k).2 (.inl hk))
 have hown:∀k,aY Φ' σ k↔aY Φ σ k:=fun k=>by unfold aY;rw[hobj]
 have hinv:Inv Φ' w σ:=by
  refine⟨fun l' o hl=>(h.inv.inv.own l' o hl).mono hle fun p R h1 h2=>hwr R ⟨l',o,p,hl,h1,h2⟩,fun a b o o' p p' R h1 h2 h3 h4=>?_,fun a v q=>?_,fun l' o p R a v h1 h2 h3 q=>?_,?_⟩
  ·rw[hobj] at h3 h4;exact h.inv.inv.inj a b o o' p p' R h1 h2 h3 h4
  ·rcases hsn a v q with q|q
   ·exact ha.sn a v (h.LM q)
   ·exact(hs a v q).1
  ·rw[hobj] at h2
   rcases hsn a v q with q|q
   ·exact h.inv.inv.apart l' o p R a v h1 h2 h3 q
   ·intro e
    exact(hs a v q).2.1 ((h.wr _).2 (.inl ⟨l',o,p,h1,h2,e ▸ h3⟩))
  ·obtain⟨n,hn⟩:=h.inv.inv.fresh.1.1
   exact⟨⟨⟨n,fun k hk=>by rw[hobj];exact hn k hk⟩,fun k p hk=>h.inv.inv.fresh.1.2 k p (by rw[←hobj];exact hk)⟩,fun g i v q=>hle.snap _ _ (h.inv.inv.fresh.2.1 g i v q),h.inv.inv.fresh.2.2.mono hle.snap⟩
 have hag:=h.inv.apt.agree
 have hapt:Apt Φ' σ So w:=by
  refine⟨⟨fun k hk=>(ha.same k ((h.wr k).2 (.inr (.inr hk)))).trans (hag.same k hk),hag.lt,hag.nomark,fun a v q=>ha.sn a v (h.WM q),Nat.le_trans hag.size ha.size,ha.os.trans hag.os,ha.tape.trans hag.tape,ha.output.trans hag.output,Nat.le_trans hag.drawn ha.drawn⟩,fun k hk q=>h.inv.apt.own k hk ((hown k).1 q),fun a v q ho=>h.inv.apt.snown a v q ((hown _).1 ho),fun a v q hk=>?_⟩
  rcases hsn a v q with q|q
  ·exact h.inv.apt.snap a v q hk
  ·exact(hs a v q).2.1 ((h.wr _).2 (.inr (.inr hk)))
 refine⟨Φ',⟨hinv,hapt,fun a v q=>?_,fun R hR=>h.inv.ownd R ((hown R).1 hR),Nat.le_trans h.inv.size ha.size,h.inv.st⟩,h.frame.mono hle,⟨h.step.le.trans hle,fun a v q=>?_,fun R hR=>h.step.ownd R ((hown R).1 hR)⟩,hown,hsn,fun v m r=>?_,?_,?_⟩
 ·rcases hsn a v q with q|q
  ·exact h.inv.snapn a v q
  ·rcases (hs a v q).2.2 with q|q|q
   ·exact k1 a v q
   ·exact .inr (.inl (Nat.le_trans k3 q))
   ·rcases k2 _ q with q|q
    ·exact .inr (.inr q)
    ·exact .inr (.inl q)
 ·rcases hsn a v q with q|q
  ·exact h.step.snapn a v q
  ·exact(hs a v q).2.2
 ·refine r.Gx (fun a u q=>?_) (fun l' p q=>by rw[ho l'] at q;cases q)
  have h1:=(hs a u q).1
  subst hΦ
  simp only
  cases e:Φ.snap a with
  | none=>exact q
  | some u' =>
   have h2:=ha.sn a u' (h.LM e)
   rw[h1] at h2
   simpa using h2.symm
 ·rw[ha.same l ((h.wr l).2 (.inr (.inl rfl)))];exact h.lrec
 ·rw[hb];exact Nat.le_trans h.base ha.size
end
theorem C2.step{Φ0 Φ Φ':Phi}{σ0 σ σ':St}{n0:Nat}{w w':World}{S S':YS}(h:C2 Φ0 σ0 n0 Φ σ)(hn:n0≤w.heap.size)(k:eU Φ σ w S Φ' σ' w' S'):C2 Φ0 σ0 n0 Φ' σ' where
 le:=h.le.trans k.le
 snapn:=fun a v hv=>by
  rcases k.snapn a v hv with q|q|q
  ·exact h.snapn a v q
  ·exact .inr (.inl (Nat.le_trans hn q))
  ·rcases h.ownd _ q with q|q
   ·exact .inr (.inr q)
   ·exact .inr (.inl q)
 ownd:=fun R hR=>by
  rcases k.ownd R hR with q|q
  ·exact h.ownd R q
  ·exact .inr (Nat.le_trans hn q)
theorem kF.putObj{C:YC}{Φ:Phi}{σ:St}{w:World}{S:YS}{t:Option Nat}(h:kF C Φ σ w S t){l:Nat}{r:Loop}(o':Obj)(hl:w.heap[l]?=some (.loop r))(hw:¬S.wr l):kF C Φ σ (w.putObj l o') S t:=by
 have hne:∀k,S.wr k→k≠l:=fun k hk e=>hw (e ▸ hk)
 refine⟨h.inv.putObj _ hl (fun _ _ _ e=>by cases e) (fun _ _ e=>by cases e),⟨⟨fun k hk=>(World.putObj_heap_other (hne k hk)).trans (h.apt.agree.same k hk),h.apt.agree.lt,h.apt.agree.nomark,fun a v q=>?_,by rw[World.putObj_size];exact h.apt.agree.size,h.apt.agree.os,h.apt.agree.tape,h.apt.agree.output,h.apt.agree.drawn⟩,h.apt.own,h.apt.snown,h.apt.snap⟩,h.snapn,h.ownd,by rw[World.putObj_size];exact h.size,h.st⟩
 have hc:=h.apt.agree.sn a v q
 rw[←hc]
 refine World.gC (World.putObj_heap_other fun e=>?_)
 rw[World.cell?,e,hl] at hc
 simp at hc
end

section
section
variable {P:Program} {C:YC} {f:FR} {σ:St} {t:Option Nat} {Q:YQ} {q:MQ} {c:Code}
theorem b5(h:R (dN P (@OfNat.ofNat Code (nat_lit 0) (@_root_.id (OfNat Code (nat_lit 0)) (OfNat.mk c))) f σ q)):mwp P c f σ q:=mP c f σ q h
theorem H9(h:R (dN P (@OfNat.ofNat Code (nat_lit 0) (@_root_.id (OfNat Code (nat_lit 0)) (OfNat.mk c))) f σ (fun e f' σ'=>Q e f' σ' t))):ywp P C c f σ t Q:=V7 (mP c f σ _ h)
theorem EW{k:FR→St→Option Nat→Prop}:R (H2 k Q .normal f σ t)=R (k f σ t):=congrArg R rfl
theorem ON{k:FR→St→Option Nat→Prop}:R (H2 k Q .ret f σ t)=R (Q .ret f σ t):=congrArg R rfl
theorem KD{k:FR→St→Option Nat→Prop}{id:Nat}:R (H2 k Q (.exit id) f σ t)=R (Q (.exit id) f σ t):=congrArg R rfl
theorem Bj{id:Nat}:R (vD id Q .normal f σ t)=R (Q .normal f σ t):=congrArg R rfl
theorem Ik{id:Nat}:R (vD id Q .ret f σ t)=R (Q .ret f σ t):=congrArg R rfl
theorem Fa{id:Nat}:R (vD id Q (.exit id) f σ t)=R (Q .normal f σ t):=congrArg R (by simp[vD])
theorem Ef{k:FR→St→Prop}:R (Q4 k .normal f σ)=R (k f σ):=congrArg R rfl
theorem BW{fc:FR}{n:St→Prop}:R (EF q fc n .normal f σ)=R (Gh f σ fun _ σ1=>n σ1):=congrArg R rfl
theorem HD{n:Nat}:R (VK n .normal f σ t)=R (f.d=[]∧(t=some n∨t=none)):=congrArg R rfl
theorem Rq{n:Nat}:R (VK n .ret f σ t)=R (f.d=[]∧(t=some n∨t=none)):=congrArg R rfl
def Az(l:List Oper):Bool:=l.all fun o=>match o.op with|.defer _=>false|_=>true
theorem oI{l:List Oper}(h:Az l=true):∀o,o∈l→∀c,o.op≠.defer c:=fun o ho c e=>by
 have:=List.all_eq_true.1 h o ho
 rw[e] at this
 cases this
theorem OT{id:Nat}{ops:Array Oper}(pre:List Oper)(y:Oper)(post:List Oper){o:Operand}{args:Array Operand}{ts:Array TypeId}{i:Nat}{x:List MV}(ho:ops.toList=pre++y::post)(hd:(Az pre&&Az post)=true)
 (hy:y.op=.call ⟨.value o,args,ts⟩)(hg:y.guard=none)(ht:t=some i)(hx:C.xs[i]?=some x)(hno:∀m,m∈x→nC m)(hspec:s7 P C.l C.xs C.Y C.Yx C.Φ0 C.σ0 C.n0)
 (h:R (dL P (@OfNat.ofNat (Array Oper) (nat_lit 0) (@_root_.id (OfNat (Array Oper) (nat_lit 0)) (OfNat.mk ops))) (fun f1 σ1=>aE f1 o=.fn (.yield C.l) [] []∧args.toList.map (aE f1)=x ∧
   dL P (@OfNat.ofNat (Array Oper) (nat_lit 0) (@_root_.id (OfNat (Array Oper) (nat_lit 0)) (OfNat.mk ops))) (fun f2 σ2=>Q .normal f2 σ2 (some (i+1))) (@OfNat.ofNat (List Oper) (nat_lit 0) (@_root_.id (OfNat (List Oper) (nat_lit 0)) (OfNat.mk post))) (bD f1 y.dst (.bool true)) σ1 ∧
   dL P (@OfNat.ofNat (Array Oper) (nat_lit 0) (@_root_.id (OfNat (Array Oper) (nat_lit 0)) (OfNat.mk ops))) (fun f2 σ2=>Q .normal f2 σ2 none) (@OfNat.ofNat (List Oper) (nat_lit 0) (@_root_.id (OfNat (List Oper) (nat_lit 0)) (OfNat.mk post))) (bD f1 y.dst (.bool false)) σ1)
   (@OfNat.ofNat (List Oper) (nat_lit 0) (@_root_.id (OfNat (List Oper) (nat_lit 0)) (OfNat.mk pre))) f σ)):ywp P C (.region id ops false) f σ t Q:=by
 have hd:=Bool.and_eq_true_iff.1 hd
 exact KK pre y post ho (oI hd.1) (oI hd.2) hy hg ht hx hno hspec h
end
attribute [go_sem ↓] EW ON KD Bj Ik Fa Ef BW HD Rq
end

section
section
variable {P:Program} {f:FR} {σ:St} {Q:MQ} {id:Nat} {a b l:List Oper} {x:Oper} {dr:Bool}
theorem Wu:List.append (x::a) b=x::List.append a b:=rfl
theorem Xp:List.append ([]:List Oper) b=b:=rfl
end
attribute [go_sem] Wu Xp
theorem gZ{P:Program}{g:FuncId}{ms:List MV}{σ:St}{o:aT}{u:Nat→MV}{k:MV→St→Prop}(h:aA P g ms St.none fun v σ'=>∃l,v=u l∧σ'=St.none.set l o)(hk:∀l,σ l=none→R (bT (u l) (σ.set l o) k)):R (cW P g ms σ k) :=
 bK h (St.none_le σ) fun v σ' hv hf=>by
  obtain⟨l,rfl,rfl⟩:=hv
  rw[lY,bE,dC]
  refine hk l ?_
  rcases hf l o (aD _ _ _) with h|⟨o',h⟩
  ·exact h
  ·simp[St.none] at h
end

section
theorem y9{n:Nat}(h:n<4294967296):IntKind.u32.wrap (n:Int)=(n:Int):=by
 simp only[IntKind.wrap,IntKind.signed,IntKind.bits]
 simp
 omega
theorem E5(a b:Nat)(ha:a<4294967296)(hb:b<4294967296):nX .u32 (a:Int) (b:Int)=((a &&& b:Nat):Int):=by
 have hab:a &&& b<4294967296:=Nat.lt_of_le_of_lt Nat.and_le_left ha
 unfold nX
 have e:(BitVec.ofInt IntKind.u32.bits (a:Int) &&& BitVec.ofInt IntKind.u32.bits (b:Int)).toNat=a &&& b:=by
  rw[BitVec.toNat_and]
  simp only[BitVec.ofInt_natCast,BitVec.toNat_ofNat,IntKind.bits]
  rw[Nat.mod_eq_of_lt oM,Nat.mod_eq_of_lt oM]
 rw[e]
 exact y9 hab
theorem Xs(a b:Nat)(ha:a<4294967296)(hb:b<4294967296):orK .u32 (a:Int) (b:Int)=((a ||| b:Nat):Int):=by
 have hab:a ||| b<2 ^ 32:=Nat.or_lt_two_pow oM oM
 unfold orK
 have e:(BitVec.ofInt IntKind.u32.bits (a:Int) ||| BitVec.ofInt IntKind.u32.bits (b:Int)).toNat=a ||| b:=by
  rw[BitVec.toNat_or]
  simp only[BitVec.ofInt_natCast,BitVec.toNat_ofNat,IntKind.bits]
  rw[Nat.mod_eq_of_lt oM,Nat.mod_eq_of_lt oM]
 rw[e]
 exact y9 hab
theorem OX(a b:Nat)(ha:a<4294967296)(hb:b<4294967296):s8 .u32 (a:Int) (b:Int)=((a &&& (4294967295 - b):Nat):Int):=by
 have hab:a &&& (4294967295 - b)<4294967296:=Nat.lt_of_le_of_lt Nat.and_le_left ha
 unfold s8
 have e:(BitVec.ofInt IntKind.u32.bits (a:Int) &&& ~~~BitVec.ofInt IntKind.u32.bits (b:Int)).toNat=a &&& (4294967295 - b):=by
  rw[BitVec.toNat_and,BitVec.toNat_not]
  simp only[BitVec.ofInt_natCast,BitVec.toNat_ofNat,IntKind.bits]
  rw[Nat.mod_eq_of_lt oM,Nat.mod_eq_of_lt oM]
 rw[e]
 exact y9 hab
theorem CW(n:Nat)(h:n<32):aA Tryz.prog 264 [.int .i64 (n:Int)] St.none (fun r _=>r=.int .u32 ((2 ^ n:Nat):Int)):=by
 refine(mB 12 [.tmp 2] Tryz.func264 ?_)
 repeat' first|refine wZ1 @Tryz.f264.eq_1 ?_|fail
 rw[Nat.min_eq_left oM,Int.one_mul,show(2:Int) ^ n=((2 ^ n:Nat):Int) by simp]
 exact congrArg _ (y9 (Nat.pow_lt_pow_right (a:=2) (n:=32) (by decide) h))
theorem WC(m:Nat)(h:m<4294967296):m &&& (4294967295 - 511)=0↔m≤511:=by
 have e:∀i,(4294967295 - 511:Nat).testBit i=(decide (9≤i)&&decide (i<32)):=by
  intro i
  by_cases hi:i<32
  ·have:∀i,i<32→(4294967295 - 511:Nat).testBit i=(decide (9≤i)&&decide (i<32)):=by decide
   exact this i hi
  ·rw[Nat.testBit_lt_two_pow (Nat.lt_of_lt_of_le (show 4294967295 - 511<2 ^ 32 by decide) (Nat.pow_le_pow_right (by decide) oM)),decide_eq_false hi,Bool.and_false]
 constructor
 ·intro h0
  refine Classical.byContradiction fun hn=>?_
  have h1:m / 2 ^ 9≠0:=by omega
  obtain⟨i,hi⟩:=Nat.exists_testBit_of_ne_zero h1
  rw[Nat.testBit_div_two_pow] at hi
  have hi32:i+9<32:=by
   refine Classical.byContradiction fun hc=>?_
   rw[Nat.testBit_lt_two_pow (Nat.lt_of_lt_of_le (show m<2 ^ 32 from h) (Nat.pow_le_pow_right (by decide) oM))] at hi
   cases hi
  have h2:=congrArg (fun x=>Nat.testBit x (i+9)) h0
  simp only[Nat.testBit_and,Nat.zero_testBit,e,hi] at h2
  rw[decide_eq_true oM,decide_eq_true hi32] at h2
  cases h2
 ·intro hm
  refine Nat.eq_of_testBit_eq fun i=>?_
  rw[Nat.testBit_and,Nat.zero_testBit,e]
  by_cases hi:9≤i
  ·rw[Nat.testBit_lt_two_pow (Nat.lt_of_lt_of_le (show m<2 ^ 9 by omega) (Nat.pow_le_pow_right (by decide) hi)),Bool.false_and]
  ·rw[decide_eq_false hi,Bool.false_and,Bool.and_false]
theorem uD(m:UInt32):aA Tryz.prog 63 [.int .u32 (m.toNat:Int)] St.none (fun r _=>r=.bool (decide (m.toNat≤511))):=by
 refine(mB 5 [.tmp 2] Tryz.func63 ?_)
 have hm:=m.toNat_lt
 have h:aA Tryz.prog 134 [.int .u32 (m.toNat:Int),.int .u32 511] St.none (fun r _=>r=.bool (decide (m.toNat≤511))):=by
  refine(mB 9 [.tmp 4] Tryz.func134 ?_)
  have e:s8 .u32 (m.toNat:Int) 511=_:=OX m.toNat 511 hm (by decide)
  repeat' first|refine wZ2 @Tryz.f134.eq_1 @e ?_|fail
  exact decide_eq_decide.mpr ⟨fun h=>(WC m.toNat hm).1 (by exact_mod_cast h),fun h=>by rw[(WC m.toNat hm).2 h];rfl⟩
 repeat' first|(with_reducible first|refine up h ?_)|refine wZ1 @Tryz.f63.eq_1 ?_|exact wC1 @Tryz.f63.eq_1|fail
theorem SL(m k:Nat):m &&& 2 ^ k=if m.testBit k=true then 2 ^ k else 0:=by
 refine Nat.eq_of_testBit_eq fun i=>?_
 rw[Nat.testBit_and,Nat.testBit_two_pow]
 by_cases h:k=i
 ·subst h
  cases hb:m.testBit k
  ·simp
  ·simp[Nat.testBit_two_pow]
 ·cases m.testBit k
  ·simp[h]
  ·simp[h,Nat.testBit_two_pow]
theorem sL(m:UInt32):aA Tryz.prog 155 [.int .u32 (m.toNat:Int)] St.none (fun r _=>r=.bool (bit m.toNat 8)):=by
 refine(mB 6 [.tmp 2] Tryz.func155 ?_)
 have hm:=m.toNat_lt
 have e:nX .u32 (m.toNat:Int) 256=_:=E5 m.toNat 256 hm (by decide)
 repeat' first|refine wZ2 @Tryz.f155.eq_1 @e ?_|fail
 rw[show(256:Nat)=2 ^ 8 by decide,SL]
 unfold bit
 cases m.toNat.testBit 8<;>rfl
def dbT:List Int:=[0,1,28,2,29,14,24,3,30,22,20,15,25,17,4,8,31,27,13,23,21,19,16,7,26,12,18,6,11,5,10,9]
def tzI(x:Nat):Int:=(IntKind.u32.wrap (nX IntKind.u32 (x:Int) (IntKind.u32.wrap (0 - (x:Int))) * 125613361)).fdiv (2 ^ min 27 32)
theorem Si:∀x:Nat,x<256→x≠0→0≤tzI x∧tzI x<32∧dbT[(tzI x).toNat]?=some (((bV x).headD 0:Nat):Int):=by decide +kernel
theorem UA(i:Nat):GT 0 i=(dbT[i]?).map (Value.int .u8):=by
 unfold GT
 rw[if_pos rfl,List.getElem?_map];rfl
theorem SI{C:Prop}{v:MV}{σ:St}{k:MV→St→Prop}(hC:C)(hk:R (k v σ)):R (mpure σ k (some (C,v))):=⟨hC,hk⟩
theorem Ta(x:Nat)(h:x<256)(h0:x≠0):IJ Tryz.prog 325 0 (.int .u32 (tzI x))=some ((td Tryz.prog 5).ok=true∧(td Tryz.prog 5).size=1∧0≤tzI x∧tzI x<32∧(ofV (.int .u8 (((bV x).headD 0:Nat):Int))).aL=true,.cptr [.int .u8 (((bV x).headD 0:Nat):Int)]):=by
 unfold IJ
 rw[UP]
 simp only
 rw[UA,(Si x h h0).2.2]
 rfl
theorem FI{x:Nat}(h:x<256)(h0:x≠0):(bV x).headD 0<8:=by
 rw[zH x h h0]
 have:(bV x).headD 0∈bV x:=by
  have:=zH x h h0
  rw[this];simp
 simpa using tA this
theorem Rj(x:Nat)(h0:0<x)(h:x<256):aA Tryz.prog 274 [.int .u32 (x:Int)] St.none (fun r _=>r=.int .i64 (((bV x).headD 0:Nat):Int)):=by
 refine(mB 14 [.tmp 2] Tryz.func274 ?_)
 have hg:=Ta x h oM
 have ht:=Si x h oM
 have hh:=FI h oM
 obtain⟨d,hd⟩:∃d,(bV x).headD 0=d:=⟨_,rfl⟩
 rw[hd] at hg ht hh ⊢
 repeat' first|refine wZ1 @Tryz.f274.eq_1 ?_|fail
 change R (mpure _ _ (IJ _ _ _ (.int .u32 (tzI x))))
 rw[hg]
 refine SI ⟨by rw[td5],by rw[td5],ht.1,ht.2.1,rfl⟩ ?_
 generalize tzI x=w
 repeat' first|refine wZ0 ?_|exact wC0|fail
end

section
theorem I6{t:TypeId}{xs ys:List MV}{b:Bool}(h:kK Tryz.prog 6 t (.agg xs) (.agg ys)=some b)(hp:eX Tryz.prog t=true):cH Tryz.prog t .neq (.agg xs) (.agg ys)=some (True,.bool (!b)):=by
 rw[Gb,h,xM,KX,hp];simp
theorem Rh:eX Tryz.prog 57=true:=by decide +kernel
theorem T9:eX Tryz.prog 126=true:=by decide +kernel
theorem CE(a b:PA):cH Tryz.prog 57 .neq (.agg a.c) (.agg b.c)=some (True,.bool (!decide (a=b))):=I6 (Np 2 a b) Rh
theorem Qp(a b:CA):cH Tryz.prog 126 .neq (.agg a.c) (.agg b.c)=some (True,.bool (!decide (a=b))):=I6 (Qu 2 a b) T9
theorem tY{p:PA}{i:Nat}(h0:¬(p.mask.toNat=0∨511<p.mask.toNat))(h1:¬(65536≤p.lab.toNat∨p.lab.toNat≠0∧bit p.mask.toNat 8=false))(hi:i<8)(h:(fF (p.f.get i)&&(decide ((p.f.get i).kd=0) || bit p.mask.toNat i))=false):bI p=1:=by
 unfold bI
 rw[if_neg h0,if_neg h1,if_neg]
 intro hb
 have:=List.all_eq_true.1 hb i (List.mem_range.2 hi)
 rw[h] at this
 cases this
theorem rW{p:PA}(h0:¬(p.mask.toNat=0∨511<p.mask.toNat))(h1:¬(65536≤p.lab.toNat∨p.lab.toNat≠0∧bit p.mask.toNat 8=false))(h:∀i,i<8→(fF (p.f.get i)&&(decide ((p.f.get i).kd=0) || bit p.mask.toNat i))=true):bI p=0:=by
 unfold bI
 rw[if_neg h0,if_neg h1,if_pos]
 exact List.all_eq_true.2 fun i hi=>h i (List.mem_range.1 hi)
end

section
theorem le2{σ:St}{l k:Nat}{o o':aT}(h1:σ l=some o)(h2:σ k=some o'):((St.none.set l o).set k o').le σ:=St.aB (St.aB (St.none_le _) h1) h2
theorem sU{α:Type}{f:α→List MV}{l:List α}{ex:List (List MV)}:(l.map f++ex).take l.length=l.map f:=by rw[List.take_append_of_le_length (by simp),List.take_of_length_le (by simp)]
theorem vG{α:Type}{f:α→List MV}{l:List α}{ex:List (List MV)}:(l.map f++ex).drop (l.length+1)=ex.drop 1:=by
 rw[List.drop_append,List.drop_eq_nil_of_le (by simp),List.nil_append];congr 1;simp
theorem Xb{α:Type}{f:α→List MV}{l:List α}{ex:List (List MV)}{σ:St}{q e:Nat}{t:TypeId}(h:σ q=some (.row t e (l.map f++ex))):View σ (.vec e q 0 l.length) (.lst e (l.map f) false):=by
 have:=View.vec (n:=l.length) (lo:=0) h (by simp)
 rwa [List.drop_zero,sU] at this
theorem iF.fc{σ:St}{f:F8}{a b:List MV}(h:iF σ a b):iF σ (fc f++a) (fc f++b):=iF.app (iF.same _) h
abbrev MS.c(m:MS):List MV:=m.k (.lst 5 (m.cmd.fl.map ND.c) false) (.lst 5 (m.rep.fl.map ND.c) false) (.lst 28 (IT.ks m.page.items) false)
theorem MS.cell(m:MS):m.c.all MV.aL=true:=by
 simp only[MS.c,MS.k,List.all_cons,IH];rfl
structure Sm (m:MS):Prop where
 f:m.cmd.fl.length≤1000000
 g:m.rep.fl.length≤1000000
 i:m.page.items.length≤1000000
end

section
def T.depth:T→Nat
 | .leaf _=>1
 | .one _ a=>1+a.depth
 | .two _ a b=>1+max a.depth b.depth
def HS:List Nat→List Nat
 | []=>[]
 | k::s=>shut ((k - 1)::s)
theorem wJ(s:List Nat):shut (0::s)=HS s:=by
 cases s with
 | nil=>rw[shut];rfl
 | cons k s=>rw[shut];rfl
theorem wC(n:Nat)(s:List Nat):shut ((n+1)::s)=(n+1)::s:=by rw[shut]
theorem yP:∀{t:T},t.ok→∀(d:Nat) (s:List Nat) (l:List ND),dp d s (t.fl++l)=dp (max d (s.length+t.depth)) (HS s) l
 | .leaf x,h,d,s,l=>by
  simp only[T.ok] at h
  rw[T.fl,List.cons_append,List.nil_append,dp,h,wJ];rfl
 | .one x a,h,d,s,l=>by
  rw[T.fl,List.cons_append,dp,h.1,wC,yP h.2,HS,show 0+1 - 1=0 from rfl,wJ]
  congr 1
  simp only[List.length_cons,T.depth];omega
 | .two x a b,h,d,s,l=>by
  rw[T.fl,List.cons_append,dp,h.1,wC,List.append_assoc,yP h.2.1,HS,show 1+1 - 1=0+1 from rfl,wC,yP h.2.2,HS,show 0+1 - 1=0 from rfl,wJ]
  congr 1
  simp only[List.length_cons,T.depth];omega
theorem IC{t:T}(h:t.ok)(he:iR t.fl 0=(t.fl.length:Int)):iU t.fl=t.depth:=by
 have:=yP h 0 [] []
 rw[List.append_nil] at this
 rw[iU,if_neg,this]
 ·simp[dp]
 ·rintro(h1|h1)
  ·have:=t.DA;rw[h1] at this;simp at this
  ·exact h1 he
end

section
theorem L4{α:Type}(D ex Y:List α)(m y:Nat)(h1:D.length=m)(h2:Y.length=y):List.take m (D++ex)++Y++List.drop (m+y) (D++ex)=(D++Y)++ex.drop y:=by
 subst h1 h2
 rw[List.take_left,List.drop_append,List.drop_eq_nil_of_le oM,List.nil_append,Nat.add_sub_cancel_left]
abbrev T.kl(t:T):List (List MV):=t.kids.map fun k=>[.lst 5 (k.fl.map ND.c) false]
theorem Tl{t:T}(h:t.ok){i:Nat}(hi:i<t.kids.length) :
  iR t.fl ((1+((t.kids.take i).map T.fl).flatten.length:Nat):Int)=((1+((t.kids.take (i+1)).map T.fl).flatten.length:Nat):Int) ∧
  (t.fl.take (1+((t.kids.take (i+1)).map T.fl).flatten.length)).drop (1+((t.kids.take i).map T.fl).flatten.length)=(t.kids.getD i (.leaf nd0)).fl ∧
  1+((t.kids.take i).map T.fl).flatten.length≤1+((t.kids.take (i+1)).map T.fl).flatten.length∧1+((t.kids.take (i+1)).map T.fl).flatten.length≤t.fl.length∧(t.kids.getD i (.leaf nd0)).fl.length≤t.fl.length:=by
 obtain⟨h1,h2⟩:=T.Lw h
 obtain⟨k,hk⟩:∃k,t.kids.getD i (.leaf nd0)=k:=⟨_,rfl⟩
 have hg:t.kids[i]=k:=by rw[←hk,b9 _ hi]
 have hko:=h2 k (by rw[←hk];exact gT _ hi)
 have e1:((t.kids.take (i+1)).map T.fl).flatten=((t.kids.take i).map T.fl).flatten++k.fl:=by
  rw[List.take_succ_eq_append_getElem hi,hg];simp
 have e2:t.fl=(t.root::((t.kids.take i).map T.fl).flatten)++(k.fl++((t.kids.drop (i+1)).map T.fl).flatten):=by
  rw[T.K6]
  conv=>lhs;rw[←List.take_append_drop i t.kids,List.drop_eq_getElem_cons hi,hg]
  simp
 have e3:(t.root::((t.kids.take i).map T.fl).flatten).length=1+((t.kids.take i).map T.fl).flatten.length:=by rw[List.length_cons];omega
 rw[e1,List.length_append,hk]
 generalize hA:t.root::((t.kids.take i).map T.fl).flatten=A at e2 e3
 have e4:=KW hko A ((t.kids.drop (i+1)).map T.fl).flatten
 rw[←e2,e3] at e4
 refine⟨by rw[e4,Nat.add_assoc],?_,by omega,by rw[e2];simp only[List.length_append];omega,by rw[e2];simp only[List.length_append];omega⟩
 rw[←Nat.add_assoc,←e3,e2,←List.append_assoc,←List.length_append,List.take_left,List.drop_left]
set_option maxHeartbeats 2000000 in
theorem oP (t:T) (h:t.ok) (hl:t.fl.length≤1000) (tt:Bool):aA Tryz.prog 131 [.lst 5 (t.fl.map ND.c) tt,.int .i64 0] St.none (fun r _=>r=.lst 1 t.kl false):=by
 refine aA.seen (mB 44 [.tmp 4] Tryz.func131 ?_)
 have hpos:=t.DA
 have hf0:(t.fl.getD 0 nd0)=t.root:=by rw[T.K6];rfl
 obtain⟨h1,h2⟩:=T.Lw h
 have hb2:t.kids.length≤2:=by have:=kP t.root.op;omega
 repeat' (first|(with_reducible first|(refine wT ?_;(first|((fail_if_success (have:=nl1));refine wN fun nl1 hnl=>?_)|((fail_if_success (have:=nl2));refine wN fun nl2 hnl=>?_)|((fail_if_success (have:=nl3));refine wN fun nl3 hnl=>?_)|((fail_if_success (have:=nl4));refine wN fun nl4 hnl=>?_)|((fail_if_success (have:=nl5));refine wN fun nl5 hnl=>?_)|refine wN fun _ hnl=>?_);revert hnl;(repeat refine wS fun _ _=>?_);intro hnl)|refine wD dK ?_|refine wI (fun h=>?_) fun h=>?_|refine wF (fun h=>?_) fun h=>?_|refine wG (fun h=>?_) fun h=>?_|refine wH (fun h=>?_) fun h=>?_|((first|refine cK (fun h=>?_) fun h=>?_|refine cC (fun h=>?_) fun h=>?_)<;>simp only[h]))|simp(maxSteps:=4000000) (disch:=first|exact ddL|fail) only[go_sem,simprocAttr,Tryz.f131,bW nd0])
 refine aF (α:=Nat × Nat × List (List MV)) (fun a=>⟨44,[(7,.int .i64 (a.1:Int)),(6,.int .i64 ((1+((t.kids.take a.1).map T.fl).flatten.length:Nat):Int)),(5,.vec 1 a.2.1 0 a.1),(0,.lst 5 (t.fl.map ND.c) tt),(1,.int .i64 0)],[]⟩)
  (fun a=>St.none.set a.2.1 (.row 22 1 ((t.kl.take a.1)++a.2.2))) (fun a=>a.1≤t.kids.length) (fun a=>t.kids.length - a.1) ?_ ?_
 ·refine .of (.less ?_ (St.le_refl _)) ⟨(0,nl1,[]),rfl,rfl,Nat.zero_le _⟩
  simp(maxSteps:=4000000) (disch:=first|exact ddL|fail) only[go_sem,simprocAttr,aU,aN]
  all_goals first|exact⟨rfl,rfl⟩|rfl
 ·rintro⟨i,q,ex⟩ hi
  simp only at hi ⊢
  by_cases hlt:i<t.kids.length
  ·obtain⟨k1,k2,k3,k4,k5⟩:=Tl h hlt
   have hm:min i t.kids.length=i:=Nat.min_eq_left hi
   have e1:List.map (fun k=>[MV.lst 5 (List.map ND.c k.fl) false]) (t.kids.take (i+1))=List.map (fun k=>[MV.lst 5 (List.map ND.c k.fl) false]) (t.kids.take i)++[[.lst 5 ((t.kids.getD i (.leaf nd0)).fl.map ND.c) false]]:=by
    rw[List.take_succ_eq_append_getElem hlt,List.map_append,←b9 (.leaf nd0) hlt];rfl
   repeat' (first|(with_reducible refine aC (qE _) ?_)|(with_reducible refine aC (rC _ oM _ _) ?_)|(with_reducible first|(refine wT ?_;(first|((fail_if_success (have:=nl1));refine wN fun nl1 hnl=>?_)|((fail_if_success (have:=nl2));refine wN fun nl2 hnl=>?_)|((fail_if_success (have:=nl3));refine wN fun nl3 hnl=>?_)|((fail_if_success (have:=nl4));refine wN fun nl4 hnl=>?_)|((fail_if_success (have:=nl5));refine wN fun nl5 hnl=>?_)|refine wN fun _ hnl=>?_);revert hnl;(repeat refine wS fun _ _=>?_);intro hnl)|refine wD dK ?_|refine wI (fun h=>?_) fun h=>?_|refine wF (fun h=>?_) fun h=>?_|refine wG (fun h=>?_) fun h=>?_|refine wH (fun h=>?_) fun h=>?_|((first|refine cK (fun h=>?_) fun h=>?_|refine cC (fun h=>?_) fun h=>?_)<;>simp only[h]))|simp(maxSteps:=4000000) (disch:=first|exact ddL|fail) only[go_sem,simprocAttr,bW nd0,hf0,k1,k2,hm])
   ·have hex:ex=[]:=List.eq_nil_of_length_eq_zero oM
    subst hex
    refine .of (bA.nest (t:=22) (t1:=121) (e1:=5) (ys:=(t.kids.getD i (.leaf nd0)).fl.map ND.c) (n1:=(t.kids.getD i (.leaf nd0)).fl.length) (q:=nl5) (m:=nl3) (pre:=List.map (fun k=>[MV.lst 5 (List.map ND.c k.fl) false]) (t.kids.take i)) (post:=[]) St.none (by first|(simp(maxSteps:=4000000) (disch:=first|exact ddL|fail) only[go_sem,simprocAttr];done)|(simp(maxSteps:=4000000) (disch:=first|exact ddL|fail) only[go_sem,simprocAttr];rfl)) ((aD _ _ _).trans ?_) (by rw[List.length_map]) (St.none_le _) rfl (by assumption) ?_) ⟨(i+1,nl5,[]),rfl,?_,by simp only;omega,by simp only;omega⟩
    ·rw[List.append_nil]
    ·exact wW
    ·simp only
     rw[e1,List.append_nil]
   ·refine .of (bA.nest (t:=22) (t1:=121) (e1:=5) (ys:=(t.kids.getD i (.leaf nd0)).fl.map ND.c) (n1:=(t.kids.getD i (.leaf nd0)).fl.length) (q:=nl5) (m:=nl3) (pre:=List.map (fun k=>[MV.lst 5 (List.map ND.c k.fl) false]) (t.kids.take i)) (post:=ex.drop 1) St.none (by first|(simp(maxSteps:=4000000) (disch:=first|exact ddL|fail) only[go_sem,simprocAttr];done)|(simp(maxSteps:=4000000) (disch:=first|exact ddL|fail) only[go_sem,simprocAttr];rfl)) ((aD _ _ _).trans ?_) (by rw[List.length_map]) (St.none_le _) rfl (by assumption) ?_) ⟨(i+1,nl5,ex.drop 1),rfl,?_,by simp only;omega,by simp only;omega⟩
    ·rw[L4 (List.map (fun k=>[MV.lst 5 (List.map ND.c (T.fl k)) false]) (t.kids.take i)) ex [[MV.vec 5 nl3 0 (t.kids.getD i (T.leaf nd0)).fl.length]] i 1 (by rw[List.length_map,List.length_take];omega) rfl,List.append_assoc]
     rfl
    ·exact wW
    ·simp only
     rw[e1,List.append_assoc]
     rfl
  ·have:i=t.kids.length:=by omega
   subst this
   repeat' (first|(with_reducible refine aC (qE _) ?_)|(with_reducible first|(refine wT ?_;(first|((fail_if_success (have:=nl1));refine wN fun nl1 hnl=>?_)|((fail_if_success (have:=nl2));refine wN fun nl2 hnl=>?_)|((fail_if_success (have:=nl3));refine wN fun nl3 hnl=>?_)|((fail_if_success (have:=nl4));refine wN fun nl4 hnl=>?_)|((fail_if_success (have:=nl5));refine wN fun nl5 hnl=>?_)|refine wN fun _ hnl=>?_);revert hnl;(repeat refine wS fun _ _=>?_);intro hnl)|refine wD dK ?_|refine wI (fun h=>?_) fun h=>?_|refine wF (fun h=>?_) fun h=>?_|refine wG (fun h=>?_) fun h=>?_|refine wH (fun h=>?_) fun h=>?_|((first|refine cK (fun h=>?_) fun h=>?_|refine cC (fun h=>?_) fun h=>?_)<;>simp only[h]))|simp(maxSteps:=4000000) (disch:=first|exact ddL|fail) only[go_sem,simprocAttr,bW nd0,hf0,List.take_length])
   have hv:=View.vec (σ:=St.none.set q (.row 22 1 (t.kl++ex))) (l:=q) (lo:=0) (n:=t.kids.length) (aD _ _ _) (by rw[List.length_append,List.length_map];omega)
   have e:((t.kl++ex).drop 0).take t.kids.length=t.kl:=by
    rw[List.drop_zero,List.take_append_of_le_length (by rw[List.length_map];omega),List.take_of_length_le (by rw[List.length_map];omega)]
   rw[e] at hv
   exact hv
end

section
open Go.Shelf
theorem Bp:∀W:World,W.ShapedOpen Tryz.prog→∀g,g∈GI→∃m,W.cell? ⟨g,0,none⟩=some (.int .i64 m):=fun W h g hg=>by
 simp only[GI,List.mem_cons,List.not_mem_nil,or_false] at hg
 subst hg
 exact tP.s1_3 W h
theorem wZ(s sub:ByteArray)(hs:s.size≤1000000):aA Tryz.prog 296 [.str s,.str sub] St.none fun r _=>r=.bool (Lib.contains s.data.toList sub.data.toList):=by
 refine⟨⟨_,Tryz.func296,rfl,rfl⟩,fun Φ w vs hi hr=>?_⟩
 obtain⟨m,hm⟩:=hi.fresh.2.2 (jM.g 1) (by simp[GI,jM])
 have e0:=(hr.2 0 _ rfl).fZ
 have e1:=(hr.2 1 _ rfl).fZ
 have hv:vs=#[.string s,.string sub]:=by
  have h1:=hr.1
  apply Array.ext
  ·simpa using h1
  ·intro i h3 h4
   match i,h3 with
   | 0,h3=>simpa[Array.getD_eq_getD_getElem?,Array.getElem?_eq_getElem h3] using e0
   | 1,h3=>simpa[Array.getD_eq_getD_getElem?,Array.getElem?_eq_getElem h3] using e1
   | i+2,_=>simp at h4;omega
 subst hv
 refine(Any.strings_Contains { tP with } s sub m w oM (hi.snap _ _ hm)).mono ?_
 rintro e' w' ⟨rfl,rfl⟩
 exact⟨_,_,_,Φ,rfl,.bool _,hi,.refl _ _ _,rfl⟩
end

section
structure DE where
 id:Int
 ver:Int
 sq:Int
 deriving DecidableEq
abbrev DE.c(d:DE):List MV:=[.int .i64 d.id,.int .i64 d.ver,.int .i64 d.sq]
abbrev aP(n:Int):List MV:=[.int .i64 n]
structure GR where
 no:Int
 mem:List Int
 deriving DecidableEq
abbrev GR.c(g:GR):List MV:=[.int .i64 g.no,.lst 1 (g.mem.map aP) false]
structure BK where
 sq:Int
 nx:Int
 cards:List CA
 dead:List DE
 gr:List GR
 deriving DecidableEq
abbrev BK.c(b:BK):List MV:=[.int .i64 b.sq,.int .i64 b.nx,.lst 27 (b.cards.map CA.c) false,.lst 3 (b.dead.map DE.c) false,.lst 2 (b.gr.map GR.c) false]
structure TU where
 sq:Int
 id:Int
 old:Int
 new:Int
 card:CA
 deriving DecidableEq
abbrev TU.c(t:TU):List MV:=.int .i64 t.sq::.int .i64 t.id::.int .i64 t.old::.int .i64 t.new::t.card.c
structure SU where
 dev:Int
 ep:Int
 fl:List ND
 mask:UInt32
 floor:Int
 mem:List Int
 log:List TU
 deriving DecidableEq
abbrev SU.c(s:SU):List MV:=[.int .i64 s.dev,.int .i64 s.ep,.lst 5 (s.fl.map ND.c) false,.int .u32 (s.mask.toNat:Int),.int .i64 s.floor,.lst 1 (s.mem.map aP) false,.lst 31 (s.log.map TU.c) false]
structure RW where
 last:Int
 ep:Int
 ans:RE
 deriving DecidableEq
abbrev RW.c(r:RW):List MV:=.int .i64 r.last::.int .i64 r.ep::r.ans.c
structure SA where
 bk:BK
 subs:List SU
 rows:List RW
 deriving DecidableEq
abbrev SA.c(s:SA):List MV:=s.bk.c++[.lst 7 (s.subs.map SU.c) false,.lst 12 (s.rows.map RW.c) false]
end

section
section
variable {P:Program} {C:cD} {ops:Array Oper}
def gate(ops:Array Oper)(n1:Nat):Bool:=(List.range ops.size).all fun i=>decide (i<n1) || (List.range n1).all fun j=>((rR ops.toList []).getD i 0).testBit j
theorem K9{n1:Nat}(h:gate ops n1=true){i j:Nat}(hi:i<ops.size)(h1:n1≤i)(hj:j<n1):((rR ops.toList []).getD i 0).testBit j=true:=by
 have:=List.all_eq_true.1 h i (List.mem_range.2 hi)
 rw[Bool.or_eq_true,decide_eq_true_eq] at this
 rcases this with q|q
 ·omega
 ·exact List.all_eq_true.1 q j (List.mem_range.2 hj)
theorem CB{listed:Array Bool}{n i:Nat}(hs:n≤listed.size):left (listed.setIfInBounds i true) n=(left listed n).filter fun j=>j != i:=by
 unfold left
 rw[List.filter_filter]
 refine List.filter_congr fun j hj=>?_
 have hj:j<n:=by simpa using hj
 by_cases h:j=i
 ·subst h;simp[show j<listed.size by omega]
 ·have:(i:Nat)≠j:=fun e=>h e.symm
  simp[h,Array.getElem?_setIfInBounds_ne this]
theorem KP{X:RX}{loc:Nat→Nat→Prop}(hC:oV X loc C)(hchk:r4 X ops=true){F:Fence}(hF:F=Fence.wide∨∃l0,F=Fence.wide.inRound l0)(hdef:∀o,o∈ops.toList→∀c,o.op≠.defer c){Qx:Exit→Act→World→Prop}{Φ0:Phi}{σ0:St}{w0:World}(n1:Nat)(hn1:n1≤ops.size)(hg1:gate ops n1=true){K:FR→St→Prop}
 (hfin:∀(fuel:Nat) (listed:Array Bool) (f:FR) (σ:St) (Φ:Phi) (w:World) (a:Act),left listed n1=[]→listed.size=ops.size→(left listed ops.size).length=fuel→uZ ops (fun i=>listed.getD i false=true)→(∀j,n1≤j→j<ops.size→listed.getD j true=false)→Inv Φ w σ→dD Φ a.tmps f→eC Φ w a.defers f.d→DOk P X loc f→Step Φ0 σ0 w0 Φ σ w →
   K f σ→wpAnyIn F 0 P .any ops Qx fuel listed a w):∀(fuel:Nat) (listed:Array Bool) (f:FR) (σ:St) (Φ:Phi) (w:World) (a:Act),listed.size=ops.size→(left listed ops.size).length=fuel →
  uZ ops (fun i=>listed.getD i false=true)→(∀j,n1≤j→j<ops.size→listed.getD j true=false)→Inv Φ w σ→dD Φ a.tmps f→eC Φ w a.defers f.d→DOk P X loc f→Step Φ0 σ0 w0 Φ σ w →
  gl P C ops (fun f' _ σ'=>∃f'',FEq f' f''∧K f'' σ') (opsOf ops (left listed n1)) f (fun l=>Φ.obj l≠none) σ→wpAnyIn F 0 P .any ops Qx fuel listed a w:=by
 have hKok:KOk (fun f' (_:Nat→Prop) σ'=>∃f'',FEq f' f''∧K f'' σ'):=fun f f' U U' σ hf _ ⟨f'',h1,h2⟩=>⟨f'',hf.symm.trans h1,h2⟩
 have ready_left:∀(listed:Array Bool) i,i∈Region.ready .any ops listed→i∈left listed ops.size:=fun listed i hi=>by
  obtain⟨h0,o,ho,-⟩:=mem_ready.1 hi
  exact mem_left.2 ⟨(Array.getElem?_eq_some_iff.1 ho).1,h0⟩
 have chk1:∀i oi,ops[i]?=some oi→(∀e,e∈oi.after.toList→Region.binds .any e=true→e.on<i)∧∀j oj,j<i→ops[j]?=some oj→((rR ops.toList []).getD i 0).testBit j=true∨yB X ops oj oi=true:=by
  intro i oi hoi
  have hlt:=(Array.getElem?_eq_some_iff.1 hoi).1
  have h:=hchk
  simp only[r4,Bool.and_eq_true] at h
  replace h:=h.2
  simp only[List.all_eq_true,List.mem_range] at h
  have h1:=h i hlt
  rw[hoi] at h1
  simp only[Bool.and_eq_true,List.all_eq_true,Bool.or_eq_true,Bool.not_eq_true',decide_eq_true_eq,List.mem_range] at h1
  refine⟨fun e he hb=>?_,fun j oj hj hoj=>?_⟩
  ·rcases h1.1 e he with q|q
   ·rw[hb] at q;cases q
   ·exact q
  ·have:=h1.2 j hj
   rw[hoj] at this
   simpa using this
 intro fuel
 induction fuel with
 | zero =>
  intro listed f σ Φ w a hsz hl hc hup hi hr hd hD hs h
  have hnil0:left listed ops.size=[]:=List.eq_nil_of_length_eq_zero hl
  have hnil:left listed n1=[]:=by
   rw[List.eq_nil_iff_forall_not_mem]
   intro i hi
   obtain⟨h1,h2⟩:=mem_left.1 hi
   have:i∈left listed ops.size:=mem_left.2 ⟨by omega,h2⟩
   rw[hnil0] at this;cases this
  rw[hnil] at h
  obtain⟨f'',h1,h2⟩:=h
  exact hfin 0 listed f'' σ Φ w a hnil hsz hl hc hup hi ⟨hr.1.trans h1.1,fun t=>by rw[←h1.2.2 t];exact hr.2 t⟩ (h1.2.1 ▸ hd) (hD.eq h1.2.2) hs h2
 | succ fuel ih =>
  intro listed f σ Φ w a hsz hl hc hup hi hr hd hD hs h
  by_cases hnil:left listed n1=[]
  ·rw[hnil] at h
   obtain⟨f'',h1,h2⟩:=h
   exact hfin (fuel+1) listed f'' σ Φ w a hnil hsz hl hc hup hi ⟨hr.1.trans h1.1,fun t=>by rw[←h1.2.2 t];exact hr.2 t⟩ (h1.2.1 ▸ hd) (hD.eq h1.2.2) hs h2
  refine⟨fun hnone=>?_,fun i hrd=>?_⟩
  ·-- the first that is left is ready
   exfalso
   cases hleft:left listed ops.size with
   | nil=>rw[hleft] at hl;cases hl
   | cons i0 r =>
    have h0:i0∈left listed ops.size:=by rw[hleft];simp
    obtain⟨hlt,h0'⟩:=mem_left.1 h0
    have hoi:ops[i0]?=some ops[i0]:=Array.getElem?_eq_getElem hlt
    have:i0∈Region.ready .any ops listed:=mem_ready.2 ⟨h0',_,hoi,fun e he hb=>by
     have hlt':=(chk1 i0 _ hoi).1 e (by simpa using he) hb
     cases hq:listed.getD e.on false with
     | true=>rfl
     | false =>
      exfalso
      have hm:e.on∈left listed ops.size:=mem_left.2 ⟨by omega,by
       have hb2:e.on<listed.size:=by omega
       simpa[hb2] using hq⟩
      have hp:(left listed ops.size).Pairwise (·<·):=List.Pairwise.filter _ List.pairwise_lt_range
      rw[hleft] at hp hm
      have:=(List.pairwise_cons.1 hp).1
      rcases List.mem_cons.1 hm with q|q
      ·omega
      ·have:=this e.on q;omega⟩
    rw[hnone] at this;cases this
  ·obtain⟨h0,o,ho,hpre⟩:=mem_ready.1 hrd
   have hio:i<ops.size:=(Array.getElem?_eq_some_iff.1 ho).1
   have hmask:∀j,((rR ops.toList []).getD i 0).testBit j=true→listed.getD j false=true:=fun j q =>
    sH (L:=fun i=>listed.getD i false=true) ops.toList [] [] rfl (by simpa using hc) (fun i hi j hj=>by simp at hj) i (.inr ⟨o,by simpa using ho,fun e he hb=>hpre e (by simpa using he) hb⟩) j q
   have hin1:i<n1:=by
    refine Classical.byContradiction fun hge=>hnil ?_
    rw[List.eq_nil_iff_forall_not_mem]
    intro j hj
    obtain⟨q1,q2⟩:=mem_left.1 hj
    have:=hmask j (K9 hg1 hio oM q1)
    have hb2:j<listed.size:=by omega
    simp[hb2] at this q2
    rw[this] at q2;cases q2
   have hmem:i∈left listed n1:=mem_left.2 ⟨hin1,h0⟩
   obtain⟨l1,l2,he,hlt,hflt⟩:=sE hmem
   have hsw:∀x,x∈opsOf ops l1→yB X ops x o=true:=by
    intro x hx
    obtain⟨j,hj,hx⟩:=List.mem_filterMap.1 hx
    rcases (chk1 i o ho).2 j x (hlt j hj) hx with q|q
    ·exfalso
     have:=hmask j q
     have hjl:j∈left listed n1:=by rw[he];simp[hj]
     have hj2:=(mem_left.1 hjl)
     have hb2:j<listed.size:=by omega
     simp[hb2] at this hj2
     simp[this] at hj2
    ·exact q
   have e2:opsOf ops (left listed n1)=opsOf ops l1++o::opsOf ops l2:=by rw[he];simp[opsOf,List.filterMap_append,ho]
   rw[e2] at h
   have hdom:Dom (fun l=>Φ.obj l≠none) σ:=fun l hl q=>hl (hi.fT q)
   have hfin':Fin (fun l=>Φ.obj l≠none):=by
    obtain⟨n,hn⟩:=hi.fresh.1.1
    exact⟨n,fun l hl q=>q (hn l hl)⟩
   have hkall:∀(j:Nat) x,ops[j]?=some x→vP X x=true:=fun j x hx=>by
    have h:=hchk
    simp only[r4,Bool.and_eq_true,List.all_eq_true] at h
    exact h.1 x (by rw[←Array.getElem?_toList] at hx;exact List.mem_of_getElem? hx)
   have hp:=IN (pull hKok hC (opsOf ops l2) o (opsOf ops l1) f _ σ hdom hfin' hD hsw (fun x hx=>by
    obtain⟨j,hj,hx⟩:=List.mem_filterMap.1 hx
    exact hkall j x hx) h)
   have e3:opsOf ops (left (listed.setIfInBounds i true) n1)=opsOf ops l1++opsOf ops l2:=by rw[CB oM,hflt];simp[opsOf,List.filterMap_append]
   have hlen:(left (listed.setIfInBounds i true) ops.size).length=fuel:=by
    obtain⟨m1,m2,hm,-,hmf⟩:=sE (ready_left listed i hrd)
    rw[Ac hsz,hmf]
    rw[hm] at hl
    simp at hl ⊢;omega
   have hup':∀j,n1≤j→j<ops.size→(listed.setIfInBounds i true).getD j true=false:=fun j h1 h2=>by
    have hne:i≠j:=by omega
    rw[←hup j h1 h2]
    simp[Array.getElem?_setIfInBounds_ne hne]
   have hcl:uZ ops (fun k=>(listed.setIfInBounds i true).getD k false=true):=by
    intro k ok hk hlk e hek hb
    by_cases hki:k=i
    ·subst hki
     rw[ho] at hk;cases hk
     exact getD_set_true (hpre e (by simpa using hek) hb)
    ·have:listed.getD k false=true:=by rw[←hlk,getD_set_ne _ (Ne.symm hki)]
     exact getD_set_true (hc k ok hk this e hek hb)
   have next:∀v mv σ' Φ' w' ,Rel Φ' v mv→Inv Φ' w' σ'→Step Φ σ w Φ' σ' w' →
     (∃U':Nat→Prop,(∀l,U' l→Φ.obj l≠none∨σ' l≠none)∧GV (gfo P C ops f o) mv∧∀U1',(∀l,U' l→U1' l)→gl P C ops (fun f' _ σ'=>∃f'',FEq f' f''∧K f'' σ') (opsOf ops l1++opsOf ops l2) (bD f o.dst mv) U1' σ') →
     wpAnyIn F 0 P .any ops Qx fuel (listed.setIfInBounds i true) (a.put o.dst v) w':=by
    rintro v mv σ' Φ' w' r1 i1 s1 ⟨U',hu,hgv,hk⟩
    refine ih _ (bD f o.dst mv) σ' Φ' w' (a.put o.dst v) (by simpa using hsz) hlen hcl hup' i1 (cL (hr.mono s1.le) o.dst r1) (by rw[bO,dZ];exact hd.step hi s1) (hD.put (hkall i o ho) hgv) (hs.trans s1) ?_
    rw[e3]
    refine hk _ fun l hl=>?_
    rcases hu l hl with q|q
    ·intro hn
     cases hp:Φ.obj l with
     | none=>exact q hp
     | some p=>rw[s1.le.obj l p hp] at hn;cases hn
    ·intro hn;exact q (i1.fT hn)
   unfold wpOpIn
   rw[ho]
   simp only
   have hFo:F=Fence.wide∨∃l0,F=Fence.wide.inRound l0∧∀c,o.op≠.defer c:=hF.imp id fun⟨l0,e⟩=>⟨l0,e,hdef o (by rw[←Array.getElem?_toList] at ho;exact List.mem_of_getElem? ho)⟩
   have hfn:∀g,F.fn g:=fun g=>by rcases hF with rfl|⟨l,rfl⟩<;>trivial
   have run:gs (fun l=>Φ.obj l≠none) σ (gop P C f o.op) (fun v U1 σ1=>GV (gfo P C ops f o) v∧∀U1',(∀l,U1 l→U1' l)→gl P C ops (fun f' _ σ'=>∃f'',FEq f' f''∧K f'' σ') (opsOf ops l1++opsOf ops l2) (bD f o.dst v) U1' σ1) →
     o.wpIn F 0 P a w (wpAnyIn F 0 P .any ops Qx fuel (listed.setIfInBounds i true)) Qx:=by
    intro hg
    refine eS hFo ?_
    refine nO (UM hg) Φ w a _ _ hi hr fun v mv σ' Φ' w' r1 i1 s1 hk=>next v mv σ' Φ' w' r1 i1 s1 (hk fun l h1 h2 q=>?_)
    rcases s1.locs l _ (Option.ne_none_iff_exists'.1 h1).choose_spec with⟨o',ho'⟩|ho'
    ·rw[h2] at ho';cases ho'
    ·exact q ho'
   obtain⟨G,hG⟩:∃G,GV (gfo P C ops f o)=G:=⟨_,rfl⟩
   rw[hG] at hp run next
   unfold gfo at hp
   split at hp
   ·rename_i hg
    have hw:Region.wanted o (yielded ops a.tmps)=true:=by unfold Region.wanted;rw[hg]
    rw[if_pos hw]
    exact run hp
   ·rename_i j want hg
    split at hp
    ·rename_i t ht
     split at hp
     ·rename_i b hb
      have hmg:∀{A B:Prop},(b=want→A)∧(b=(!want)→B)→(Region.wanted o (yielded ops a.tmps)=true∧A)∨(Region.wanted o (yielded ops a.tmps)=false∧B):=fun {A B} h =>
       cI (ops:=ops) (o:=o) (f:=f) (by unfold fX;rw[hg];simp only[ht,hb];exact h) hr
      split at hp
      ·rename_i hbw
       rcases hmg (A:=True) (B:=False) ⟨fun _=>trivial,fun e=>by rw[hbw] at e;cases want<;>cases e⟩ with⟨hw,-⟩|⟨-,hw⟩
       ·rw[if_pos hw];exact run hp
       ·exact hw.elim
      ·rename_i hbw
       rcases hmg (A:=False) (B:=True) ⟨fun e=>hbw e,fun _=>trivial⟩ with⟨-,hw⟩|⟨hw,-⟩
       ·exact hw.elim
       ·rw[if_neg (by simp[hw])]
        obtain⟨-,U',hu,hgv,hk⟩:=oN hp
        exact⟨fun f _=>hfn f,next undef (.tup []) σ Φ w gP hi (.refl _ _ _) ⟨U',hu,hgv,hk⟩⟩
     ·rename_i hb
      rcases cI (ops:=ops) (o:=o) (f:=f) (yes:=False) (no:=True) (by unfold fX;rw[hg];simp only[ht,hb]) hr with⟨-,hw⟩|⟨hw,-⟩
      ·exact hw.elim
      ·rw[if_neg (by simp[hw])]
       obtain⟨-,U',hu,hgv,hk⟩:=oN hp
       exact⟨fun f _=>hfn f,next undef (.tup []) σ Φ w gP hi (.refl _ _ _) ⟨U',hu,hgv,hk⟩⟩
     ·exact(gB hp).elim
    ·exact(gB hp).elim
theorem Cz{n m:Nat}(h:m≤n):left (Array.replicate n false) m=List.range m:=by
 unfold left
 refine List.filter_eq_self.2 fun j hj=>?_
 have hj:j<m:=by simpa using hj
 simp[show j<n by omega]
theorem GZ:∀(l:List Oper) (n:Nat),n≤l.length→opsOf l.toArray (List.range n)=l.take n:=by
 intro l n hn
 unfold opsOf
 induction n with
 | zero=>simp
 | succ n ih =>
  rw[List.range_succ,List.filterMap_append,ih oM,List.take_add_one]
  congr 1
  cases hl:l[n]? with
  | none=>simp[hl]
  | some o=>simp[hl]
theorem JP(l:List Oper)(n:Nat):∀m,opsOf l.toArray ((List.range' n m))=(l.drop n).take m:=by
 intro m
 induction m generalizing n with
 | zero=>simp[opsOf]
 | succ m ih =>
  have ih:=ih (n+1)
  unfold opsOf at ih ⊢
  simp only[List.getElem?_toArray] at ih ⊢
  rw[List.range'_succ,List.filterMap_cons]
  cases hl:l[n]? with
  | none =>
   have:l.length≤n:=List.getElem?_eq_none_iff.1 hl
   simp only[hl]
   rw[ih,List.drop_eq_nil_of_le oM,List.drop_eq_nil_of_le this]
   simp
  | some o =>
   have hn:=(List.getElem?_eq_some_iff.1 hl).1
   have ho:=(List.getElem?_eq_some_iff.1 hl).2
   simp only[hl]
   rw[ih,List.drop_eq_getElem_cons hn,List.take_succ_cons,ho]
theorem left_at{listed:Array Bool}{n n1:Nat}(hs:listed.size=n)(h1:left listed n1=[])(hn:n1≤n)(hup:∀j,n1≤j→j<n→listed.getD j true=false):left listed n=List.range' n1 (n - n1):=by
 have e:List.range n=List.range n1++List.range' n1 (n - n1):=by
  obtain⟨d,rfl⟩:∃d,n=n1+d:=⟨n - n1,by omega⟩
  rw[Nat.add_sub_cancel_left,List.range_add,List.range'_eq_map_range]
 unfold left at h1 ⊢
 rw[e,List.filter_append,h1,List.nil_append]
 refine List.filter_eq_self.2 fun j hj=>?_
 have hj':=List.mem_range'_1.1 hj
 rw[hup j hj'.1 oM]
 rfl
theorem Px{u:iT}(hC:PlU u C){MC:FuncId→List MV→St→(MV→St→Prop)→Prop}(hMC:∀U σ,Dom U σ→∀g ms k,MC g ms σ k→gs U σ (iH P C g ms) fun v _ σ'=>k v σ'){K:FR→St→Prop}{l:List Oper}{f:FR}{σ:St}{Φ:Phi}{w:World}(hi:Inv Φ w σ)(h:fR P MC ops K l f σ):gl P C ops (fun f' _ σ'=>∃f'',FEq f' f''∧K f'' σ') l f (fun l=>Φ.obj l≠none) σ:=by
 refine UF (C:=C) (MC:=MC) hMC (u:=u) hC l f _ σ (fun l hl q=>hl (hi.fT q)) ?_ h
 obtain⟨n,hn⟩:=hi.fresh.1.1
 exact⟨n,fun l hl q=>q (hn l hl)⟩
def NOk(P:Program)(MC:FuncId→List MV→St→(MV→St→Prop)→Prop)(ops:Array Oper)(post:List Oper)(Qx:Exit→Act→World→Prop)(N:Act→World→Prop):Prop :=
 ∀(K2:FR→St→Prop) (f2:FR) (σ2:St) (Φ2:Phi) (w2:World) (a2:Act),Inv Φ2 w2 σ2→dD Φ2 a2.tmps f2→eC Φ2 w2 a2.defers f2.d →
  (∀f3 σ3 Φ3 w3 a3,Inv Φ3 w3 σ3→dD Φ3 a3.tmps f3→eC Φ3 w3 a3.defers f3.d→Step Φ2 σ2 w2 Φ3 σ3 w3→K2 f3 σ3→Qx .normal a3 w3)→fR P MC ops K2 post f2 σ2→N a2 w2
def KH(F:Fence)(P:Program)(ops:Array Oper)(Qx:Exit→Act→World→Prop)(y:Oper)(a:Act)(w:World)(N:Act→World→Prop):Prop :=
 if Region.wanted y (yielded ops a.tmps) then y.wpIn F 0 P a w N Qx else(∀f,y.about P w a.eval=some f→F.fn f)∧N (a.put y.dst undef) w
theorem AQ(hm:P.follows .mixedOrders=true)(u:iT)(hCu:PlU u C){MC:FuncId→List MV→St→(MV→St→Prop)→Prop}(hMC:∀U σ,Dom U σ→∀g ms k,MC g ms σ k→gs U σ (iH P C g ms) fun v _ σ'=>k v σ')(pre:List Oper)(y:Oper)(post:List Oper)(ho:ops=(pre++y::post).toArray)(hdef:∀o,o∈ops.toList→∀c,o.op≠.defer c)(hchk:r4 ⟨[],[],none,u,[]⟩ ops=true)(hg1:gate ops pre.length=true)(hg2:gate ops (pre.length+1)=true)
 {F:Fence}(hF:F=Fence.wide∨∃l0,F=Fence.wide.inRound l0){Qx:Exit→Act→World→Prop}{id:Nat}{f:FR}{σ:St}{Φ:Phi}{w:World}{a:Act}{K1:FR→St→Prop}(hi:Inv Φ w σ)(hr:dD Φ a.tmps f)(hd:eC Φ w a.defers f.d)
 (hy:∀f1 σ1 Φ1 w1 a1 N,Inv Φ1 w1 σ1→dD Φ1 a1.tmps f1→eC Φ1 w1 a1.defers f1.d→Step Φ σ w Φ1 σ1 w1→K1 f1 σ1→NOk P MC ops post Qx N→KH F P ops Qx y a1 w1 N)
 (h:fR P MC ops K1 pre f σ):(Code.region id ops true).wpIn F 0 P Qx a w:=by
 have hsz:ops.size=pre.length+1+post.length:=by rw[ho];simp;omega
 have hC:oV ⟨[],[],none,u,[]⟩ (fun _ _=>True) C:=⟨hCu,trivial⟩
 have hD0:∀f,DOk P ⟨[],[],none,u,[]⟩ (fun _ _=>True) f:=fun f=>⟨fun t ht=>(by cases ht),fun t t' ht=>(by cases ht),fun p hp=>(by cases hp),fun p hp=>(by cases hp)⟩
 have hi':Inv Φ { w with drawn:=w.drawn+1 } σ:=⟨fun l o hl=>by
  have:=hi.own l o hl
  cases o<;>exact this,hi.inj,hi.snap,hi.apart,hi.fresh⟩
 have hst:Step Φ σ w Φ σ { w with drawn:=w.drawn+1 }:=⟨.refl Φ,rfl,rfl,rfl,kS (Nat.le_succ _),Nat.le_refl _,fun _ _ _=>rfl,fun _ _ h=>.inl h,fun l o h=>.inl ⟨o,h⟩,fun _ h=>.inl h⟩
 have yat:ops[pre.length]?=some y:=by rw[ho];simp
 refine wpIn_region_any hm (KP (C:=C) (K:=K1) hC hchk hF hdef (Φ0:=Φ) (σ0:=σ) (w0:=w) pre.length oM hg1 ?_ ops.size _ f σ Φ _ a (by simp) ?_ ?_ (fun j _ hj=>by simp[hj]) hi' hr (hd.step hi hst) (hD0 f) hst ?_)
 ·intro fuel listed f1 σ1 Φ1 w1 a1 hnil hls hlen hcl hup i1 r1 d1 _ s1 k1
  have hleft:=left_at hls hnil oM hup
  have hfuel:fuel=post.length+1:=by rw[←hlen,hleft,List.length_range'];omega
  subst hfuel
  have chk1:∀i oi,ops[i]?=some oi→∀e,e∈oi.after.toList→Region.binds .any e=true→e.on<i:=by
   intro i oi hoi e he hb
   have hlt:=(Array.getElem?_eq_some_iff.1 hoi).1
   have h:=hchk
   simp only[r4,Bool.and_eq_true] at h
   replace h:=h.2
   simp only[List.all_eq_true,List.mem_range] at h
   have h1:=h i hlt
   rw[hoi] at h1
   simp only[Bool.and_eq_true,List.all_eq_true,Bool.or_eq_true,Bool.not_eq_true',decide_eq_true_eq,List.mem_range] at h1
   rcases h1.1 e he with q|q
   ·rw[hb] at q;cases q
   ·exact q
  have hlow:∀j,j<pre.length→listed.getD j false=true:=fun j hj=>by
   refine Classical.byContradiction fun hq=>?_
   have hb2:j<listed.size:=by omega
   have:j∈left listed pre.length:=mem_left.2 ⟨hj,by
    cases hb:listed[j]'hb2
    ·simp[hb2,hb]
    ·simp[hb2,hb] at hq⟩
   rw[hnil] at this;cases this
  refine⟨fun hnone=>?_,fun i hrd=>?_⟩
  ·exfalso
   have hb2:pre.length<listed.size:=by omega
   have:pre.length∈Region.ready .any ops listed:=mem_ready.2 ⟨hup _ (Nat.le_refl _) oM,y,yat,fun e he hb=>hlow _ (chk1 _ _ yat e (by simpa using he) hb)⟩
   rw[hnone] at this;cases this
  ·obtain⟨h0,o,hoi,hpre⟩:=mem_ready.1 hrd
   have hio:i<ops.size:=(Array.getElem?_eq_some_iff.1 hoi).1
   have hmask:∀j,((rR ops.toList []).getD i 0).testBit j=true→listed.getD j false=true:=fun j q =>
    sH (L:=fun i=>listed.getD i false=true) ops.toList [] [] rfl (by simpa using hcl) (fun i hi j hj=>by simp at hj) i (.inr ⟨o,by simpa using hoi,fun e he hb=>hpre e (by simpa using he) hb⟩) j q
   have hge:pre.length≤i:=by
    refine Classical.byContradiction fun hlt=>?_
    have:=hlow i oM
    have hb2:i<listed.size:=by omega
    simp[hb2] at this h0
    rw[this] at h0;cases h0
   have hle:i≤pre.length:=by
    refine Classical.byContradiction fun hgt=>?_
    have:=hmask pre.length (K9 hg2 hio oM (Nat.lt_succ_self _))
    have q:=hup pre.length (Nat.le_refl _) oM
    have hb2:pre.length<listed.size:=by omega
    simp[hb2] at this q
    rw[this] at q;cases q
   have hii:i=pre.length:=by omega
   subst hii
   rw[yat] at hoi;cases hoi
   unfold wpOpIn
   rw[yat]
   refine hy f1 σ1 Φ1 w1 a1 _ i1 r1 d1 s1 k1 ?_
   intro K2 f2 σ2 Φ2 w2 a2 i2 r2 d2 hfin h2
   have hup2:∀j,pre.length+1≤j→j<ops.size→(listed.setIfInBounds pre.length true).getD j true=false:=fun j h1 h2=>by
    have hne:pre.length≠j:=by omega
    rw[←hup j oM h2]
    simp[Array.getElem?_setIfInBounds_ne hne]
   have hl2:left (listed.setIfInBounds pre.length true) ops.size=List.range' (pre.length+1) post.length:=by
    rw[left_at (n1:=pre.length+1) (by simpa using hls) ?_ oM hup2,hsz]
    ·congr 1;omega
    ·rw[CB oM]
     rw[List.eq_nil_iff_forall_not_mem]
     intro j hj
     obtain⟨q1,q2⟩:=List.mem_filter.1 hj
     obtain⟨q3,q4⟩:=mem_left.1 q1
     have hjn:j≠pre.length:=by simpa using q2
     have:j∈left listed pre.length:=mem_left.2 ⟨by omega,q4⟩
     rw[hnil] at this;cases this
   refine KP (C:=C) (K:=K2) hC hchk hF hdef (Φ0:=Φ2) (σ0:=σ2) (w0:=w2) ops.size (Nat.le_refl _) (List.all_eq_true.2 fun i hi=>by simp at hi;simp[hi]) ?_ post.length _ f2 σ2 Φ2 w2 a2 (by simpa using hls) (by rw[hl2,List.length_range']) ?_ (fun j h1 h2=>by omega) i2 r2 d2 (hD0 f2) (.refl _ _ _) ?_
   ·intro fuel listed3 f3 σ3 Φ3 w3 a3 hnil3 hls3 hlen3 _ _ i3 r3 d3 _ s3 k3
    rw[hnil3] at hlen3
    simp at hlen3
    subst hlen3
    refine⟨?_,hfin f3 σ3 Φ3 w3 a3 i3 r3 d3 s3 k3⟩
    rw[List.eq_nil_iff_forall_not_mem]
    intro i hi
    obtain⟨q1,o,q2,-⟩:=mem_ready.1 hi
    have:i∈left listed3 ops.size:=mem_left.2 ⟨(Array.getElem?_eq_some_iff.1 q2).1,q1⟩
    rw[hnil3] at this;cases this
   ·intro k ok hk hlk e hek hb
    by_cases hki:k=pre.length
    ·subst hki
     rw[yat] at hk;cases hk
     exact getD_set_true (hpre e (by simpa using hek) hb)
    ·have:listed.getD k false=true:=by rw[←hlk,getD_set_ne _ (Ne.symm hki)]
     exact getD_set_true (hcl k ok hk this e hek hb)
   ·rw[hl2]
    have e:opsOf ops (List.range' (pre.length+1) post.length)=post:=by
     rw[ho,JP]
     simp
    rw[e]
    exact Px hCu hMC i2 h2
 ·rw[Cz (Nat.le_refl _)];simp
 ·intro i o ho hl
  simp only[Array.getD_eq_getD_getElem?,Array.getElem?_replicate] at hl
  split at hl<;>simp at hl
 ·rw[Cz oM]
  have e:opsOf ops (List.range pre.length)=pre:=by
   rw[ho,GZ _ _ (by simp)]
   simp
  rw[e]
  exact Px hCu hMC hi h
theorem N0(hm:P.follows .mixedOrders=true)(C:cD)(pre:List Oper)(y:Oper)(post:List Oper)(ho:ops=(pre++y::post).toArray)(hdef:Az (pre++y::post)=true)(hchk:(chk ops&&gate ops pre.length&&gate ops (pre.length+1))=true){id:Nat}{f:FR}{σ:St}{Q:MQ}
 (h:kM P C ops (fun f1 σ1=>fX ops f1 y (jB P f1 σ1 y.dst (fun f' σ'=>kM P C ops (Q .normal) post f' σ') y.op) (kM P C ops (Q .normal) post (bD f1 y.dst (.tup [])) σ1)) pre f σ):mwp P (.region id ops true) f σ Q:=by
 intro F hF Φ w a hi hr hd
 simp only[Bool.and_eq_true] at hchk
 have hF':F=Fence.wide∨∃l0,F=Fence.wide.inRound l0:=Or.imp (fun q=>q) (fun⟨l0,e,_⟩=>⟨l0,e⟩) hF
 have hfn:∀g,F.fn g:=fun g=>by rcases hF' with rfl|⟨l,rfl⟩<;>trivial
 have hdef':∀o,o∈ops.toList→∀c,o.op≠.defer c:=fun o h=>oI hdef o (by rw[ho] at h;simpa using h)
 refine AQ (C:=C.pl) (MC:=pT P C) hm .no C.LD.u (fun _ _ hd _ _ _ h=>yQ hd h) pre y post ho hdef' hchk.1.1 hchk.1.2 hchk.2 hF' hi hr hd ?_ h
 intro f1 σ1 Φ1 w1 a1 N i1 r1 d1 s1 k1 hN
 have hyd:∀c,y.op≠.defer c:=hdef' y (by rw[ho];simp)
 have hFo:F=Fence.wide∨∃l0,F=Fence.wide.inRound l0∧∀c,y.op≠.defer c:=hF'.imp (fun q=>q) fun⟨l0,e⟩=>⟨l0,e,hyd⟩
 unfold KH
 rcases cI k1 r1 with⟨hw,hk⟩|⟨hw,hk⟩
 ·rw[if_pos hw]
  refine eS hFo (kN hyd hk Φ1 w1 a1 _ _ i1 r1 fun v mv σ' Φ' w' r2 i2 s2 hk2=>?_)
  exact hN (Q .normal) _ σ' Φ' w' (a1.put y.dst v) i2 (cL (r1.mono s2.le) y.dst r2) (by rw[bO,dZ];exact d1.step i1 s2) (fun f3 σ3 Φ3 w3 a3 i3 r3 d3 s3 k3=>⟨f3,σ3,Φ3,d3,r3,i3,s1.trans (s2.trans s3),k3⟩) hk2
 ·rw[if_neg (by simp[hw])]
  exact⟨fun f _=>hfn f,hN (Q .normal) _ σ1 Φ1 w1 (a1.put y.dst undef) i1 (cL r1 y.dst gP) (by rw[bO,dZ];exact d1) (fun f3 σ3 Φ3 w3 a3 i3 r3 d3 s3 k3=>⟨f3,σ3,Φ3,d3,r3,i3,s1.trans s3,k3⟩) hk⟩
theorem cA{id:Nat}{l:List Oper}{f:FR}{σ:St}{Q:MQ}(hm:P.follows .mixedOrders=true)(C:cD)(pre:List Oper){dst:Option Tmp}{op:Op}{ty:TypeId}{pos:String}{after:Array Edge}(post:List Oper)(ho:l=pre++⟨dst,op,ty,pos,after,none⟩::post)
 (hchk:(Az l&&(chk l.toArray&&gate l.toArray pre.length&&gate l.toArray (pre.length+1)))=true)
 (h:R (kM P C (@OfNat.ofNat (Array Oper) (nat_lit 0) (@_root_.id (OfNat (Array Oper) (nat_lit 0)) (OfNat.mk (l.toArray)))) (fun f1 σ1=>jB P f1 σ1 dst (fun f' σ'=>kM P C (@OfNat.ofNat (Array Oper) (nat_lit 0) (@_root_.id (OfNat (Array Oper) (nat_lit 0)) (OfNat.mk (l.toArray)))) (Q .normal) (@OfNat.ofNat (List Oper) (nat_lit 0) (@_root_.id (OfNat (List Oper) (nat_lit 0)) (OfNat.mk post))) f' σ') op)
   (@OfNat.ofNat (List Oper) (nat_lit 0) (@_root_.id (OfNat (List Oper) (nat_lit 0)) (OfNat.mk pre))) f σ)):R (rS P id (@OfNat.ofNat (List Oper) (nat_lit 0) (@_root_.id (OfNat (List Oper) (nat_lit 0)) (OfNat.mk l))) f σ Q):=by
 rw[Bool.and_eq_true] at hchk
 exact N0 hm C pre ⟨dst,op,ty,pos,after,none⟩ post (by rw[←ho]) (by rw[←ho];exact hchk.1) hchk.2 h
end
end
end Go.Proofs.YtppdgejjmhdjhaaGreatDoor
