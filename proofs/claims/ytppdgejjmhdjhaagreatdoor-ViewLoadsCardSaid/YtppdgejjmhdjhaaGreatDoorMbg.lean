/- Parts of the proof, joined; conditions: those that its theorems name. -/
import Derived.Test.YtppdgejjmhdjhaaGreatDoorMbe
set_option linter.unusedVariables false
set_option linter.unusedSimpArgs false
set_option maxHeartbeats 4000000
namespace Go.Proofs.YtppdgejjmhdjhaaGreatDoor
section
theorem St.pY(σ τ:St):(σ.minus τ).le σ:=fun l o h=>(cN h).2
theorem xU{P:Program}{g:Operand}{ps:Array Tmp}{assign body:Code}{f:FR}{σ:St}{Q:MQ}{gf:FuncId}{ns:List MV}(hg:aH f g=.fn (.func gf) [] ns){σi:St}(hle:σi.le σ){xs:List (List MV)}
 (hseq:JD P gf ns σi xs)(hx:∀x,x∈xs→x.length=ps.size)(nda:iF assign=true)(ndb:iF body=true){α:Type}(fc:FR)(hd0:fc.d=f.d)(S:Nat→α→St)(p:Nat→α→Prop)
 (h0:Gh f (σ.minus σi) fun f1 σ1=>f1=fc∧∃a,σ1=S 0 a∧p 0 a)
 (round:∀i x a,xs[i]?=some x→p i a→mwp P assign (oI ⟨fc.n,fc.l,[]⟩ ps.toList x) (S i a) (Li fun f1 σ1=>mwp P body f1 σ1 (A3 Q fc fun σ2=>∃b,σ2=S (i+1) b∧p (i+1) b)))
 (done:∀a,p xs.length a→Q .normal fc (S xs.length a)):mwp P (.rangeFunc g ps assign body) f σ Q:=by
 intro F hF Φ w a hi hr hd
 have hF':F=Fence.wide:=by
  rcases hF with h|⟨l,_,h⟩
  ·exact h
  ·cases h
 subst hF'
 obtain⟨f1,σ1,Φ1,-,⟨rfl,a0,rfl,p0⟩,i1,r1,st1⟩:=h0 Φ w a.tmps (hi.less (St.pY σ σi)) hr
 have hv:=aL hr g
 rw[hg] at hv
 obtain⟨first,cap,he,hfirst,hcap⟩:=hv.oU
 have hfe:first=#[]:=by
  have:=hfirst.1
  exact Array.eq_empty_of_size_eq_zero (by simpa using this)
 subst hfe
 obtain⟨fnn,hfn,hbody,hname⟩:=hseq.1
 have eg:∀(args:Array Value) (w:World),(callFunc gf args).run P w=.ok (.enter gf args) w:=fun args w=>by
  simp only[callFunc,Sem.run_bind,run_program,hfn,hname,hbody,Result.andThen_ok,Bool.false_eq_true,if_false,Sem.run_pure]
 refine wpIn_rangeFunc fun fn _=>?_
 obtain⟨rec,hrec⟩:∃rec:LoopState→Option Code→Loop,rec=fun st pe=>{ state:=st,pending:=pe,fn,tmps:=a.tmps,params:=ps,assign,body,defers:=w.heap.size }:=⟨_,rfl⟩
 obtain⟨W1,hW1⟩:∃W1,(w.alloc (.deferred (some []))).alloc (.loop (rec .ready none))=W1:=⟨_,rfl⟩
 have sz1:W1.heap.size=w.heap.size+2:=by rw[←hW1,World.size_alloc,World.size_alloc]
 have old:∀k,k<w.heap.size→W1.heap[k]?=w.heap[k]?:=fun k hk=>by
  rw[←hW1]
  show((w.heap.push _).push _)[k]?=_
  rw[Array.getElem?_push,if_neg (by simp;omega),Array.getElem?_push,if_neg (by omega)]
 have hL:W1.heap[w.heap.size+1]?=some (.loop (rec .ready none)):=by
  rw[←hW1];have:=World.alloc_heap_new (w.alloc (.deferred (some []))) (.loop (rec .ready none));rwa [World.size_alloc] at this
 have hD:W1.heap[w.heap.size]?=some (Obj.deferred (some [])):=by
  rw[←hW1]
  show((w.heap.push _).push _)[w.heap.size]?=_
  rw[Array.getElem?_push,if_neg (by simp),Array.getElem?_push,if_pos rfl]
 have eos:W1.os=w.os:=by rw[←hW1];rfl
 have eta:W1.tape=w.tape:=by rw[←hW1];rfl
 have eou:W1.output=w.output:=by rw[←hW1];rfl
 have edr:drw W1=drw w:=by rw[←hW1];rfl
 have gr:∀{Φ:Phi} {σ:St},Inv Φ w σ→Inv Φ W1 σ∧Step Φ σ w Φ σ W1:=fun h=>h.grow eos eta eou (by omega) (by omega) old
 have own1:∀k,aU Φ1 (S 0 a0) k→aU Φ (σ.minus σi) k:=fun k hk=>by
  rcases st1.ownd k hk with q|q
  ·exact q
  ·exfalso
   obtain⟨l,o,p,h1,h2,h3⟩:=hk
   obtain⟨p',e,hlt⟩:=(i1.own l o h1).place
   rw[h2] at e;cases e
   have:=hlt k h3
   omega
 have ownσ:∀{τ:St},τ.le σ→∀k,aU Φ τ k→aU Φ σ k:=fun hτ k hk=>hk.less hτ
 have apart2:∀k,aU Φ (σ.minus σi) k→¬aU Φ σi k:=fun k ⟨l,o,p,h1,h2,h3⟩ ⟨l',o',p',h4,h5,h6⟩=>by
  have e:=hi.inj l l' o o' p p' k (cN h1).2 (hle l' o' h4) h2 h5 h3 h6
  subst e
  have:=(cN h1).1
  rw[h4] at this;cases this
 have hb:=hd.base
 obtain⟨S0,hS0⟩:∃S0:YS,S0=⟨W1,fun k=>aU Φ1 (S 0 a0) k∨k=w.heap.size+1,Φ1.snap⟩:=⟨_,rfl⟩
 have c0:pK Φ σ w.heap.size Φ1 (S 0 a0):=⟨st1.le,fun b v q=>(st1.snapn b v q).imp_right (fun q=>q.imp_right (ownσ (St.pY _ _) _)),fun l o q=>by
  rcases st1.locs l o q with⟨o',h⟩|h
  ·exact .inl ⟨o',(cN h).2⟩
  ·exact .inr h,fun R hR=>.inl (ownσ (St.pY _ _) _ (own1 R hR))⟩
 have cst0:CSt Φ σ w.heap.size a.tmps f1 (w.heap.size+1) (rec .ready none) (S 0 a0) S0 Φ1:=by
  subst hS0
  exact⟨(gr i1).1,r1,c0,fun _=>Iff.rfl,fun _=>rfl,hL,by simp only;omega,by simp only;rw[st1.le.base];omega⟩
 have apt0:Apt Φ σi S0 W1:=by
  have hag:=cst0.agree
  subst hS0
  refine⟨hag,fun k hk=>?_,fun b v q'=>?_,fun b v q hk=>?_⟩
  ·rcases hk with hk|rfl
   ·exact apart2 k (own1 k hk)
   ·exact(gr (hi.less hle)).1.Ar hL
  ·rintro⟨l,o,p,h1,h2,h3⟩
   rcases st1.snapn b v q' with q|q|q
   ·exact hi.apart l o p b.block b v (hle l o h1) h2 h3 q rfl
   ·have hlt:=World.block_lt_of_cell? w b (i1.snap b v q')
    omega
   ·exact apart2 _ q ⟨l,o,p,h1,h2,h3⟩
  ·have hbl:=World.block_lt_of_cell? w b (hi.snap b v q)
   rcases hk with hk|hk
   ·obtain⟨l,o,p,h1,h2,h3⟩:=own1 _ hk
    exact hi.apart l o p b.block b v (cN h1).2 h2 h3 q rfl
   ·omega
 refine⟨w.heap.size+1,[{ target:=.collected w.heap.size,args:=#[] }],W1,{ target:=.fn (.func gf) cap,args:=#[.func (.yield (w.heap.size+1)) #[] #[]] },W1,gf,
  #[.func (.yield (w.heap.size+1)) #[] #[]]++cap,W1,?_,?_,fun _ _=>trivial,?_,(fun q=>by cases q),?_⟩
 ·rw[←hW1,hrec];exact run_enterLoop_outer _ _ _ _ _
 ·simp only[resolve,he]
  simp[go_sem]
 ·simp[invoke,go_sem,eg]
 ·refine callsIn_wide.2 ((hseq.2 (w.heap.size+1)
   (fun i Sx=>∃b Φc,p i b∧CSt Φ σ w.heap.size a.tmps f1 (w.heap.size+1) (rec .ready none) (S i b) Sx Φc)
   (fun Sx=>∃c σc Φc,((c=.ret∧Q .ret f1 σc)∨∃id,c=.exit id∧Q (.exit id) f1 σc)∧CSt Φ σ w.heap.size a.tmps f1 (w.heap.size+1) (rec .done (some c)) σc Sx Φc)
   Φ W1 S0 cap ?_ (gr (hi.less hle)).1 apt0 ⟨a0,Φ1,p0,cst0⟩ hcap).mono ?_)
  ·rintro i x Sx W Ψ vs hix ⟨b,Φc,pb,cs⟩ hag hsz ho hs hvs
   have hx':=hx x (List.mem_of_getElem? hix)
   have:=Lu (P:=P) rec hrec nda ndb hx' (round i x b hix pb) cs hag (by omega) ho (fun u v q=>⟨(hs u v q).1,(hs u v q).2.1,(hs u v q).2.2.imp_right fun q=>q.imp (fun q=>by omega) (ownσ hle _)⟩) hvs
   obtain⟨fn',t',as',bd',e1,e2⟩:=this
   refine⟨fn',t',as',bd',e1,e2.mono ?_⟩
   rintro e w' ⟨bb,S',q1,q2,q3,q4,q5,q6,q7,q8,q9,q10,q11,q12⟩
   refine⟨bb,S',q1,q2,q3,q4,q5,q6,q7,q8,q9,q10,q11,?_⟩
   cases bb with
   | true =>
    obtain⟨σ2,Φ2,⟨b',rfl,pb'⟩,cs'⟩:=q12
    exact⟨b',Φ2,pb',cs'⟩
   | false=>exact q12
  ·rintro e w3 ⟨v,Φe,σe,S',rfl,ie,apt,stS,hy⟩
   -- the loop's side behind the iterator
   have fin:∀(st:Loop) (σc:St) (Φc:Phi),CSt Φ σ w.heap.size a.tmps f1 (w.heap.size+1) st σc S' Φc→st.state≠.busy→∃w4,(Instr.endLoop (w.heap.size+1)).run P w3=.ok st.pending w4 ∧
     Inv Φc w4 σc∧Step Φ σ w Φc σc w4∧dR Φc w4 ({ target:=.collected w.heap.size,args:=#[] }::a.defers) f1.d:=by
    intro st σc Φc cs hbusy
    have hlr:w3.heap[w.heap.size+1]?=some (.loop st):=(apt.agree.same _ ((cs.wr _).2 (.inr rfl))).trans cs.lrec
    obtain⟨w4,hw4⟩:∃w4,w3.putObj (w.heap.size+1) (.loop { st with state:=.exhausted })=w4:=⟨_,rfl⟩
    have hend:=run_endLoop (P:=P) hlr hbusy
    rw[hw4] at hend
    have sz4:w4.heap.size=w3.heap.size:=by rw[←hw4,World.putObj_size]
    have szz:w.heap.size+2≤w3.heap.size:=by have:=stS.size;omega
    have i3:Inv Φc w3 σc:=by
     have hwr:∀k,aU Φc σc k→w3.heap[k]?=S'.w.heap[k]?:=fun k hk=>apt.agree.same k ((cs.wr k).2 (.inl hk))
     exact⟨fun l' o hl=>(cs.inv.own l' o hl).mono (.refl _) fun p R h1 h2=>hwr R ⟨l',o,p,hl,h1,h2⟩,cs.inv.inj,fun b u q=>apt.agree.sn b u (by rw[cs.sn b];exact q),cs.inv.apart,cs.inv.fresh⟩
    have i4:Inv Φc w4 σc:=by rw[←hw4];exact i3.putObj _ hlr (fun _ _ _ e=>by cases e) (fun _ _ e=>by cases e)
    have blk:∀k,k<w.heap.size→¬aU Φ σ k→w4.heap[k]?=w.heap[k]?:=fun k hk hn=>by
     rw[←hw4,World.putObj_heap_other (by omega),stS.block k (by omega) (fun q=>hn (ownσ hle k q)) (fun q=>?_),old k hk]
     subst hS0
     rcases q with q|q
     ·exact hn (ownσ (St.pY _ _) k (own1 k q))
     ·omega
    have hmark:w4.heap[w.heap.size]?=some (Obj.deferred (some [])):=by
     rw[←hw4,World.putObj_heap_other (by omega),stS.block _ (by omega) ((gr (hi.less hle)).1.mark hD) (fun q=>?_),hD]
     subst hS0
     rcases q with q|q
     ·exact(gr i1).1.mark hD q
     ·omega
    have step4:Step Φ σ w Φc σc w4 :=
     ⟨cs.step.le,by rw[←hw4];exact stS.os.trans eos,by rw[←hw4];exact stS.tape.trans eta,by rw[←hw4];exact stS.output.trans eou,by
      have e:drw w4=drw w3:=by rw[←hw4];rfl
      have:=stS.drawn;omega,by omega,blk,cs.step.snapn,cs.step.locs,cs.step.ownd⟩
    refine⟨w4,hend,i4,step4,.inl ⟨w.heap.size,rfl,by rw[cs.step.le.base];exact hb,hmark,fun y hy e=>?_,hd0 ▸ hd.step hi step4⟩⟩
    -- the mark is a new one
    have:∀(ds:List Deferred) (d:List (FuncId × List MV)),dR Φ w ds d→∀y,y∈ds→y.target≠.collected w.heap.size:=by
     intro ds
     induction ds with
     | nil=>intro d _ y hy;cases hy
     | cons z ds ih =>
      intro d h y hy
      rcases h with⟨D,k1,k2,k3,k4,k5⟩|⟨g,ms,r,cp,k1,k2,k3,k4⟩
      ·rcases List.mem_cons.1 hy with rfl|hy
       ·rw[k1];intro e;cases e
        have:=(Array.getElem?_eq_some_iff.1 k3).1
        omega
       ·exact ih d k5 y hy
      ·rcases List.mem_cons.1 hy with rfl|hy
       ·rw[k2];intro e;cases e
       ·exact ih r k4 y hy
    exact this a.defers f.d hd y hy e
   rcases hy with⟨b,Φc,pb,cs⟩|⟨c,σc,Φc,hc,cs⟩
   ·obtain⟨w4,hend,i4,s4,d4⟩:=fin _ _ _ cs (by rw[hrec];simp)
    refine⟨none,w4,by rw[hend,hrec],f1,_,Φc,d4,cs.frame,i4,s4,done b pb⟩
   ·obtain⟨w4,hend,i4,s4,d4⟩:=fin _ _ _ cs (by rw[hrec];simp)
    refine⟨some c,w4,by rw[hend,hrec],?_⟩
    rcases hc with⟨rfl,q⟩|⟨id,rfl,q⟩
    ·exact wpIn_ret ⟨f1,_,Φc,d4,cs.frame,i4,s4,q⟩
    ·exact wpIn_exit ⟨f1,_,Φc,d4,cs.frame,i4,s4,q⟩
end

section
inductive kL:MV→Prop where
 | flat {m:MV} (h:Flat m):kL m
 | lst {e:Nat} {xs:List (List MV)} {t:Bool} (h:∀x,x∈xs→∀m,m∈x→kL m):kL (.lst e xs t)
 | cptr {cs:List MV} (h:∀m,m∈cs→kL m):kL (.cptr cs)
 | agg {cs:List MV} (h:∀m,m∈cs→kL m):kL (.agg cs)
theorem kL.rel{Φ Φ':Phi}(hs:∀a v,Φ.snap a=some v→Φ'.snap a=some v){m:MV}(h:kL m):∀{v:Value},Rel Φ v m→Rel Φ' v m:=by
 induction h with
 | flat h=>intro v r;exact h.rel r
 | lst h ih =>
  intro v r
  cases r with
  | lstn=>exact .lstn _ _
  | lst0 a _ cap _ ht hm=>exact .lst0 a _ cap _ ht hm
  | lst hl h0 hcap hm ht hx vs hc hr =>
   exact .lst hl h0 hcap hm ht hx vs (fun i x j m a b=>⟨(hc i x j m a b).1,hs _ _ (hc i x j m a b).2⟩) fun i x j m a b=>ih x (List.mem_of_getElem? a) m (List.mem_of_getElem? b) (hr i x j m a b)
 | cptr h ih =>
  intro v r
  cases r with
  | cptr vs hc hr=>exact .cptr vs (fun j m hm=>⟨(hc j m hm).1,hs _ _ (hc j m hm).2⟩) fun j m hm=>ih m (List.mem_of_getElem? hm) (hr j m hm)
 | agg h ih =>
  intro v r
  cases r with
  | agg h1 h2 h3=>exact .agg h1 h2 fun i m hm=>ih m (List.mem_of_getElem? hm) (h3 i m hm)
structure YC where
 l:Nat
 xs:List (List MV)
 Y:Nat→YS→Prop
 Yx:YS→Prop
 Φ0:Phi
 σ0:St
 n0:Nat
def YC.st(C:YC):Option Nat→YS→Prop
 | some i,S=>C.Y i S
 | none,S=>C.Yx S
structure iJ (C:YC) (Φ:Phi) (σ:St) (w:World) (S:YS) (t:Option Nat):Prop where
 inv:Inv Φ w σ
 apt:Apt Φ σ S w
 snapn:∀a v,Φ.snap a=some v→C.Φ0.snap a=some v∨C.n0≤a.block∨aU C.Φ0 C.σ0 a.block
 ownd:∀R,aU Φ σ R→aU C.Φ0 C.σ0 R∨C.n0≤R
 size:C.n0≤w.heap.size
 st:C.st t S
abbrev YQ:=Exit→FR→St→Option Nat→Prop
def zA(C:YC)(Φ:Phi)(σ:St)(w:World)(S:YS)(Q:YQ):Exit→Act→World→Prop:=fun e a' w' =>
 ∃f' σ' t' Φ' S',iJ C Φ' σ' w' S' t'∧cL Φ' a'.tmps f'∧dR Φ' w' a'.defers f'.d∧dS Φ σ w S Φ' σ' w' S'∧Q e f' σ' t'
def ywp(P:Program)(C:YC)(c:Code)(f:FR)(σ:St)(t:Option Nat)(Q:YQ):Prop :=
 ∀F,FOk F c→∀Φ w a S,iJ C Φ σ w S t→cL Φ a.tmps f→dR Φ w a.defers f.d→c.wpIn F 0 P (zA C Φ σ w S Q) a w
section rules
variable {P:Program} {C:YC} {f:FR} {σ:St} {t:Option Nat} {Q:YQ}
theorem uH{Φ Φ1:Phi}{σ σ1:St}{w0 w1:World}{S S1:YS}(h:dS Φ σ w0 S Φ1 σ1 w1 S1){e:Exit}{a:Act}{w:World}(k:zA C Φ1 σ1 w1 S1 Q e a w):zA C Φ σ w0 S Q e a w :=
 let ⟨f',σ',t',Φ',S',h1,h2,h3,h4,h5⟩:=k
 ⟨f',σ',t',Φ',S',h1,h2,h3,h.trans h4,h5⟩
theorem iJ.go{Φ Φ':Phi}{σ σ':St}{w w':World}{S:YS}(h:iJ C Φ σ w S t)(i:Inv Φ' w' σ')(s:Step Φ σ w Φ' σ' w'):iJ C Φ' σ' w' S t :=
 ⟨i,h.apt.step s,fun a v q=>by
  rcases s.snapn a v q with q|q|q
  ·exact h.snapn a v q
  ·exact .inr (.inl (Nat.le_trans h.size q))
  ·rcases h.ownd _ q with q|q
   ·exact .inr (.inr q)
   ·exact .inr (.inl q),fun R hR=>by
  rcases s.ownd R hR with q|q
  ·exact h.ownd R q
  ·exact .inr (Nat.le_trans h.size q),Nat.le_trans h.size s.size,h.st⟩
theorem O7{c:Code}(h:mwp P c f σ fun e f' σ'=>Q e f' σ' t):ywp P C c f σ t Q :=
 fun F hF Φ w a S hi hr hd=>wpIn_mono (h F hF Φ w a hi.inv hr hd) fun _ _ _ ⟨f',σ',Φ',x1,x2,x3,x4,q⟩=>⟨f',σ',t,Φ',S,hi.go x3 x4,x2,x1,.of S x4,q⟩
def DB(next:FR→St→Option Nat→Prop)(Q:YQ):YQ
 | .normal,f,σ,t=>next f σ t
 | e,f,σ,t=>Q e f σ t
theorem tD{x y:Code}(h:ywp P C x f σ t (DB (fun f' σ' t'=>ywp P C y f' σ' t' Q) Q)):ywp P C (.seq x y) f σ t Q:=by
 intro F hF Φ w a S hi hr hd
 refine wpIn_seq (wpIn_mono (h F hF.seq1 Φ w a S hi hr hd) fun e a' w' ⟨f',σ',t',Φ',S',h1,h2,h3,h4,q⟩=>?_)
 cases e with
 | normal=>exact wpIn_mono (q F hF.PR Φ' w' a' S' h1 h2 h3) fun _ _ _ hq=>uH h4 hq
 | _=>exact⟨f',σ',t',Φ',S',h1,h2,h3,h4,q⟩
def qR(id:Nat)(Q:YQ):YQ
 | .exit id',f,σ,t=>if id'=id then Q .normal f σ t else Q (.exit id') f σ t
 | e,f,σ,t=>Q e f σ t
theorem zU{id:Nat}{c:Code}(h:ywp P C c f σ t (qR id Q)):ywp P C (.block id c) f σ t Q:=by
 intro F hF Φ w a S hi hr hd
 refine wpIn_block (wpIn_mono (h F hF.block Φ w a S hi hr hd) fun e a' w' ⟨f',σ',t',Φ',S',h1,h2,h3,h4,q⟩=>?_)
 cases e with
 | exit id' =>
  simp only[Exit.inBlock]
  simp only[qR] at q
  split
  ·rw[if_pos (by assumption)] at q;exact⟨f',σ',t',Φ',S',h1,h2,h3,h4,q⟩
  ·rw[if_neg (by assumption)] at q;exact⟨f',σ',t',Φ',S',h1,h2,h3,h4,q⟩
 | _=>exact⟨f',σ',t',Φ',S',h1,h2,h3,h4,q⟩
theorem O6{c:Code}(h:Gh f σ fun f1 σ1=>ywp P C c f1 σ1 t Q):ywp P C c f σ t Q:=by
 intro F hF Φ w a S hi hr hd
 obtain⟨f1,σ1,Φ1,hf,k1,i1,r1,s1⟩:=h Φ w a.tmps hi.inv hr
 exact wpIn_mono (k1 F hF Φ1 w a S (hi.go i1 s1) r1 (hf ▸ hd.step hi.inv s1)) fun _ _ _ hq=>uH (.of S s1) hq
theorem Mg{α:Type}{c:Code}(Fr:α→FR)(Sr:α→St)(T:α→Option Nat)(p:α→Prop)(μ:α→Nat)(h0:Gh f σ fun f1 σ1=>∃a,f1=Fr a∧σ1=Sr a∧t=T a∧p a)
 (round:∀a,p a→ywp P C c (Fr a) (Sr a) (T a) (DB (fun f' σ' t'=>Gh f' σ' fun f1 σ1=>∃b,f1=Fr b∧σ1=Sr b∧t'=T b∧p b∧μ b<μ a) Q)):ywp P C (.loop c) f σ t Q:=by
 refine O6 (fun Φ w vs hi hr=>?_)
 obtain⟨f1,σ1,Φ1,hf,⟨a0,e1,e2,e3,p0⟩,i1,r1,s1⟩:=h0 Φ w vs hi hr
 subst e1;subst e2;subst e3
 refine⟨_,_,Φ1,hf,?_,i1,r1,s1⟩
 clear h0 hi hr s1 i1 r1 hf
 intro Fe hF Φ w a S hi hr hd b k cs hro hb hroom
 have key:∀n x Φ w a S,μ x=n→p x→iJ C Φ (Sr x) w S (T x)→cL Φ a.tmps (Fr x)→dR Φ w a.defers (Fr x).d →
   ∃e a' w',zA C Φ (Sr x) w S Q e a' w'∧ArrivesIn (Machine.fenced P Fe) P (lone (b.atR a (.code c::.inLoop c::k)) cs w) b k cs e a' w':=by
  intro n
  induction n using Nat.strongRecOn with
  | _ n ih =>
   intro x Φ w a S hn hI hi hr hd
   obtain⟨e,a₁,w₁,hq,harr⟩:=round x hI Fe hF.loop Φ w a S hi hr hd b (.inLoop c::k) cs hro hb hroom
   cases e with
   | normal =>
    obtain⟨f',σ',t',Φ',S',y1,y2,y3,y4,g2⟩:=hq
    obtain⟨f2,σ2,Φ2,g0,⟨x2,e1,e2,e3,hI2,hlt⟩,i2,r2,s2⟩:=g2 Φ' w₁ a₁.tmps y1.inv y2
    subst e1;subst e2;subst e3
    obtain⟨e₂,a₂,w₂,hq₂,harr₂⟩:=ih (μ x2) (hn ▸ hlt) x2 Φ2 w₁ a₁ S' rfl hI2 (y1.go i2 s2) r2 (g0 ▸ y3.step y1.inv s2)
    exact⟨e₂,a₂,w₂,uH (y4.trans (.of S' s2)) hq₂,.of_steps (StepsIn.trans harr (.one (fenced_calm hb hroom rfl) stepR_inLoop)) harr₂⟩
   | exit id=>exact⟨_,a₁,w₁,hq,.pass (x:=.inLoop c) rfl (fun _ _=>.inl (by simp)) harr⟩
   | goto l=>exact⟨_,a₁,w₁,hq,.pass (x:=.inLoop c) rfl (fun _ _=>.inl (by simp)) harr⟩
   | ret=>exact⟨_,a₁,w₁,hq,.pass (x:=.inLoop c) rfl (fun _ _=>.inl (by simp)) harr⟩
   | panic ch=>exact⟨_,a₁,w₁,hq,.pass (x:=.inLoop c) rfl (fun _ _=>.inl (by simp)) harr⟩
   | outgrown=>exact⟨_,a₁,w₁,hq,.pass (x:=.inLoop c) rfl (fun _ _=>.inl (by simp)) harr⟩
 obtain⟨e,a',w',hq,harr⟩:=key _ a0 Φ w a S rfl p0 hi hr hd
 exact⟨e,a',w',hq,.of_steps (.one (fenced_calm hb hroom rfl) stepR_loop) harr⟩
theorem CC{ops:Array Oper}{K:FR→St→Prop}{F:Fence}{Qm:Exit→Act→World→Prop}{rest:List Oper}:∀(l:List Oper),(F=Fence.wide∨∃l0,F=Fence.wide.inRound l0)→(∀o,o∈l→∀c,o.op≠.defer c)→∀(f:FR) (σ:St) (Φ:Phi) (w:World) (a:Act),
  eB P ops K l f σ→Inv Φ w σ→cL Φ a.tmps f→dR Φ w a.defers f.d →
  (∀f' σ' Φ' w' a',K f' σ'→Inv Φ' w' σ'→cL Φ' a'.tmps f'→dR Φ' w' a'.defers f'.d→Step Φ σ w Φ' σ' w'→wpListIn F 0 P ops Qm rest a' w')→wpListIn F 0 P ops Qm (l++rest) a w:=by
 intro l hF
 have hfn:∀g,F.fn g:=fun g=>by rcases hF with rfl|⟨l,rfl⟩<;>trivial
 induction l with
 | nil=>intro _ f σ Φ w a h hi hr hd hk;exact hk f σ Φ w a h hi hr hd (.refl _ _ _)
 | cons o r ih =>
  intro hdf f σ Φ w a h hi hr hd hk
  have hdo:∀c,o.op≠.defer c:=hdf o (by simp)
  have ih:=ih fun o ho=>hdf o (by simp[ho])
  have hFo:F=Fence.wide∨∃l0,F=Fence.wide.inRound l0∧∀c,o.op≠.defer c:=hF.imp id fun⟨l0,e⟩=>⟨l0,e,hdo⟩
  simp only[eB] at h
  rw[List.cons_append]
  unfold wpListIn
  rcases cF h hr with⟨hw,hy⟩|⟨hw,hn⟩
  ·rw[if_pos hw]
   refine eZ hFo (kB hdo hy Φ w a _ _ hi hr fun v mv σ' Φ' w' r1 i1 s1 hk1=>?_)
   exact ih _ _ Φ' w' (a.put o.dst v) hk1 i1 (cO (hr.mono s1.le) o.dst r1) (by rw[bN,eF];exact hd.step hi s1) fun f' σ' Φ2 w2 a2 k1 k2 k3 k4 k5=>hk f' σ' Φ2 w2 a2 k1 k2 k3 k4 (s1.trans k5)
  ·rw[if_neg (by simp[hw])]
   exact⟨fun f _=>hfn f,ih _ _ Φ w (a.put o.dst undef) hn hi (cO hr o.dst gA) (by rw[bN,eF];exact hd) hk⟩
theorem yB{F:Fence}(hF:F=Fence.wide∨∃l,F=Fence.wide.inRound l){n:Nat}{l:Nat}{fn:FuncId}{tmps:Array Value}{assign body:Code}{w:World}{R:Ending→World→Prop}(h:RoundIn Fence.wide n P l fn tmps assign body w R):RoundIn F n P l fn tmps assign body w R:=by
 rcases hF with rfl|⟨l0,rfl⟩
 ·exact h
 ·exact h
theorem FO{id:Nat}{ops:Array Oper}(pre:List Oper)(y:Oper)(post:List Oper)(ho:ops.toList=pre++y::post)(hpre:∀o,o∈pre→∀c,o.op≠.defer c)(hpost:∀o,o∈post→∀c,o.op≠.defer c)
 {o:Operand}{args:Array Operand}{ts:Array TypeId}(hy:y.op=.call ⟨.value o,args,ts⟩)(hg:y.guard=none){i:Nat}(ht:t=some i){x:List MV}(hx:C.xs[i]?=some x)(hno:∀m,m∈x→kL m)
 (hspec:pL P C.l C.xs C.Y C.Yx C.Φ0 C.σ0 C.n0)
 (h:eB P ops (fun f1 σ1=>aH f1 o=.fn (.yield C.l) [] []∧args.toList.map (aH f1)=x∧eB P ops (fun f2 σ2=>Q .normal f2 σ2 (some (i+1))) post (bD f1 y.dst (.bool true)) σ1 ∧
   eB P ops (fun f2 σ2=>Q .normal f2 σ2 none) post (bD f1 y.dst (.bool false)) σ1) pre f σ):ywp P C (.region id ops false) f σ t Q:=by
 intro F hF Φ w a S hi hr hd
 subst ht
 have hF':F=Fence.wide∨∃l0,F=Fence.wide.inRound l0:=Or.imp (fun q=>q) (fun⟨l0,e,_⟩=>⟨l0,e⟩) hF
 have hro:F.room 0:=hF.room 0
 refine wpIn_region_list ?_
 rw[ho]
 refine CC pre hF' hpre f σ Φ w a h hi.inv hr hd fun f1 σ1 Φ1 w1 a1 hk i1 r1 d1 s1=>?_
 obtain⟨hv,hargs,ht,hfl⟩:=hk
 have hi1:=hi.go i1 s1
 unfold wpListIn
 rw[if_pos (by unfold Region.wanted;rw[hg])]
 have rv:=aL r1 o
 rw[hv] at rv
 obtain⟨first,cap,he,h1,h2⟩:=rv.oU
 have e1:first=#[]:=Array.eq_empty_of_size_eq_zero (by simpa using h1.1)
 have e2:cap=#[]:=Array.eq_empty_of_size_eq_zero (by simpa using h2.1)
 subst e1 e2
 have hrels:=kU r1 args
 rw[hargs] at hrels
 obtain⟨Ψ,hΨ⟩:∃Ψ:Phi,Ψ=⟨Φ1.snap,fun _=>none,0⟩:=⟨_,rfl⟩
 have hrels':gE Ψ (args.map a1.eval) x:=⟨hrels.1,fun j m hm=>by
  subst hΨ
  exact kL.rel (Φ:=Φ1) (Φ':=⟨Φ1.snap,fun _=>none,0⟩) (fun _ _ q=>q) (hno m (List.mem_of_getElem? hm)) (hrels.2 j m hm)⟩
 obtain⟨fn,tmps,assign,body,hrun,hround⟩:=hspec i x S w1 Ψ (args.map a1.eval) hx hi1.st hi1.apt.agree hi1.size (fun m=>by subst hΨ;rfl) (fun b v q=>by
  subst hΨ
  exact⟨i1.snap b v q,hi1.apt.snap b v q,hi1.snapn b v q⟩) hrels'
 have hsem:(y.semAt F.round a1.eval).run P w1=.ok (.round C.l fn tmps assign body) w1:=by
  rw[Oper.semAt_eq _ _ _ (by rw[hy];intro c e;cases e)]
  unfold execOp
  simp only[hy,resolve,he,Deferred.ofValue,Sem.run_bind,Sem.run_pure,Result.andThen_ok,invoke,Array.empty_append,Array.append_empty]
  exact hrun
 refine⟨fun g _=>hF.fn g,?_⟩
 rw[hsem]
 refine⟨(fun q=>by rw[hF.depth] at q;cases q),?_⟩
 refine(yB hF' hround).mono ?_
 rintro e w2 ⟨b,S',rfl,hS1,hS2,hS3,hS4,hS5,hS6,hS7,hS8,hS9,hS10,hS11⟩
 -- our own side is as it was
 have ow:∀k,aU Φ1 σ1 k→w2.heap[k]?=w1.heap[k]?:=fun k hk=>by
  refine hS8 k ?_ fun q=>hi1.apt.own k q hk
  obtain⟨l,ob,p,q1,q2,q3⟩:=hk
  obtain⟨p',e,hlt⟩:=(i1.own l ob q1).place
  rw[q2] at e;cases e
  exact hlt k q3
 have i2:Inv Φ1 w2 σ1:=⟨fun l ob hl=>(i1.own l ob hl).mono (.refl _) fun p R q1 q2=>ow R ⟨l,ob,p,hl,q1,q2⟩,i1.inj,fun c v q=>by
   have hb:=World.block_lt_of_cell? w1 c (i1.snap c v q)
   rw[World.eS (hS8 c.block hb (hi1.apt.snap c v q))]
   exact i1.snap c v q,i1.apart,i1.fresh⟩
 have apt2:Apt Φ1 σ1 S' w2:=by
  have lt1:∀k,aU Φ1 σ1 k→k<w1.heap.size:=fun k ⟨l,ob,p,q1,q2,q3⟩=>by
   obtain⟨p',e,hlt⟩:=(i1.own l ob q1).place
   rw[q2] at e;cases e
   exact hlt k q3
  refine⟨hS2,fun k hk ho=>?_,fun c v q ho=>?_,fun c v q hk=>?_⟩
  ·rcases hS9 k hk with q|q
   ·exact hi1.apt.own k q ho
   ·have:=lt1 k ho;omega
  ·rcases hS10 c v q with q|q|q|q
   ·exact hi1.apt.snown c v q ho
   ·exact hi1.apt.own _ q ho
   ·have:=lt1 _ ho;omega
   ·subst hΨ
    obtain⟨l,ob,p,q1,q2,q3⟩:=ho
    exact i1.apart l ob p c.block c v q1 q2 q3 q rfl
  ·rcases hS9 _ hk with p|p
   ·exact hi1.apt.snap c v q p
   ·have:=World.block_lt_of_cell? w1 c (i1.snap c v q);omega
 have st2:dS Φ1 σ1 w1 S Φ1 σ1 w2 S':=⟨.refl _,hS3,hS4,hS5,hS6,hS7,fun k hk _ hw=>hS8 k hk hw,fun c v q=>.inl q,fun R q=>.inl q,hS9,fun c v q=>by
  subst hΨ
  rcases hS10 c v q with q|q|q|q
  ·exact .inl q
  ·exact .inr (.inl q)
  ·exact .inr (.inr (.inl q))
  ·exact .inr (.inr (.inr (.inl q)))⟩
 have d2:dR Φ1 w2 a1.defers f1.d:=d1.mono (.refl _) hS7 fun D hD=>by
  rw[hS8 D (Array.getElem?_eq_some_iff.1 hD).1 (fun q=>hi1.apt.agree.nomark D q _ ((hi1.apt.agree.same D q).symm.trans hD))]
  exact hD
 have go:∀(b:Bool) (t':Option Nat),C.st t' S'→eB P ops (fun f2 σ2=>Q .normal f2 σ2 t') post (bD f1 y.dst (.bool b)) σ1→wpListIn F 0 P ops (zA C Φ σ w S Q) post (a1.put y.dst (.bool b)) w2:=by
  intro b t' hst hm
  have hyi:iJ C Φ1 σ1 w2 S' t':=⟨i2,apt2,hi1.snapn,hi1.ownd,Nat.le_trans hi1.size hS7,hst⟩
  have:=CC (rest:=[]) (Qm:=zA C Φ σ w S Q) post hF' hpost (bD f1 y.dst (.bool b)) σ1 Φ1 w2 (a1.put y.dst (.bool b)) hm i2 (cO r1 y.dst (.bool b)) (by rw[bN,eF];exact d2) fun f2 σ2 Φ2 w3 a3 k1 k2 k3 k4 k5=>by
   unfold wpListIn
   exact⟨f2,σ2,t',Φ2,S',hyi.go k2 k5,k3,k4,((dS.of S s1).trans st2).trans (.of S' k5),k1⟩
  rwa [List.append_nil] at this
 cases b with
 | true=>exact go true (some (i+1)) (by rw[if_pos rfl] at hS11;exact hS11) ht
 | false=>exact go false none (by rw[if_neg (by decide)] at hS11;exact hS11) hfl
end rules
theorem Apt.putObj{Φ:Phi}{σ:St}{S:YS}{w:World}(h:Apt Φ σ S w){D:Nat}{x:Option (List Deferred)}(o':Obj)(hD:w.heap[D]?=some (Obj.deferred x)):Apt Φ σ S (w.putObj D o'):=by
 have hne:∀k,S.wr k→k≠D:=fun k hk e=>h.agree.nomark k hk x (by rw[←h.agree.same k hk,e];exact hD)
 refine⟨⟨fun k hk=>(World.putObj_heap_other (hne k hk)).trans (h.agree.same k hk),h.agree.lt,h.agree.nomark,fun a v q=>?_,by rw[World.putObj_size];exact h.agree.size,h.agree.os,h.agree.tape,h.agree.output,h.agree.drawn⟩,h.own,h.snown,h.snap⟩
 have hc:=h.agree.sn a v q
 rw[←hc]
 refine World.eS (World.putObj_heap_other fun e=>?_)
 rw[World.cell?,e,hD] at hc
 simp at hc
theorem Gp{P:Program}{fn:Func}{tmps:Array Value}{C:YC}{t:Option Nat}(hrs:fn.results.toList=[]){Φ0:Phi}{σ0:St}{w0:World}{S0:YS}(h0:Φ0.base=w0.heap.size){R:Ending→World→Prop}(hR:∀v Φ' w' σ' S',iJ C Φ' σ' w' S' t→dS Φ0 σ0 w0 S0 Φ' σ' w' S'→R (.returned v) w') :
  ∀(ds:List Deferred) (Φ:Phi) (w:World) (σ:St) (S:YS),dR Φ w ds []→iJ C Φ σ w S t→dS Φ0 σ0 w0 S0 Φ σ w S→iB P fn tmps R ds w:=by
 intro ds
 induction ds with
 | nil =>
  intro Φ w σ S _ hi hs
  refine⟨.tuple #[],?_,hR _ Φ w σ S hi hs⟩
  rw[lR]
  have:fn.results=#[]:=Array.toList_eq_nil_iff.1 hrs
  simp only[this]
  first|rfl|simp[Sem.run_bind,Sem.run_pure]
 | cons x ds ih =>
  intro Φ w σ S hd hi hs
  rcases hd with⟨D,h1,h2,h3,h4,h5⟩|⟨g,ms,r,cap,h,_⟩
  ·refine .inl ⟨D,_,h1,run_takeDeferred h3,?_⟩
   have hDb:w0.heap.size≤D:=by rw[←h0,←hs.le.base];exact h2
   have i':=hi.inv.putObj (.deferred none) h3 (fun _ _ _ e=>by cases e) (fun _ _ e=>by cases e)
   have s':dS Φ0 σ0 w0 S0 Φ σ (w.putObj D (.deferred none)) S :=
    ⟨hs.le,hs.os,hs.tape,hs.output,hs.drawn,by rw[World.putObj_size];exact hs.size,fun k hk hn hw=>(World.putObj_heap_other (by omega)).trans (hs.block k hk hn hw),hs.snapn,hs.ownd,hs.wr,hs.sn⟩
   refine ih Φ _ σ S ?_ ⟨i',hi.apt.putObj _ h3,hi.snapn,hi.ownd,by rw[World.putObj_size];exact hi.size,hi.st⟩ s'
   have:∀(xs:List Deferred) (d:List (FuncId × List MV)),(∀y,y∈xs→y.target≠.collected D)→dR Φ w xs d→dR Φ (w.putObj D (.deferred none)) xs d:=by
    intro xs
    induction xs with
    | nil=>intro d _ h;exact⟨h.1,by rw[World.putObj_size];exact h.2⟩
    | cons y xs ihx =>
     intro d hy h
     rcases h with⟨D',k1,k2,k3,k4,k5⟩|⟨g,ms,r,cap,k1,k2,k3,k4⟩
     ·refine .inl ⟨D',k1,k2,?_,k4,ihx d (fun z hz=>hy z (by simp[hz])) k5⟩
      rw[World.putObj_heap_other]
      ·exact k3
      ·intro e;exact hy y (by simp) (by rw[k1,e])
     ·exact .inr ⟨g,ms,r,cap,k1,k2,k3,ihx r (fun z hz=>hy z (by simp[hz])) k4⟩
   exact this ds [] h4 h5
  ·cases h
def OQ(n:Nat):YQ
 | .normal,f,_,t=>f.d=[]∧(t=some n∨t=none)
 | .ret,f,_,t=>f.d=[]∧(t=some n∨t=none)
 | _,_,_,_=>False
theorem pL.aT{P:Program}{l:Nat}{xs:List (List MV)}{Y:Nat→YS→Prop}{Yx:YS→Prop}{Φ:Phi}{σ:St}{n0:Nat}(h:pL P l xs Y Yx Φ σ n0)(n:Nat):pL P l xs Y Yx (Φ.aT n) σ n0 :=
 fun i x S w' Ψ vs h1 h2 h3 h4 h5 h6 h7=>h i x S w' Ψ vs h1 h2 h3 h4 h5 h6 h7
theorem Apt.aT{Φ:Phi}{σ:St}{S:YS}{w:World}(h:Apt Φ σ S w)(n:Nat):Apt (Φ.aT n) σ S w:=⟨h.agree,h.own,h.snown,h.snap⟩
theorem dS.aT{Φ Φ':Phi}{σ σ':St}{w w':World}{S S':YS}{n:Nat}(h:dS (Φ.aT n) σ w S Φ' σ' w' S'):dS Φ σ w S (Φ'.aT Φ.base) σ' w' S' :=
 ⟨⟨h.le.snap,h.le.obj,rfl⟩,h.os,h.tape,h.output,h.drawn,h.size,h.block,h.snapn,h.ownd,h.wr,h.sn⟩
theorem JD.lL{P:Program}{g:FuncId}{fn:Func}{c:Code}{ns:List MV}{σi:St}{xs:List (List MV)}(n:Nat)(hf:P.funcs[g]?=some fn)(hb:fn.body=some c)(hn:(fn.name == "runtime.NumGoroutine")=false)
 (hn':max fn.ntmps (ns.length+1)=n)(hrs:fn.results.toList=[])
 (h:∀C:YC,C.xs=xs→pL P C.l C.xs C.Y C.Yx C.Φ0 C.σ0 C.n0→ywp P C c ⟨n,j0 0 (.fn (.yield C.l) [] []::ns),[]⟩ σi (some 0) (OQ xs.length)):JD P g ns σi xs:=by
 refine⟨⟨fn,hf,by simp[hb],hn⟩,fun l Y Yx Φ w S vs hspec hi ha h0 hr=>?_⟩
 obtain⟨C,hC⟩:∃C:YC,C=⟨l,xs,Y,Yx,Φ.aT w.heap.size,σi,w.heap.size⟩:=⟨_,rfl⟩
 have hargs:gE (Φ.aT w.heap.size) (#[Value.func (.yield l) #[] #[]]++vs) (.fn (.yield l) [] []::ns):=by
  refine⟨by simp[hr.1];omega,fun i m hm=>?_⟩
  cases i with
  | zero =>
   simp only[List.getElem?_cons_zero,Option.some.injEq] at hm
   subst hm
   have e:(#[Value.func (.yield l) #[] #[]]++vs).getD 0 undef=Value.func (.yield l) #[] #[]:=by
    simp[Array.getD_eq_getD_getElem?,Array.getElem?_append]
   rw[e]
   exact qC _ (.func (.yield l) #[] #[])
  | succ i =>
   have:=(hr.2 i m (by simpa using hm)).aT w.heap.size
   have e:(#[Value.func (.yield l) #[] #[]]++vs).getD (i+1) undef=vs.getD i undef:=by
    simp[Array.getD_eq_getD_getElem?,Array.getElem?_append]
   rw[e];exact this
 have hfr:=qU (fn:=fn) hargs
 rw[List.length_cons,hn'] at hfr
 have hbody:=h C (by rw[hC]) (by rw[hC];exact hspec.aT _)
 have hst:iJ C (Φ.aT w.heap.size) σi w S (some 0):=by
  subst hC
  exact⟨hi.aT _,ha.aT _,fun a v q=>.inl q,fun R q=>.inl q,Nat.le_refl _,h0⟩
 have hl:C.l=l:=by rw[hC]
 rw[hl] at hbody
 refine(k9 (R:=fun e w'=>∃v Φ' σ' S',e=.returned v∧(iJ C Φ' σ' w' S' (some xs.length)∨iJ C Φ' σ' w' S' none)∧dS (Φ.aT w.heap.size) σi w S Φ' σ' w' S') hf hb (wp_mono (wpIn_wide.1 (hbody _ .wide (Φ.aT w.heap.size) w { tmps:=_,defers:=[] } S hst hfr ⟨rfl,Nat.le_refl _⟩)) ?_)).mono ?_
 ·rintro e a' w' ⟨f',σ',t',Φ',S',q1,q2,q3,q4,q5⟩
  have fin:(t'=some xs.length∨t'=none)→f'.d=[]→iB P fn a'.tmps (fun e w'=>∃v Φ' σ' S',e=.returned v∧(iJ C Φ' σ' w' S' (some xs.length)∨iJ C Φ' σ' w' S' none)∧dS (Φ.aT w.heap.size) σi w S Φ' σ' w' S') a'.defers w':=by
   intro ht hd
   rw[hd] at q3
   rcases ht with rfl|rfl
   ·exact Gp (P:=P) (fn:=fn) (tmps:=a'.tmps) hrs (Φ0:=Φ.aT w.heap.size) (w0:=w) rfl (fun v Φ'' w'' σ'' S'' q qs=>⟨v,Φ'',σ'',S'',rfl,.inl q,qs⟩) a'.defers Φ' w' σ' S' q3 q1 q4
   ·exact Gp (P:=P) (fn:=fn) (tmps:=a'.tmps) hrs (Φ0:=Φ.aT w.heap.size) (w0:=w) rfl (fun v Φ'' w'' σ'' S'' q qs=>⟨v,Φ'',σ'',S'',rfl,.inr q,qs⟩) a'.defers Φ' w' σ' S' q3 q1 q4
  cases e with
  | normal=>exact⟨.inl rfl,fin q5.2 q5.1⟩
  | ret=>exact⟨.inr rfl,fin q5.2 q5.1⟩
  | _=>exact q5.elim
 ·rintro e w' ⟨v,Φ',σ',S',rfl,q,qs⟩
  subst hC
  rcases q with q|q
  ·exact⟨v,Φ'.aT Φ.base,σ',S',rfl,q.inv.aT _,q.apt.aT _,qs.aT,.inl q.st⟩
  ·exact⟨v,Φ'.aT Φ.base,σ',S',rfl,q.inv.aT _,q.apt.aT _,qs.aT,.inr q.st⟩
end

section
structure C2 (Φ0:Phi) (σ0:St) (n0:Nat) (Φ:Phi) (σ:St):Prop where
 le:Φ0.le Φ
 snapn:∀a v,Φ.snap a=some v→Φ0.snap a=some v∨n0≤a.block∨aU Φ0 σ0 a.block
 ownd:∀R,aU Φ σ R→aU Φ0 σ0 R∨n0≤R
structure xC (C:YC) (Φ0:Phi) (σ0:St) (n0:Nat) (So0:YS) (tmps:Array Value) (fc:FR) (l:Nat) (st:Loop) (σ:St) (S:YS) (Φ:Phi) (So:YS) (t:Option Nat):Prop where
 inv:iJ C Φ σ S.w So t
 frame:cL Φ tmps fc
 step:C2 Φ0 σ0 n0 Φ σ
 wr:∀k,S.wr k↔(aU Φ σ k∨k=l∨So.wr k)
 sn:∀a,S.sn a=(match Φ.snap a with|some v=>some v|none=>So.sn a)
 lrec:S.w.heap[l]?=some (.loop st)
 size:n0≤S.w.heap.size
 base:Φ.base≤S.w.heap.size
 owr:∀k,So.wr k→So0.wr k∨n0≤k
 osn:∀a v,So.sn a=some v→So0.sn a=some v∨So0.wr a.block∨n0≤a.block∨Φ0.snap a=some v∨aU Φ0 σ0 a.block
section
variable {C:YC} {Φ0 Φ:Phi} {σ0 σ:St} {n0:Nat} {So0:YS} {tmps:Array Value} {fc:FR} {l:Nat} {st:Loop} {S:YS} {So:YS} {t:Option Nat}
theorem xC.GH(h:xC C Φ0 σ0 n0 So0 tmps fc l st σ S Φ So t){a:Addr}{v:Value}(q:Φ.snap a=some v):S.sn a=some v:=by rw[h.sn a,q]
theorem xC.PS(h:xC C Φ0 σ0 n0 So0 tmps fc l st σ S Φ So t){a:Addr}{v:Value}(q:So.sn a=some v):S.sn a=some v:=by
 rw[h.sn a]
 cases e:Φ.snap a with
 | none=>exact q
 | some u =>
  have h1:=h.inv.inv.snap a u e
  have h2:=h.inv.apt.agree.sn a v q
  rw[h1] at h2
  simpa using h2
theorem xC.LL(h:xC C Φ0 σ0 n0 So0 tmps fc l st σ S Φ So t){a:Addr}{v:Value}(q:S.sn a=some v):Φ.snap a=some v∨So.sn a=some v:=by
 rw[h.sn a] at q
 cases e:Φ.snap a with
 | none=>rw[e] at q;exact .inr q
 | some u=>rw[e] at q;exact .inl q
theorem xC.agree(h:xC C Φ0 σ0 n0 So0 tmps fc l st σ S Φ So t):lW S S.w :=
 ⟨fun _ _=>rfl,fun k hk=>by
  rcases (h.wr k).1 hk with q|rfl|q
  ·obtain⟨l',o,p,h1,h2,h3⟩:=q
   obtain⟨p',e,hlt⟩:=(h.inv.inv.own l' o h1).place
   rw[h2] at e;cases e
   exact hlt k h3
  ·exact(Array.getElem?_eq_some_iff.1 h.lrec).1
  ·exact Nat.lt_of_lt_of_le (h.inv.apt.agree.lt k q) h.inv.apt.agree.size,(fun k hk x e=>by
  rcases (h.wr k).1 hk with q|rfl|q
  ·exact h.inv.inv.mark e q
  ·rw[h.lrec] at e;cases e
  ·exact h.inv.apt.agree.nomark k q x ((h.inv.apt.agree.same k q).symm.trans e)),fun a v q=>by
  rcases h.LL q with q|q
  ·exact h.inv.inv.snap a v q
  ·exact h.inv.apt.agree.sn a v q,Nat.le_refl _,rfl,rfl,rfl,Nat.le_refl _⟩
theorem xC.at(h:xC C Φ0 σ0 n0 So0 tmps fc l st σ S Φ So t)(k1:∀a v,Φ0.snap a=some v→C.Φ0.snap a=some v∨C.n0≤a.block∨aU C.Φ0 C.σ0 a.block)(k2:∀R,aU Φ0 σ0 R→aU C.Φ0 C.σ0 R∨C.n0≤R)(k3:C.n0≤n0)
 {w:World}(ha:lW S w){Ψ:Phi}(ho:∀m,Ψ.obj m=none)
 (hs:∀a v,Ψ.snap a=some v→w.cell? a=some v∧¬S.wr a.block∧(Φ0.snap a=some v∨n0≤a.block∨aU Φ0 σ0 a.block)) :
  ∃Φ',iJ C Φ' σ w So t∧cL Φ' tmps fc∧C2 Φ0 σ0 n0 Φ' σ∧(∀k,aU Φ' σ k↔aU Φ σ k)∧(∀a v,Φ'.snap a=some v→Φ.snap a=some v∨Ψ.snap a=some v)∧(∀v m,Rel Ψ v m→Rel Φ' v m)∧w.heap[l]?=some (.loop st)∧Φ'.base≤w.heap.size:=by
 obtain⟨Φ',hΦ⟩:∃Φ':Phi,Φ'={ Φ with snap:=fun a=>match Φ.snap a with|some v=>some v|none=>Ψ.snap a }:=⟨_,rfl⟩
 have hle:Φ.le Φ':=by subst hΦ;exact⟨fun a v q=>by simp[q],fun _ _ q=>q,rfl⟩
 have hobj:Φ'.obj=Φ.obj:=by subst hΦ;rfl
 have hb:Φ'.base=Φ.base:=by subst hΦ;rfl
 have hsn:∀a v,Φ'.snap a=some v→Φ.snap a=some v∨Ψ.snap a=some v:=fun a v q=>by
  subst hΦ
  simp only at q
  cases e:Φ.snap a with
  | none=>rw[e] at q;exact .inr q
  | some u=>rw[e] at q;exact .inl q
 have hwr:∀k,aU Φ σ k→w.heap[k]?=S.w.heap[k]?:=fun k hk=>ha.same k ((h.wr k).2 (.inl hk))
 have hown:∀k,aU Φ' σ k↔aU Φ σ k:=fun k=>by unfold aU;rw[hobj]
 have hinv:Inv Φ' w σ:=by
  refine⟨fun l' o hl=>(h.inv.inv.own l' o hl).mono hle fun p R h1 h2=>hwr R ⟨l',o,p,hl,h1,h2⟩,fun a b o o' p p' R h1 h2 h3 h4=>?_,fun a v q=>?_,fun l' o p R a v h1 h2 h3 q=>?_,?_⟩
  ·rw[hobj] at h3 h4;exact h.inv.inv.inj a b o o' p p' R h1 h2 h3 h4
  ·rcases hsn a v q with q|q
   ·exact ha.sn a v (h.GH q)
   ·exact(hs a v q).1
  ·rw[hobj] at h2
   rcases hsn a v q with q|q
   ·exact h.inv.inv.apart l' o p R a v h1 h2 h3 q
   ·intro e
    exact(hs a v q).2.1 ((h.wr _).2 (.inl ⟨l',o,p,h1,h2,e ▸ h3⟩))
  ·obtain⟨n,hn⟩:=h.inv.inv.fresh.1.1
   exact⟨⟨⟨n,fun k hk=>by rw[hobj];exact hn k hk⟩,fun k p hk=>h.inv.inv.fresh.1.2 k p (by rw[←hobj];exact hk)⟩,fun g i v q=>hle.snap _ _ (h.inv.inv.fresh.2.1 g i v q),h.inv.inv.fresh.2.2.mono hle.snap⟩
 have hag:=h.inv.apt.agree
 have hapt:Apt Φ' σ So w:=by
  refine⟨⟨fun k hk=>(ha.same k ((h.wr k).2 (.inr (.inr hk)))).trans (hag.same k hk),hag.lt,hag.nomark,fun a v q=>ha.sn a v (h.PS q),Nat.le_trans hag.size ha.size,ha.os.trans hag.os,ha.tape.trans hag.tape,ha.output.trans hag.output,Nat.le_trans hag.drawn ha.drawn⟩,fun k hk q=>h.inv.apt.own k hk ((hown k).1 q),fun a v q ho=>h.inv.apt.snown a v q ((hown _).1 ho),fun a v q hk=>?_⟩
  rcases hsn a v q with q|q
  ·exact h.inv.apt.snap a v q hk
  ·exact(hs a v q).2.1 ((h.wr _).2 (.inr (.inr hk)))
 refine⟨Φ',⟨hinv,hapt,fun a v q=>?_,fun R hR=>h.inv.ownd R ((hown R).1 hR),Nat.le_trans h.inv.size ha.size,h.inv.st⟩,h.frame.mono hle,⟨h.step.le.trans hle,fun a v q=>?_,fun R hR=>h.step.ownd R ((hown R).1 hR)⟩,hown,hsn,fun v m r=>?_,?_,?_⟩
 ·rcases hsn a v q with q|q
  ·exact h.inv.snapn a v q
  ·rcases (hs a v q).2.2 with q|q|q
   ·exact k1 a v q
   ·exact .inr (.inl (Nat.le_trans k3 q))
   ·rcases k2 _ q with q|q
    ·exact .inr (.inr q)
    ·exact .inr (.inl q)
 ·rcases hsn a v q with q|q
  ·exact h.step.snapn a v q
  ·exact(hs a v q).2.2
 ·refine r.Cw (fun a u q=>?_) (fun l' p q=>by rw[ho l'] at q;cases q)
  have h1:=(hs a u q).1
  subst hΦ
  simp only
  cases e:Φ.snap a with
  | none=>exact q
  | some u' =>
   have h2:=ha.sn a u' (h.GH e)
   rw[h1] at h2
   simpa using h2.symm
 ·rw[ha.same l ((h.wr l).2 (.inr (.inl rfl)))];exact h.lrec
 ·rw[hb];exact Nat.le_trans h.base ha.size
end
theorem C2.step{Φ0 Φ Φ':Phi}{σ0 σ σ':St}{n0:Nat}{w w':World}{S S':YS}(h:C2 Φ0 σ0 n0 Φ σ)(hn:n0≤w.heap.size)(k:dS Φ σ w S Φ' σ' w' S'):C2 Φ0 σ0 n0 Φ' σ' where
 le:=h.le.trans k.le
 snapn:=fun a v hv=>by
  rcases k.snapn a v hv with q|q|q
  ·exact h.snapn a v q
  ·exact .inr (.inl (Nat.le_trans hn q))
  ·rcases h.ownd _ q with q|q
   ·exact .inr (.inr q)
   ·exact .inr (.inl q)
 ownd:=fun R hR=>by
  rcases k.ownd R hR with q|q
  ·exact h.ownd R q
  ·exact .inr (Nat.le_trans hn q)
theorem iJ.putObj{C:YC}{Φ:Phi}{σ:St}{w:World}{S:YS}{t:Option Nat}(h:iJ C Φ σ w S t){l:Nat}{r:Loop}(o':Obj)(hl:w.heap[l]?=some (.loop r))(hw:¬S.wr l):iJ C Φ σ (w.putObj l o') S t:=by
 have hne:∀k,S.wr k→k≠l:=fun k hk e=>hw (e ▸ hk)
 refine⟨h.inv.putObj _ hl (fun _ _ _ e=>by cases e) (fun _ _ e=>by cases e),⟨⟨fun k hk=>(World.putObj_heap_other (hne k hk)).trans (h.apt.agree.same k hk),h.apt.agree.lt,h.apt.agree.nomark,fun a v q=>?_,by rw[World.putObj_size];exact h.apt.agree.size,h.apt.agree.os,h.apt.agree.tape,h.apt.agree.output,h.apt.agree.drawn⟩,h.apt.own,h.apt.snown,h.apt.snap⟩,h.snapn,h.ownd,by rw[World.putObj_size];exact h.size,h.st⟩
 have hc:=h.apt.agree.sn a v q
 rw[←hc]
 refine World.eS (World.putObj_heap_other fun e=>?_)
 rw[World.cell?,e,hl] at hc
 simp at hc
end

section
section
variable {P:Program} {f:FR} {σ:St} {Q:MQ} {id:Nat} {a b l:List Oper} {x:Oper} {dr:Bool}
theorem Pv:List.append (x::a) b=x::List.append a b:=rfl
theorem Qn:List.append ([]:List Oper) b=b:=rfl
end
attribute [go_sem] Pv Qn
theorem qK{P:Program}{g:FuncId}{ms:List MV}{σ:St}{o:aW}{u:Nat→MV}{k:MV→St→Prop}(h:aA P g ms St.none fun v σ'=>∃l,v=u l∧σ'=St.none.set l o)(hk:∀l,σ l=none→R (bQ (u l) (σ.set l o) k)):R (cQ P g ms σ k) :=
 bX h (St.none_le σ) fun v σ' hv hf=>by
  obtain⟨l,rfl,rfl⟩:=hv
  rw[hE,a8,cT]
  refine hk l ?_
  rcases hf l o (aJ _ _ _) with h|⟨o',h⟩
  ·exact h
  ·simp[St.none] at h
end

section
theorem As{t:TypeId}{xs ys:List MV}{b:Bool}(h:gT Tryz.prog 6 t (.agg xs) (.agg ys)=some b)(hp:cP Tryz.prog t=true):bT Tryz.prog t .neq (.agg xs) (.agg ys)=some (True,.bool (!b)):=by
 rw[uL,h,mI,F3,hp];simp
theorem OA{t:TypeId}{xs ys:List MV}{b:Bool}(h:gT Tryz.prog 6 t (.agg xs) (.agg ys)=some b)(hp:cP Tryz.prog t=true):bT Tryz.prog t .eql (.agg xs) (.agg ys)=some (True,.bool b):=by
 rw[uL,h,mI,F2,hp];simp
theorem Lm:cP Tryz.prog 57=true:=by decide +kernel
theorem GC:cP Tryz.prog 126=true:=by decide +kernel
theorem H4(a b:PA):bT Tryz.prog 57 .neq (.agg a.c) (.agg b.c)=some (True,.bool (!decide (a=b))):=As (Ib 2 a b) Lm
theorem Cg(a b:CA):bT Tryz.prog 126 .neq (.agg a.c) (.agg b.c)=some (True,.bool (!decide (a=b))):=As (uR 2 a b) GC
theorem Ce(a b:CA):bT Tryz.prog 126 .eql (.agg a.c) (.agg b.c)=some (True,.bool (decide (a=b))):=OA (uR 2 a b) GC
theorem AU{p:PA}{i:Nat}(h0:¬(p.mask.toNat=0∨511<p.mask.toNat))(h1:¬(65536≤p.lab.toNat∨p.lab.toNat≠0∧bit p.mask.toNat 8=false))(hi:i<8)(h:(eC (p.f.get i)&&(decide ((p.f.get i).kd=0) || bit p.mask.toNat i))=false):cH p=1:=by
 unfold cH
 rw[if_neg h0,if_neg h1,if_neg]
 intro hb
 have:=List.all_eq_true.1 hb i (List.mem_range.2 hi)
 rw[h] at this
 cases this
theorem xY{p:PA}(h0:¬(p.mask.toNat=0∨511<p.mask.toNat))(h1:¬(65536≤p.lab.toNat∨p.lab.toNat≠0∧bit p.mask.toNat 8=false))(h:∀i,i<8→(eC (p.f.get i)&&(decide ((p.f.get i).kd=0) || bit p.mask.toNat i))=true):cH p=0:=by
 unfold cH
 rw[if_neg h0,if_neg h1,if_pos]
 exact List.all_eq_true.2 fun i hi=>h i (List.mem_range.1 hi)
end

section
def T.depth:T→Nat
 | .leaf _=>1
 | .one _ a=>1+a.depth
 | .two _ a b=>1+max a.depth b.depth
def Dw:List Nat→List Nat
 | []=>[]
 | k::s=>shut ((k - 1)::s)
theorem rL(s:List Nat):shut (0::s)=Dw s:=by
 cases s with
 | nil=>rw[shut];rfl
 | cons k s=>rw[shut];rfl
theorem rK(n:Nat)(s:List Nat):shut ((n+1)::s)=(n+1)::s:=by rw[shut]
theorem sW:∀{t:T},t.ok→∀(d:Nat) (s:List Nat) (l:List ND),dp d s (t.fl++l)=dp (max d (s.length+t.depth)) (Dw s) l
 | .leaf x,h,d,s,l=>by
  simp only[T.ok] at h
  rw[T.fl,List.cons_append,List.nil_append,dp,h,rL];rfl
 | .one x a,h,d,s,l=>by
  rw[T.fl,List.cons_append,dp,h.1,rK,sW h.2,Dw,show 0+1 - 1=0 from rfl,rL]
  congr 1
  simp only[List.length_cons,T.depth];omega
 | .two x a b,h,d,s,l=>by
  rw[T.fl,List.cons_append,dp,h.1,rK,List.append_assoc,sW h.2.1,Dw,show 1+1 - 1=0+1 from rfl,rK,sW h.2.2,Dw,show 0+1 - 1=0 from rfl,rL]
  congr 1
  simp only[List.length_cons,T.depth];omega
theorem Eh{t:T}(h:t.ok)(he:gD t.fl 0=(t.fl.length:Int)):gH t.fl=t.depth:=by
 have:=sW h 0 [] []
 rw[List.append_nil] at this
 rw[gH,if_neg,this]
 ·simp[dp]
 ·rintro(h1|h1)
  ·have:=t.Aj;rw[h1] at this;simp at this
  ·exact h1 he
end

section
def T.sem(av:ND→Bool):T→Bool
 | .leaf x=>if x.op=1 then true else if x.op=2 then false else av x
 | .one x a=>!a.sem av
 | .two x a b=>if x.op=11 then a.sem av&&b.sem av else a.sem av || b.sem av
end
end Go.Proofs.YtppdgejjmhdjhaaGreatDoor
