/- Parts of the proof, joined; conditions: those that its theorems name. -/
import Derived.Test.YtppdgejjmhdjhaaGreatDoorMag
set_option linter.unusedVariables false
set_option linter.unusedSimpArgs false
set_option maxHeartbeats 4000000
namespace Go.Proofs.YtppdgejjmhdjhaaGreatDoor
section
inductive Lz (e:Nat) (xs:List (List MV)):MV→Prop where
 | lst (t:Bool):Lz e xs (.lst e xs t)
 | nil (h:xs=[]):Lz e xs .aZ
theorem Lz.cell{e:Nat}{xs:List (List MV)}{m:MV}(h:Lz e xs m):m.aF=true:=by cases h<;>rfl
theorem Lz.cells{e:Nat}{xs:List (List MV)}{m:MV}(h:Lz e xs m):m.cells=[m]:=by cases h<;>rfl
theorem Lz.Lb{e:Nat}{xs:List (List MV)}{m:MV}(h:Lz e xs m):l9 m (.lst e xs false):=by
 cases h with
 | lst t=>cases t with
  | false=>exact .same _
  | true=>exact .tight _ _
 | nil h=>subst h;exact .nil _ _
abbrev CM.k(c:CM)(f:MV):List MV:=.int .i64 c.kd::.int .i64 c.e.kd::.int .i64 c.e.id::.int .i64 c.e.gr::.int .u32 (c.e.p.mask.toNat:Int)::.int .u32 (c.e.p.lab.toNat:Int)::(fc c.e.p.f ++
 .int .i64 c.dev::.int .i64 c.req::.int .i64 c.id::.int .i64 c.base::.int .i64 c.Ij::.int .u32 (c.p.mask.toNat:Int)::.int .u32 (c.p.lab.toNat:Int)::(fc c.p.f++[f,.int .u32 (c.mask.toNat:Int)]))
abbrev RE.k(a:RE)(f:MV):List MV:=[.int .i64 a.kd,.int .i64 a.dev,.int .i64 a.req,.int .i64 a.code,.int .i64 a.id,.int .i64 a.ver,.int .i64 a.sq,.int .i64 a.ep,f,.int .u32 (a.mask.toNat:Int)]
abbrev PG.k(p:PG)(i:MV):List MV:=[.int .i64 p.code,.bool p.reset,.int .i64 p.fr.dev,.int .i64 p.fr.ep,.int .i64 p.fr.sq,.int .i64 p.fr.cu,.int .i64 p.to.dev,.int .i64 p.to.ep,.int .i64 p.to.sq,.int .i64 p.to.cu,i]
abbrev MS.k(m:MS)(f g i:MV):List MV:=.int .i64 m.kd::.int .i64 m.size::.int .i64 m.cmd.kd::.int .i64 m.cmd.e.kd::.int .i64 m.cmd.e.id::.int .i64 m.cmd.e.gr::.int .u32 (m.cmd.e.p.mask.toNat:Int)::.int .u32 (m.cmd.e.p.lab.toNat:Int)::(fc m.cmd.e.p.f ++
 .int .i64 m.cmd.dev::.int .i64 m.cmd.req::.int .i64 m.cmd.id::.int .i64 m.cmd.base::.int .i64 m.cmd.Ij::.int .u32 (m.cmd.p.mask.toNat:Int)::.int .u32 (m.cmd.p.lab.toNat:Int)::(fc m.cmd.p.f++f::.int .u32 (m.cmd.mask.toNat:Int) ::
 .int .i64 m.tok.dev::.int .i64 m.tok.ep::.int .i64 m.tok.sq::.int .i64 m.tok.cu ::
 .int .i64 m.rep.kd::.int .i64 m.rep.dev::.int .i64 m.rep.req::.int .i64 m.rep.code::.int .i64 m.rep.id::.int .i64 m.rep.ver::.int .i64 m.rep.sq::.int .i64 m.rep.ep::g::.int .u32 (m.rep.mask.toNat:Int) ::
 .int .i64 m.page.code::.bool m.page.reset::.int .i64 m.page.fr.dev::.int .i64 m.page.fr.ep::.int .i64 m.page.fr.sq::.int .i64 m.page.fr.cu::.int .i64 m.page.to.dev::.int .i64 m.page.to.ep::.int .i64 m.page.to.sq::.int .i64 m.page.to.cu::i ::
 [.int .i64 m.code]))
end

section
abbrev RE.c(a:RE):List MV:=a.k (.lst 5 (a.fl.map ND.c) false)
abbrev IT.ks(l:List IT):List (List MV):=l.map fun x=>.int .i64 x.kd::.int .i64 x.c.id::.int .i64 x.c.ver::.int .u32 (x.c.lab.toNat:Int)::fc x.c.f
abbrev PG.c(p:PG):List MV:=p.k (.lst 28 (IT.ks p.items) false)
abbrev CM.c(c:CM):List MV:=c.k (.lst 5 (c.fl.map ND.c) false)
def eK(σ:St):List MV→List MV→Prop
 | [],[]=>True
 | m::ms,m'::ms'=>View σ m m'∧eK σ ms ms'
 | _,_=>False
theorem eK.same{σ:St}:∀ms:List MV,eK σ ms ms
 | []=>trivial
 | m::ms=>⟨.same m,eK.same ms⟩
theorem eK.app{σ:St}:∀{a b c d:List MV},eK σ a b→eK σ c d→eK σ (a++c) (b++d)
 | [],[],_,_,_,h=>h
 | _::_,_::_,_,_,h,k=>⟨h.1,eK.app h.2 k⟩
theorem eK.len{σ:St}:∀{a b:List MV},eK σ a b→a.length=b.length
 | [],[],_=>rfl
 | _::_,_::_,h=>congrArg (·+1) (eK.len h.2)
theorem eK.at{σ:St}:∀{a b:List MV},eK σ a b→∀(i:Nat) (m m':MV),a[i]?=some m→b[i]?=some m'→View σ m m'
 | _::_,_::_,h,0,m,m',h1,h2=>by simp at h1 h2;subst h1 h2;exact h.1
 | _::_,_::_,h,i+1,m,m',h1,h2=>by simp at h1 h2;exact h.2.at i m m' h1 h2
theorem View.aZ{σ:St}{e:Nat}{xs:List (List MV)}(h:xs=[]):View σ .aZ (.lst e xs false):=by subst h;exact .nil e false
theorem AG{f:F8}{r:List MV}:(fc f++r).all MV.aF=r.all MV.aF:=by rw[List.all_append,eL,Bool.true_and]
theorem wX{f:F8}{a b:List MV}:(fc f++a)++b=fc f++(a++b):=List.append_assoc _ _ _
theorem K9:((UInt32.toNat 0:Nat):Int)=0:=rfl
theorem RE.cell(a:RE):a.c.all MV.aF=true:=rfl
theorem PG.cell(a:PG):a.c.all MV.aF=true:=rfl
theorem CM.cell(c:CM):c.c.all MV.aF=true:=by
 simp only[CM.c,CM.k,List.all_cons,List.all_append,eL];rfl
end

section
theorem Inv.grow{Φ:Phi}{w w':World}{σ:St}(hi:Inv Φ w σ)(h1:w'.os=w.os)(h2:w'.tape=w.tape)(h3:w'.output=w.output)(h4:drw w≤drw w')(h5:w.heap.size≤w'.heap.size)(hb:∀k,k<w.heap.size→w'.heap[k]?=w.heap[k]?) :
  Inv Φ w' σ∧Step Φ σ w Φ σ w' :=
 ⟨⟨fun l o h=>(hi.own l o h).mono (.refl Φ) fun p R hp hR=>by
   obtain⟨p',hp',hlt⟩:=(hi.own l o h).place
   rw[hp] at hp';cases hp'
   exact hb R (hlt R hR),hi.inj,fun a v h=>by
   rw[World.dK (hb _ (World.block_lt_of_cell? w a (hi.snap a v h)))]
   exact hi.snap a v h,hi.apart,hi.fresh⟩,
  ⟨.refl Φ,h1,h2,h3,h4,h5,fun k hk _=>hb k hk,fun _ _ h=>.inl h,fun l o h=>.inl ⟨o,h⟩,fun _ h=>.inl h⟩⟩
structure l8 (Φ0:Phi) (σ0:St) (n0:Nat) (Φ:Phi) (σ:St):Prop where
 le:Φ0.le Φ
 snapn:∀a v,Φ.snap a=some v→Φ0.snap a=some v∨n0≤a.block∨aN Φ0 σ0 a.block
 locs:∀l o,σ l=some o→(∃o',σ0 l=some o')∨Φ0.obj l=none
 ownd:∀R,aN Φ σ R→aN Φ0 σ0 R∨n0≤R
theorem l8.of{Φ Φ':Phi}{σ σ':St}{w w':World}(h:Step Φ σ w Φ' σ' w'):l8 Φ σ w.heap.size Φ' σ':=⟨h.le,h.snapn,h.locs,h.ownd⟩
theorem l8.step{Φ0 Φ Φ':Phi}{σ0 σ σ':St}{n0:Nat}{w w':World}(h:l8 Φ0 σ0 n0 Φ σ)(hn:n0≤w.heap.size)(k:Step Φ σ w Φ' σ' w'):l8 Φ0 σ0 n0 Φ' σ' where
 le:=h.le.trans k.le
 snapn:=fun a v hv=>by
  rcases k.snapn a v hv with q|q|q
  ·exact h.snapn a v q
  ·exact .inr (.inl (Nat.le_trans hn q))
  ·rcases h.ownd _ q with q|q
   ·exact .inr (.inr q)
   ·exact .inr (.inl q)
 locs:=fun l o hl=>by
  rcases k.locs l o hl with⟨o',q⟩|q
  ·exact h.locs l o' q
  ·right
   cases hl:Φ0.obj l with
   | none=>rfl
   | some p=>have:=h.le.obj l p hl;simp[this] at q
 ownd:=fun R hR=>by
  rcases k.ownd R hR with q|q
  ·exact h.ownd R q
  ·exact .inr (Nat.le_trans hn q)
structure CSt (Φ0:Phi) (σ0:St) (n0:Nat) (tmps:Array Value) (fc:FR) (l:Nat) (st:Loop) (σ:St) (S:YS) (Φ:Phi):Prop where
 inv:Inv Φ S.w σ
 frame:bS Φ tmps fc
 step:l8 Φ0 σ0 n0 Φ σ
 wr:∀k,S.wr k↔(aN Φ σ k∨k=l)
 sn:∀a,S.sn a=Φ.snap a
 lrec:S.w.heap[l]?=some (.loop st)
 size:n0≤S.w.heap.size
 base:Φ.base≤S.w.heap.size
theorem Inv.uD{Φ:Phi}{w:World}{σ:St}(hi:Inv Φ w σ){l:Nat}{st:Loop}(h:w.heap[l]?=some (.loop st)):¬aN Φ σ l :=
 hi.qG (fun c t fz e=>by rw[h] at e;cases e) (fun c k e=>by rw[h] at e;cases e) (fun _ _ _ _ e=>by rw[h] at e;cases e)
theorem CSt.agree{Φ0 Φ:Phi}{σ0 σ:St}{n0:Nat}{tmps:Array Value}{fc:FR}{l:Nat}{st:Loop}{S:YS}(h:CSt Φ0 σ0 n0 tmps fc l st σ S Φ):jQ S S.w :=
 ⟨fun _ _=>rfl,fun k hk=>by
  rcases (h.wr k).1 hk with q|rfl
  ·obtain⟨l',o,p,h1,h2,h3⟩:=q
   obtain⟨p',e,hlt⟩:=(h.inv.own l' o h1).place
   rw[h2] at e;cases e
   exact hlt k h3
  ·exact(Array.getElem?_eq_some_iff.1 h.lrec).1,(fun k hk x e=>by
  rcases (h.wr k).1 hk with q|rfl
  ·exact h.inv.mark e q
  ·rw[h.lrec] at e;cases e),fun a v q=>h.inv.snap a v (by rw[←h.sn a];exact q),Nat.le_refl _,rfl,rfl,rfl,Nat.le_refl _⟩
theorem CSt.at{Φ0 Φ:Phi}{σ0 σ:St}{n0:Nat}{tmps:Array Value}{fc:FR}{l:Nat}{st:Loop}{S:YS}(h:CSt Φ0 σ0 n0 tmps fc l st σ S Φ){w:World}(ha:jQ S w){Ψ:Phi}(ho:∀m,Ψ.obj m=none)
 (hs:∀a v,Ψ.snap a=some v→w.cell? a=some v∧¬S.wr a.block∧(Φ0.snap a=some v∨n0≤a.block∨aN Φ0 σ0 a.block)) :
  ∃Φ',Inv Φ' w σ∧bS Φ' tmps fc∧l8 Φ0 σ0 n0 Φ' σ∧(∀k,aN Φ' σ k↔aN Φ σ k)∧(∀a v,Φ'.snap a=some v→S.sn a=some v∨Ψ.snap a=some v)∧(∀v m,Rel Ψ v m→Rel Φ' v m)∧w.heap[l]?=some (.loop st)∧Φ'.base≤w.heap.size:=by
 obtain⟨Φ',hΦ⟩:∃Φ':Phi,Φ'={ Φ with snap:=fun a=>match Φ.snap a with|some v=>some v|none=>Ψ.snap a }:=⟨_,rfl⟩
 have hle:Φ.le Φ':=by subst hΦ;exact⟨fun a v q=>by simp[q],fun _ _ q=>q,rfl⟩
 have hobj:Φ'.obj=Φ.obj:=by subst hΦ;rfl
 have hb:Φ'.base=Φ.base:=by subst hΦ;rfl
 have hsn:∀a v,Φ'.snap a=some v→Φ.snap a=some v∨Ψ.snap a=some v:=fun a v q=>by
  subst hΦ
  simp only at q
  cases e:Φ.snap a with
  | none=>rw[e] at q;exact .inr q
  | some u=>rw[e] at q;exact .inl q
 have hwr:∀k,aN Φ σ k→w.heap[k]?=S.w.heap[k]?:=fun k hk=>ha.same k ((h.wr k).2 (.inl hk))
 have hown:∀k,aN Φ' σ k↔aN Φ σ k:=fun k=>by unfold aN;rw[hobj]
 refine⟨Φ',⟨fun l' o hl=>(h.inv.own l' o hl).mono hle fun p R h1 h2=>hwr R ⟨l',o,p,hl,h1,h2⟩,fun a b o o' p p' R h1 h2 h3 h4=>?_,fun a v q=>?_,fun l' o p R a v h1 h2 h3 q=>?_,?_⟩,h.frame.mono hle,⟨h.step.le.trans hle,fun a v q=>?_,h.step.locs,fun R hR=>h.step.ownd R ((hown R).1 hR)⟩,hown,fun a v q=>?_,fun v m r=>?_,?_,?_⟩
 ·rw[hobj] at h3 h4;exact h.inv.inj a b o o' p p' R h1 h2 h3 h4
 ·rcases hsn a v q with q|q
  ·exact ha.sn a v (by rw[h.sn a];exact q)
  ·exact(hs a v q).1
 ·rw[hobj] at h2
  rcases hsn a v q with q|q
  ·exact h.inv.apart l' o p R a v h1 h2 h3 q
  ·intro e
   exact(hs a v q).2.1 ((h.wr _).2 (.inl ⟨l',o,p,h1,h2,e ▸ h3⟩))
 ·obtain⟨n,hn⟩:=h.inv.fresh.1.1
  exact⟨⟨⟨n,fun k hk=>by rw[hobj];exact hn k hk⟩,fun k p hk=>h.inv.fresh.1.2 k p (by rw[←hobj];exact hk)⟩,fun g i v q=>hle.snap _ _ (h.inv.fresh.2.1 g i v q),h.inv.fresh.2.2.mono hle.snap⟩
 ·rcases hsn a v q with q|q
  ·exact h.step.snapn a v q
  ·exact(hs a v q).2.2
 ·rcases hsn a v q with q|q
  ·exact .inl (by rw[h.sn a];exact q)
  ·exact .inr q
 ·refine r.yL (fun a u q=>?_) (fun l' p q=>by rw[ho l'] at q;cases q)
  have h1:=(hs a u q).1
  subst hΦ
  simp only
  cases e:Φ.snap a with
  | none=>exact q
  | some u' =>
   have h2:=ha.sn a u' (by rw[h.sn a];exact e)
   rw[h1] at h2
   simpa using h2.symm
 ·rw[ha.same l ((h.wr l).2 (.inr rfl))];exact h.lrec
 ·rw[hb];exact Nat.le_trans h.base ha.size
def GU(K:FR→St→Prop):MQ
 | .normal,f,σ=>K f σ
 | _,_,_=>False
def vI(Q:MQ)(fc:FR)(nxt:St→Prop):MQ
 | .normal,f,σ=>Gh f σ fun _ σ1=>nxt σ1
 | .ret,f,σ=>Gh f σ fun _ σ1=>Q .ret fc σ1
 | .exit id,f,σ=>Gh f σ fun _ σ1=>Q (.exit id) fc σ1
 | _,_,_=>False
theorem Hc{P:Program}{Φ0:Phi}{σ0:St}{n0:Nat}{tmps:Array Value}{fc:FR}{l:Nat}{fn:FuncId}{ps:Array Tmp}{assign body:Code}{Q:MQ}{nxt:St→Prop}{D:Nat}{σ:St}{S:YS}{Φ:Phi}{x:List MV}{w:World}{Ψ:Phi}{vs:Array Value}
 (rec:LoopState→Option Code→Loop)(hrec:rec=fun st pe=>{ state:=st,pending:=pe,fn,tmps,params:=ps,assign,body,defers:=D })
 (nda:fL assign=true)(ndb:fL body=true)(hx:x.length=ps.size)
 (hr:mwp P assign (lA ⟨fc.n,fc.l,[]⟩ ps.toList x) σ (GU fun f1 σ1=>mwp P body f1 σ1 (vI Q fc nxt)))
 (h:CSt Φ0 σ0 n0 tmps fc l (rec .ready none) σ S Φ)(ha:jQ S w)(hn0:n0≤w.heap.size)(ho:∀m,Ψ.obj m=none)
 (hs:∀a v,Ψ.snap a=some v→w.cell? a=some v∧¬S.wr a.block∧(Φ0.snap a=some v∨n0≤a.block∨aN Φ0 σ0 a.block))(hv:eI Ψ vs x) :
  YieldAt Fence.wide 0 P l vs w fun e w'=>∃b S',e=.returned (.bool b)∧S'.w=w'∧jQ S' w'∧w'.os=w.os∧w'.tape=w.tape∧w'.output=w.output∧drw w≤drw w'∧w.heap.size≤w'.heap.size ∧
   (∀k,k<w.heap.size→¬S.wr k→w'.heap[k]?=w.heap[k]?)∧(∀k,S'.wr k→S.wr k∨w.heap.size≤k) ∧
   (∀a v,S'.sn a=some v→S.sn a=some v∨S.wr a.block∨w.heap.size≤a.block∨Ψ.snap a=some v) ∧
   (if b=true then ∃σ1 Φ1,nxt σ1∧CSt Φ0 σ0 n0 tmps fc l (rec .ready none) σ1 S' Φ1 else ∃c σ1 Φ1,((c=.ret∧Q .ret fc σ1)∨∃id,c=.exit id∧Q (.exit id) fc σ1)∧CSt Φ0 σ0 n0 tmps fc l (rec .done (some c)) σ1 S' Φ1):=by
 obtain⟨Φc,i1,fr1,c1,o1,s1,r1,l1,b1⟩:=h.at ha ho hs
 have hl:l<w.heap.size:=(Array.getElem?_eq_some_iff.1 l1).1
 have hwl:S.wr l:=(h.wr l).2 (.inr rfl)
 have hy:=run_yield (P:=P) (args:=vs) l1 (by rw[hrec];exact hv.1.trans hx)
 rw[hrec] at hy
 refine⟨fn,_,assign,body,hy,roundIn_of_wpIn trivial ?_⟩
 have hfr:bS Φc ((ps.zip vs).foldl (fun t (p:Tmp × Value)=>t.setIfInBounds p.1 p.2) tmps) (lA ⟨fc.n,fc.l,[]⟩ ps.toList x):=by
  rw[Dg]
  refine sU ps.toList x vs.toList tmps ⟨fc.n,fc.l,[]⟩ fr1 (by simpa using hv.1) fun i m hm=>?_
  have:=r1 _ _ (hv.2 i m hm)
  simpa[Array.getD_eq_getD_getElem?,List.getD_eq_getElem?_getD] using this
 refine wpIn_mono (hr (Fence.wide.inRound l) (.inr ⟨l,rfl,nda⟩) Φc w { tmps:=_,defers:=[] } i1 hfr (by rw[IQ];exact⟨rfl,b1⟩)) ?_
 rintro e a₁ w₁ ⟨f2,σ2,Φ2,d2,fr2,i2,st2,q⟩
 cases e with
 | normal =>
  have hnl:¬aN Φc σ l:=i1.uD l1
  have hl2:w₁.heap[l]?=some (.loop (rec .ready none)):=(st2.block l hl hnl).trans l1
  refine⟨_,run_beginRound hl2 (by rw[hrec]),?_⟩
  obtain⟨w₂,hw2⟩:∃w₂,w₁.putObj l (.loop { rec .ready none with state:=.busy })=w₂:=⟨_,rfl⟩
  rw[hw2]
  have i2':Inv Φ2 w₂ σ2:=by rw[←hw2];exact i2.putObj _ hl2 (fun _ _ _ e=>by cases e) (fun _ _ e=>by cases e)
  have sz2:w₂.heap.size=w₁.heap.size:=by rw[←hw2,World.putObj_size]
  have ll2:w₂.heap[l]?=some (.loop { rec .ready none with state:=.busy }):=by rw[←hw2];exact World.putObj_heap_same (Array.getElem?_eq_some_iff.1 hl2).1
  have d2':cF Φ2 w₂ a₁.defers f2.d:=d2.mono (.refl _) (by omega) fun D' hD=>by
   rw[←hw2,World.putObj_heap_other]
   ·exact hD
   ·rintro rfl;rw[hl2] at hD;cases hD
  have q:mwp P body f2 σ2 (vI Q fc nxt):=q
  refine wpIn_mono (q (Fence.wide.inRound l) (.inr ⟨l,rfl,ndb⟩) Φ2 w₂ a₁ i2' fr2 d2') ?_
  rintro e a₃ w₃ ⟨f3,σ3,Φ3,d3,fr3,i3,st3,q3⟩
  have hnl2:¬aN Φ2 σ2 l:=i2'.uD ll2
  have hl3:w₃.heap[l]?=some (.loop { rec .ready none with state:=.busy }):=(st3.block l (Array.getElem?_eq_some_iff.1 ll2).1 hnl2).trans ll2
  -- what a round comes to,whichever way it is left
  have fin:∀(jump:Option Code) (st:Loop) (σ4:St) (K:FR→St→Prop),st=rec (if jump.isNone then .ready else .done) jump→Gh f3 σ3 K →
    ∃σ4 f4 Φ4,K f4 σ4∧(Instr.endRound l jump).run P w₃=.ok (.bool jump.isNone) (w₃.putObj l (.loop st)) ∧
     (∃S':YS,S'.w=w₃.putObj l (.loop st)∧jQ S' (w₃.putObj l (.loop st))∧(w₃.putObj l (.loop st)).os=w.os∧(w₃.putObj l (.loop st)).tape=w.tape∧(w₃.putObj l (.loop st)).output=w.output∧drw w≤drw (w₃.putObj l (.loop st))∧w.heap.size≤(w₃.putObj l (.loop st)).heap.size ∧
      (∀k,k<w.heap.size→¬S.wr k→(w₃.putObj l (.loop st)).heap[k]?=w.heap[k]?)∧(∀k,S'.wr k→S.wr k∨w.heap.size≤k) ∧
      (∀a v,S'.sn a=some v→S.sn a=some v∨S.wr a.block∨w.heap.size≤a.block∨Ψ.snap a=some v)∧CSt Φ0 σ0 n0 tmps fc l st σ4 S' Φ4):=by
   intro jump st _ K hst hg
   obtain⟨f4,σ4,Φ4,-,k4,i4,fr4,st4⟩:=hg Φ3 w₃ a₃.tmps i3 fr3
   have hend:=run_endRound (P:=P) jump hl3
   have hst':({ ({ rec .ready none with state:=.busy }:Loop) with state:=if jump.isNone then .ready else .done,pending:=jump }:Loop)=st:=by rw[hst,hrec]
   rw[hst'] at hend
   refine⟨σ4,f4,Φ4,k4,hend,?_⟩
   obtain⟨w₄,hw4⟩:∃w₄,w₃.putObj l (.loop st)=w₄:=⟨_,rfl⟩
   rw[hw4]
   have sz4:w₄.heap.size=w₃.heap.size:=by rw[←hw4,World.putObj_size]
   have i4':Inv Φ4 w₄ σ4:=by rw[←hw4];exact i4.putObj _ hl3 (fun _ _ _ e=>by cases e) (fun _ _ e=>by cases e)
   have cs:l8 Φ0 σ0 n0 Φ4 σ4:=((c1.step hn0 st2).step (w:=w₂) (by have:=st2.size;omega) st3).step (w:=w₃) (by have:=st2.size;have:=st3.size;omega) st4
   have hsz:w.heap.size≤w₃.heap.size:=by have:=st2.size;have:=st3.size;omega
   have oth:∀k,k≠l→w₄.heap[k]?=w₃.heap[k]?:=fun k hk=>by rw[←hw4];exact World.putObj_heap_other hk
   have oth2:∀k,k≠l→w₂.heap[k]?=w₁.heap[k]?:=fun k hk=>by rw[←hw2];exact World.putObj_heap_other hk
   have ow:∀k,aN Φ4 σ4 k→S.wr k∨w.heap.size≤k:=fun k hk=>by
    rcases st4.ownd k hk with q|q
    ·rcases st3.ownd k q with q|q
     ·rcases st2.ownd k q with q|q
      ·exact .inl ((h.wr k).2 (.inl ((o1 k).1 q)))
      ·exact .inr q
     ·have:=st2.size;exact .inr (by omega)
    ·exact .inr (by omega)
   have hcst:CSt Φ0 σ0 n0 tmps fc l st σ4 ⟨w₄,fun k=>aN Φ4 σ4 k∨k=l,Φ4.snap⟩ Φ4 :=
    ⟨i4',fr1.mono ((st2.le.trans st3.le).trans st4.le),cs,fun _=>Iff.rfl,fun _=>rfl,by simp only;rw[←hw4];exact World.putObj_heap_same (Array.getElem?_eq_some_iff.1 hl3).1,by simp only;omega,by
     simp only
     rw[st4.le.base,st3.le.base,st2.le.base];omega⟩
   refine⟨⟨w₄,fun k=>aN Φ4 σ4 k∨k=l,Φ4.snap⟩,rfl,hcst.agree,?_,?_,?_,?_,by omega,fun k hk hw=>?_,fun k hk=>?_,fun a v hv=>?_,hcst⟩
   ·have e1:w₄.os=w₃.os:=by rw[←hw4];rfl
    have e2:w₂.os=w₁.os:=by rw[←hw2];rfl
    rw[e1,st3.os,e2,st2.os]
   ·have e1:w₄.tape=w₃.tape:=by rw[←hw4];rfl
    have e2:w₂.tape=w₁.tape:=by rw[←hw2];rfl
    rw[e1,st3.tape,e2,st2.tape]
   ·have e1:w₄.output=w₃.output:=by rw[←hw4];rfl
    have e2:w₂.output=w₁.output:=by rw[←hw2];rfl
    rw[e1,st3.output,e2,st2.output]
   ·have e1:drw w₄=drw w₃:=by rw[←hw4];rfl
    have e2:drw w₂=drw w₁:=by rw[←hw2];rfl
    have:=st2.drawn
    have:=st3.drawn
    omega
   ·have hkl:k≠l:=fun e=>hw (e ▸ hwl)
    have hno:¬aN Φc σ k:=fun q=>hw ((h.wr k).2 (.inl ((o1 k).1 q)))
    have hno2:¬aN Φ2 σ2 k:=fun q=>(st2.ownd k q).elim hno (fun q=>by omega)
    rw[oth k hkl,st3.block k (by have:=st2.size;omega) hno2,oth2 k hkl,st2.block k hk hno]
   ·rcases hk with q|rfl
    ·exact ow k q
    ·exact .inl hwl
   ·have hv:Φ4.snap a=some v:=hv
    have ow3:∀k,aN Φ3 σ3 k→S.wr k∨w.heap.size≤k:=fun k hk=>by
     rcases st3.ownd k hk with q|q
     ·rcases st2.ownd k q with q|q
      ·exact .inl ((h.wr k).2 (.inl ((o1 k).1 q)))
      ·exact .inr q
     ·have:=st2.size;exact .inr (by omega)
    have ow2:∀k,aN Φ2 σ2 k→S.wr k∨w.heap.size≤k:=fun k hk=>by
     rcases st2.ownd k hk with q|q
     ·exact .inl ((h.wr k).2 (.inl ((o1 k).1 q)))
     ·exact .inr q
    have tw:S.wr a.block∨w.heap.size≤a.block→S.sn a=some v∨S.wr a.block∨w.heap.size≤a.block∨Ψ.snap a=some v:=fun q=>q.elim (fun q=>.inr (.inl q)) (fun q=>.inr (.inr (.inl q)))
    rcases st4.snapn a v hv with q|q|q
    ·rcases st3.snapn a v q with q|q|q
     ·rcases st2.snapn a v q with q|q|q
      ·rcases s1 a v q with q|q
       ·exact .inl q
       ·exact .inr (.inr (.inr q))
      ·exact tw (.inr q)
      ·exact tw (.inl ((h.wr _).2 (.inl ((o1 _).1 q))))
     ·have:=st2.size;exact tw (.inr (by omega))
     ·exact tw (ow2 _ q)
    ·exact tw (.inr (by omega))
    ·exact tw (ow3 _ q)
  cases e with
  | normal =>
   obtain⟨σ4,f4,Φ4,k4,hend,S',hS1,hS2,hS3,hS4,hS5,hS6,hS7,hS8,hS9,hS10,hS11⟩:=fin none (rec .ready none) σ3 _ rfl q3
   exact⟨_,_,hend,true,S',rfl,hS1,hS2,hS3,hS4,hS5,hS6,hS7,hS8,hS9,hS10,σ4,Φ4,k4,hS11⟩
  | ret =>
   obtain⟨σ4,f4,Φ4,k4,hend,S',hS1,hS2,hS3,hS4,hS5,hS6,hS7,hS8,hS9,hS10,hS11⟩:=fin (some .ret) (rec .done (some .ret)) σ3 _ rfl q3
   exact⟨_,_,hend,false,S',rfl,hS1,hS2,hS3,hS4,hS5,hS6,hS7,hS8,hS9,hS10,.ret,σ4,Φ4,.inl ⟨rfl,k4⟩,hS11⟩
  | exit id =>
   obtain⟨σ4,f4,Φ4,k4,hend,S',hS1,hS2,hS3,hS4,hS5,hS6,hS7,hS8,hS9,hS10,hS11⟩:=fin (some (.exit id)) (rec .done (some (.exit id))) σ3 _ rfl q3
   exact⟨_,_,hend,false,S',rfl,hS1,hS2,hS3,hS4,hS5,hS6,hS7,hS8,hS9,hS10,.exit id,σ4,Φ4,.inr ⟨id,rfl,k4⟩,hS11⟩
  | goto l=>exact q3.elim
  | panic c=>exact q3.elim
  | outgrown=>exact q3.elim
 | exit id=>exact q.elim
 | goto l=>exact q.elim
 | ret=>exact q.elim
 | panic c=>exact q.elim
 | outgrown=>exact q.elim
end

section
theorem St.mK(σ τ:St):(σ.minus τ).le σ:=fun l o h=>(bT h).2
theorem r5{P:Program}{g:Operand}{ps:Array Tmp}{assign body:Code}{f:FR}{σ:St}{Q:MQ}{gf:FuncId}{ns:List MV}(hg:aB f g=.fn (.func gf) [] ns){σi:St}(hle:σi.le σ){xs:List (List MV)}
 (hseq:E8 P gf ns σi xs)(hx:∀x,x∈xs→x.length=ps.size)(nda:fL assign=true)(ndb:fL body=true){α:Type}(fc:FR)(hd0:fc.d=f.d)(S:Nat→α→St)(p:Nat→α→Prop)
 (h0:Gh f (σ.minus σi) fun f1 σ1=>f1=fc∧∃a,σ1=S 0 a∧p 0 a)
 (round:∀i x a,xs[i]?=some x→p i a→mwp P assign (lA ⟨fc.n,fc.l,[]⟩ ps.toList x) (S i a) (GU fun f1 σ1=>mwp P body f1 σ1 (vI Q fc fun σ2=>∃b,σ2=S (i+1) b∧p (i+1) b)))
 (done:∀a,p xs.length a→Q .normal fc (S xs.length a)):mwp P (.rangeFunc g ps assign body) f σ Q:=by
 intro F hF Φ w a hi hr hd
 have hF':F=Fence.wide:=by
  rcases hF with h|⟨l,_,h⟩
  ·exact h
  ·cases h
 subst hF'
 obtain⟨f1,σ1,Φ1,-,⟨rfl,a0,rfl,p0⟩,i1,r1,st1⟩:=h0 Φ w a.tmps (hi.less (St.mK σ σi)) hr
 have hv:=aD hr g
 rw[hg] at hv
 obtain⟨first,cap,he,hfirst,hcap⟩:=hv.lK
 have hfe:first=#[]:=by
  have:=hfirst.1
  exact Array.eq_empty_of_size_eq_zero (by simpa using this)
 subst hfe
 obtain⟨fnn,hfn,hbody,hname⟩:=hseq.1
 have eg:∀(args:Array Value) (w:World),(callFunc gf args).run P w=.ok (.enter gf args) w:=fun args w=>by
  simp only[callFunc,Sem.run_bind,run_program,hfn,hname,hbody,Result.andThen_ok,Bool.false_eq_true,if_false,Sem.run_pure]
 refine wpIn_rangeFunc fun fn _=>?_
 obtain⟨rec,hrec⟩:∃rec:LoopState→Option Code→Loop,rec=fun st pe=>{ state:=st,pending:=pe,fn,tmps:=a.tmps,params:=ps,assign,body,defers:=w.heap.size }:=⟨_,rfl⟩
 obtain⟨W1,hW1⟩:∃W1,(w.alloc (.deferred (some []))).alloc (.loop (rec .ready none))=W1:=⟨_,rfl⟩
 have sz1:W1.heap.size=w.heap.size+2:=by rw[←hW1,World.size_alloc,World.size_alloc]
 have old:∀k,k<w.heap.size→W1.heap[k]?=w.heap[k]?:=fun k hk=>by
  rw[←hW1]
  show((w.heap.push _).push _)[k]?=_
  rw[Array.getElem?_push,if_neg (by simp;omega),Array.getElem?_push,if_neg (by omega)]
 have hL:W1.heap[w.heap.size+1]?=some (.loop (rec .ready none)):=by
  rw[←hW1];have:=World.alloc_heap_new (w.alloc (.deferred (some []))) (.loop (rec .ready none));rwa [World.size_alloc] at this
 have hD:W1.heap[w.heap.size]?=some (Obj.deferred (some [])):=by
  rw[←hW1]
  show((w.heap.push _).push _)[w.heap.size]?=_
  rw[Array.getElem?_push,if_neg (by simp),Array.getElem?_push,if_pos rfl]
 have eos:W1.os=w.os:=by rw[←hW1];rfl
 have eta:W1.tape=w.tape:=by rw[←hW1];rfl
 have eou:W1.output=w.output:=by rw[←hW1];rfl
 have edr:drw W1=drw w:=by rw[←hW1];rfl
 have gr:∀{Φ:Phi} {σ:St},Inv Φ w σ→Inv Φ W1 σ∧Step Φ σ w Φ σ W1:=fun h=>h.grow eos eta eou (by omega) (by omega) old
 have own1:∀k,aN Φ1 (S 0 a0) k→aN Φ (σ.minus σi) k:=fun k hk=>by
  rcases st1.ownd k hk with q|q
  ·exact q
  ·exfalso
   obtain⟨l,o,p,h1,h2,h3⟩:=hk
   obtain⟨p',e,hlt⟩:=(i1.own l o h1).place
   rw[h2] at e;cases e
   have:=hlt k h3
   omega
 have ownσ:∀{τ:St},τ.le σ→∀k,aN Φ τ k→aN Φ σ k:=fun hτ k hk=>hk.less hτ
 have apart2:∀k,aN Φ (σ.minus σi) k→¬aN Φ σi k:=fun k ⟨l,o,p,h1,h2,h3⟩ ⟨l',o',p',h4,h5,h6⟩=>by
  have e:=hi.inj l l' o o' p p' k (bT h1).2 (hle l' o' h4) h2 h5 h3 h6
  subst e
  have:=(bT h1).1
  rw[h4] at this;cases this
 have hb:=hd.base
 obtain⟨S0,hS0⟩:∃S0:YS,S0=⟨W1,fun k=>aN Φ1 (S 0 a0) k∨k=w.heap.size+1,Φ1.snap⟩:=⟨_,rfl⟩
 have c0:l8 Φ σ w.heap.size Φ1 (S 0 a0):=⟨st1.le,fun b v q=>(st1.snapn b v q).imp_right (fun q=>q.imp_right (ownσ (St.mK _ _) _)),fun l o q=>by
  rcases st1.locs l o q with⟨o',h⟩|h
  ·exact .inl ⟨o',(bT h).2⟩
  ·exact .inr h,fun R hR=>.inl (ownσ (St.mK _ _) _ (own1 R hR))⟩
 have cst0:CSt Φ σ w.heap.size a.tmps f1 (w.heap.size+1) (rec .ready none) (S 0 a0) S0 Φ1:=by
  subst hS0
  exact⟨(gr i1).1,r1,c0,fun _=>Iff.rfl,fun _=>rfl,hL,by simp only;omega,by simp only;rw[st1.le.base];omega⟩
 have apt0:Apt Φ σi S0 W1:=by
  have hag:=cst0.agree
  subst hS0
  refine⟨hag,fun k hk=>?_,fun b v q'=>?_,fun b v q hk=>?_⟩
  ·rcases hk with hk|rfl
   ·exact apart2 k (own1 k hk)
   ·exact(gr (hi.less hle)).1.uD hL
  ·rintro⟨l,o,p,h1,h2,h3⟩
   rcases st1.snapn b v q' with q|q|q
   ·exact hi.apart l o p b.block b v (hle l o h1) h2 h3 q rfl
   ·have hlt:=World.block_lt_of_cell? w b (i1.snap b v q')
    omega
   ·exact apart2 _ q ⟨l,o,p,h1,h2,h3⟩
  ·have hbl:=World.block_lt_of_cell? w b (hi.snap b v q)
   rcases hk with hk|hk
   ·obtain⟨l,o,p,h1,h2,h3⟩:=own1 _ hk
    exact hi.apart l o p b.block b v (bT h1).2 h2 h3 q rfl
   ·omega
 refine⟨w.heap.size+1,[{ target:=.collected w.heap.size,args:=#[] }],W1,{ target:=.fn (.func gf) cap,args:=#[.func (.yield (w.heap.size+1)) #[] #[]] },W1,gf,
  #[.func (.yield (w.heap.size+1)) #[] #[]]++cap,W1,?_,?_,fun _ _=>trivial,?_,(fun q=>by cases q),?_⟩
 ·rw[←hW1,hrec];exact run_enterLoop_outer _ _ _ _ _
 ·simp only[resolve,he]
  simp[go_sem]
 ·simp[invoke,go_sem,eg]
 ·refine callsIn_wide.2 ((hseq.2 (w.heap.size+1)
   (fun i Sx=>∃b Φc,p i b∧CSt Φ σ w.heap.size a.tmps f1 (w.heap.size+1) (rec .ready none) (S i b) Sx Φc)
   (fun Sx=>∃c σc Φc,((c=.ret∧Q .ret f1 σc)∨∃id,c=.exit id∧Q (.exit id) f1 σc)∧CSt Φ σ w.heap.size a.tmps f1 (w.heap.size+1) (rec .done (some c)) σc Sx Φc)
   Φ W1 S0 cap ?_ (gr (hi.less hle)).1 apt0 ⟨a0,Φ1,p0,cst0⟩ hcap).mono ?_)
  ·rintro i x Sx W Ψ vs hix ⟨b,Φc,pb,cs⟩ hag hsz ho hs hvs
   have hx':=hx x (List.mem_of_getElem? hix)
   have:=Hc (P:=P) rec hrec nda ndb hx' (round i x b hix pb) cs hag (by omega) ho (fun u v q=>⟨(hs u v q).1,(hs u v q).2.1,(hs u v q).2.2.imp_right fun q=>q.imp (fun q=>by omega) (ownσ hle _)⟩) hvs
   obtain⟨fn',t',as',bd',e1,e2⟩:=this
   refine⟨fn',t',as',bd',e1,e2.mono ?_⟩
   rintro e w' ⟨bb,S',q1,q2,q3,q4,q5,q6,q7,q8,q9,q10,q11,q12⟩
   refine⟨bb,S',q1,q2,q3,q4,q5,q6,q7,q8,q9,q10,q11,?_⟩
   cases bb with
   | true =>
    obtain⟨σ2,Φ2,⟨b',rfl,pb'⟩,cs'⟩:=q12
    exact⟨b',Φ2,pb',cs'⟩
   | false=>exact q12
  ·rintro e w3 ⟨v,Φe,σe,S',rfl,ie,apt,stS,hy⟩
   -- the loop's side behind the iterator
   have fin:∀(st:Loop) (σc:St) (Φc:Phi),CSt Φ σ w.heap.size a.tmps f1 (w.heap.size+1) st σc S' Φc→st.state≠.busy→∃w4,(Instr.endLoop (w.heap.size+1)).run P w3=.ok st.pending w4 ∧
     Inv Φc w4 σc∧Step Φ σ w Φc σc w4∧cF Φc w4 ({ target:=.collected w.heap.size,args:=#[] }::a.defers) f1.d:=by
    intro st σc Φc cs hbusy
    have hlr:w3.heap[w.heap.size+1]?=some (.loop st):=(apt.agree.same _ ((cs.wr _).2 (.inr rfl))).trans cs.lrec
    obtain⟨w4,hw4⟩:∃w4,w3.putObj (w.heap.size+1) (.loop { st with state:=.exhausted })=w4:=⟨_,rfl⟩
    have hend:=run_endLoop (P:=P) hlr hbusy
    rw[hw4] at hend
    have sz4:w4.heap.size=w3.heap.size:=by rw[←hw4,World.putObj_size]
    have szz:w.heap.size+2≤w3.heap.size:=by have:=stS.size;omega
    have i3:Inv Φc w3 σc:=by
     have hwr:∀k,aN Φc σc k→w3.heap[k]?=S'.w.heap[k]?:=fun k hk=>apt.agree.same k ((cs.wr k).2 (.inl hk))
     exact⟨fun l' o hl=>(cs.inv.own l' o hl).mono (.refl _) fun p R h1 h2=>hwr R ⟨l',o,p,hl,h1,h2⟩,cs.inv.inj,fun b u q=>apt.agree.sn b u (by rw[cs.sn b];exact q),cs.inv.apart,cs.inv.fresh⟩
    have i4:Inv Φc w4 σc:=by rw[←hw4];exact i3.putObj _ hlr (fun _ _ _ e=>by cases e) (fun _ _ e=>by cases e)
    have blk:∀k,k<w.heap.size→¬aN Φ σ k→w4.heap[k]?=w.heap[k]?:=fun k hk hn=>by
     rw[←hw4,World.putObj_heap_other (by omega),stS.block k (by omega) (fun q=>hn (ownσ hle k q)) (fun q=>?_),old k hk]
     subst hS0
     rcases q with q|q
     ·exact hn (ownσ (St.mK _ _) k (own1 k q))
     ·omega
    have hmark:w4.heap[w.heap.size]?=some (Obj.deferred (some [])):=by
     rw[←hw4,World.putObj_heap_other (by omega),stS.block _ (by omega) ((gr (hi.less hle)).1.mark hD) (fun q=>?_),hD]
     subst hS0
     rcases q with q|q
     ·exact(gr i1).1.mark hD q
     ·omega
    have step4:Step Φ σ w Φc σc w4 :=
     ⟨cs.step.le,by rw[←hw4];exact stS.os.trans eos,by rw[←hw4];exact stS.tape.trans eta,by rw[←hw4];exact stS.output.trans eou,by
      have e:drw w4=drw w3:=by rw[←hw4];rfl
      have:=stS.drawn;omega,by omega,blk,cs.step.snapn,cs.step.locs,cs.step.ownd⟩
    refine⟨w4,hend,i4,step4,.inl ⟨w.heap.size,rfl,by rw[cs.step.le.base];exact hb,hmark,fun y hy e=>?_,hd0 ▸ hd.step hi step4⟩⟩
    -- the mark is a new one
    have:∀(ds:List Deferred) (d:List (FuncId × List MV)),cF Φ w ds d→∀y,y∈ds→y.target≠.collected w.heap.size:=by
     intro ds
     induction ds with
     | nil=>intro d _ y hy;cases hy
     | cons z ds ih =>
      intro d h y hy
      rcases h with⟨D,k1,k2,k3,k4,k5⟩|⟨g,ms,r,cp,k1,k2,k3,k4⟩
      ·rcases List.mem_cons.1 hy with rfl|hy
       ·rw[k1];intro e;cases e
        have:=(Array.getElem?_eq_some_iff.1 k3).1
        omega
       ·exact ih d k5 y hy
      ·rcases List.mem_cons.1 hy with rfl|hy
       ·rw[k2];intro e;cases e
       ·exact ih r k4 y hy
    exact this a.defers f.d hd y hy e
   rcases hy with⟨b,Φc,pb,cs⟩|⟨c,σc,Φc,hc,cs⟩
   ·obtain⟨w4,hend,i4,s4,d4⟩:=fin _ _ _ cs (by rw[hrec];simp)
    refine⟨none,w4,by rw[hend,hrec],f1,_,Φc,d4,cs.frame,i4,s4,done b pb⟩
   ·obtain⟨w4,hend,i4,s4,d4⟩:=fin _ _ _ cs (by rw[hrec];simp)
    refine⟨some c,w4,by rw[hend,hrec],?_⟩
    rcases hc with⟨rfl,q⟩|⟨id,rfl,q⟩
    ·exact wpIn_ret ⟨f1,_,Φc,d4,cs.frame,i4,s4,q⟩
    ·exact wpIn_exit ⟨f1,_,Φc,d4,cs.frame,i4,s4,q⟩
end

section
section
variable {P:Program} {f:FR} {σ:St} {Q:MQ} {id:Nat} {a b l:List Oper} {x:Oper} {dr:Bool}
theorem KA:List.append (x::a) b=x::List.append a b:=rfl
theorem Lp:List.append ([]:List Oper) b=b:=rfl
end
attribute [go_sem] KA Lp
theorem vS{P:Program}{g:FuncId}{ms:List MV}{σ:St}{o:aO}{u:Nat→MV}{k:MV→St→Prop}(h:aA P g ms St.none fun v σ'=>∃l,v=u l∧σ'=St.none.set l o)(hk:∀l,σ l=none→R (bF (u l) (σ.set l o) k)):R (cN P g ms σ k) :=
 bM h (St.none_le σ) fun v σ' hv hf=>by
  obtain⟨l,rfl,rfl⟩:=hv
  rw[gW,aW,cP]
  refine hk l ?_
  rcases hf l o (aH _ _ _) with h|⟨o',h⟩
  ·exact h
  ·simp[St.none] at h
end

section
set_option maxRecDepth 100000
theorem Ke{a b:VA}:a=b↔a.kd=b.kd∧a.n=b.n∧a.s=b.s:=by
 obtain⟨a1,a2,a3⟩:=a
 obtain⟨b1,b2,b3⟩:=b
 simp
theorem oF{P:Program}{d:Nat}{t:TypeId}{fs:List (Nat × TypeId)}{xs ys:List MV}(hk:(td P t).k=.struct fs)(hp:dG P t=true):fY P (d+1) t (.agg xs) (.agg ys)=bG P (fY P d) xs ys fs:=by
 simp only[fY,hk,hp,if_true]
theorem A8{P:Program}{d n:Nat}{t e:TypeId}{xs ys:List MV}(hk:(td P t).k=.array n e)(hp:(td P e).ok=true):fY P (d+1) t (.agg xs) (.agg ys)=bG P (fY P d) xs ys ((List.range n).map fun i=>(i * (td P e).size,e)):=by
 simp only[fY,hk,hp,if_true]
theorem yC{P:Program}{d:Nat}{t:TypeId}{k k':IntKind}{a b:Int}(hk:(td P t).k=.int k'):fY P (d+1) t (.int k a) (.int k b)=some (decide (a=b)):=by
 simp only[fY,hk,if_true]
theorem Gj{P:Program}{d:Nat}{t:TypeId}{a b:ByteArray}(hk:(td P t).k=.str):fY P (d+1) t (.str a) (.str b)=some (decide (a=b)):=by
 simp only[fY,hk]
theorem LL:(td Tryz.prog 3).k=.int .i64:=by rw[td3]
theorem K8:(td Tryz.prog 23).k=.int .u32:=by rw[Ka]
theorem LM:(td Tryz.prog 9).k=.str:=by rw[td9]
theorem tD{l:List MV}{i:Nat}{f:F8}(hl:l=fc f)(h:i<8):cB (td Tryz.prog 54) l (i * 3)=.agg (f.get i).c:=by
 simp only[cB,BS,TK.isAgg,if_true,hl]
 exact congrArg MV.agg (oC h)
theorem Cv(d:Nat)(a b:VA):fY Tryz.prog (d+2) 54 (.agg a.c) (.agg b.c)=some (decide (a=b)):=by
 have hp:dG Tryz.prog 54=true:=by decide +kernel
 rw[oF (by rw[BS]) hp]
 simp only[bG,td3,td9,cB,TK.isAgg,Bool.false_eq_true,if_false,List.getD_cons_zero,List.getD_cons_succ,List.length_cons,List.length_nil,yC LL,Gj LM]
 simp[Ke,Bool.decide_and]
theorem JL{f g:F8}:f=g↔∀i,i∈List.range 8→f.get i=g.get i :=
 ⟨fun h i _=>by rw[h],fun h=>F8.ext fun i hi=>h i (List.mem_range.2 hi)⟩
theorem yB(d:Nat)(f g:F8):∀L:List Nat,(∀i,i∈L→i<8)→bG Tryz.prog (fY Tryz.prog (d+2)) (fc f) (fc g) (L.map fun i=>(i * 3,54))=some (decide (∀i,i∈L→f.get i=g.get i))
 | [],_=>by simp[bG]
 | i::L,h=>by
  have hi:=h i (by simp)
  have ih:=yB d f g L fun j hj=>h j (by simp[hj])
  have h3:(td Tryz.prog 54).size=3:=by rw[BS]
  have ho:(td Tryz.prog 54).ok=true:=by rw[BS]
  simp only[List.map_cons,bG]
  rw[tD rfl hi,tD rfl hi,ih,Cv,if_pos ⟨ho,by rw[h3,cG];omega,by rw[h3,cG];omega,by rw[h3];decide⟩]
  simp only[Option.map_some,List.forall_mem_cons]
  rw[Bool.decide_and]
theorem Gi(d:Nat)(f g:F8):fY Tryz.prog (d+3) 55 (.agg (fc f)) (.agg (fc g))=some (decide (f=g)):=by
 have h3:(td Tryz.prog 54).size=3:=by rw[BS]
 rw[A8 (n:=8) (e:=54) (by rw[Kb]) (by rw[BS]),h3,yB d f g _ (fun i hi=>List.mem_range.1 hi)]
 congr 1
 exact decide_eq_decide.mpr JL.symm
theorem J3{a b:PA}:a=b↔a.mask=b.mask∧a.lab=b.lab∧a.f=b.f:=by
 obtain⟨a1,a2,a3⟩:=a
 obtain⟨b1,b2,b3⟩:=b
 simp
theorem DX(d:Nat)(a b:PA):fY Tryz.prog (d+4) 57 (.agg a.c) (.agg b.c)=some (decide (a=b)):=by
 have hp:dG Tryz.prog 57=true:=by decide +kernel
 rw[oF (by rw[K6]) hp]
 simp only[bG,Ka,Kb,cB,TK.isAgg,if_true,Bool.false_eq_true,if_false,List.getD_cons_zero,List.getD_cons_succ,List.length_cons,List.length_nil,List.drop_succ_cons,List.drop_zero,gR (Nat.le_refl 24),cG,Gi,yC K8]
 simp[J3,Jc,Bool.decide_and]
abbrev IT.k(x:IT):List MV:=.int .i64 x.kd::.int .i64 x.c.id::.int .i64 x.c.ver::.int .u32 (x.c.lab.toNat:Int)::fc x.c.f
end

section
set_option maxRecDepth 100000
theorem le2{σ:St}{l k:Nat}{o o':aO}(h1:σ l=some o)(h2:σ k=some o'):((St.none.set l o).set k o').le σ:=St.aC (St.aC (St.none_le _) h1) h2
theorem BV{α:Type}{f:α→List MV}{l:List α}{ex:List (List MV)}:(l.map f++ex).take l.length=l.map f:=by rw[List.take_append_of_le_length (by simp),List.take_of_length_le (by simp)]
theorem Fs{α:Type}{f:α→List MV}{l:List α}{ex:List (List MV)}:(l.map f++ex).drop (l.length+1)=ex.drop 1:=by
 rw[List.drop_append,List.drop_eq_nil_of_le (by simp),List.nil_append];congr 1;simp
theorem La{α:Type}{f:α→List MV}{l:List α}{ex:List (List MV)}{σ:St}{q e:Nat}{t:TypeId}(h:σ q=some (.row t e (l.map f++ex))):View σ (.vec e q 0 l.length) (.lst e (l.map f) false):=by
 have:=View.vec (n:=l.length) (lo:=0) h (by simp)
 rwa [List.drop_zero,BV] at this
theorem eK.fc{σ:St}{f:F8}{a b:List MV}(h:eK σ a b):eK σ (fc f++a) (fc f++b):=eK.app (eK.same _) h
abbrev MS.c(m:MS):List MV:=m.k (.lst 5 (m.cmd.fl.map ND.c) false) (.lst 5 (m.rep.fl.map ND.c) false) (.lst 28 (IT.ks m.page.items) false)
theorem MS.cell(m:MS):m.c.all MV.aF=true:=by
 simp only[MS.c,MS.k,List.all_cons,AG];rfl
structure Sm (m:MS):Prop where
 f:m.cmd.fl.length≤1000000
 g:m.rep.fl.length≤1000000
 i:m.page.items.length≤1000000
end
end Go.Proofs.YtppdgejjmhdjhaaGreatDoor
