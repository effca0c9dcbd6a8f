/- Parts of the proof, joined; conditions: those that its theorems name. -/
import Derived.Test.YtppdgejjmhdjhaaGreatDoorMae
import Derived.Test.YtppdgejjmhdjhaaGreatDoorMah
set_option linter.unusedVariables false
set_option linter.unusedSimpArgs false
set_option maxHeartbeats 4000000
namespace Go.Proofs.YtppdgejjmhdjhaaGreatDoor
section
inductive Fk:Prop→Prop→Prop→Prop
 | i {c A B:Prop}:Fk (R (mif c A B)) (c→R A) (¬c→R B)
 | f {p:Prop} [Decidable p] {A B:Prop}:Fk (R (fR (.bool (decide p)) A B)) (p→R A) (¬p→R B)
 | g {p:Prop} [Decidable p] {A B:Prop}:Fk (R (bE (.bool (decide p)) true A B)) (p→R A) (¬p→R B)
 | h {p:Prop} [Decidable p] {A B:Prop}:Fk (R (bE (.bool (decide p)) false A B)) (¬p→R A) (p→R B)
theorem wK{p a b:Prop}(h1:a)(h2:b)(e:Fk p a b:=by first|exact .i|exact .f|exact .g|exact .h):p:=by
 cases e
 ·exact wI h1 h2
 ·exact wF h1 h2
 ·exact wG h1 h2
 ·exact wH h1 h2
inductive Fb:Prop→Prop→Prop→Prop
 | b {b:Bool} {A B:Prop}:Fb (R (fR (.bool b) A B)) (b=true→R A) (b=false→R B)
 | g {b want:Bool} {A B:Prop}:Fb (R (bE (.bool b) want A B)) (b=want→R A) (b=(!want)→R B)
theorem wB{p a b:Prop}(h1:a)(h2:b)(e:Fb p a b:=by first|exact .b|exact .g):p:=by
 cases e
 ·exact aS h1 h2
 ·exact aQ h1 h2
theorem wE{id:Nat}{l:List Oper}{f:FR}{σ:St}{Q:MQ}(h:R (fS Tryz.prog (fun _ _=>none) (@OfNat.ofNat (Array Oper) (nat_lit 0) (@_root_.id (OfNat (Array Oper) (nat_lit 0)) (OfNat.mk (l.toArray)))) (Q .normal) (@OfNat.ofNat (List Oper) (nat_lit 0) (@_root_.id (OfNat (List Oper) (nat_lit 0)) (OfNat.mk l))) f σ))
 (hchk:(chk l.toArray&&l.all fun o=>jJ o.op)=true:=by decide +kernel):R (k8 Tryz.prog id (@OfNat.ofNat (List Oper) (nat_lit 0) (@_root_.id (OfNat (List Oper) (nat_lit 0)) (OfNat.mk l))) f σ Q):=wD hchk h
inductive Up (l:Nat) (o o':aO):St→St→Prop
 | u0 {σ:St}:Up l o o' (σ.set l o) (σ.set l o')
 | u1 {σ:St} {j:Nat} {oj:aO} (h:j≠l):Up l o o' ((σ.set l o).set j oj) ((σ.set l o').set j oj)
 | u2 {σ:St} {j i:Nat} {oj oi:aO} (h:j≠l) (h1:i≠l):Up l o o' (((σ.set l o).set j oj).set i oi) (((σ.set l o').set j oj).set i oi)
 | u3 {σ:St} {j i m:Nat} {oj oi om:aO} (h:j≠l) (h1:i≠l) (h2:m≠l):Up l o o' ((((σ.set l o).set j oj).set i oi).set m om) ((((σ.set l o').set j oj).set i oi).set m om)
theorem FXs:(type_of% @Ci)∧(type_of% @cG)∧(type_of% @eL)∧(type_of% @Ch)∧(type_of% @gR)∧(type_of% @Ca)∧(type_of% @wY)∧(type_of% @Cg)∧(type_of% @wP)∧(type_of% @pJ)∧(type_of% @zX)∧(type_of% @rD)∧(type_of% @xA)∧(type_of% @pQ)∧(type_of% @oC)∧(type_of% @sQ)∧(type_of% @Cc)∧(type_of% @Ce)∧(type_of% @Cf)∧(type_of% @Cb)∧(∀{f:F8} {i:Nat} {v:VA} (h:i<8),(f.set i v).get i=v) :=
 ⟨Ci,cG,eL,Ch,gR,Ca,wY,Cg,wP,pJ,zX,rD,xA,pQ,oC,sQ,Cc,Ce,Cf,Cb,F8.H7⟩
theorem FYs:(type_of% FXs)∧(type_of% @AG)∧(type_of% @wX)∧(∀{α:Type} (l:List α),l++[]=l)∧(∀{α:Type} (l:List α),l.take 0=[])∧(type_of% K9)∧(∀{α:Type} (a:α) (l r:List α),a::l++r=a::(l++r))∧(∀{α:Type} (l:List α),[]++l=l) :=
 ⟨FXs,AG,wX,List.append_nil,fun _=>List.take_zero,K9,fun _ _ _=>List.cons_append,List.nil_append⟩
end

section
def a6(m:Nat):List Nat:=(List.range 8).filter fun i=>bit m i
theorem pD{m i:Nat}(h:i∈a6 m):i<8:=List.mem_range.1 (List.mem_filter.1 h).1
theorem nC(m:Nat):(a6 m).length≤8:=by
 have:=List.length_filter_le (fun i=>bit m i) (List.range 8)
 rwa [List.length_range] at this
theorem CQ(m:Nat):a6 (m &&& 255)=a6 m:=by
 unfold a6
 apply List.filter_congr
 intro i hi
 have hi:=List.mem_range.1 hi
 unfold bit
 rw[Nat.testBit_and]
 have:(255:Nat).testBit i=true:=by
  have h:∀i,i<8→(255:Nat).testBit i=true:=by decide
  exact h i hi
 rw[this,Bool.and_true]
theorem pE:∀s:Nat,s<256→s≠0→a6 s=(a6 s).headD 0::a6 (s &&& (s - 1)):=by decide +kernel
theorem CR:a6 0=[]:=by decide
end

section
inductive iI:MV→Prop where
 | flat {m:MV} (h:Flat m):iI m
 | lst {e:Nat} {xs:List (List MV)} {t:Bool} (h:∀x,x∈xs→∀m,m∈x→iI m):iI (.lst e xs t)
 | cptr {cs:List MV} (h:∀m,m∈cs→iI m):iI (.cptr cs)
 | agg {cs:List MV} (h:∀m,m∈cs→iI m):iI (.agg cs)
theorem iI.rel{Φ Φ':Phi}(hs:∀a v,Φ.snap a=some v→Φ'.snap a=some v){m:MV}(h:iI m):∀{v:Value},Rel Φ v m→Rel Φ' v m:=by
 induction h with
 | flat h=>intro v r;exact h.rel r
 | lst h ih =>
  intro v r
  cases r with
  | lstn=>exact .lstn _ _
  | lst0 a _ cap _ ht hm=>exact .lst0 a _ cap _ ht hm
  | lst hl h0 hcap hm ht hx vs hc hr =>
   exact .lst hl h0 hcap hm ht hx vs (fun i x j m a b=>⟨(hc i x j m a b).1,hs _ _ (hc i x j m a b).2⟩) fun i x j m a b=>ih x (List.mem_of_getElem? a) m (List.mem_of_getElem? b) (hr i x j m a b)
 | cptr h ih =>
  intro v r
  cases r with
  | cptr vs hc hr=>exact .cptr vs (fun j m hm=>⟨(hc j m hm).1,hs _ _ (hc j m hm).2⟩) fun j m hm=>ih m (List.mem_of_getElem? hm) (hr j m hm)
 | agg h ih =>
  intro v r
  cases r with
  | agg h1 h2 h3=>exact .agg h1 h2 fun i m hm=>ih m (List.mem_of_getElem? hm) (h3 i m hm)
structure YC where
 l:Nat
 xs:List (List MV)
 Y:Nat→YS→Prop
 Yx:YS→Prop
 Φ0:Phi
 σ0:St
 n0:Nat
def YC.st(C:YC):Option Nat→YS→Prop
 | some i,S=>C.Y i S
 | none,S=>C.Yx S
structure fP (C:YC) (Φ:Phi) (σ:St) (w:World) (S:YS) (t:Option Nat):Prop where
 inv:Inv Φ w σ
 apt:Apt Φ σ S w
 snapn:∀a v,Φ.snap a=some v→C.Φ0.snap a=some v∨C.n0≤a.block∨aN C.Φ0 C.σ0 a.block
 ownd:∀R,aN Φ σ R→aN C.Φ0 C.σ0 R∨C.n0≤R
 size:C.n0≤w.heap.size
 st:C.st t S
abbrev YQ:=Exit→FR→St→Option Nat→Prop
def tB(C:YC)(Φ:Phi)(σ:St)(w:World)(S:YS)(Q:YQ):Exit→Act→World→Prop:=fun e a' w' =>
 ∃f' σ' t' Φ' S',fP C Φ' σ' w' S' t'∧bS Φ' a'.tmps f'∧cF Φ' w' a'.defers f'.d∧cH Φ σ w S Φ' σ' w' S'∧Q e f' σ' t'
def ywp(P:Program)(C:YC)(c:Code)(f:FR)(σ:St)(t:Option Nat)(Q:YQ):Prop :=
 ∀F,FOk F c→∀Φ w a S,fP C Φ σ w S t→bS Φ a.tmps f→cF Φ w a.defers f.d→c.wpIn F 0 P (tB C Φ σ w S Q) a w
section rules
variable {P:Program} {C:YC} {f:FR} {σ:St} {t:Option Nat} {Q:YQ}
theorem pV{Φ Φ1:Phi}{σ σ1:St}{w0 w1:World}{S S1:YS}(h:cH Φ σ w0 S Φ1 σ1 w1 S1){e:Exit}{a:Act}{w:World}(k:tB C Φ1 σ1 w1 S1 Q e a w):tB C Φ σ w0 S Q e a w :=
 let ⟨f',σ',t',Φ',S',h1,h2,h3,h4,h5⟩:=k
 ⟨f',σ',t',Φ',S',h1,h2,h3,h.trans h4,h5⟩
theorem fP.go{Φ Φ':Phi}{σ σ':St}{w w':World}{S:YS}(h:fP C Φ σ w S t)(i:Inv Φ' w' σ')(s:Step Φ σ w Φ' σ' w'):fP C Φ' σ' w' S t :=
 ⟨i,h.apt.step s,fun a v q=>by
  rcases s.snapn a v q with q|q|q
  ·exact h.snapn a v q
  ·exact .inr (.inl (Nat.le_trans h.size q))
  ·rcases h.ownd _ q with q|q
   ·exact .inr (.inr q)
   ·exact .inr (.inl q),fun R hR=>by
  rcases s.ownd R hR with q|q
  ·exact h.ownd R q
  ·exact .inr (Nat.le_trans h.size q),Nat.le_trans h.size s.size,h.st⟩
theorem Kh{c:Code}(h:mwp P c f σ fun e f' σ'=>Q e f' σ' t):ywp P C c f σ t Q :=
 fun F hF Φ w a S hi hr hd=>wpIn_mono (h F hF Φ w a hi.inv hr hd) fun _ _ _ ⟨f',σ',Φ',x1,x2,x3,x4,q⟩=>⟨f',σ',t,Φ',S,hi.go x3 x4,x2,x1,.of S x4,q⟩
def zY(next:FR→St→Option Nat→Prop)(Q:YQ):YQ
 | .normal,f,σ,t=>next f σ t
 | e,f,σ,t=>Q e f σ t
theorem pA{x y:Code}(h:ywp P C x f σ t (zY (fun f' σ' t'=>ywp P C y f' σ' t' Q) Q)):ywp P C (.seq x y) f σ t Q:=by
 intro F hF Φ w a S hi hr hd
 refine wpIn_seq (wpIn_mono (h F hF.seq1 Φ w a S hi hr hd) fun e a' w' ⟨f',σ',t',Φ',S',h1,h2,h3,h4,q⟩=>?_)
 cases e with
 | normal=>exact wpIn_mono (q F hF.KJ Φ' w' a' S' h1 h2 h3) fun _ _ _ hq=>pV h4 hq
 | _=>exact⟨f',σ',t',Φ',S',h1,h2,h3,h4,q⟩
def nD(id:Nat)(Q:YQ):YQ
 | .exit id',f,σ,t=>if id'=id then Q .normal f σ t else Q (.exit id') f σ t
 | e,f,σ,t=>Q e f σ t
theorem tM{id:Nat}{c:Code}(h:ywp P C c f σ t (nD id Q)):ywp P C (.block id c) f σ t Q:=by
 intro F hF Φ w a S hi hr hd
 refine wpIn_block (wpIn_mono (h F hF.block Φ w a S hi hr hd) fun e a' w' ⟨f',σ',t',Φ',S',h1,h2,h3,h4,q⟩=>?_)
 cases e with
 | exit id' =>
  simp only[Exit.inBlock]
  simp only[nD] at q
  split
  ·rw[if_pos (by assumption)] at q;exact⟨f',σ',t',Φ',S',h1,h2,h3,h4,q⟩
  ·rw[if_neg (by assumption)] at q;exact⟨f',σ',t',Φ',S',h1,h2,h3,h4,q⟩
 | _=>exact⟨f',σ',t',Φ',S',h1,h2,h3,h4,q⟩
theorem Kg{c:Code}(h:Gh f σ fun f1 σ1=>ywp P C c f1 σ1 t Q):ywp P C c f σ t Q:=by
 intro F hF Φ w a S hi hr hd
 obtain⟨f1,σ1,Φ1,hf,k1,i1,r1,s1⟩:=h Φ w a.tmps hi.inv hr
 exact wpIn_mono (k1 F hF Φ1 w a S (hi.go i1 s1) r1 (hf ▸ hd.step hi.inv s1)) fun _ _ _ hq=>pV (.of S s1) hq
theorem HN{α:Type}{c:Code}(Fr:α→FR)(Sr:α→St)(T:α→Option Nat)(p:α→Prop)(μ:α→Nat)(h0:Gh f σ fun f1 σ1=>∃a,f1=Fr a∧σ1=Sr a∧t=T a∧p a)
 (round:∀a,p a→ywp P C c (Fr a) (Sr a) (T a) (zY (fun f' σ' t'=>Gh f' σ' fun f1 σ1=>∃b,f1=Fr b∧σ1=Sr b∧t'=T b∧p b∧μ b<μ a) Q)):ywp P C (.loop c) f σ t Q:=by
 refine Kg (fun Φ w vs hi hr=>?_)
 obtain⟨f1,σ1,Φ1,hf,⟨a0,e1,e2,e3,p0⟩,i1,r1,s1⟩:=h0 Φ w vs hi hr
 subst e1;subst e2;subst e3
 refine⟨_,_,Φ1,hf,?_,i1,r1,s1⟩
 clear h0 hi hr s1 i1 r1 hf
 intro Fe hF Φ w a S hi hr hd b k cs hro hb hroom
 have key:∀n x Φ w a S,μ x=n→p x→fP C Φ (Sr x) w S (T x)→bS Φ a.tmps (Fr x)→cF Φ w a.defers (Fr x).d →
   ∃e a' w',tB C Φ (Sr x) w S Q e a' w'∧ArrivesIn (Machine.fenced P Fe) P (lone (b.atR a (.code c::.inLoop c::k)) cs w) b k cs e a' w':=by
  intro n
  induction n using Nat.strongRecOn with
  | _ n ih =>
   intro x Φ w a S hn hI hi hr hd
   obtain⟨e,a₁,w₁,hq,harr⟩:=round x hI Fe hF.loop Φ w a S hi hr hd b (.inLoop c::k) cs hro hb hroom
   cases e with
   | normal =>
    obtain⟨f',σ',t',Φ',S',y1,y2,y3,y4,g2⟩:=hq
    obtain⟨f2,σ2,Φ2,g0,⟨x2,e1,e2,e3,hI2,hlt⟩,i2,r2,s2⟩:=g2 Φ' w₁ a₁.tmps y1.inv y2
    subst e1;subst e2;subst e3
    obtain⟨e₂,a₂,w₂,hq₂,harr₂⟩:=ih (μ x2) (hn ▸ hlt) x2 Φ2 w₁ a₁ S' rfl hI2 (y1.go i2 s2) r2 (g0 ▸ y3.step y1.inv s2)
    exact⟨e₂,a₂,w₂,pV (y4.trans (.of S' s2)) hq₂,.of_steps (StepsIn.trans harr (.one (fenced_calm hb hroom rfl) stepR_inLoop)) harr₂⟩
   | exit id=>exact⟨_,a₁,w₁,hq,.pass (x:=.inLoop c) rfl (fun _ _=>.inl (by simp)) harr⟩
   | goto l=>exact⟨_,a₁,w₁,hq,.pass (x:=.inLoop c) rfl (fun _ _=>.inl (by simp)) harr⟩
   | ret=>exact⟨_,a₁,w₁,hq,.pass (x:=.inLoop c) rfl (fun _ _=>.inl (by simp)) harr⟩
   | panic ch=>exact⟨_,a₁,w₁,hq,.pass (x:=.inLoop c) rfl (fun _ _=>.inl (by simp)) harr⟩
   | outgrown=>exact⟨_,a₁,w₁,hq,.pass (x:=.inLoop c) rfl (fun _ _=>.inl (by simp)) harr⟩
 obtain⟨e,a',w',hq,harr⟩:=key _ a0 Φ w a S rfl p0 hi hr hd
 exact⟨e,a',w',hq,.of_steps (.one (fenced_calm hb hroom rfl) stepR_loop) harr⟩
theorem yQ{ops:Array Oper}{K:FR→St→Prop}{F:Fence}{Qm:Exit→Act→World→Prop}{rest:List Oper}:∀(l:List Oper),(F=Fence.wide∨∃l0,F=Fence.wide.inRound l0)→(∀o,o∈l→∀c,o.op≠.defer c)→∀(f:FR) (σ:St) (Φ:Phi) (w:World) (a:Act),
  cR P ops K l f σ→Inv Φ w σ→bS Φ a.tmps f→cF Φ w a.defers f.d →
  (∀f' σ' Φ' w' a',K f' σ'→Inv Φ' w' σ'→bS Φ' a'.tmps f'→cF Φ' w' a'.defers f'.d→Step Φ σ w Φ' σ' w'→wpListIn F 0 P ops Qm rest a' w')→wpListIn F 0 P ops Qm (l++rest) a w:=by
 intro l hF
 have hfn:∀g,F.fn g:=fun g=>by rcases hF with rfl|⟨l,rfl⟩<;>trivial
 induction l with
 | nil=>intro _ f σ Φ w a h hi hr hd hk;exact hk f σ Φ w a h hi hr hd (.refl _ _ _)
 | cons o r ih =>
  intro hdf f σ Φ w a h hi hr hd hk
  have hdo:∀c,o.op≠.defer c:=hdf o (by simp)
  have ih:=ih fun o ho=>hdf o (by simp[ho])
  have hFo:F=Fence.wide∨∃l0,F=Fence.wide.inRound l0∧∀c,o.op≠.defer c:=hF.imp id fun⟨l0,e⟩=>⟨l0,e,hdo⟩
  simp only[cR] at h
  rw[List.cons_append]
  unfold wpListIn
  rcases bN h hr with⟨hw,hy⟩|⟨hw,hn⟩
  ·rw[if_pos hw]
   refine dO hFo (iE hdo hy Φ w a _ _ hi hr fun v mv σ' Φ' w' r1 i1 s1 hk1=>?_)
   exact ih _ _ Φ' w' (a.put o.dst v) hk1 i1 (bV (hr.mono s1.le) o.dst r1) (by rw[a8,cX];exact hd.step hi s1) fun f' σ' Φ2 w2 a2 k1 k2 k3 k4 k5=>hk f' σ' Φ2 w2 a2 k1 k2 k3 k4 (s1.trans k5)
  ·rw[if_neg (by simp[hw])]
   exact⟨fun f _=>hfn f,ih _ _ Φ w (a.put o.dst undef) hn hi (bV hr o.dst eF) (by rw[a8,cX];exact hd) hk⟩
theorem sF{F:Fence}(hF:F=Fence.wide∨∃l,F=Fence.wide.inRound l){n:Nat}{l:Nat}{fn:FuncId}{tmps:Array Value}{assign body:Code}{w:World}{R:Ending→World→Prop}(h:RoundIn Fence.wide n P l fn tmps assign body w R):RoundIn F n P l fn tmps assign body w R:=by
 rcases hF with rfl|⟨l0,rfl⟩
 ·exact h
 ·exact h
theorem B1{id:Nat}{ops:Array Oper}(pre:List Oper)(y:Oper)(post:List Oper)(ho:ops.toList=pre++y::post)(hpre:∀o,o∈pre→∀c,o.op≠.defer c)(hpost:∀o,o∈post→∀c,o.op≠.defer c)
 {o:Operand}{args:Array Operand}{ts:Array TypeId}(hy:y.op=.call ⟨.value o,args,ts⟩)(hg:y.guard=none){i:Nat}(ht:t=some i){x:List MV}(hx:C.xs[i]?=some x)(hno:∀m,m∈x→iI m)
 (hspec:mA P C.l C.xs C.Y C.Yx C.Φ0 C.σ0 C.n0)
 (h:cR P ops (fun f1 σ1=>aB f1 o=.fn (.yield C.l) [] []∧args.toList.map (aB f1)=x∧cR P ops (fun f2 σ2=>Q .normal f2 σ2 (some (i+1))) post (aU f1 y.dst (.bool true)) σ1 ∧
   cR P ops (fun f2 σ2=>Q .normal f2 σ2 none) post (aU f1 y.dst (.bool false)) σ1) pre f σ):ywp P C (.region id ops false) f σ t Q:=by
 intro F hF Φ w a S hi hr hd
 subst ht
 have hF':F=Fence.wide∨∃l0,F=Fence.wide.inRound l0:=Or.imp (fun q=>q) (fun⟨l0,e,_⟩=>⟨l0,e⟩) hF
 have hro:F.room 0:=hF.room 0
 refine wpIn_region_list ?_
 rw[ho]
 refine yQ pre hF' hpre f σ Φ w a h hi.inv hr hd fun f1 σ1 Φ1 w1 a1 hk i1 r1 d1 s1=>?_
 obtain⟨hv,hargs,ht,hfl⟩:=hk
 have hi1:=hi.go i1 s1
 unfold wpListIn
 rw[if_pos (by unfold Region.wanted;rw[hg])]
 have rv:=aD r1 o
 rw[hv] at rv
 obtain⟨first,cap,he,h1,h2⟩:=rv.lK
 have e1:first=#[]:=Array.eq_empty_of_size_eq_zero (by simpa using h1.1)
 have e2:cap=#[]:=Array.eq_empty_of_size_eq_zero (by simpa using h2.1)
 subst e1 e2
 have hrels:=iQ r1 args
 rw[hargs] at hrels
 obtain⟨Ψ,hΨ⟩:∃Ψ:Phi,Ψ=⟨Φ1.snap,fun _=>none,0⟩:=⟨_,rfl⟩
 have hrels':eI Ψ (args.map a1.eval) x:=⟨hrels.1,fun j m hm=>by
  subst hΨ
  exact iI.rel (Φ:=Φ1) (Φ':=⟨Φ1.snap,fun _=>none,0⟩) (fun _ _ q=>q) (hno m (List.mem_of_getElem? hm)) (hrels.2 j m hm)⟩
 obtain⟨fn,tmps,assign,body,hrun,hround⟩:=hspec i x S w1 Ψ (args.map a1.eval) hx hi1.st hi1.apt.agree hi1.size (fun m=>by subst hΨ;rfl) (fun b v q=>by
  subst hΨ
  exact⟨i1.snap b v q,hi1.apt.snap b v q,hi1.snapn b v q⟩) hrels'
 have hsem:(y.semAt F.round a1.eval).run P w1=.ok (.round C.l fn tmps assign body) w1:=by
  rw[Oper.semAt_eq _ _ _ (by rw[hy];intro c e;cases e)]
  unfold execOp
  simp only[hy,resolve,he,Deferred.ofValue,Sem.run_bind,Sem.run_pure,Result.andThen_ok,invoke,Array.empty_append,Array.append_empty]
  exact hrun
 refine⟨fun g _=>hF.fn g,?_⟩
 rw[hsem]
 refine⟨(fun q=>by rw[hF.depth] at q;cases q),?_⟩
 refine(sF hF' hround).mono ?_
 rintro e w2 ⟨b,S',rfl,hS1,hS2,hS3,hS4,hS5,hS6,hS7,hS8,hS9,hS10,hS11⟩
 -- our own side is as it was
 have ow:∀k,aN Φ1 σ1 k→w2.heap[k]?=w1.heap[k]?:=fun k hk=>by
  refine hS8 k ?_ fun q=>hi1.apt.own k q hk
  obtain⟨l,ob,p,q1,q2,q3⟩:=hk
  obtain⟨p',e,hlt⟩:=(i1.own l ob q1).place
  rw[q2] at e;cases e
  exact hlt k q3
 have i2:Inv Φ1 w2 σ1:=⟨fun l ob hl=>(i1.own l ob hl).mono (.refl _) fun p R q1 q2=>ow R ⟨l,ob,p,hl,q1,q2⟩,i1.inj,fun c v q=>by
   have hb:=World.block_lt_of_cell? w1 c (i1.snap c v q)
   rw[World.dK (hS8 c.block hb (hi1.apt.snap c v q))]
   exact i1.snap c v q,i1.apart,i1.fresh⟩
 have apt2:Apt Φ1 σ1 S' w2:=by
  have lt1:∀k,aN Φ1 σ1 k→k<w1.heap.size:=fun k ⟨l,ob,p,q1,q2,q3⟩=>by
   obtain⟨p',e,hlt⟩:=(i1.own l ob q1).place
   rw[q2] at e;cases e
   exact hlt k q3
  refine⟨hS2,fun k hk ho=>?_,fun c v q ho=>?_,fun c v q hk=>?_⟩
  ·rcases hS9 k hk with q|q
   ·exact hi1.apt.own k q ho
   ·have:=lt1 k ho;omega
  ·rcases hS10 c v q with q|q|q|q
   ·exact hi1.apt.snown c v q ho
   ·exact hi1.apt.own _ q ho
   ·have:=lt1 _ ho;omega
   ·subst hΨ
    obtain⟨l,ob,p,q1,q2,q3⟩:=ho
    exact i1.apart l ob p c.block c v q1 q2 q3 q rfl
  ·rcases hS9 _ hk with p|p
   ·exact hi1.apt.snap c v q p
   ·have:=World.block_lt_of_cell? w1 c (i1.snap c v q);omega
 have st2:cH Φ1 σ1 w1 S Φ1 σ1 w2 S':=⟨.refl _,hS3,hS4,hS5,hS6,hS7,fun k hk _ hw=>hS8 k hk hw,fun c v q=>.inl q,fun R q=>.inl q,hS9,fun c v q=>by
  subst hΨ
  rcases hS10 c v q with q|q|q|q
  ·exact .inl q
  ·exact .inr (.inl q)
  ·exact .inr (.inr (.inl q))
  ·exact .inr (.inr (.inr (.inl q)))⟩
 have d2:cF Φ1 w2 a1.defers f1.d:=d1.mono (.refl _) hS7 fun D hD=>by
  rw[hS8 D (Array.getElem?_eq_some_iff.1 hD).1 (fun q=>hi1.apt.agree.nomark D q _ ((hi1.apt.agree.same D q).symm.trans hD))]
  exact hD
 have go:∀(b:Bool) (t':Option Nat),C.st t' S'→cR P ops (fun f2 σ2=>Q .normal f2 σ2 t') post (aU f1 y.dst (.bool b)) σ1→wpListIn F 0 P ops (tB C Φ σ w S Q) post (a1.put y.dst (.bool b)) w2:=by
  intro b t' hst hm
  have hyi:fP C Φ1 σ1 w2 S' t':=⟨i2,apt2,hi1.snapn,hi1.ownd,Nat.le_trans hi1.size hS7,hst⟩
  have:=yQ (rest:=[]) (Qm:=tB C Φ σ w S Q) post hF' hpost (aU f1 y.dst (.bool b)) σ1 Φ1 w2 (a1.put y.dst (.bool b)) hm i2 (bV r1 y.dst (.bool b)) (by rw[a8,cX];exact d2) fun f2 σ2 Φ2 w3 a3 k1 k2 k3 k4 k5=>by
   unfold wpListIn
   exact⟨f2,σ2,t',Φ2,S',hyi.go k2 k5,k3,k4,((cH.of S s1).trans st2).trans (.of S' k5),k1⟩
  rwa [List.append_nil] at this
 cases b with
 | true=>exact go true (some (i+1)) (by rw[if_pos rfl] at hS11;exact hS11) ht
 | false=>exact go false none (by rw[if_neg (by decide)] at hS11;exact hS11) hfl
end rules
theorem Apt.putObj{Φ:Phi}{σ:St}{S:YS}{w:World}(h:Apt Φ σ S w){D:Nat}{x:Option (List Deferred)}(o':Obj)(hD:w.heap[D]?=some (Obj.deferred x)):Apt Φ σ S (w.putObj D o'):=by
 have hne:∀k,S.wr k→k≠D:=fun k hk e=>h.agree.nomark k hk x (by rw[←h.agree.same k hk,e];exact hD)
 refine⟨⟨fun k hk=>(World.putObj_heap_other (hne k hk)).trans (h.agree.same k hk),h.agree.lt,h.agree.nomark,fun a v q=>?_,by rw[World.putObj_size];exact h.agree.size,h.agree.os,h.agree.tape,h.agree.output,h.agree.drawn⟩,h.own,h.snown,h.snap⟩
 have hc:=h.agree.sn a v q
 rw[←hc]
 refine World.dK (World.putObj_heap_other fun e=>?_)
 rw[World.cell?,e,hD] at hc
 simp at hc
theorem Cs{P:Program}{fn:Func}{tmps:Array Value}{C:YC}{t:Option Nat}(hrs:fn.results.toList=[]){Φ0:Phi}{σ0:St}{w0:World}{S0:YS}(h0:Φ0.base=w0.heap.size){R:Ending→World→Prop}(hR:∀v Φ' w' σ' S',fP C Φ' σ' w' S' t→cH Φ0 σ0 w0 S0 Φ' σ' w' S'→R (.returned v) w') :
  ∀(ds:List Deferred) (Φ:Phi) (w:World) (σ:St) (S:YS),cF Φ w ds []→fP C Φ σ w S t→cH Φ0 σ0 w0 S0 Φ σ w S→fI P fn tmps R ds w:=by
 intro ds
 induction ds with
 | nil =>
  intro Φ w σ S _ hi hs
  refine⟨.tuple #[],?_,hR _ Φ w σ S hi hs⟩
  rw[jL]
  have:fn.results=#[]:=Array.toList_eq_nil_iff.1 hrs
  simp only[this]
  first|rfl|simp[Sem.run_bind,Sem.run_pure]
 | cons x ds ih =>
  intro Φ w σ S hd hi hs
  rcases hd with⟨D,h1,h2,h3,h4,h5⟩|⟨g,ms,r,cap,h,_⟩
  ·refine .inl ⟨D,_,h1,run_takeDeferred h3,?_⟩
   have hDb:w0.heap.size≤D:=by rw[←h0,←hs.le.base];exact h2
   have i':=hi.inv.putObj (.deferred none) h3 (fun _ _ _ e=>by cases e) (fun _ _ e=>by cases e)
   have s':cH Φ0 σ0 w0 S0 Φ σ (w.putObj D (.deferred none)) S :=
    ⟨hs.le,hs.os,hs.tape,hs.output,hs.drawn,by rw[World.putObj_size];exact hs.size,fun k hk hn hw=>(World.putObj_heap_other (by omega)).trans (hs.block k hk hn hw),hs.snapn,hs.ownd,hs.wr,hs.sn⟩
   refine ih Φ _ σ S ?_ ⟨i',hi.apt.putObj _ h3,hi.snapn,hi.ownd,by rw[World.putObj_size];exact hi.size,hi.st⟩ s'
   have:∀(xs:List Deferred) (d:List (FuncId × List MV)),(∀y,y∈xs→y.target≠.collected D)→cF Φ w xs d→cF Φ (w.putObj D (.deferred none)) xs d:=by
    intro xs
    induction xs with
    | nil=>intro d _ h;exact⟨h.1,by rw[World.putObj_size];exact h.2⟩
    | cons y xs ihx =>
     intro d hy h
     rcases h with⟨D',k1,k2,k3,k4,k5⟩|⟨g,ms,r,cap,k1,k2,k3,k4⟩
     ·refine .inl ⟨D',k1,k2,?_,k4,ihx d (fun z hz=>hy z (by simp[hz])) k5⟩
      rw[World.putObj_heap_other]
      ·exact k3
      ·intro e;exact hy y (by simp) (by rw[k1,e])
     ·exact .inr ⟨g,ms,r,cap,k1,k2,k3,ihx r (fun z hz=>hy z (by simp[hz])) k4⟩
   exact this ds [] h4 h5
  ·cases h
def J5(n:Nat):YQ
 | .normal,f,_,t=>f.d=[]∧(t=some n∨t=none)
 | .ret,f,_,t=>f.d=[]∧(t=some n∨t=none)
 | _,_,_,_=>False
theorem mA.aM{P:Program}{l:Nat}{xs:List (List MV)}{Y:Nat→YS→Prop}{Yx:YS→Prop}{Φ:Phi}{σ:St}{n0:Nat}(h:mA P l xs Y Yx Φ σ n0)(n:Nat):mA P l xs Y Yx (Φ.aM n) σ n0 :=
 fun i x S w' Ψ vs h1 h2 h3 h4 h5 h6 h7=>h i x S w' Ψ vs h1 h2 h3 h4 h5 h6 h7
theorem Apt.aM{Φ:Phi}{σ:St}{S:YS}{w:World}(h:Apt Φ σ S w)(n:Nat):Apt (Φ.aM n) σ S w:=⟨h.agree,h.own,h.snown,h.snap⟩
theorem cH.aM{Φ Φ':Phi}{σ σ':St}{w w':World}{S S':YS}{n:Nat}(h:cH (Φ.aM n) σ w S Φ' σ' w' S'):cH Φ σ w S (Φ'.aM Φ.base) σ' w' S' :=
 ⟨⟨h.le.snap,h.le.obj,rfl⟩,h.os,h.tape,h.output,h.drawn,h.size,h.block,h.snapn,h.ownd,h.wr,h.sn⟩
theorem E8.kO{P:Program}{g:FuncId}{fn:Func}{c:Code}{ns:List MV}{σi:St}{xs:List (List MV)}(n:Nat)(hf:P.funcs[g]?=some fn)(hb:fn.body=some c)(hn:(fn.name == "runtime.NumGoroutine")=false)
 (hn':max fn.ntmps (ns.length+1)=n)(hrs:fn.results.toList=[])
 (h:∀C:YC,C.xs=xs→mA P C.l C.xs C.Y C.Yx C.Φ0 C.σ0 C.n0→ywp P C c ⟨n,hO 0 (.fn (.yield C.l) [] []::ns),[]⟩ σi (some 0) (J5 xs.length)):E8 P g ns σi xs:=by
 refine⟨⟨fn,hf,by simp[hb],hn⟩,fun l Y Yx Φ w S vs hspec hi ha h0 hr=>?_⟩
 obtain⟨C,hC⟩:∃C:YC,C=⟨l,xs,Y,Yx,Φ.aM w.heap.size,σi,w.heap.size⟩:=⟨_,rfl⟩
 have hargs:eI (Φ.aM w.heap.size) (#[Value.func (.yield l) #[] #[]]++vs) (.fn (.yield l) [] []::ns):=by
  refine⟨by simp[hr.1];omega,fun i m hm=>?_⟩
  cases i with
  | zero =>
   simp only[List.getElem?_cons_zero,Option.some.injEq] at hm
   subst hm
   have e:(#[Value.func (.yield l) #[] #[]]++vs).getD 0 undef=Value.func (.yield l) #[] #[]:=by
    simp[Array.getD_eq_getD_getElem?,Array.getElem?_append]
   rw[e]
   exact mP _ (.func (.yield l) #[] #[])
  | succ i =>
   have:=(hr.2 i m (by simpa using hm)).aM w.heap.size
   have e:(#[Value.func (.yield l) #[] #[]]++vs).getD (i+1) undef=vs.getD i undef:=by
    simp[Array.getD_eq_getD_getElem?,Array.getElem?_append]
   rw[e];exact this
 have hfr:=nH (fn:=fn) hargs
 rw[List.length_cons,hn'] at hfr
 have hbody:=h C (by rw[hC]) (by rw[hC];exact hspec.aM _)
 have hst:fP C (Φ.aM w.heap.size) σi w S (some 0):=by
  subst hC
  exact⟨hi.aM _,ha.aM _,fun a v q=>.inl q,fun R q=>.inl q,Nat.le_refl _,h0⟩
 have hl:C.l=l:=by rw[hC]
 rw[hl] at hbody
 refine(iY (R:=fun e w'=>∃v Φ' σ' S',e=.returned v∧(fP C Φ' σ' w' S' (some xs.length)∨fP C Φ' σ' w' S' none)∧cH (Φ.aM w.heap.size) σi w S Φ' σ' w' S') hf hb (wp_mono (wpIn_wide.1 (hbody _ .wide (Φ.aM w.heap.size) w { tmps:=_,defers:=[] } S hst hfr ⟨rfl,Nat.le_refl _⟩)) ?_)).mono ?_
 ·rintro e a' w' ⟨f',σ',t',Φ',S',q1,q2,q3,q4,q5⟩
  have fin:(t'=some xs.length∨t'=none)→f'.d=[]→fI P fn a'.tmps (fun e w'=>∃v Φ' σ' S',e=.returned v∧(fP C Φ' σ' w' S' (some xs.length)∨fP C Φ' σ' w' S' none)∧cH (Φ.aM w.heap.size) σi w S Φ' σ' w' S') a'.defers w':=by
   intro ht hd
   rw[hd] at q3
   rcases ht with rfl|rfl
   ·exact Cs (P:=P) (fn:=fn) (tmps:=a'.tmps) hrs (Φ0:=Φ.aM w.heap.size) (w0:=w) rfl (fun v Φ'' w'' σ'' S'' q qs=>⟨v,Φ'',σ'',S'',rfl,.inl q,qs⟩) a'.defers Φ' w' σ' S' q3 q1 q4
   ·exact Cs (P:=P) (fn:=fn) (tmps:=a'.tmps) hrs (Φ0:=Φ.aM w.heap.size) (w0:=w) rfl (fun v Φ'' w'' σ'' S'' q qs=>⟨v,Φ'',σ'',S'',rfl,.inr q,qs⟩) a'.defers Φ' w' σ' S' q3 q1 q4
  cases e with
  | normal=>exact⟨.inl rfl,fin q5.2 q5.1⟩
  | ret=>exact⟨.inr rfl,fin q5.2 q5.1⟩
  | _=>exact q5.elim
 ·rintro e w' ⟨v,Φ',σ',S',rfl,q,qs⟩
  subst hC
  rcases q with q|q
  ·exact⟨v,Φ'.aM Φ.base,σ',S',rfl,q.inv.aM _,q.apt.aM _,qs.aM,.inl q.st⟩
  ·exact⟨v,Φ'.aM Φ.base,σ',S',rfl,q.inv.aM _,q.apt.aM _,qs.aM,.inr q.st⟩
end

section
structure C2 (Φ0:Phi) (σ0:St) (n0:Nat) (Φ:Phi) (σ:St):Prop where
 le:Φ0.le Φ
 snapn:∀a v,Φ.snap a=some v→Φ0.snap a=some v∨n0≤a.block∨aN Φ0 σ0 a.block
 ownd:∀R,aN Φ σ R→aN Φ0 σ0 R∨n0≤R
structure rK (C:YC) (Φ0:Phi) (σ0:St) (n0:Nat) (So0:YS) (tmps:Array Value) (fc:FR) (l:Nat) (st:Loop) (σ:St) (S:YS) (Φ:Phi) (So:YS) (t:Option Nat):Prop where
 inv:fP C Φ σ S.w So t
 frame:bS Φ tmps fc
 step:C2 Φ0 σ0 n0 Φ σ
 wr:∀k,S.wr k↔(aN Φ σ k∨k=l∨So.wr k)
 sn:∀a,S.sn a=(match Φ.snap a with|some v=>some v|none=>So.sn a)
 lrec:S.w.heap[l]?=some (.loop st)
 size:n0≤S.w.heap.size
 base:Φ.base≤S.w.heap.size
 owr:∀k,So.wr k→So0.wr k∨n0≤k
 osn:∀a v,So.sn a=some v→So0.sn a=some v∨So0.wr a.block∨n0≤a.block∨Φ0.snap a=some v∨aN Φ0 σ0 a.block
section
variable {C:YC} {Φ0 Φ:Phi} {σ0 σ:St} {n0:Nat} {So0:YS} {tmps:Array Value} {fc:FR} {l:Nat} {st:Loop} {S:YS} {So:YS} {t:Option Nat}
theorem rK.CK(h:rK C Φ0 σ0 n0 So0 tmps fc l st σ S Φ So t){a:Addr}{v:Value}(q:Φ.snap a=some v):S.sn a=some v:=by rw[h.sn a,q]
theorem rK.KL(h:rK C Φ0 σ0 n0 So0 tmps fc l st σ S Φ So t){a:Addr}{v:Value}(q:So.sn a=some v):S.sn a=some v:=by
 rw[h.sn a]
 cases e:Φ.snap a with
 | none=>exact q
 | some u =>
  have h1:=h.inv.inv.snap a u e
  have h2:=h.inv.apt.agree.sn a v q
  rw[h1] at h2
  simpa using h2
theorem rK.Hn(h:rK C Φ0 σ0 n0 So0 tmps fc l st σ S Φ So t){a:Addr}{v:Value}(q:S.sn a=some v):Φ.snap a=some v∨So.sn a=some v:=by
 rw[h.sn a] at q
 cases e:Φ.snap a with
 | none=>rw[e] at q;exact .inr q
 | some u=>rw[e] at q;exact .inl q
theorem rK.agree(h:rK C Φ0 σ0 n0 So0 tmps fc l st σ S Φ So t):jQ S S.w :=
 ⟨fun _ _=>rfl,fun k hk=>by
  rcases (h.wr k).1 hk with q|rfl|q
  ·obtain⟨l',o,p,h1,h2,h3⟩:=q
   obtain⟨p',e,hlt⟩:=(h.inv.inv.own l' o h1).place
   rw[h2] at e;cases e
   exact hlt k h3
  ·exact(Array.getElem?_eq_some_iff.1 h.lrec).1
  ·exact Nat.lt_of_lt_of_le (h.inv.apt.agree.lt k q) h.inv.apt.agree.size,(fun k hk x e=>by
  rcases (h.wr k).1 hk with q|rfl|q
  ·exact h.inv.inv.mark e q
  ·rw[h.lrec] at e;cases e
  ·exact h.inv.apt.agree.nomark k q x ((h.inv.apt.agree.same k q).symm.trans e)),fun a v q=>by
  rcases h.Hn q with q|q
  ·exact h.inv.inv.snap a v q
  ·exact h.inv.apt.agree.sn a v q,Nat.le_refl _,rfl,rfl,rfl,Nat.le_refl _⟩
theorem rK.at(h:rK C Φ0 σ0 n0 So0 tmps fc l st σ S Φ So t)(k1:∀a v,Φ0.snap a=some v→C.Φ0.snap a=some v∨C.n0≤a.block∨aN C.Φ0 C.σ0 a.block)(k2:∀R,aN Φ0 σ0 R→aN C.Φ0 C.σ0 R∨C.n0≤R)(k3:C.n0≤n0)
 {w:World}(ha:jQ S w){Ψ:Phi}(ho:∀m,Ψ.obj m=none)
 (hs:∀a v,Ψ.snap a=some v→w.cell? a=some v∧¬S.wr a.block∧(Φ0.snap a=some v∨n0≤a.block∨aN Φ0 σ0 a.block)) :
  ∃Φ',fP C Φ' σ w So t∧bS Φ' tmps fc∧C2 Φ0 σ0 n0 Φ' σ∧(∀k,aN Φ' σ k↔aN Φ σ k)∧(∀a v,Φ'.snap a=some v→Φ.snap a=some v∨Ψ.snap a=some v)∧(∀v m,Rel Ψ v m→Rel Φ' v m)∧w.heap[l]?=some (.loop st)∧Φ'.base≤w.heap.size:=by
 obtain⟨Φ',hΦ⟩:∃Φ':Phi,Φ'={ Φ with snap:=fun a=>match Φ.snap a with|some v=>some v|none=>Ψ.snap a }:=⟨_,rfl⟩
 have hle:Φ.le Φ':=by subst hΦ;exact⟨fun a v q=>by simp[q],fun _ _ q=>q,rfl⟩
 have hobj:Φ'.obj=Φ.obj:=by subst hΦ;rfl
 have hb:Φ'.base=Φ.base:=by subst hΦ;rfl
 have hsn:∀a v,Φ'.snap a=some v→Φ.snap a=some v∨Ψ.snap a=some v:=fun a v q=>by
  subst hΦ
  simp only at q
  cases e:Φ.snap a with
  | none=>rw[e] at q;exact .inr q
  | some u=>rw[e] at q;exact .inl q
 have hwr:∀k,aN Φ σ k→w.heap[k]?=S.w.heap[k]?:=fun k hk=>ha.same k ((h.wr k).2 (.inl hk))
 have hown:∀k,aN Φ' σ k↔aN Φ σ k:=fun k=>by unfold aN;rw[hobj]
 have hinv:Inv Φ' w σ:=by
  refine⟨fun l' o hl=>(h.inv.inv.own l' o hl).mono hle fun p R h1 h2=>hwr R ⟨l',o,p,hl,h1,h2⟩,fun a b o o' p p' R h1 h2 h3 h4=>?_,fun a v q=>?_,fun l' o p R a v h1 h2 h3 q=>?_,?_⟩
  ·rw[hobj] at h3 h4;exact h.inv.inv.inj a b o o' p p' R h1 h2 h3 h4
  ·rcases hsn a v q with q|q
   ·exact ha.sn a v (h.CK q)
   ·exact(hs a v q).1
  ·rw[hobj] at h2
   rcases hsn a v q with q|q
   ·exact h.inv.inv.apart l' o p R a v h1 h2 h3 q
   ·intro e
    exact(hs a v q).2.1 ((h.wr _).2 (.inl ⟨l',o,p,h1,h2,e ▸ h3⟩))
  ·obtain⟨n,hn⟩:=h.inv.inv.fresh.1.1
   exact⟨⟨⟨n,fun k hk=>by rw[hobj];exact hn k hk⟩,fun k p hk=>h.inv.inv.fresh.1.2 k p (by rw[←hobj];exact hk)⟩,fun g i v q=>hle.snap _ _ (h.inv.inv.fresh.2.1 g i v q),h.inv.inv.fresh.2.2.mono hle.snap⟩
 have hag:=h.inv.apt.agree
 have hapt:Apt Φ' σ So w:=by
  refine⟨⟨fun k hk=>(ha.same k ((h.wr k).2 (.inr (.inr hk)))).trans (hag.same k hk),hag.lt,hag.nomark,fun a v q=>ha.sn a v (h.KL q),Nat.le_trans hag.size ha.size,ha.os.trans hag.os,ha.tape.trans hag.tape,ha.output.trans hag.output,Nat.le_trans hag.drawn ha.drawn⟩,fun k hk q=>h.inv.apt.own k hk ((hown k).1 q),fun a v q ho=>h.inv.apt.snown a v q ((hown _).1 ho),fun a v q hk=>?_⟩
  rcases hsn a v q with q|q
  ·exact h.inv.apt.snap a v q hk
  ·exact(hs a v q).2.1 ((h.wr _).2 (.inr (.inr hk)))
 refine⟨Φ',⟨hinv,hapt,fun a v q=>?_,fun R hR=>h.inv.ownd R ((hown R).1 hR),Nat.le_trans h.inv.size ha.size,h.inv.st⟩,h.frame.mono hle,⟨h.step.le.trans hle,fun a v q=>?_,fun R hR=>h.step.ownd R ((hown R).1 hR)⟩,hown,hsn,fun v m r=>?_,?_,?_⟩
 ·rcases hsn a v q with q|q
  ·exact h.inv.snapn a v q
  ·rcases (hs a v q).2.2 with q|q|q
   ·exact k1 a v q
   ·exact .inr (.inl (Nat.le_trans k3 q))
   ·rcases k2 _ q with q|q
    ·exact .inr (.inr q)
    ·exact .inr (.inl q)
 ·rcases hsn a v q with q|q
  ·exact h.step.snapn a v q
  ·exact(hs a v q).2.2
 ·refine r.yL (fun a u q=>?_) (fun l' p q=>by rw[ho l'] at q;cases q)
  have h1:=(hs a u q).1
  subst hΦ
  simp only
  cases e:Φ.snap a with
  | none=>exact q
  | some u' =>
   have h2:=ha.sn a u' (h.CK e)
   rw[h1] at h2
   simpa using h2.symm
 ·rw[ha.same l ((h.wr l).2 (.inr (.inl rfl)))];exact h.lrec
 ·rw[hb];exact Nat.le_trans h.base ha.size
end
theorem C2.step{Φ0 Φ Φ':Phi}{σ0 σ σ':St}{n0:Nat}{w w':World}{S S':YS}(h:C2 Φ0 σ0 n0 Φ σ)(hn:n0≤w.heap.size)(k:cH Φ σ w S Φ' σ' w' S'):C2 Φ0 σ0 n0 Φ' σ' where
 le:=h.le.trans k.le
 snapn:=fun a v hv=>by
  rcases k.snapn a v hv with q|q|q
  ·exact h.snapn a v q
  ·exact .inr (.inl (Nat.le_trans hn q))
  ·rcases h.ownd _ q with q|q
   ·exact .inr (.inr q)
   ·exact .inr (.inl q)
 ownd:=fun R hR=>by
  rcases k.ownd R hR with q|q
  ·exact h.ownd R q
  ·exact .inr (Nat.le_trans hn q)
theorem fP.putObj{C:YC}{Φ:Phi}{σ:St}{w:World}{S:YS}{t:Option Nat}(h:fP C Φ σ w S t){l:Nat}{r:Loop}(o':Obj)(hl:w.heap[l]?=some (.loop r))(hw:¬S.wr l):fP C Φ σ (w.putObj l o') S t:=by
 have hne:∀k,S.wr k→k≠l:=fun k hk e=>hw (e ▸ hk)
 refine⟨h.inv.putObj _ hl (fun _ _ _ e=>by cases e) (fun _ _ e=>by cases e),⟨⟨fun k hk=>(World.putObj_heap_other (hne k hk)).trans (h.apt.agree.same k hk),h.apt.agree.lt,h.apt.agree.nomark,fun a v q=>?_,by rw[World.putObj_size];exact h.apt.agree.size,h.apt.agree.os,h.apt.agree.tape,h.apt.agree.output,h.apt.agree.drawn⟩,h.apt.own,h.apt.snown,h.apt.snap⟩,h.snapn,h.ownd,by rw[World.putObj_size];exact h.size,h.st⟩
 have hc:=h.apt.agree.sn a v q
 rw[←hc]
 refine World.dK (World.putObj_heap_other fun e=>?_)
 rw[World.cell?,e,hl] at hc
 simp at hc
end

section
section
variable {P:Program} {C:YC} {f:FR} {σ:St} {t:Option Nat} {Q:YQ} {q:MQ} {c:Code}
theorem lB(h:R (b9 P (@OfNat.ofNat Code (nat_lit 0) (@_root_.id (OfNat Code (nat_lit 0)) (OfNat.mk c))) f σ q)):mwp P c f σ q:=iB c f σ q h
theorem Ac(h:R (b9 P (@OfNat.ofNat Code (nat_lit 0) (@_root_.id (OfNat Code (nat_lit 0)) (OfNat.mk c))) f σ (fun e f' σ'=>Q e f' σ' t))):ywp P C c f σ t Q:=Kh (iB c f σ _ h)
theorem vQ{k:FR→St→Option Nat→Prop}:R (zY k Q .normal f σ t)=R (k f σ t):=congrArg R rfl
theorem E2{k:FR→St→Option Nat→Prop}:R (zY k Q .ret f σ t)=R (Q .ret f σ t):=congrArg R rfl
theorem BU{k:FR→St→Option Nat→Prop}{id:Nat}:R (zY k Q (.exit id) f σ t)=R (Q (.exit id) f σ t):=congrArg R rfl
theorem rN{id:Nat}:R (nD id Q .normal f σ t)=R (Q .normal f σ t):=congrArg R rfl
theorem Al{id:Nat}:R (nD id Q .ret f σ t)=R (Q .ret f σ t):=congrArg R rfl
theorem vZ{id:Nat}:R (nD id Q (.exit id) f σ t)=R (Q .normal f σ t):=congrArg R (by simp[nD])
theorem uZ{k:FR→St→Prop}:R (GU k .normal f σ)=R (k f σ):=congrArg R rfl
theorem sG{fc:FR}{n:St→Prop}:R (vI q fc n .normal f σ)=R (Gh f σ fun _ σ1=>n σ1):=congrArg R rfl
theorem zO{n:Nat}:R (J5 n .normal f σ t)=R (f.d=[]∧(t=some n∨t=none)):=congrArg R rfl
theorem Hb{n:Nat}:R (J5 n .ret f σ t)=R (f.d=[]∧(t=some n∨t=none)):=congrArg R rfl
def qE(l:List Oper):Bool:=l.all fun o=>match o.op with|.defer _=>false|_=>true
theorem jH{l:List Oper}(h:qE l=true):∀o,o∈l→∀c,o.op≠.defer c:=fun o ho c e=>by
 have:=List.all_eq_true.1 h o ho
 rw[e] at this
 cases this
theorem E7{id:Nat}{ops:Array Oper}(pre:List Oper)(y:Oper)(post:List Oper){o:Operand}{args:Array Operand}{ts:Array TypeId}{i:Nat}{x:List MV}(ho:ops.toList=pre++y::post)(hd:(qE pre&&qE post)=true)
 (hy:y.op=.call ⟨.value o,args,ts⟩)(hg:y.guard=none)(ht:t=some i)(hx:C.xs[i]?=some x)(hno:∀m,m∈x→iI m)(hspec:mA P C.l C.xs C.Y C.Yx C.Φ0 C.σ0 C.n0)
 (h:R (cR P (@OfNat.ofNat (Array Oper) (nat_lit 0) (@_root_.id (OfNat (Array Oper) (nat_lit 0)) (OfNat.mk ops))) (fun f1 σ1=>aB f1 o=.fn (.yield C.l) [] []∧args.toList.map (aB f1)=x ∧
   cR P (@OfNat.ofNat (Array Oper) (nat_lit 0) (@_root_.id (OfNat (Array Oper) (nat_lit 0)) (OfNat.mk ops))) (fun f2 σ2=>Q .normal f2 σ2 (some (i+1))) (@OfNat.ofNat (List Oper) (nat_lit 0) (@_root_.id (OfNat (List Oper) (nat_lit 0)) (OfNat.mk post))) (aU f1 y.dst (.bool true)) σ1 ∧
   cR P (@OfNat.ofNat (Array Oper) (nat_lit 0) (@_root_.id (OfNat (Array Oper) (nat_lit 0)) (OfNat.mk ops))) (fun f2 σ2=>Q .normal f2 σ2 none) (@OfNat.ofNat (List Oper) (nat_lit 0) (@_root_.id (OfNat (List Oper) (nat_lit 0)) (OfNat.mk post))) (aU f1 y.dst (.bool false)) σ1)
   (@OfNat.ofNat (List Oper) (nat_lit 0) (@_root_.id (OfNat (List Oper) (nat_lit 0)) (OfNat.mk pre))) f σ)):ywp P C (.region id ops false) f σ t Q:=by
 have hd:=Bool.and_eq_true_iff.1 hd
 exact B1 pre y post ho (jH hd.1) (jH hd.2) hy hg ht hx hno hspec h
end
attribute [go_sem ↓] vQ E2 BU rN Al vZ uZ sG zO Hb
end

section
set_option maxRecDepth 100000
set_option maxHeartbeats 4000000
theorem o9{n:Nat}(h:n<4294967296):IntKind.u32.wrap (n:Int)=(n:Int):=by
 simp only[IntKind.wrap,IntKind.signed,IntKind.bits]
 simp
 omega
theorem vW(a b:Nat)(ha:a<4294967296)(hb:b<4294967296):iW .u32 (a:Int) (b:Int)=((a &&& b:Nat):Int):=by
 have hab:a &&& b<4294967296:=Nat.lt_of_le_of_lt Nat.and_le_left ha
 unfold iW
 have e:(BitVec.ofInt IntKind.u32.bits (a:Int) &&& BitVec.ofInt IntKind.u32.bits (b:Int)).toNat=a &&& b:=by
  rw[BitVec.toNat_and]
  simp only[BitVec.ofInt_natCast,BitVec.toNat_ofNat,IntKind.bits]
  rw[Nat.mod_eq_of_lt (by omega),Nat.mod_eq_of_lt (by omega)]
 rw[e]
 exact o9 hab
theorem Ls(a b:Nat)(ha:a<4294967296)(hb:b<4294967296):orK .u32 (a:Int) (b:Int)=((a ||| b:Nat):Int):=by
 have hab:a ||| b<2 ^ 32:=Nat.or_lt_two_pow (by omega) (by omega)
 unfold orK
 have e:(BitVec.ofInt IntKind.u32.bits (a:Int) ||| BitVec.ofInt IntKind.u32.bits (b:Int)).toNat=a ||| b:=by
  rw[BitVec.toNat_or]
  simp only[BitVec.ofInt_natCast,BitVec.toNat_ofNat,IntKind.bits]
  rw[Nat.mod_eq_of_lt (by omega),Nat.mod_eq_of_lt (by omega)]
 rw[e]
 exact o9 hab
theorem Fc(a b:Nat)(ha:a<4294967296)(hb:b<4294967296):mB .u32 (a:Int) (b:Int)=((a &&& (4294967295 - b):Nat):Int):=by
 have hab:a &&& (4294967295 - b)<4294967296:=Nat.lt_of_le_of_lt Nat.and_le_left ha
 unfold mB
 have e:(BitVec.ofInt IntKind.u32.bits (a:Int) &&& ~~~BitVec.ofInt IntKind.u32.bits (b:Int)).toNat=a &&& (4294967295 - b):=by
  rw[BitVec.toNat_and,BitVec.toNat_not]
  simp only[BitVec.ofInt_natCast,BitVec.toNat_ofNat,IntKind.bits]
  rw[Nat.mod_eq_of_lt (by omega),Nat.mod_eq_of_lt (by omega)]
 rw[e]
 exact o9 hab
theorem tF(n:Nat)(h:n<32):aA Tryz.prog 264 [.int .i64 (n:Int)] St.none (fun r _=>r=.int .u32 ((2 ^ n:Nat):Int)):=by
 refine(aA.body 12 [.tmp 2] Tryz.func264 rfl rfl rfl rfl ?_)
 repeat' (first|(with_reducible first|(refine wN fun _ hnl=>?_;revert hnl;(repeat refine wS fun _ _=>?_);intro hnl)|refine wE ?_|(refine wK ?_ ?_<;>intro h)|(refine wB ?_ ?_<;>intro h<;>simp only[h]))|simp(maxSteps:=4000000) (disch:=first|exact ddL|fail) only[go_sem,simprocAttr,Tryz.f264])
 rw[Nat.min_eq_left (by omega),Int.one_mul,show(2:Int) ^ n=((2 ^ n:Nat):Int) by simp]
 exact congrArg _ (o9 (Nat.pow_lt_pow_right (a:=2) (n:=32) (by decide) h))
theorem KF(m:Nat)(h:m<4294967296):m &&& (4294967295 - 511)=0↔m≤511:=by
 have e:∀i,(4294967295 - 511:Nat).testBit i=(decide (9≤i)&&decide (i<32)):=by
  intro i
  by_cases hi:i<32
  ·have:∀i,i<32→(4294967295 - 511:Nat).testBit i=(decide (9≤i)&&decide (i<32)):=by decide
   exact this i hi
  ·rw[Nat.testBit_lt_two_pow (Nat.lt_of_lt_of_le (show 4294967295 - 511<2 ^ 32 by decide) (Nat.pow_le_pow_right (by decide) (by omega))),decide_eq_false hi,Bool.and_false]
 constructor
 ·intro h0
  refine Classical.byContradiction fun hn=>?_
  have h1:m / 2 ^ 9≠0:=by omega
  obtain⟨i,hi⟩:=Nat.exists_testBit_of_ne_zero h1
  rw[Nat.testBit_div_two_pow] at hi
  have hi32:i+9<32:=by
   refine Classical.byContradiction fun hc=>?_
   rw[Nat.testBit_lt_two_pow (Nat.lt_of_lt_of_le (show m<2 ^ 32 from h) (Nat.pow_le_pow_right (by decide) (by omega)))] at hi
   cases hi
  have h2:=congrArg (fun x=>Nat.testBit x (i+9)) h0
  simp only[Nat.testBit_and,Nat.zero_testBit,e,hi] at h2
  rw[decide_eq_true (by omega),decide_eq_true hi32] at h2
  cases h2
 ·intro hm
  refine Nat.eq_of_testBit_eq fun i=>?_
  rw[Nat.testBit_and,Nat.zero_testBit,e]
  by_cases hi:9≤i
  ·rw[Nat.testBit_lt_two_pow (Nat.lt_of_lt_of_le (show m<2 ^ 9 by omega) (Nat.pow_le_pow_right (by decide) hi)),Bool.false_and]
  ·rw[decide_eq_false hi,Bool.false_and,Bool.and_false]
theorem mO(m:UInt32):aA Tryz.prog 63 [.int .u32 (m.toNat:Int)] St.none (fun r _=>r=.bool (decide (m.toNat≤511))):=by
 refine(aA.body 5 [.tmp 2] Tryz.func63 rfl rfl rfl rfl ?_)
 have hm:=m.toNat_lt
 have h:aA Tryz.prog 134 [.int .u32 (m.toNat:Int),.int .u32 511] St.none (fun r _=>r=.bool (decide (m.toNat≤511))):=by
  refine(aA.body 9 [.tmp 4] Tryz.func134 rfl rfl rfl rfl ?_)
  have e:mB .u32 (m.toNat:Int) 511=_:=Fc m.toNat 511 hm (by decide)
  repeat' (first|(with_reducible first|(refine wN fun _ hnl=>?_;revert hnl;(repeat refine wS fun _ _=>?_);intro hnl)|refine wE ?_|(refine wK ?_ ?_<;>intro h)|(refine wB ?_ ?_<;>intro h<;>simp only[h]))|simp(maxSteps:=4000000) (disch:=first|exact ddL|fail) only[go_sem,simprocAttr,Tryz.f134,e])
  exact decide_eq_decide.mpr ⟨fun h=>(KF m.toNat hm).1 (by exact_mod_cast h),fun h=>by rw[(KF m.toNat hm).2 h];rfl⟩
 repeat' (first|(with_reducible first|refine up h ?_)|(with_reducible first|(refine wN fun _ hnl=>?_;revert hnl;(repeat refine wS fun _ _=>?_);intro hnl)|refine wE ?_|(refine wK ?_ ?_<;>intro h)|(refine wB ?_ ?_<;>intro h<;>simp only[h]))|simp(maxSteps:=4000000) (disch:=first|exact ddL|fail) only[go_sem,simprocAttr,Tryz.f63])
theorem HS(m k:Nat):m &&& 2 ^ k=if m.testBit k=true then 2 ^ k else 0:=by
 refine Nat.eq_of_testBit_eq fun i=>?_
 rw[Nat.testBit_and,Nat.testBit_two_pow]
 by_cases h:k=i
 ·subst h
  cases hb:m.testBit k
  ·simp
  ·simp[Nat.testBit_two_pow]
 ·cases m.testBit k
  ·simp[h]
  ·simp[h,Nat.testBit_two_pow]
theorem lS(m:UInt32):aA Tryz.prog 155 [.int .u32 (m.toNat:Int)] St.none (fun r _=>r=.bool (bit m.toNat 8)):=by
 refine(aA.body 6 [.tmp 2] Tryz.func155 rfl rfl rfl rfl ?_)
 have hm:=m.toNat_lt
 have e:iW .u32 (m.toNat:Int) 256=_:=vW m.toNat 256 hm (by decide)
 repeat' (first|(with_reducible first|(refine wN fun _ hnl=>?_;revert hnl;(repeat refine wS fun _ _=>?_);intro hnl)|refine wE ?_|(refine wK ?_ ?_<;>intro h)|(refine wB ?_ ?_<;>intro h<;>simp only[h]))|simp(maxSteps:=4000000) (disch:=first|exact ddL|fail) only[go_sem,simprocAttr,Tryz.f155,e])
 rw[show(256:Nat)=2 ^ 8 by decide,HS]
 unfold bit
 cases m.toNat.testBit 8<;>rfl
def dbT:List Int:=[0,1,28,2,29,14,24,3,30,22,20,15,25,17,4,8,31,27,13,23,21,19,16,7,26,12,18,6,11,5,10,9]
def tzI(x:Nat):Int:=(IntKind.u32.wrap (iW IntKind.u32 (x:Int) (IntKind.u32.wrap (0 - (x:Int))) * 125613361)).fdiv (2 ^ min 27 32)
theorem HA:∀x:Nat,x<256→x≠0→0≤tzI x∧tzI x<32∧dbT[(tzI x).toNat]?=some (((a6 x).headD 0:Nat):Int):=by decide +kernel
theorem Jj(i:Nat):GT 0 i=(dbT[i]?).map (Value.int .u8):=by
 unfold GT
 rw[if_pos rfl,List.getElem?_map];rfl
theorem HP{C:Prop}{v:MV}{σ:St}{k:MV→St→Prop}(hC:C)(hk:R (k v σ)):R (mpure σ k (some (C,v))):=⟨hC,hk⟩
theorem H9(x:Nat)(h:x<256)(h0:x≠0):AI Tryz.prog 325 0 (.int .u32 (tzI x))=some ((td Tryz.prog 5).ok=true∧(td Tryz.prog 5).size=1∧0≤tzI x∧tzI x<32∧(ofV (.int .u8 (((a6 x).headD 0:Nat):Int))).aF=true,.cptr [.int .u8 (((a6 x).headD 0:Nat):Int)]):=by
 unfold AI
 rw[Jv]
 simp only
 rw[Jj,(HA x h h0).2.2]
 rfl
theorem xG{x:Nat}(h:x<256)(h0:x≠0):(a6 x).headD 0<8:=by
 rw[pE x h h0]
 have:(a6 x).headD 0∈a6 x:=by
  have:=pE x h h0
  rw[this];simp
 simpa using pD this
theorem G7(x:Nat)(h0:0<x)(h:x<256):aA Tryz.prog 274 [.int .u32 (x:Int)] St.none (fun r _=>r=.int .i64 (((a6 x).headD 0:Nat):Int)):=by
 refine(aA.body 14 [.tmp 2] Tryz.func274 rfl rfl rfl rfl ?_)
 have hg:=H9 x h (by omega)
 have ht:=HA x h (by omega)
 have hh:=xG h (by omega)
 obtain⟨d,hd⟩:∃d,(a6 x).headD 0=d:=⟨_,rfl⟩
 rw[hd] at hg ht hh ⊢
 repeat' (first|(with_reducible first|(refine wN fun _ hnl=>?_;revert hnl;(repeat refine wS fun _ _=>?_);intro hnl)|refine wE ?_|(refine wK ?_ ?_<;>intro h)|(refine wB ?_ ?_<;>intro h<;>simp only[h]))|simp(maxSteps:=4000000) (disch:=first|exact ddL|fail) only[go_sem,simprocAttr,Tryz.f274])
 change R (mpure _ _ (AI _ _ _ (.int .u32 (tzI x))))
 rw[hg]
 refine HP ⟨by rw[td5],by rw[td5],ht.1,ht.2.1,rfl⟩ ?_
 generalize tzI x=w
 repeat' (first|(with_reducible first|(refine wN fun _ hnl=>?_;revert hnl;(repeat refine wS fun _ _=>?_);intro hnl)|refine wE ?_|(refine wK ?_ ?_<;>intro h)|(refine wB ?_ ?_<;>intro h<;>simp only[h]))|simp(maxSteps:=4000000) (disch:=first|exact ddL|fail) only[go_sem,simprocAttr])
end

section
theorem F1{t:TypeId}{xs ys:List MV}{b:Bool}(h:fY Tryz.prog 6 t (.agg xs) (.agg ys)=some b)(hp:dG Tryz.prog t=true):bK Tryz.prog t .neq (.agg xs) (.agg ys)=some (True,.bool (!b)):=by
 rw[x0,h,oE,B9,hp];simp
theorem GZ:dG Tryz.prog 57=true:=by decide +kernel
theorem DP(a b:PA):bK Tryz.prog 57 .neq (.agg a.c) (.agg b.c)=some (True,.bool (!decide (a=b))):=F1 (DX 2 a b) GZ
theorem vA{p:PA}{i:Nat}(h0:¬(p.mask.toNat=0∨511<p.mask.toNat))(h1:¬(65536≤p.lab.toNat∨p.lab.toNat≠0∧bit p.mask.toNat 8=false))(hi:i<8)(h:(fF (p.f.get i)&&(decide ((p.f.get i).kd=0) || bit p.mask.toNat i))=false):bP p=1:=by
 unfold bP
 rw[if_neg h0,if_neg h1,if_neg]
 intro hb
 have:=List.all_eq_true.1 hb i (List.mem_range.2 hi)
 rw[h] at this
 cases this
theorem r9{p:PA}(h0:¬(p.mask.toNat=0∨511<p.mask.toNat))(h1:¬(65536≤p.lab.toNat∨p.lab.toNat≠0∧bit p.mask.toNat 8=false))(h:∀i,i<8→(fF (p.f.get i)&&(decide ((p.f.get i).kd=0) || bit p.mask.toNat i))=true):bP p=0:=by
 unfold bP
 rw[if_neg h0,if_neg h1,if_pos]
 exact List.all_eq_true.2 fun i hi=>h i (List.mem_range.1 hi)
end

section
set_option maxRecDepth 100000
theorem Sfx.get{bs:BL}{r:RD}(h:Sfx bs r){i:Nat}(hi:i<r.l.length):bs.getD (bs.length - r.l.length+i) 0=r.l.getD i 0:=by
 have:=h.drop
 rw[←this,List.getD_eq_getElem?_getD,List.getD_eq_getElem?_getD,List.getElem?_drop,this]
end

section
set_option maxRecDepth 100000
class Few (bs:BL):Prop where
 h:bs.length≤1000000
end

section
def T.depth:T→Nat
 | .leaf _=>1
 | .one _ a=>1+a.depth
 | .two _ a b=>1+max a.depth b.depth
end
end Go.Proofs.YtppdgejjmhdjhaaGreatDoor
