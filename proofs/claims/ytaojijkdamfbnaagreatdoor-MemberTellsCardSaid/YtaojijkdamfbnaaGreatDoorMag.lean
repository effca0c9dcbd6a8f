/- Parts of the proof, joined; conditions: those that its theorems name. -/
import Derived.Test.YtaojijkdamfbnaaGreatDoorMad
import Derived.Test.YtaojijkdamfbnaaGreatDoorMae
import Derived.Test.YtaojijkdamfbnaaGreatDoorMaf
set_option linter.unusedVariables false
set_option linter.unusedSimpArgs false
set_option maxHeartbeats 4000000
namespace Go.Proofs.YtaojijkdamfbnaaGreatDoor
section
theorem Sk.cond{α:Type}{f:RD→α × RD}(h:Sk f)(d:α)(b:Bool):Sk (fun r=>if b=true then f r else(d,r)):=⟨fun r hr=>by
 cases b
 ·rfl
 ·simpa using h.stk r hr,fun r=>by
 cases b
 ·exact List.suffix_refl _
 ·simpa using h.sfx r⟩
theorem Rt.cond{α:Type}{f:RD→α × RD}{ok:α→Prop}{w:α→BL}(h:Rt f ok w)(d:α)(b:Bool):Rt (fun r=>if b=true then f r else(d,r)) (fun x=>if b=true then ok x else x=d) (fun x=>if b=true then w x else[]) where
 fwd x l hx:=by
  cases b
  ·simp only[Bool.false_eq_true,if_false,List.nil_append] at hx ⊢;rw[hx]
  ·simp only[if_true] at hx ⊢;exact h.fwd x l hx
 bck r hr:=by
  cases b
  ·exact⟨by simpa using hr,by simp,by simp⟩
  ·simp only[if_true] at hr ⊢;exact h.bck r hr
end

section
structure C2 (Φ0:Phi) (σ0:St) (n0:Nat) (Φ:Phi) (σ:St):Prop where
 le:Φ0.le Φ
 snapn:∀a v,Φ.snap a=some v→Φ0.snap a=some v∨n0≤a.block∨aU Φ0 σ0 a.block
 ownd:∀R,aU Φ σ R→aU Φ0 σ0 R∨n0≤R
structure vP (C:YC) (Φ0:Phi) (σ0:St) (n0:Nat) (So0:YS) (tmps:Array Value) (fc:FR) (l:Nat) (st:Loop) (σ:St) (S:YS) (Φ:Phi) (So:YS) (t:Option Nat):Prop where
 inv:gV C Φ σ S.w So t
 frame:cK Φ tmps fc
 step:C2 Φ0 σ0 n0 Φ σ
 wr:∀k,S.wr k↔(aU Φ σ k∨k=l∨So.wr k)
 sn:∀a,S.sn a=(match Φ.snap a with|some v=>some v|none=>So.sn a)
 lrec:S.w.heap[l]?=some (.loop st)
 size:n0≤S.w.heap.size
 base:Φ.base≤S.w.heap.size
 owr:∀k,So.wr k→So0.wr k∨n0≤k
 osn:∀a v,So.sn a=some v→So0.sn a=some v∨So0.wr a.block∨n0≤a.block∨Φ0.snap a=some v∨aU Φ0 σ0 a.block
section
variable {C:YC} {Φ0 Φ:Phi} {σ0 σ:St} {n0:Nat} {So0:YS} {tmps:Array Value} {fc:FR} {l:Nat} {st:Loop} {S:YS} {So:YS} {t:Option Nat}
theorem vP.FO(h:vP C Φ0 σ0 n0 So0 tmps fc l st σ S Φ So t){a:Addr}{v:Value}(q:Φ.snap a=some v):S.sn a=some v:=by rw[h.sn a,q]
theorem vP.Ot(h:vP C Φ0 σ0 n0 So0 tmps fc l st σ S Φ So t){a:Addr}{v:Value}(q:So.sn a=some v):S.sn a=some v:=by
 rw[h.sn a]
 cases e:Φ.snap a with
 | none=>exact q
 | some u =>
  have h1:=h.inv.inv.snap a u e
  have h2:=h.inv.apt.agree.sn a v q
  rw[h1] at h2
  simpa using h2
theorem vP.Ky(h:vP C Φ0 σ0 n0 So0 tmps fc l st σ S Φ So t){a:Addr}{v:Value}(q:S.sn a=some v):Φ.snap a=some v∨So.sn a=some v:=by
 rw[h.sn a] at q
 cases e:Φ.snap a with
 | none=>rw[e] at q;exact .inr q
 | some u=>rw[e] at q;exact .inl q
theorem vP.agree(h:vP C Φ0 σ0 n0 So0 tmps fc l st σ S Φ So t):jQ S S.w :=
 ⟨fun _ _=>rfl,fun k hk=>by
  rcases (h.wr k).1 hk with q|rfl|q
  ·obtain⟨l',o,p,h1,h2,h3⟩:=q
   obtain⟨p',e,hlt⟩:=(h.inv.inv.own l' o h1).place
   rw[h2] at e;cases e
   exact hlt k h3
  ·exact(Array.getElem?_eq_some_iff.1 h.lrec).1
  ·exact Nat.lt_of_lt_of_le (h.inv.apt.agree.lt k q) h.inv.apt.agree.size,(fun k hk x e=>by
  rcases (h.wr k).1 hk with q|rfl|q
  ·exact h.inv.inv.mark e q
  ·rw[h.lrec] at e;cases e
  ·exact h.inv.apt.agree.nomark k q x ((h.inv.apt.agree.same k q).symm.trans e)),fun a v q=>by
  rcases h.Ky q with q|q
  ·exact h.inv.inv.snap a v q
  ·exact h.inv.apt.agree.sn a v q,Nat.le_refl _,rfl,rfl,rfl,Nat.le_refl _⟩
theorem vP.at(h:vP C Φ0 σ0 n0 So0 tmps fc l st σ S Φ So t)(k1:∀a v,Φ0.snap a=some v→C.Φ0.snap a=some v∨C.n0≤a.block∨aU C.Φ0 C.σ0 a.block)(k2:∀R,aU Φ0 σ0 R→aU C.Φ0 C.σ0 R∨C.n0≤R)(k3:C.n0≤n0)
 {w:World}(ha:jQ S w){Ψ:Phi}(ho:∀m,Ψ.obj m=none)
 (hs:∀a v,Ψ.snap a=some v→w.cell? a=some v∧¬S.wr a.block∧(Φ0.snap a=some v∨n0≤a.block∨aU Φ0 σ0 a.block)) :
  ∃Φ',gV C Φ' σ w So t∧cK Φ' tmps fc∧C2 Φ0 σ0 n0 Φ' σ∧(∀k,aU Φ' σ k↔aU Φ σ k)∧(∀a v,Φ'.snap a=some v→Φ.snap a=some v∨Ψ.snap a=some v)∧(∀v m,Rel Ψ v m→Rel Φ' v m)∧w.heap[l]?=some (.loop st)∧Φ'.base≤w.heap.size:=by
 obtain⟨Φ',hΦ⟩:∃Φ':Phi,Φ'={ Φ with snap:=fun a=>match Φ.snap a with|some v=>some v|none=>Ψ.snap a }:=⟨_,rfl⟩
 have hle:Φ.le Φ':=by subst hΦ;exact⟨fun a v q=>by simp[q],fun _ _ q=>q,rfl⟩
 have hobj:Φ'.obj=Φ.obj:=by subst hΦ;rfl
 have hb:Φ'.base=Φ.base:=by subst hΦ;rfl
 have hsn:∀a v,Φ'.snap a=some v→Φ.snap a=some v∨Ψ.snap a=some v:=fun a v q=>by
  subst hΦ
  simp only at q
  cases e:Φ.snap a with
  | none=>rw[e] at q;exact .inr q
  | some u=>rw[e] at q;exact .inl q
 have hwr:∀k,aU Φ σ k→w.heap[k]?=S.w.heap[k]?:=fun k hk=>ha.same k ((h.wr k).2 (.inl hk))
 have hown:∀k,aU Φ' σ k↔aU Φ σ k:=fun k=>by unfold aU;rw[hobj]
 have hinv:Inv Φ' w σ:=by
  refine⟨fun l' o hl=>(h.inv.inv.own l' o hl).mono hle fun p R h1 h2=>hwr R ⟨l',o,p,hl,h1,h2⟩,fun a b o o' p p' R h1 h2 h3 h4=>?_,fun a v q=>?_,fun l' o p R a v h1 h2 h3 q=>?_,?_⟩
  ·rw[hobj] at h3 h4;exact h.inv.inv.inj a b o o' p p' R h1 h2 h3 h4
  ·rcases hsn a v q with q|q
   ·exact ha.sn a v (h.FO q)
   ·exact(hs a v q).1
  ·rw[hobj] at h2
   rcases hsn a v q with q|q
   ·exact h.inv.inv.apart l' o p R a v h1 h2 h3 q
   ·intro e
    exact(hs a v q).2.1 ((h.wr _).2 (.inl ⟨l',o,p,h1,h2,e ▸ h3⟩))
  ·obtain⟨n,hn⟩:=h.inv.inv.fresh.1.1
   exact⟨⟨⟨n,fun k hk=>by rw[hobj];exact hn k hk⟩,fun k p hk=>h.inv.inv.fresh.1.2 k p (by rw[←hobj];exact hk)⟩,fun g i v q=>hle.snap _ _ (h.inv.inv.fresh.2.1 g i v q),h.inv.inv.fresh.2.2.mono hle.snap⟩
 have hag:=h.inv.apt.agree
 have hapt:Apt Φ' σ So w:=by
  refine⟨⟨fun k hk=>(ha.same k ((h.wr k).2 (.inr (.inr hk)))).trans (hag.same k hk),hag.lt,hag.nomark,fun a v q=>ha.sn a v (h.Ot q),Nat.le_trans hag.size ha.size,ha.os.trans hag.os,ha.tape.trans hag.tape,ha.output.trans hag.output,Nat.le_trans hag.drawn ha.drawn⟩,fun k hk q=>h.inv.apt.own k hk ((hown k).1 q),fun a v q ho=>h.inv.apt.snown a v q ((hown _).1 ho),fun a v q hk=>?_⟩
  rcases hsn a v q with q|q
  ·exact h.inv.apt.snap a v q hk
  ·exact(hs a v q).2.1 ((h.wr _).2 (.inr (.inr hk)))
 refine⟨Φ',⟨hinv,hapt,fun a v q=>?_,fun R hR=>h.inv.ownd R ((hown R).1 hR),Nat.le_trans h.inv.size ha.size,h.inv.st⟩,h.frame.mono hle,⟨h.step.le.trans hle,fun a v q=>?_,fun R hR=>h.step.ownd R ((hown R).1 hR)⟩,hown,hsn,fun v m r=>?_,?_,?_⟩
 ·rcases hsn a v q with q|q
  ·exact h.inv.snapn a v q
  ·rcases (hs a v q).2.2 with q|q|q
   ·exact k1 a v q
   ·exact .inr (.inl (Nat.le_trans k3 q))
   ·rcases k2 _ q with q|q
    ·exact .inr (.inr q)
    ·exact .inr (.inl q)
 ·rcases hsn a v q with q|q
  ·exact h.step.snapn a v q
  ·exact(hs a v q).2.2
 ·refine r.BO (fun a u q=>?_) (fun l' p q=>by rw[ho l'] at q;cases q)
  have h1:=(hs a u q).1
  subst hΦ
  simp only
  cases e:Φ.snap a with
  | none=>exact q
  | some u' =>
   have h2:=ha.sn a u' (h.FO e)
   rw[h1] at h2
   simpa using h2.symm
 ·rw[ha.same l ((h.wr l).2 (.inr (.inl rfl)))];exact h.lrec
 ·rw[hb];exact Nat.le_trans h.base ha.size
end
theorem C2.step{Φ0 Φ Φ':Phi}{σ0 σ σ':St}{n0:Nat}{w w':World}{S S':YS}(h:C2 Φ0 σ0 n0 Φ σ)(hn:n0≤w.heap.size)(k:cX Φ σ w S Φ' σ' w' S'):C2 Φ0 σ0 n0 Φ' σ' where
 le:=h.le.trans k.le
 snapn:=fun a v hv=>by
  rcases k.snapn a v hv with q|q|q
  ·exact h.snapn a v q
  ·exact .inr (.inl (Nat.le_trans hn q))
  ·rcases h.ownd _ q with q|q
   ·exact .inr (.inr q)
   ·exact .inr (.inl q)
 ownd:=fun R hR=>by
  rcases k.ownd R hR with q|q
  ·exact h.ownd R q
  ·exact .inr (Nat.le_trans hn q)
theorem gV.putObj{C:YC}{Φ:Phi}{σ:St}{w:World}{S:YS}{t:Option Nat}(h:gV C Φ σ w S t){l:Nat}{r:Loop}(o':Obj)(hl:w.heap[l]?=some (.loop r))(hw:¬S.wr l):gV C Φ σ (w.putObj l o') S t:=by
 have hne:∀k,S.wr k→k≠l:=fun k hk e=>hw (e ▸ hk)
 refine⟨h.inv.putObj _ hl (fun _ _ _ e=>by cases e) (fun _ _ e=>by cases e),⟨⟨fun k hk=>(World.putObj_heap_other (hne k hk)).trans (h.apt.agree.same k hk),h.apt.agree.lt,h.apt.agree.nomark,fun a v q=>?_,by rw[World.putObj_size];exact h.apt.agree.size,h.apt.agree.os,h.apt.agree.tape,h.apt.agree.output,h.apt.agree.drawn⟩,h.apt.own,h.apt.snown,h.apt.snap⟩,h.snapn,h.ownd,by rw[World.putObj_size];exact h.size,h.st⟩
 have hc:=h.apt.agree.sn a v q
 rw[←hc]
 refine World.dQ (World.putObj_heap_other fun e=>?_)
 rw[World.cell?,e,hl] at hc
 simp at hc
end

section
section
variable {P:Program} {C:YC} {f:FR} {σ:St} {t:Option Nat} {Q:YQ} {q:MQ} {c:Code}
theorem i6(h:R (dD P (@OfNat.ofNat Code (nat_lit 0) (@_root_.id (OfNat Code (nat_lit 0)) (OfNat.mk c))) f σ q)):mwp P c f σ q:=kD c f σ q h
theorem eN(h:R (dD P (@OfNat.ofNat Code (nat_lit 0) (@_root_.id (OfNat Code (nat_lit 0)) (OfNat.mk c))) f σ (fun e f' σ'=>Q e f' σ' t))):ywp P C c f σ t Q:=NP (kD c f σ _ h)
theorem AK{k:FR→St→Option Nat→Prop}:R (CN k Q .normal f σ t)=R (k f σ t):=congrArg R rfl
theorem Ih{k:FR→St→Option Nat→Prop}:R (CN k Q .ret f σ t)=R (Q .ret f σ t):=congrArg R rfl
theorem EN{k:FR→St→Option Nat→Prop}{id:Nat}:R (CN k Q (.exit id) f σ t)=R (Q (.exit id) f σ t):=congrArg R rfl
theorem vS{id:Nat}:R (qK id Q .normal f σ t)=R (Q .normal f σ t):=congrArg R rfl
theorem C0{id:Nat}:R (qK id Q .ret f σ t)=R (Q .ret f σ t):=congrArg R rfl
theorem AV{id:Nat}:R (qK id Q (.exit id) f σ t)=R (Q .normal f σ t):=congrArg R (by simp[qK])
theorem Ag{k:FR→St→Prop}:R (B3 k .normal f σ)=R (k f σ):=congrArg R rfl
theorem xB{fc:FR}{n:St→Prop}:R (mX q fc n .normal f σ)=R (Gh f σ fun _ σ1=>n σ1):=congrArg R rfl
theorem Cw{fc:FR}{n:St→Prop}{id:Nat}:R (mX q fc n (.exit id) f σ)=R (Gh f σ fun _ σ1=>q (.exit id) fc σ1):=congrArg R rfl
theorem Cu{n:Nat}:R (Nw n .normal f σ t)=R (f.d=[]∧(t=some n∨t=none)):=congrArg R rfl
theorem Km{n:Nat}:R (Nw n .ret f σ t)=R (f.d=[]∧(t=some n∨t=none)):=congrArg R rfl
def uH(l:List Oper):Bool:=l.all fun o=>match o.op with|.defer _=>false|_=>true
theorem lN{l:List Oper}(h:uH l=true):∀o,o∈l→∀c,o.op≠.defer c:=fun o ho c e=>by
 have:=List.all_eq_true.1 h o ho
 rw[e] at this
 cases this
theorem Ip{id:Nat}{ops:Array Oper}(pre:List Oper)(y:Oper)(post:List Oper){o:Operand}{args:Array Operand}{ts:Array TypeId}{i:Nat}{x:List MV}(ho:ops.toList=pre++y::post)(hd:(uH pre&&uH post)=true)
 (hy:y.op=.call ⟨.value o,args,ts⟩)(hg:y.guard=none)(ht:t=some i)(hx:C.xs[i]?=some x)(hno:∀m,m∈x→gS m)(hspec:l7 P C.l C.xs C.Y C.Yx C.Φ0 C.σ0 C.n0)
 (h:R (eE P (@OfNat.ofNat (Array Oper) (nat_lit 0) (@_root_.id (OfNat (Array Oper) (nat_lit 0)) (OfNat.mk ops))) (fun f1 σ1=>aF f1 o=.fn (.yield C.l) [] []∧args.toList.map (aF f1)=x ∧
   eE P (@OfNat.ofNat (Array Oper) (nat_lit 0) (@_root_.id (OfNat (Array Oper) (nat_lit 0)) (OfNat.mk ops))) (fun f2 σ2=>Q .normal f2 σ2 (some (i+1))) (@OfNat.ofNat (List Oper) (nat_lit 0) (@_root_.id (OfNat (List Oper) (nat_lit 0)) (OfNat.mk post))) (bC f1 y.dst (.bool true)) σ1 ∧
   eE P (@OfNat.ofNat (Array Oper) (nat_lit 0) (@_root_.id (OfNat (Array Oper) (nat_lit 0)) (OfNat.mk ops))) (fun f2 σ2=>Q .normal f2 σ2 none) (@OfNat.ofNat (List Oper) (nat_lit 0) (@_root_.id (OfNat (List Oper) (nat_lit 0)) (OfNat.mk post))) (bC f1 y.dst (.bool false)) σ1)
   (@OfNat.ofNat (List Oper) (nat_lit 0) (@_root_.id (OfNat (List Oper) (nat_lit 0)) (OfNat.mk pre))) f σ)):ywp P C (.region id ops false) f σ t Q:=by
 have hd:=Bool.and_eq_true_iff.1 hd
 exact EW pre y post ho (lN hd.1) (lN hd.2) hy hg ht hx hno hspec h
end
attribute [go_sem ↓] AK Ih EN vS C0 AV Ag xB Cw Cu Km
end

section
section
variable {P:Program} {f:FR} {σ:St} {Q:MQ} {id:Nat} {a b l:List Oper} {x:Oper} {dr:Bool}
theorem N8:List.append (x::a) b=x::List.append a b:=rfl
theorem OZ:List.append ([]:List Oper) b=b:=rfl
end
attribute [go_sem] N8 OZ
theorem qD{P:Program}{g:FuncId}{ms:List MV}{σ:St}{o:aY}{u:Nat→MV}{k:MV→St→Prop}(h:aA P g ms St.none fun v σ'=>∃l,v=u l∧σ'=St.none.set l o)(hk:∀l,σ l=none→R (bR (u l) (σ.set l o) k)):R (dA P g ms σ k) :=
 cE h (St.none_le σ) fun v σ' hv hf=>by
  obtain⟨l,rfl,rfl⟩:=hv
  rw[hO,bZ,eC]
  refine hk l ?_
  rcases hf l o (aK _ _ _) with h|⟨o',h⟩
  ·exact h
  ·simp[St.none] at h
end

section
def T.depth:T→Nat
 | .leaf _=>1
 | .one _ a=>1+a.depth
 | .two _ a b=>1+max a.depth b.depth
def CG:List Nat→List Nat
 | []=>[]
 | k::s=>shut ((k - 1)::s)
theorem rE(s:List Nat):shut (0::s)=CG s:=by
 cases s with
 | nil=>rw[shut];rfl
 | cons k s=>rw[shut];rfl
theorem rD(n:Nat)(s:List Nat):shut ((n+1)::s)=(n+1)::s:=by rw[shut]
theorem sL:∀{t:T},t.ok→∀(d:Nat) (s:List Nat) (l:List ND),dp d s (t.fl++l)=dp (max d (s.length+t.depth)) (CG s) l
 | .leaf x,h,d,s,l=>by
  simp only[T.ok] at h
  rw[T.fl,List.cons_append,List.nil_append,dp,h,rE];rfl
 | .one x a,h,d,s,l=>by
  rw[T.fl,List.cons_append,dp,h.1,rD,sL h.2,CG,show 0+1 - 1=0 from rfl,rE]
  congr 1
  simp only[List.length_cons,T.depth];omega
 | .two x a b,h,d,s,l=>by
  rw[T.fl,List.cons_append,dp,h.1,rD,List.append_assoc,sL h.2.1,CG,show 1+1 - 1=0+1 from rfl,rD,sL h.2.2,CG,show 0+1 - 1=0 from rfl,rE]
  congr 1
  simp only[List.length_cons,T.depth];omega
theorem Dj{t:T}(h:t.ok)(he:fZ t.fl 0=(t.fl.length:Int)):gC t.fl=t.depth:=by
 have:=sL h 0 [] []
 rw[List.append_nil] at this
 rw[gC,if_neg,this]
 ·simp[dp]
 ·rintro(h1|h1)
  ·have:=t.zE;rw[h1] at this;simp at this
  ·exact h1 he
end
end Go.Proofs.YtaojijkdamfbnaaGreatDoor
