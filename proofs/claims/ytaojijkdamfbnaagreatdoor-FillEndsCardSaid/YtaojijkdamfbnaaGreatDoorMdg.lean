/- Parts of the proof, joined; conditions: those that its theorems name. -/
import Derived.Test.YtaojijkdamfbnaaGreatDoorMdc
import Derived.Test.YtaojijkdamfbnaaGreatDoorMdf
set_option linter.unusedVariables false
set_option linter.unusedSimpArgs false
set_option maxHeartbeats 4000000
namespace Go.Proofs.YtaojijkdamfbnaaGreatDoor
section
structure C2 (Φ0:Phi) (σ0:St) (n0:Nat) (Φ:Phi) (σ:St):Prop where
 le:Φ0.le Φ
 snapn:∀a v,Φ.snap a=some v→Φ0.snap a=some v∨n0≤a.block∨aR Φ0 σ0 a.block
 ownd:∀R,aR Φ σ R→aR Φ0 σ0 R∨n0≤R
structure uV (C:YC) (Φ0:Phi) (σ0:St) (n0:Nat) (So0:YS) (tmps:Array Value) (fc:FR) (l:Nat) (st:Loop) (σ:St) (S:YS) (Φ:Phi) (So:YS) (t:Option Nat):Prop where
 inv:gQ C Φ σ S.w So t
 frame:cG Φ tmps fc
 step:C2 Φ0 σ0 n0 Φ σ
 wr:∀k,S.wr k↔(aR Φ σ k∨k=l∨So.wr k)
 sn:∀a,S.sn a=(match Φ.snap a with|some v=>some v|none=>So.sn a)
 lrec:S.w.heap[l]?=some (.loop st)
 size:n0≤S.w.heap.size
 base:Φ.base≤S.w.heap.size
 owr:∀k,So.wr k→So0.wr k∨n0≤k
 osn:∀a v,So.sn a=some v→So0.sn a=some v∨So0.wr a.block∨n0≤a.block∨Φ0.snap a=some v∨aR Φ0 σ0 a.block
section
variable {C:YC} {Φ0 Φ:Phi} {σ0 σ:St} {n0:Nat} {So0:YS} {tmps:Array Value} {fc:FR} {l:Nat} {st:Loop} {S:YS} {So:YS} {t:Option Nat}
theorem uV.Fa(h:uV C Φ0 σ0 n0 So0 tmps fc l st σ S Φ So t){a:Addr}{v:Value}(q:Φ.snap a=some v):S.sn a=some v:=by rw[h.sn a,q]
theorem uV.NC(h:uV C Φ0 σ0 n0 So0 tmps fc l st σ S Φ So t){a:Addr}{v:Value}(q:So.sn a=some v):S.sn a=some v:=by
 rw[h.sn a]
 cases e:Φ.snap a with
 | none=>exact q
 | some u =>
  have h1:=h.inv.inv.snap a u e
  have h2:=h.inv.apt.agree.sn a v q
  rw[h1] at h2
  simpa using h2
theorem uV.JU(h:uV C Φ0 σ0 n0 So0 tmps fc l st σ S Φ So t){a:Addr}{v:Value}(q:S.sn a=some v):Φ.snap a=some v∨So.sn a=some v:=by
 rw[h.sn a] at q
 cases e:Φ.snap a with
 | none=>rw[e] at q;exact .inr q
 | some u=>rw[e] at q;exact .inl q
theorem uV.agree(h:uV C Φ0 σ0 n0 So0 tmps fc l st σ S Φ So t):jG S S.w :=
 ⟨fun _ _=>rfl,fun k hk=>by
  rcases (h.wr k).1 hk with q|rfl|q
  ·obtain⟨l',o,p,h1,h2,h3⟩:=q
   obtain⟨p',e,hlt⟩:=(h.inv.inv.own l' o h1).place
   rw[h2] at e;cases e
   exact hlt k h3
  ·exact(Array.getElem?_eq_some_iff.1 h.lrec).1
  ·exact Nat.lt_of_lt_of_le (h.inv.apt.agree.lt k q) h.inv.apt.agree.size,(fun k hk x e=>by
  rcases (h.wr k).1 hk with q|rfl|q
  ·exact h.inv.inv.mark e q
  ·rw[h.lrec] at e;cases e
  ·exact h.inv.apt.agree.nomark k q x ((h.inv.apt.agree.same k q).symm.trans e)),fun a v q=>by
  rcases h.JU q with q|q
  ·exact h.inv.inv.snap a v q
  ·exact h.inv.apt.agree.sn a v q,Nat.le_refl _,rfl,rfl,rfl,Nat.le_refl _⟩
theorem uV.at(h:uV C Φ0 σ0 n0 So0 tmps fc l st σ S Φ So t)(k1:∀a v,Φ0.snap a=some v→C.Φ0.snap a=some v∨C.n0≤a.block∨aR C.Φ0 C.σ0 a.block)(k2:∀R,aR Φ0 σ0 R→aR C.Φ0 C.σ0 R∨C.n0≤R)(k3:C.n0≤n0)
 {w:World}(ha:jG S w){Ψ:Phi}(ho:∀m,Ψ.obj m=none)
 (hs:∀a v,Ψ.snap a=some v→w.cell? a=some v∧¬S.wr a.block∧(Φ0.snap a=some v∨n0≤a.block∨aR Φ0 σ0 a.block)) :
  ∃Φ',gQ C Φ' σ w So t∧cG Φ' tmps fc∧C2 Φ0 σ0 n0 Φ' σ∧(∀k,aR Φ' σ k↔aR Φ σ k)∧(∀a v,Φ'.snap a=some v→Φ.snap a=some v∨Ψ.snap a=some v)∧(∀v m,Rel Ψ v m→Rel Φ' v m)∧w.heap[l]?=some (.loop st)∧Φ'.base≤w.heap.size:=by
 obtain⟨Φ',hΦ⟩:∃Φ':Phi,Φ'={ Φ with snap:=fun a=>match Φ.snap a with|some v=>some v|none=>Ψ.snap a }:=⟨_,rfl⟩
 have hle:Φ.le Φ':=by subst hΦ;exact⟨fun a v q=>by simp[q],fun _ _ q=>q,rfl⟩
 have hobj:Φ'.obj=Φ.obj:=by subst hΦ;rfl
 have hb:Φ'.base=Φ.base:=by subst hΦ;rfl
 have hsn:∀a v,Φ'.snap a=some v→Φ.snap a=some v∨Ψ.snap a=some v:=fun a v q=>by
  subst hΦ
  simp only at q
  cases e:Φ.snap a with
  | none=>rw[e] at q;exact .inr q
  | some u=>rw[e] at q;exact .inl q
 have hwr:∀k,aR Φ σ k→w.heap[k]?=S.w.heap[k]?:=fun k hk=>ha.same k ((h.wr k).2 (.inl hk))
 have hown:∀k,aR Φ' σ k↔aR Φ σ k:=fun k=>by unfold aR;rw[hobj]
 have hinv:Inv Φ' w σ:=by
  refine⟨fun l' o hl=>(h.inv.inv.own l' o hl).mono hle fun p R h1 h2=>hwr R ⟨l',o,p,hl,h1,h2⟩,fun a b o o' p p' R h1 h2 h3 h4=>?_,fun a v q=>?_,fun l' o p R a v h1 h2 h3 q=>?_,?_⟩
  ·rw[hobj] at h3 h4;exact h.inv.inv.inj a b o o' p p' R h1 h2 h3 h4
  ·rcases hsn a v q with q|q
   ·exact ha.sn a v (h.Fa q)
   ·exact(hs a v q).1
  ·rw[hobj] at h2
   rcases hsn a v q with q|q
   ·exact h.inv.inv.apart l' o p R a v h1 h2 h3 q
   ·intro e
    exact(hs a v q).2.1 ((h.wr _).2 (.inl ⟨l',o,p,h1,h2,e ▸ h3⟩))
  ·obtain⟨n,hn⟩:=h.inv.inv.fresh.1.1
   exact⟨⟨⟨n,fun k hk=>by rw[hobj];exact hn k hk⟩,fun k p hk=>h.inv.inv.fresh.1.2 k p (by rw[←hobj];exact hk)⟩,fun g i v q=>hle.snap _ _ (h.inv.inv.fresh.2.1 g i v q),h.inv.inv.fresh.2.2.mono hle.snap⟩
 have hag:=h.inv.apt.agree
 have hapt:Apt Φ' σ So w:=by
  refine⟨⟨fun k hk=>(ha.same k ((h.wr k).2 (.inr (.inr hk)))).trans (hag.same k hk),hag.lt,hag.nomark,fun a v q=>ha.sn a v (h.NC q),Nat.le_trans hag.size ha.size,ha.os.trans hag.os,ha.tape.trans hag.tape,ha.output.trans hag.output,Nat.le_trans hag.drawn ha.drawn⟩,fun k hk q=>h.inv.apt.own k hk ((hown k).1 q),fun a v q ho=>h.inv.apt.snown a v q ((hown _).1 ho),fun a v q hk=>?_⟩
  rcases hsn a v q with q|q
  ·exact h.inv.apt.snap a v q hk
  ·exact(hs a v q).2.1 ((h.wr _).2 (.inr (.inr hk)))
 refine⟨Φ',⟨hinv,hapt,fun a v q=>?_,fun R hR=>h.inv.ownd R ((hown R).1 hR),Nat.le_trans h.inv.size ha.size,h.inv.st⟩,h.frame.mono hle,⟨h.step.le.trans hle,fun a v q=>?_,fun R hR=>h.step.ownd R ((hown R).1 hR)⟩,hown,hsn,fun v m r=>?_,?_,?_⟩
 ·rcases hsn a v q with q|q
  ·exact h.inv.snapn a v q
  ·rcases (hs a v q).2.2 with q|q|q
   ·exact k1 a v q
   ·exact .inr (.inl (Nat.le_trans k3 q))
   ·rcases k2 _ q with q|q
    ·exact .inr (.inr q)
    ·exact .inr (.inl q)
 ·rcases hsn a v q with q|q
  ·exact h.step.snapn a v q
  ·exact(hs a v q).2.2
 ·refine r.Bh (fun a u q=>?_) (fun l' p q=>by rw[ho l'] at q;cases q)
  have h1:=(hs a u q).1
  subst hΦ
  simp only
  cases e:Φ.snap a with
  | none=>exact q
  | some u' =>
   have h2:=ha.sn a u' (h.Fa e)
   rw[h1] at h2
   simpa using h2.symm
 ·rw[ha.same l ((h.wr l).2 (.inr (.inl rfl)))];exact h.lrec
 ·rw[hb];exact Nat.le_trans h.base ha.size
end
theorem C2.step{Φ0 Φ Φ':Phi}{σ0 σ σ':St}{n0:Nat}{w w':World}{S S':YS}(h:C2 Φ0 σ0 n0 Φ σ)(hn:n0≤w.heap.size)(k:cU Φ σ w S Φ' σ' w' S'):C2 Φ0 σ0 n0 Φ' σ' where
 le:=h.le.trans k.le
 snapn:=fun a v hv=>by
  rcases k.snapn a v hv with q|q|q
  ·exact h.snapn a v q
  ·exact .inr (.inl (Nat.le_trans hn q))
  ·rcases h.ownd _ q with q|q
   ·exact .inr (.inr q)
   ·exact .inr (.inl q)
 ownd:=fun R hR=>by
  rcases k.ownd R hR with q|q
  ·exact h.ownd R q
  ·exact .inr (Nat.le_trans hn q)
theorem gQ.putObj{C:YC}{Φ:Phi}{σ:St}{w:World}{S:YS}{t:Option Nat}(h:gQ C Φ σ w S t){l:Nat}{r:Loop}(o':Obj)(hl:w.heap[l]?=some (.loop r))(hw:¬S.wr l):gQ C Φ σ (w.putObj l o') S t:=by
 have hne:∀k,S.wr k→k≠l:=fun k hk e=>hw (e ▸ hk)
 refine⟨h.inv.putObj _ hl (fun _ _ _ e=>by cases e) (fun _ _ e=>by cases e),⟨⟨fun k hk=>(World.putObj_heap_other (hne k hk)).trans (h.apt.agree.same k hk),h.apt.agree.lt,h.apt.agree.nomark,fun a v q=>?_,by rw[World.putObj_size];exact h.apt.agree.size,h.apt.agree.os,h.apt.agree.tape,h.apt.agree.output,h.apt.agree.drawn⟩,h.apt.own,h.apt.snown,h.apt.snap⟩,h.snapn,h.ownd,by rw[World.putObj_size];exact h.size,h.st⟩
 have hc:=h.apt.agree.sn a v q
 rw[←hc]
 refine World.dJ (World.putObj_heap_other fun e=>?_)
 rw[World.cell?,e,hl] at hc
 simp at hc
end

section
def T.depth:T→Nat
 | .leaf _=>1
 | .one _ a=>1+a.depth
 | .two _ a b=>1+max a.depth b.depth
def B7:List Nat→List Nat
 | []=>[]
 | k::s=>shut ((k - 1)::s)
theorem qG(s:List Nat):shut (0::s)=B7 s:=by
 cases s with
 | nil=>rw[shut];rfl
 | cons k s=>rw[shut];rfl
theorem qF(n:Nat)(s:List Nat):shut ((n+1)::s)=(n+1)::s:=by rw[shut]
theorem rN:∀{t:T},t.ok→∀(d:Nat) (s:List Nat) (l:List ND),dp d s (t.fl++l)=dp (max d (s.length+t.depth)) (B7 s) l
 | .leaf x,h,d,s,l=>by
  simp only[T.ok] at h
  rw[T.fl,List.cons_append,List.nil_append,dp,h,qG];rfl
 | .one x a,h,d,s,l=>by
  rw[T.fl,List.cons_append,dp,h.1,qF,rN h.2,B7,show 0+1 - 1=0 from rfl,qG]
  congr 1
  simp only[List.length_cons,T.depth];omega
 | .two x a b,h,d,s,l=>by
  rw[T.fl,List.cons_append,dp,h.1,qF,List.append_assoc,rN h.2.1,B7,show 1+1 - 1=0+1 from rfl,qF,rN h.2.2,B7,show 0+1 - 1=0 from rfl,qG]
  congr 1
  simp only[List.length_cons,T.depth];omega
theorem CL{t:T}(h:t.ok)(he:fR t.fl 0=(t.fl.length:Int)):fU t.fl=t.depth:=by
 have:=rN h 0 [] []
 rw[List.append_nil] at this
 rw[fU,if_neg,this]
 ·simp[dp]
 ·rintro(h1|h1)
  ·have:=t.yE;rw[h1] at this;simp at this
  ·exact h1 he
end
end Go.Proofs.YtaojijkdamfbnaaGreatDoor
