/- Parts of the proof, joined; conditions: those that its theorems name. -/
import Derived.Test.YtaojijkdamfbnaaGreatDoorMfc
set_option linter.unusedVariables false
set_option linter.unusedSimpArgs false
set_option maxHeartbeats 4000000
namespace Go.Proofs.YtaojijkdamfbnaaGreatDoor
section
theorem F8.ext{f g:F8}(h:∀i,i<8→f.get i=g.get i):f=g:=by
 obtain⟨a,ha⟩:=f
 obtain⟨b,hb⟩:=g
 have:a=b:=by
  apply List.ext_getElem (by omega)
  intro i h1 h2
  have:=h i (by omega)
  simpa[F8.get,List.getD,h1,h2] using this
 subst this;rfl
theorem F8.KK(f:F8)(i j:Nat)(v:VA)(hi:i<8):(f.set i v).get j=if i=j then v else f.get j:=by
 have:=f.h
 simp only[F8.get,F8.set,List.getD_eq_getElem?_getD,List.getElem?_set]
 split
 ·rename_i e
  subst e
  rw[if_pos (by omega)];rfl
 ·rfl
theorem F8.Ez(f:F8)(p:VA→Bool):f.l.all p=true↔∀i,i<8→p (f.get i)=true:=by
 rw[List.all_eq_true]
 constructor
 ·intro h i hi
  refine h _ ?_
  have:i<f.l.length:=by rw[f.h];exact hi
  rw[F8.get,List.getD_eq_getElem?_getD,List.getElem?_eq_getElem this]
  exact List.getElem_mem _
 ·intro h x hx
  obtain⟨i,hi,rfl⟩:=List.mem_iff_getElem.1 hx
  have:=h i (by rw[←f.h];exact hi)
  rwa [F8.get,List.getD_eq_getElem?_getD,List.getElem?_eq_getElem hi] at this
theorem L1{v:VA}(h:dU v=true)(h0:v.kd=0):v=va0:=by
 rcases (Kk v).1 h with⟨_,h⟩|⟨h,_⟩|⟨h,_⟩
 ·exact h
 ·omega
 ·omega
theorem LX{n:Int}(h0:0≤n)(h:n≤4294967295):((UInt32.ofNat n.toNat).toNat:Int)=n:=by
 rw[UInt32.toNat_ofNat',Nat.mod_eq_of_lt (by omega)];omega
end

section
theorem Sk.cond{α:Type}{f:RD→α × RD}(h:Sk f)(d:α)(b:Bool):Sk (fun r=>if b=true then f r else(d,r)):=⟨fun r hr=>by
 cases b
 ·rfl
 ·simpa using h.stk r hr,fun r=>by
 cases b
 ·exact List.suffix_refl _
 ·simpa using h.sfx r⟩
theorem Rt.cond{α:Type}{f:RD→α × RD}{ok:α→Prop}{w:α→BL}(h:Rt f ok w)(d:α)(b:Bool):Rt (fun r=>if b=true then f r else(d,r)) (fun x=>if b=true then ok x else x=d) (fun x=>if b=true then w x else[]) where
 fwd x l hx:=by
  cases b
  ·simp only[Bool.false_eq_true,if_false,List.nil_append] at hx ⊢;rw[hx]
  ·simp only[if_true] at hx ⊢;exact h.fwd x l hx
 bck r hr:=by
  cases b
  ·exact⟨by simpa using hr,by simp,by simp⟩
  ·simp only[if_true] at hr ⊢;exact h.bck r hr
end

section
section
variable {α:Type} {f:RD→α × RD} {ok:α→Prop} {w:α→BL}
end
section
variable {c:Prop} [Decidable c] {e:Int} {r:RD} {l:BL}
end
theorem BV(l:List ND):bI l=0↔l.length≤31∧l≠[]∧fQ l 0=l.length∧l.all eH=true∧fT l≤8:=by
 unfold bI
 by_cases h1:31<l.length
 ·rw[if_pos h1]
  constructor
  ·intro h;cases h
  ·intro h;omega
 ·rw[if_neg h1]
  by_cases h2:l=[]∨fQ l 0≠l.length∨l.all eH=false
  ·rw[if_pos h2]
   constructor
   ·intro h;cases h
   ·rintro⟨_,k1,k2,k3,_⟩
    rcases h2 with hc|hc|hc
    ·exact absurd hc k1
    ·exact absurd k2 hc
    ·rw[k3] at hc;cases hc
  ·rw[if_neg h2]
   by_cases h3:8<fT l
   ·rw[if_pos h3]
    constructor
    ·intro h;cases h
    ·rintro⟨_,_,_,_,k⟩;exact absurd h3 (Nat.not_lt.2 k)
   ·rw[if_neg h3]
    refine⟨fun _=>⟨Nat.le_of_not_lt h1,fun h=>h2 (.inl h),Classical.byContradiction fun h=>h2 (.inr (.inl h)),?_,Nat.le_of_not_lt h3⟩,fun _=>rfl⟩
    cases h:l.all eH
    ·exact absurd (.inr (.inr h)) h2
    ·rfl
end

section
theorem lM.view{σ:St}{m m':MV}(h:lM m m'):View σ m m':=by
 cases h with
 | same=>exact .same _
 | junk=>exact .junk _
 | nil e t=>exact .nil e t
 | tight e xs=>exact .tight e xs
theorem bD.nest{n:Nat}{l l1:List (Nat × MV)}{d:List (FuncId × List MV)}{σ:St}{q m:Nat}{t t1:TypeId}{e1:Nat}{pre post ys:List (List MV)}{n1:Nat}(σ2:St)
 (hm:σ m=some (.row t1 e1 ys))(hq:σ q=some (.row t 1 (pre++[.vec e1 m 0 n1]::post)))(hn:n1=ys.length)(h2:σ2.le σ)(h2m:σ2 m=none)(hne:q≠m)
 (hw:∀p,p∈l1→lM (bY l p.1) p.2):bD ⟨n,l,d⟩ σ ⟨n,l1,d⟩ (σ2.set q (.row t 1 (pre++[.lst e1 ys false]::post))):=by
 subst hn
 have hv:(St.none.set m (.row t1 e1 ys)) m=some (.row t1 e1 ys):=aF _ _ _
 refine bD.sP (St.none.set m (.row t1 e1 ys)) (St.aD (St.none_le _) hm) (fun k o1 hk=>?_) (fun k o hk=>?_) fun p hp=>(hw p hp).view
 ·by_cases h:k=q
  ·subst h
   rw[aF] at hk
   cases hk
   refine⟨_,hq,.inr ⟨t,1,_,_,rfl,rfl,by simp,fun i x x1 hx hx1=>?_⟩⟩
   rcases Nat.lt_trichotomy i pre.length with hi|hi|hi
   ·rw[List.getElem?_append_left hi] at hx hx1
    rw[hx] at hx1;cases hx1
    exact⟨rfl,fun j a b ha hb=>by rw[ha] at hb;cases hb;exact .inl rfl⟩
   ·subst hi
    rw[List.getElem?_append_right (Nat.le_refl _),Nat.sub_self] at hx hx1
    simp only[List.getElem?_cons_zero,Option.some.injEq] at hx hx1
    subst hx;subst hx1
    refine⟨rfl,fun j a b ha hb=>?_⟩
    cases j with
    | zero =>
     simp only[List.getElem?_cons_zero,Option.some.injEq] at ha hb
     subst ha;subst hb
     exact .inr ⟨rfl,.vecAll hv rfl⟩
    | succ j=>simp at ha
   ·rw[List.getElem?_append_right (by omega)] at hx hx1
    obtain⟨j,hj⟩:∃j,i - pre.length=j+1:=⟨i - pre.length - 1,by omega⟩
    rw[hj,List.getElem?_cons_succ] at hx hx1
    rw[hx] at hx1;cases hx1
    exact⟨rfl,fun j a b ha hb=>by rw[ha] at hb;cases hb;exact .inl rfl⟩
  ·rw[aG _ _ _ _ h] at hk
   exact⟨o1,h2 k o1 hk,.inl rfl⟩
 ·by_cases h:k=m
  ·subst h
   by_cases hq':k=q
   ·exact absurd hq'.symm hne
   ·rw[aG _ _ _ _ hq',h2m] at hk;cases hk
  ·exact aG _ _ _ _ h ▸ rfl
theorem aA.pre{P:Program}{g:FuncId}{ms ms':List MV}{σ σ2:St}{Q:MV→St→Prop}(hl:ms.length=ms'.length)(hg:bD ⟨ms.length,iQ 0 ms,[]⟩ σ ⟨ms.length,iQ 0 ms',[]⟩ σ2)(h:aA P g ms' σ2 Q):aA P g ms σ Q:=by
 refine⟨h.1,fun Φ w vs hi hr=>?_⟩
 obtain⟨-,hg⟩:=hg
 obtain⟨Φ1,i1,r1,s1⟩:=hg Φ w vs hi ⟨hr.1,fun t=>by
  simp only[FR.get,mS,Nat.sub_zero,Nat.zero_le,if_true]
  cases hm:ms[t]? with
  | none=>exact .junk _
  | some m=>exact hr.2 t m hm⟩
 refine(h.2 Φ1 w vs i1 ⟨hr.1.trans hl,fun i m hm=>?_⟩).mono ?_
 ·have:=r1.2 i
  simp only[FR.get,mS,Nat.sub_zero,Nat.zero_le,if_true,hm] at this
  exact this
 ·rintro e w' ⟨v,mv,σ',Φ',rfl,q1,q2,q3,hq⟩
  exact⟨v,mv,σ',Φ',rfl,q1,q2,s1.trans q3,hq⟩
theorem xK:∀{ms:List MV} {i:Nat} {p:Nat × MV},p∈iQ i ms→∃j,p.1=i+j∧ms[j]?=some p.2
 | [],_,_,h=>by simp[iQ] at h
 | m::ms,i,p,h=>by
  rw[iQ,List.mem_cons] at h
  rcases h with rfl|h
  ·exact⟨0,rfl,rfl⟩
  ·obtain⟨j,h1,h2⟩:=xK h
   exact⟨j+1,by omega,by simpa using h2⟩
theorem Kg{P:Program}{g:FuncId}{ms:List MV}(ms':List MV){σ:St}(σv σ2:St){r:MV}{k:MV→St→Prop}(h:aA P g ms' St.none fun v _=>v=r)(hle:σv.le σ)(h2:σ2.le σ)(hd:∀k o,σ2 k=some o→σv k=none)
 (hl:ms.length=ms'.length)(hv:∀(i:Nat) (m m':MV),ms[i]?=some m→ms'[i]?=some m'→View σv m m')(hk:R (bR r σ2 k)):R (cX P g ms σ k):=by
 refine aA.pre hl (bD.freeze σv hle h2 hd fun p hp=>?_) (aK h hk)
 obtain⟨j,h1,h3⟩:=xK hp
 rw[h1,mS]
 simp only[Nat.zero_add,Nat.zero_le,if_true,Nat.sub_zero]
 have hj:=(List.getElem?_eq_some_iff.1 h3).1
 obtain⟨m,hm⟩:∃m,ms[j]?=some m:=⟨ms[j]'(by omega),by simp⟩
 rw[hm]
 exact hv j m _ hm h3
theorem xW{P:Program}{g:FuncId}{ms:List MV}(ms':List MV){σ:St}(l:Nat){o:aV}{r:MV}{k:MV→St→Prop}(h:aA P g ms' St.none fun v _=>v=r)(ho:σ l=some o)
 (hl:ms.length=ms'.length)(hv:∀(i:Nat) (m m':MV),ms[i]?=some m→ms'[i]?=some m'→View (St.none.set l o) m m')(hk:R (bR r (σ.del l) k)):R (cX P g ms σ k) :=
 Kg ms' (St.none.set l o) (σ.del l) h (St.aD (St.none_le _) ho) (fun j q hq=>by
  simp only[St.del] at hq
  split at hq
  ·cases hq
  ·exact hq) (fun j q hq=>by
  simp only[St.del] at hq
  split at hq
  ·cases hq
  ·exact aG _ _ _ _ (by assumption)) hl hv hk
theorem mZ{σ:St}{a a':MV}(h:View σ a a'):∀(i:Nat) (m m':MV),[a][i]?=some m→[a'][i]?=some m'→View σ m m':=fun i m m' h1 h2=>by
 match i,h1,h2 with
 | 0,h1,h2=>simp only[List.getElem?_cons_zero,Option.some.injEq] at h1 h2;subst h1 h2;exact h
theorem nA{σ:St}{a b a' b':MV}(h:View σ a a')(k:View σ b b'):∀(i:Nat) (m m':MV),[a,b][i]?=some m→[a',b'][i]?=some m'→View σ m m':=fun i m m' h1 h2=>by
 match i,h1,h2 with
 | 0,h1,h2=>simp only[List.getElem?_cons_zero,Option.some.injEq] at h1 h2;subst h1 h2;exact h
 | 1,h1,h2=>simp only[List.getElem?_cons_succ,List.getElem?_cons_zero,Option.some.injEq] at h1 h2;subst h1 h2;exact k
end
end Go.Proofs.YtaojijkdamfbnaaGreatDoor
