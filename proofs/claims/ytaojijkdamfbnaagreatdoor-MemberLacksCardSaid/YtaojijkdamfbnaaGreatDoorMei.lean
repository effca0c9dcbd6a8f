/- Parts of the proof, joined; conditions: those that its theorems name. -/
import Derived.Test.YtaojijkdamfbnaaGreatDoorMeg
set_option linter.unusedVariables false
set_option linter.unusedSimpArgs false
set_option maxHeartbeats 4000000
namespace Go.Proofs.YtaojijkdamfbnaaGreatDoor
section
theorem kE.view{σ:St}{m m':MV}(h:kE m m'):View σ m m':=by
 cases h with
 | same=>exact .same _
 | junk=>exact .junk _
 | nil e t=>exact .nil e t
 | tight e xs=>exact .tight e xs
theorem bD.nest{n:Nat}{l l1:List (Nat × MV)}{d:List (FuncId × List MV)}{σ:St}{q m:Nat}{t t1:TypeId}{e1:Nat}{pre post ys:List (List MV)}{n1:Nat}(σ2:St)
 (hm:σ m=some (.row t1 e1 ys))(hq:σ q=some (.row t 1 (pre++[.vec e1 m 0 n1]::post)))(hn:n1=ys.length)(h2:σ2.le σ)(h2m:σ2 m=none)(hne:q≠m)
 (hw:∀p,p∈l1→kE (cB l p.1) p.2):bD ⟨n,l,d⟩ σ ⟨n,l1,d⟩ (σ2.set q (.row t 1 (pre++[.lst e1 ys false]::post))):=by
 subst hn
 have hv:(St.none.set m (.row t1 e1 ys)) m=some (.row t1 e1 ys):=aJ _ _ _
 refine bD.tA (St.none.set m (.row t1 e1 ys)) (St.aE (St.none_le _) hm) (fun k o1 hk=>?_) (fun k o hk=>?_) fun p hp=>(hw p hp).view
 ·by_cases h:k=q
  ·subst h
   rw[aJ] at hk
   cases hk
   refine⟨_,hq,.inr ⟨t,1,_,_,rfl,rfl,by simp,fun i x x1 hx hx1=>?_⟩⟩
   rcases Nat.lt_trichotomy i pre.length with hi|hi|hi
   ·rw[List.getElem?_append_left hi] at hx hx1
    rw[hx] at hx1;cases hx1
    exact⟨rfl,fun j a b ha hb=>by rw[ha] at hb;cases hb;exact .inl rfl⟩
   ·subst hi
    rw[List.getElem?_append_right (Nat.le_refl _),Nat.sub_self] at hx hx1
    simp only[List.getElem?_cons_zero,Option.some.injEq] at hx hx1
    subst hx;subst hx1
    refine⟨rfl,fun j a b ha hb=>?_⟩
    cases j with
    | zero =>
     simp only[List.getElem?_cons_zero,Option.some.injEq] at ha hb
     subst ha;subst hb
     exact .inr ⟨rfl,.vecAll hv rfl⟩
    | succ j=>simp at ha
   ·rw[List.getElem?_append_right (by omega)] at hx hx1
    obtain⟨j,hj⟩:∃j,i - pre.length=j+1:=⟨i - pre.length - 1,by omega⟩
    rw[hj,List.getElem?_cons_succ] at hx hx1
    rw[hx] at hx1;cases hx1
    exact⟨rfl,fun j a b ha hb=>by rw[ha] at hb;cases hb;exact .inl rfl⟩
  ·rw[aK _ _ _ _ h] at hk
   exact⟨o1,h2 k o1 hk,.inl rfl⟩
 ·by_cases h:k=m
  ·subst h
   by_cases hq':k=q
   ·exact absurd hq'.symm hne
   ·rw[aK _ _ _ _ hq',h2m] at hk;cases hk
  ·exact aK _ _ _ _ h ▸ rfl
theorem aA.pre{P:Program}{g:FuncId}{ms ms':List MV}{σ σ2:St}{Q:MV→St→Prop}(hl:ms.length=ms'.length)(hg:bD ⟨ms.length,iT 0 ms,[]⟩ σ ⟨ms.length,iT 0 ms',[]⟩ σ2)(h:aA P g ms' σ2 Q):aA P g ms σ Q:=by
 refine⟨h.1,fun Φ w vs hi hr=>?_⟩
 obtain⟨-,hg⟩:=hg
 obtain⟨Φ1,i1,r1,s1⟩:=hg Φ w vs hi ⟨hr.1,fun t=>by
  simp only[FR.get,nC,Nat.sub_zero,Nat.zero_le,if_true]
  cases hm:ms[t]? with
  | none=>exact .junk _
  | some m=>exact hr.2 t m hm⟩
 refine(h.2 Φ1 w vs i1 ⟨hr.1.trans hl,fun i m hm=>?_⟩).mono ?_
 ·have:=r1.2 i
  simp only[FR.get,nC,Nat.sub_zero,Nat.zero_le,if_true,hm] at this
  exact this
 ·rintro e w' ⟨v,mv,σ',Φ',rfl,q1,q2,q3,hq⟩
  exact⟨v,mv,σ',Φ',rfl,q1,q2,s1.trans q3,hq⟩
theorem x9:∀{ms:List MV} {i:Nat} {p:Nat × MV},p∈iT i ms→∃j,p.1=i+j∧ms[j]?=some p.2
 | [],_,_,h=>by simp[iT] at h
 | m::ms,i,p,h=>by
  rw[iT,List.mem_cons] at h
  rcases h with rfl|h
  ·exact⟨0,rfl,rfl⟩
  ·obtain⟨j,h1,h2⟩:=x9 h
   exact⟨j+1,by omega,by simpa using h2⟩
theorem KK{P:Program}{g:FuncId}{ms:List MV}(ms':List MV){σ:St}(σv σ2:St){r:MV}{k:MV→St→Prop}(h:aA P g ms' St.none fun v _=>v=r)(hle:σv.le σ)(h2:σ2.le σ)(hd:∀k o,σ2 k=some o→σv k=none)
 (hl:ms.length=ms'.length)(hv:∀(i:Nat) (m m':MV),ms[i]?=some m→ms'[i]?=some m'→View σv m m')(hk:R (bP r σ2 k)):R (cX P g ms σ k):=by
 refine aA.pre hl (bD.freeze σv hle h2 hd fun p hp=>?_) (aM h hk)
 obtain⟨j,h1,h3⟩:=x9 hp
 rw[h1,nC]
 simp only[Nat.zero_add,Nat.zero_le,if_true,Nat.sub_zero]
 have hj:=(List.getElem?_eq_some_iff.1 h3).1
 obtain⟨m,hm⟩:∃m,ms[j]?=some m:=⟨ms[j]'(by omega),by simp⟩
 rw[hm]
 exact hv j m _ hm h3
theorem yP{P:Program}{g:FuncId}{ms:List MV}(ms':List MV){σ:St}(l:Nat){o:aX}{r:MV}{k:MV→St→Prop}(h:aA P g ms' St.none fun v _=>v=r)(ho:σ l=some o)
 (hl:ms.length=ms'.length)(hv:∀(i:Nat) (m m':MV),ms[i]?=some m→ms'[i]?=some m'→View (St.none.set l o) m m')(hk:R (bP r (σ.del l) k)):R (cX P g ms σ k) :=
 KK ms' (St.none.set l o) (σ.del l) h (St.aE (St.none_le _) ho) (fun j q hq=>by
  simp only[St.del] at hq
  split at hq
  ·cases hq
  ·exact hq) (fun j q hq=>by
  simp only[St.del] at hq
  split at hq
  ·cases hq
  ·exact aK _ _ _ _ (by assumption)) hl hv hk
theorem nL{σ:St}{a a':MV}(h:View σ a a'):∀(i:Nat) (m m':MV),[a][i]?=some m→[a'][i]?=some m'→View σ m m':=fun i m m' h1 h2=>by
 match i,h1,h2 with
 | 0,h1,h2=>simp only[List.getElem?_cons_zero,Option.some.injEq] at h1 h2;subst h1 h2;exact h
theorem nM{σ:St}{a b a' b':MV}(h:View σ a a')(k:View σ b b'):∀(i:Nat) (m m':MV),[a,b][i]?=some m→[a',b'][i]?=some m'→View σ m m':=fun i m m' h1 h2=>by
 match i,h1,h2 with
 | 0,h1,h2=>simp only[List.getElem?_cons_zero,Option.some.injEq] at h1 h2;subst h1 h2;exact h
 | 1,h1,h2=>simp only[List.getElem?_cons_succ,List.getElem?_cons_zero,Option.some.injEq] at h1 h2;subst h1 h2;exact k
end

section
def val:BL→Nat
 | []=>0
 | c::l=>c.toNat % 128+128 * val l
end

section
def wd(g:Nat→Bool):Nat→Nat
 | 0=>0
 | n+1=>wd g n ||| (if g n=true then 2 ^ n else 0)
def tw(f:Nat→Bool)(i:Nat):Nat:=wd (fun j=>f (64 * i+j)) 64
end

section
def nd(op:Int):ND:=⟨op,0,va0⟩
def T.root:T→ND
 | .leaf x=>x
 | .one x _=>x
 | .two x _ _=>x
def T.kids:T→List T
 | .leaf _=>[]
 | .one _ a=>[a]
 | .two _ a b=>[a,b]
theorem T.Fg(t:T):t.fl=t.root::(t.kids.map T.fl).flatten:=by cases t<;>simp[T.fl,T.kids,T.root]
theorem T.FE{t:T}(h:t.ok):t.kids.length=parts t.root.op∧∀k,k∈t.kids→k.ok:=by
 cases t with
 | leaf x=>simp only[T.ok] at h;simp[T.kids,T.root,h]
 | one x a=>simp only[T.ok] at h;simp[T.kids,T.root,h.1,h.2]
 | two x a b=>simp only[T.ok] at h;simp[T.kids,T.root,h.1,h.2.1,h.2.2]
theorem zD:∀(t u:T) (r s:List ND),t.ok→u.ok→t.fl++r=u.fl++s→t=u∧r=s
 | .leaf x,.leaf y,r,s,ht,hu,h=>by simp only[T.fl,List.cons_append,List.nil_append,List.cons.injEq] at h;exact⟨by rw[h.1],h.2⟩
 | .leaf x,.one y b,r,s,ht,hu,h=>by simp only[T.fl,List.cons_append,List.cons.injEq] at h;simp only[T.ok] at ht hu;rw[h.1] at ht;omega
 | .leaf x,.two y b c,r,s,ht,hu,h=>by simp only[T.fl,List.cons_append,List.cons.injEq] at h;simp only[T.ok] at ht hu;rw[h.1] at ht;omega
 | .one x a,.leaf y,r,s,ht,hu,h=>by simp only[T.fl,List.cons_append,List.cons.injEq] at h;simp only[T.ok] at ht hu;rw[h.1] at ht;omega
 | .one x a,.one y b,r,s,ht,hu,h=>by
  simp only[T.fl,List.cons_append,List.cons.injEq] at h
  obtain⟨e1,e2⟩:=zD a b r s ht.2 hu.2 h.2
  exact⟨by rw[h.1,e1],e2⟩
 | .one x a,.two y b c,r,s,ht,hu,h=>by simp only[T.fl,List.cons_append,List.cons.injEq] at h;simp only[T.ok] at ht hu;rw[h.1] at ht;omega
 | .two x a a',.leaf y,r,s,ht,hu,h=>by simp only[T.fl,List.cons_append,List.cons.injEq] at h;simp only[T.ok] at ht hu;rw[h.1] at ht;omega
 | .two x a a',.one y b,r,s,ht,hu,h=>by simp only[T.fl,List.cons_append,List.cons.injEq] at h;simp only[T.ok] at ht hu;rw[h.1] at ht;omega
 | .two x a a',.two y b b',r,s,ht,hu,h=>by
  simp only[T.fl,List.cons_append,List.cons.injEq,List.append_assoc] at h
  obtain⟨e1,e2⟩:=zD a b _ _ ht.2.1 hu.2.1 h.2
  obtain⟨e3,e4⟩:=zD a' b' r s ht.2.2 hu.2.2 e2
  exact⟨by rw[h.1,e1,e3],e4⟩
theorem N8{t u:T}(ht:t.ok)(hu:u.ok)(h:t.fl=u.fl):t=u:=(zD t u [] [] ht hu (by rw[h])).1
end
end Go.Proofs.YtaojijkdamfbnaaGreatDoor
