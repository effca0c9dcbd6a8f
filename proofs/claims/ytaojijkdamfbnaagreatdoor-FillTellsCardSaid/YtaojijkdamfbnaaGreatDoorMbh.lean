/- Parts of the proof, joined; conditions: those that its theorems name. -/
import Derived.Test.YtaojijkdamfbnaaGreatDoorMbe
import Derived.Test.YtaojijkdamfbnaaGreatDoorMbf
import Derived.Test.YtaojijkdamfbnaaGreatDoorMbg
set_option linter.unusedVariables false
set_option linter.unusedSimpArgs false
set_option maxHeartbeats 4000000
namespace Go.Proofs.YtaojijkdamfbnaaGreatDoor
section
theorem Sk.cond{α:Type}{f:RD→α × RD}(h:Sk f)(d:α)(b:Bool):Sk (fun r=>if b=true then f r else(d,r)):=⟨fun r hr=>by
 cases b
 ·rfl
 ·simpa using h.stk r hr,fun r=>by
 cases b
 ·exact List.suffix_refl _
 ·simpa using h.sfx r⟩
theorem Rt.cond{α:Type}{f:RD→α × RD}{ok:α→Prop}{w:α→BL}(h:Rt f ok w)(d:α)(b:Bool):Rt (fun r=>if b=true then f r else(d,r)) (fun x=>if b=true then ok x else x=d) (fun x=>if b=true then w x else[]) where
 fwd x l hx:=by
  cases b
  ·simp only[Bool.false_eq_true,if_false,List.nil_append] at hx ⊢;rw[hx]
  ·simp only[if_true] at hx ⊢;exact h.fwd x l hx
 bck r hr:=by
  cases b
  ·exact⟨by simpa using hr,by simp,by simp⟩
  ·simp only[if_true] at hr ⊢;exact h.bck r hr
end

section
section
variable {α:Type} {f:RD→α × RD} {ok:α→Prop} {w:α→BL}
end
section
variable {c:Prop} [Decidable c] {e:Int} {r:RD} {l:BL}
end
theorem BG(l:List ND):bU l=0↔l.length≤31∧l≠[]∧fS l 0=l.length∧l.all eE=true∧fV l≤8:=by
 unfold bU
 by_cases h1:31<l.length
 ·rw[if_pos h1]
  constructor
  ·intro h;cases h
  ·intro h;omega
 ·rw[if_neg h1]
  by_cases h2:l=[]∨fS l 0≠l.length∨l.all eE=false
  ·rw[if_pos h2]
   constructor
   ·intro h;cases h
   ·rintro⟨_,k1,k2,k3,_⟩
    rcases h2 with hc|hc|hc
    ·exact absurd hc k1
    ·exact absurd k2 hc
    ·rw[k3] at hc;cases hc
  ·rw[if_neg h2]
   by_cases h3:8<fV l
   ·rw[if_pos h3]
    constructor
    ·intro h;cases h
    ·rintro⟨_,_,_,_,k⟩;exact absurd h3 (Nat.not_lt.2 k)
   ·rw[if_neg h3]
    refine⟨fun _=>⟨Nat.le_of_not_lt h1,fun h=>h2 (.inl h),Classical.byContradiction fun h=>h2 (.inr (.inl h)),?_,Nat.le_of_not_lt h3⟩,fun _=>rfl⟩
    cases h:l.all eE
    ·exact absurd (.inr (.inr h)) h2
    ·rfl
end

section
class LB (l:BL) (k:outParam Nat):Prop where
 h:l.length≤k
instance {a b:BL} {i j:Nat} [h:LB a i] [k:LB b j]:LB (a++b) (i+j):=⟨by have:=h.h;have:=k.h;rw[List.length_append];omega⟩
instance:LB [] 0:=⟨Nat.le_refl _⟩
instance {c:Prop} [Decidable c] {a b:BL} {i j:Nat} [h:LB a i] [k:LB b j]:LB (if c then a else b) (i+j):=⟨by have:=h.h;have:=k.h;split<;>omega⟩
theorem LB.le{l:BL}{k n:Nat}[h:LB l k](hk:k≤n):l.length≤n:=Nat.le_trans h.h hk
class Sh (r:RD):Prop where
 h:r.l.length≤1000000
instance {c:Prop} [Decidable c] {r s:RD} [h:Sh r] [k:Sh s]:Sh (if c then r else s):=by
 split
 ·exact h
 ·exact k
end

section
section
variable {P:Program} {C:YC} {f:FR} {σ:St} {t:Option Nat} {Q:YQ} {q:MQ} {c:Code}
theorem dW(h:R (cZ P (@OfNat.ofNat Code (nat_lit 0) (@_root_.id (OfNat Code (nat_lit 0)) (OfNat.mk c))) f σ q)):mwp P c f σ q:=jX c f σ q h
theorem gS(h:R (cZ P (@OfNat.ofNat Code (nat_lit 0) (@_root_.id (OfNat Code (nat_lit 0)) (OfNat.mk c))) f σ (fun e f' σ'=>Q e f' σ' t))):ywp P C c f σ t Q:=M1 (jX c f σ _ h)
theorem Aa{k:FR→St→Option Nat→Prop}:R (B7 k Q .normal f σ t)=R (k f σ t):=congrArg R rfl
theorem HC{k:FR→St→Option Nat→Prop}:R (B7 k Q .ret f σ t)=R (Q .ret f σ t):=congrArg R rfl
theorem D9{k:FR→St→Option Nat→Prop}{id:Nat}:R (B7 k Q (.exit id) f σ t)=R (Q (.exit id) f σ t):=congrArg R rfl
theorem u4{id:Nat}:R (pW id Q .normal f σ t)=R (Q .normal f σ t):=congrArg R rfl
theorem Cl{id:Nat}:R (pW id Q .ret f σ t)=R (Q .ret f σ t):=congrArg R rfl
theorem Ai{id:Nat}:R (pW id Q (.exit id) f σ t)=R (Q .normal f σ t):=congrArg R (by simp[pW])
theorem zD{k:FR→St→Prop}:R (Bs k .normal f σ)=R (k f σ):=congrArg R rfl
theorem vT{fc:FR}{n:St→Prop}:R (oE q fc n .normal f σ)=R (Gh f σ fun _ σ1=>n σ1):=congrArg R rfl
theorem BR{n:Nat}:R (MI n .normal f σ t)=R (f.d=[]∧(t=some n∨t=none)):=congrArg R rfl
theorem JH{n:Nat}:R (MI n .ret f σ t)=R (f.d=[]∧(t=some n∨t=none)):=congrArg R rfl
def tK(l:List Oper):Bool:=l.all fun o=>match o.op with|.defer _=>false|_=>true
theorem k9{l:List Oper}(h:tK l=true):∀o,o∈l→∀c,o.op≠.defer c:=fun o ho c e=>by
 have:=List.all_eq_true.1 h o ho
 rw[e] at this
 cases this
theorem HI{id:Nat}{ops:Array Oper}(pre:List Oper)(y:Oper)(post:List Oper){o:Operand}{args:Array Operand}{ts:Array TypeId}{i:Nat}{x:List MV}(ho:ops.toList=pre++y::post)(hd:(tK pre&&tK post)=true)
 (hy:y.op=.call ⟨.value o,args,ts⟩)(hg:y.guard=none)(ht:t=some i)(hx:C.xs[i]?=some x)(hno:∀m,m∈x→gN m)(hspec:lP P C.l C.xs C.Y C.Yx C.Φ0 C.σ0 C.n0)
 (h:R (dY P (@OfNat.ofNat (Array Oper) (nat_lit 0) (@_root_.id (OfNat (Array Oper) (nat_lit 0)) (OfNat.mk ops))) (fun f1 σ1=>aF f1 o=.fn (.yield C.l) [] []∧args.toList.map (aF f1)=x ∧
   dY P (@OfNat.ofNat (Array Oper) (nat_lit 0) (@_root_.id (OfNat (Array Oper) (nat_lit 0)) (OfNat.mk ops))) (fun f2 σ2=>Q .normal f2 σ2 (some (i+1))) (@OfNat.ofNat (List Oper) (nat_lit 0) (@_root_.id (OfNat (List Oper) (nat_lit 0)) (OfNat.mk post))) (bB f1 y.dst (.bool true)) σ1 ∧
   dY P (@OfNat.ofNat (Array Oper) (nat_lit 0) (@_root_.id (OfNat (Array Oper) (nat_lit 0)) (OfNat.mk ops))) (fun f2 σ2=>Q .normal f2 σ2 none) (@OfNat.ofNat (List Oper) (nat_lit 0) (@_root_.id (OfNat (List Oper) (nat_lit 0)) (OfNat.mk post))) (bB f1 y.dst (.bool false)) σ1)
   (@OfNat.ofNat (List Oper) (nat_lit 0) (@_root_.id (OfNat (List Oper) (nat_lit 0)) (OfNat.mk pre))) f σ)):ywp P C (.region id ops false) f σ t Q:=by
 have hd:=Bool.and_eq_true_iff.1 hd
 exact Eh pre y post ho (k9 hd.1) (k9 hd.2) hy hg ht hx hno hspec h
end
attribute [go_sem ↓] Aa HC D9 u4 Cl Ai zD vT BR JH
end

section
section
variable {P:Program} {f:FR} {σ:St} {Q:MQ} {id:Nat} {a b l:List Oper} {x:Oper} {dr:Bool}
theorem Nl:List.append (x::a) b=x::List.append a b:=rfl
theorem Oc:List.append ([]:List Oper) b=b:=rfl
end
attribute [go_sem] Nl Oc
theorem Fa{P:Program}{g:FuncId}{ms:List MV}{σ:St}{o:aX}{u:Nat→MV}{k:MV→St→Prop}(h:aA P g ms St.none fun v σ'=>∃l,v=u l∧σ'=St.none.set l o)(hk:∀l,σ l=none→R (bT (u l) (σ.set l o) k)):R (eC P g ms σ k) :=
 cK h (St.none_le σ) fun v σ' hv hf=>by
  obtain⟨l,rfl,rfl⟩:=hv
  rw[hE,bW,dX]
  refine hk l ?_
  rcases hf l o (aJ _ _ _) with h|⟨o',h⟩
  ·exact h
  ·simp[St.none] at h
end
end Go.Proofs.YtaojijkdamfbnaaGreatDoor
