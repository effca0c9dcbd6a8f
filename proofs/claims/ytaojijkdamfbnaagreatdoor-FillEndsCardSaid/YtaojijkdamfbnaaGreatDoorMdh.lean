/- Parts of the proof, joined; conditions: those that its theorems name. -/
import Derived.Test.YtaojijkdamfbnaaGreatDoorMdd
import Derived.Test.YtaojijkdamfbnaaGreatDoorMde
import Derived.Test.YtaojijkdamfbnaaGreatDoorMdg
set_option linter.unusedVariables false
set_option linter.unusedSimpArgs false
set_option maxHeartbeats 4000000
namespace Go.Proofs.YtaojijkdamfbnaaGreatDoor
section
theorem Sk.cond{α:Type}{f:RD→α × RD}(h:Sk f)(d:α)(b:Bool):Sk (fun r=>if b=true then f r else(d,r)):=⟨fun r hr=>by
 cases b
 ·rfl
 ·simpa using h.stk r hr,fun r=>by
 cases b
 ·exact List.suffix_refl _
 ·simpa using h.sfx r⟩
theorem Rt.cond{α:Type}{f:RD→α × RD}{ok:α→Prop}{w:α→BL}(h:Rt f ok w)(d:α)(b:Bool):Rt (fun r=>if b=true then f r else(d,r)) (fun x=>if b=true then ok x else x=d) (fun x=>if b=true then w x else[]) where
 fwd x l hx:=by
  cases b
  ·simp only[Bool.false_eq_true,if_false,List.nil_append] at hx ⊢;rw[hx]
  ·simp only[if_true] at hx ⊢;exact h.fwd x l hx
 bck r hr:=by
  cases b
  ·exact⟨by simpa using hr,by simp,by simp⟩
  ·simp only[if_true] at hr ⊢;exact h.bck r hr
end

section
section
variable {α:Type} {f:RD→α × RD} {ok:α→Prop} {w:α→BL}
end
section
variable {c:Prop} [Decidable c] {e:Int} {r:RD} {l:BL}
end
theorem BN(l:List ND):bX l=0↔l.length≤31∧l≠[]∧fR l 0=l.length∧l.all eC=true∧fU l≤8:=by
 unfold bX
 by_cases h1:31<l.length
 ·rw[if_pos h1]
  constructor
  ·intro h;cases h
  ·intro h;omega
 ·rw[if_neg h1]
  by_cases h2:l=[]∨fR l 0≠l.length∨l.all eC=false
  ·rw[if_pos h2]
   constructor
   ·intro h;cases h
   ·rintro⟨_,k1,k2,k3,_⟩
    rcases h2 with hc|hc|hc
    ·exact absurd hc k1
    ·exact absurd k2 hc
    ·rw[k3] at hc;cases hc
  ·rw[if_neg h2]
   by_cases h3:8<fU l
   ·rw[if_pos h3]
    constructor
    ·intro h;cases h
    ·rintro⟨_,_,_,_,k⟩;exact absurd h3 (Nat.not_lt.2 k)
   ·rw[if_neg h3]
    refine⟨fun _=>⟨Nat.le_of_not_lt h1,fun h=>h2 (.inl h),Classical.byContradiction fun h=>h2 (.inr (.inl h)),?_,Nat.le_of_not_lt h3⟩,fun _=>rfl⟩
    cases h:l.all eC
    ·exact absurd (.inr (.inr h)) h2
    ·rfl
end

section
class LB (l:BL) (k:outParam Nat):Prop where
 h:l.length≤k
instance {a b:BL} {i j:Nat} [h:LB a i] [k:LB b j]:LB (a++b) (i+j):=⟨by have:=h.h;have:=k.h;rw[List.length_append];omega⟩
instance:LB [] 0:=⟨Nat.le_refl _⟩
instance {c:Prop} [Decidable c] {a b:BL} {i j:Nat} [h:LB a i] [k:LB b j]:LB (if c then a else b) (i+j):=⟨by have:=h.h;have:=k.h;split<;>omega⟩
theorem LB.le{l:BL}{k n:Nat}[h:LB l k](hk:k≤n):l.length≤n:=Nat.le_trans h.h hk
class Sh (r:RD):Prop where
 h:r.l.length≤1000000
instance {c:Prop} [Decidable c] {r s:RD} [h:Sh r] [k:Sh s]:Sh (if c then r else s):=by
 split
 ·exact h
 ·exact k
end

section
section
variable {P:Program} {C:YC} {f:FR} {σ:St} {t:Option Nat} {Q:YQ} {q:MQ} {c:Code}
theorem fB(h:R (cY P (@OfNat.ofNat Code (nat_lit 0) (@_root_.id (OfNat Code (nat_lit 0)) (OfNat.mk c))) f σ q)):mwp P c f σ q:=jV c f σ q h
theorem jQ(h:R (cY P (@OfNat.ofNat Code (nat_lit 0) (@_root_.id (OfNat Code (nat_lit 0)) (OfNat.mk c))) f σ (fun e f' σ'=>Q e f' σ' t))):ywp P C c f σ t Q:=MY (jV c f σ _ h)
theorem Ad{k:FR→St→Option Nat→Prop}:R (Ce k Q .normal f σ t)=R (k f σ t):=congrArg R rfl
theorem HE{k:FR→St→Option Nat→Prop}:R (Ce k Q .ret f σ t)=R (Q .ret f σ t):=congrArg R rfl
theorem Ef{k:FR→St→Option Nat→Prop}{id:Nat}:R (Ce k Q (.exit id) f σ t)=R (Q (.exit id) f σ t):=congrArg R rfl
theorem uY{id:Nat}:R (pP id Q .normal f σ t)=R (Q .normal f σ t):=congrArg R rfl
theorem Cs{id:Nat}:R (pP id Q .ret f σ t)=R (Q .ret f σ t):=congrArg R rfl
theorem An{id:Nat}:R (pP id Q (.exit id) f σ t)=R (Q .normal f σ t):=congrArg R (by simp[pP])
theorem zG{k:FR→St→Prop}:R (By k .normal f σ)=R (k f σ):=congrArg R rfl
theorem vT{fc:FR}{n:St→Prop}:R (n4 q fc n .normal f σ)=R (Gh f σ fun _ σ1=>n σ1):=congrArg R rfl
theorem BZ{n:Nat}:R (MG n .normal f σ t)=R (f.d=[]∧(t=some n∨t=none)):=congrArg R rfl
theorem JH{n:Nat}:R (MG n .ret f σ t)=R (f.d=[]∧(t=some n∨t=none)):=congrArg R rfl
def tG(l:List Oper):Bool:=l.all fun o=>match o.op with|.defer _=>false|_=>true
theorem k0{l:List Oper}(h:tG l=true):∀o,o∈l→∀c,o.op≠.defer c:=fun o ho c e=>by
 have:=List.all_eq_true.1 h o ho
 rw[e] at this
 cases this
theorem HK{id:Nat}{ops:Array Oper}(pre:List Oper)(y:Oper)(post:List Oper){o:Operand}{args:Array Operand}{ts:Array TypeId}{i:Nat}{x:List MV}(ho:ops.toList=pre++y::post)(hd:(tG pre&&tG post)=true)
 (hy:y.op=.call ⟨.value o,args,ts⟩)(hg:y.guard=none)(ht:t=some i)(hx:C.xs[i]?=some x)(hno:∀m,m∈x→gL m)(hspec:lK P C.l C.xs C.Y C.Yx C.Φ0 C.σ0 C.n0)
 (h:R (dV P (@OfNat.ofNat (Array Oper) (nat_lit 0) (@_root_.id (OfNat (Array Oper) (nat_lit 0)) (OfNat.mk ops))) (fun f1 σ1=>aF f1 o=.fn (.yield C.l) [] []∧args.toList.map (aF f1)=x ∧
   dV P (@OfNat.ofNat (Array Oper) (nat_lit 0) (@_root_.id (OfNat (Array Oper) (nat_lit 0)) (OfNat.mk ops))) (fun f2 σ2=>Q .normal f2 σ2 (some (i+1))) (@OfNat.ofNat (List Oper) (nat_lit 0) (@_root_.id (OfNat (List Oper) (nat_lit 0)) (OfNat.mk post))) (bA f1 y.dst (.bool true)) σ1 ∧
   dV P (@OfNat.ofNat (Array Oper) (nat_lit 0) (@_root_.id (OfNat (Array Oper) (nat_lit 0)) (OfNat.mk ops))) (fun f2 σ2=>Q .normal f2 σ2 none) (@OfNat.ofNat (List Oper) (nat_lit 0) (@_root_.id (OfNat (List Oper) (nat_lit 0)) (OfNat.mk post))) (bA f1 y.dst (.bool false)) σ1)
   (@OfNat.ofNat (List Oper) (nat_lit 0) (@_root_.id (OfNat (List Oper) (nat_lit 0)) (OfNat.mk pre))) f σ)):ywp P C (.region id ops false) f σ t Q:=by
 have hd:=Bool.and_eq_true_iff.1 hd
 exact En pre y post ho (k0 hd.1) (k0 hd.2) hy hg ht hx hno hspec h
end
attribute [go_sem ↓] Ad HE Ef uY Cs An zG vT BZ JH
end

section
section
variable {P:Program} {f:FR} {σ:St} {Q:MQ} {id:Nat} {a b l:List Oper} {x:Oper} {dr:Bool}
theorem Ni:List.append (x::a) b=x::List.append a b:=rfl
theorem Oa:List.append ([]:List Oper) b=b:=rfl
end
attribute [go_sem] Ni Oa
theorem Ae{P:Program}{g:FuncId}{ms:List MV}{σ:St}{o:aX}{u:Nat→MV}{k:MV→St→Prop}(h:aA P g ms St.none fun v σ'=>∃l,v=u l∧σ'=St.none.set l o)(hk:∀l,σ l=none→R (bV (u l) (σ.set l o) k)):R (eA P g ms σ k) :=
 cL h (St.none_le σ) fun v σ' hv hf=>by
  obtain⟨l,rfl,rfl⟩:=hv
  rw[gW,bW,dU]
  refine hk l ?_
  rcases hf l o (aJ _ _ _) with h|⟨o',h⟩
  ·exact h
  ·simp[St.none] at h
end
end Go.Proofs.YtaojijkdamfbnaaGreatDoor
