/- Parts of the proof, joined; conditions: those that its theorems name. -/
import Derived.Test.YtojmhmejdihaaaaGreatDoorSte
import Derived.Test.YtojmhmejdihaaaaGreatDoorStf
set_option linter.unusedVariables false
set_option linter.unusedSimpArgs false
set_option maxHeartbeats 4000000
namespace Go.Proofs.YtojmhmejdihaaaaGreatDoor
section
theorem mB.view{σ:St}{m m':MV}(h:mB m m'):View σ m m':=by
 cases h with
 | same=>exact .same _
 | junk=>exact .junk _
 | nil e t=>exact .nil e t
 | tight e xs=>exact .tight e xs
theorem bV.nest{n:Nat}{l l1:List (Nat × MV)}{d:List (FuncId × List MV)}{σ:St}{q m:Nat}{t t1:TypeId}{e1:Nat}{pre post ys:List (List MV)}{n1:Nat}(σ2:St)
 (hm:σ m=some (.row t1 e1 ys))(hq:σ q=some (.row t 1 (pre++[.vec e1 m 0 n1]::post)))(hn:n1=ys.length)(h2:σ2.le σ)(h2m:σ2 m=none)(hne:q≠m)
 (hw:∀p,p∈l1→mB (cH l p.1) p.2):bV ⟨n,l,d⟩ σ ⟨n,l1,d⟩ (σ2.set q (.row t 1 (pre++[.lst e1 ys false]::post))):=by
 subst hn
 have hv:(St.none.set m (.row t1 e1 ys)) m=some (.row t1 e1 ys):=aM _ _ _
 refine bV.uM (St.none.set m (.row t1 e1 ys)) (St.aL (St.none_le _) hm) (fun k o1 hk=>?_) (fun k o hk=>?_) fun p hp=>(hw p hp).view
 ·by_cases h:k=q
  ·subst h
   rw[aM] at hk
   cases hk
   refine⟨_,hq,.inr ⟨t,1,_,_,rfl,rfl,by simp,fun i x x1 hx hx1=>?_⟩⟩
   rcases Nat.lt_trichotomy i pre.length with hi|hi|hi
   ·rw[List.getElem?_append_left hi] at hx hx1
    rw[hx] at hx1;cases hx1
    exact⟨rfl,fun j a b ha hb=>by rw[ha] at hb;cases hb;exact .inl rfl⟩
   ·subst hi
    rw[List.getElem?_append_right (Nat.le_refl _),Nat.sub_self] at hx hx1
    simp only[List.getElem?_cons_zero,Option.some.injEq] at hx hx1
    subst hx;subst hx1
    refine⟨rfl,fun j a b ha hb=>?_⟩
    cases j with
    | zero =>
     simp only[List.getElem?_cons_zero,Option.some.injEq] at ha hb
     subst ha;subst hb
     exact .inr ⟨rfl,.vecAll hv rfl⟩
    | succ j=>simp at ha
   ·rw[List.getElem?_append_right (by omega)] at hx hx1
    obtain⟨j,hj⟩:∃j,i - pre.length=j+1:=⟨i - pre.length - 1,by omega⟩
    rw[hj,List.getElem?_cons_succ] at hx hx1
    rw[hx] at hx1;cases hx1
    exact⟨rfl,fun j a b ha hb=>by rw[ha] at hb;cases hb;exact .inl rfl⟩
  ·rw[aH _ _ _ _ h] at hk
   exact⟨o1,h2 k o1 hk,.inl rfl⟩
 ·by_cases h:k=m
  ·subst h
   by_cases hq':k=q
   ·exact absurd hq'.symm hne
   ·rw[aH _ _ _ _ hq',h2m] at hk;cases hk
  ·exact aH _ _ _ _ h ▸ rfl
theorem aA.pre{P:Program}{g:FuncId}{ms ms':List MV}{σ σ2:St}{Q:MV→St→Prop}(hl:ms.length=ms'.length)(hg:bV ⟨ms.length,kF 0 ms,[]⟩ σ ⟨ms.length,kF 0 ms',[]⟩ σ2)(h:aA P g ms' σ2 Q):aA P g ms σ Q:=by
 refine⟨h.1,fun Φ w vs hi hr=>?_⟩
 obtain⟨-,hg⟩:=hg
 obtain⟨Φ1,i1,r1,s1⟩:=hg Φ w vs hi ⟨hr.1,fun t=>by
  simp only[FR.get,nQ,Nat.sub_zero,Nat.zero_le,if_true]
  cases hm:ms[t]? with
  | none=>exact .junk _
  | some m=>exact hr.2 t m hm⟩
 refine(h.2 Φ1 w vs i1 ⟨hr.1.trans hl,fun i m hm=>?_⟩).mono ?_
 ·have:=r1.2 i
  simp only[FR.get,nQ,Nat.sub_zero,Nat.zero_le,if_true,hm] at this
  exact this
 ·rintro e w' ⟨v,mv,σ',Φ',rfl,q1,q2,q3,hq⟩
  exact⟨v,mv,σ',Φ',rfl,q1,q2,s1.trans q3,hq⟩
theorem zJ:∀{ms:List MV} {i:Nat} {p:Nat × MV},p∈kF i ms→∃j,p.1=i+j∧ms[j]?=some p.2
 | [],_,_,h=>by simp[kF] at h
 | m::ms,i,p,h=>by
  rw[kF,List.mem_cons] at h
  rcases h with rfl|h
  ·exact⟨0,rfl,rfl⟩
  ·obtain⟨j,h1,h2⟩:=zJ h
   exact⟨j+1,by omega,by simpa using h2⟩
theorem Mi{P:Program}{g:FuncId}{ms:List MV}(ms':List MV){σ:St}(σv σ2:St){r:MV}{k:MV→St→Prop}(h:aA P g ms' St.none fun v _=>v=r)(hle:σv.le σ)(h2:σ2.le σ)(hd:∀k o,σ2 k=some o→σv k=none)
 (hl:ms.length=ms'.length)(hv:∀(i:Nat) (m m':MV),ms[i]?=some m→ms'[i]?=some m'→View σv m m')(hk:R (cD r σ2 k)):R (dN P g ms σ k):=by
 refine aA.pre hl (bV.freeze σv hle h2 hd fun p hp=>?_) (bB h hk)
 obtain⟨j,h1,h3⟩:=zJ hp
 rw[h1,nQ]
 simp only[Nat.zero_add,Nat.zero_le,if_true,Nat.sub_zero]
 have hj:=(List.getElem?_eq_some_iff.1 h3).1
 obtain⟨m,hm⟩:∃m,ms[j]?=some m:=⟨ms[j]'(by omega),by simp⟩
 rw[hm]
 exact hv j m _ hm h3
theorem DB{P:Program}{g:FuncId}{ms:List MV}(ms':List MV){σ:St}{r:MV}{k:MV→St→Prop}(h:aA P g ms' St.none fun v _=>v=r)
 (hl:ms.length=ms'.length)(hv:∀(i:Nat) (m m':MV),ms[i]?=some m→ms'[i]?=some m'→View St.none m m')(hk:R (cD r σ k)):R (dN P g ms σ k) :=
 Mi ms' St.none σ h (St.none_le _) (St.le_refl _) (fun _ _ _=>rfl) hl hv hk
theorem fK{σ:St}{a a':MV}(h:View σ a a'):∀(i:Nat) (m m':MV),[a][i]?=some m→[a'][i]?=some m'→View σ m m':=fun i m m' h1 h2=>by
 match i,h1,h2 with
 | 0,h1,h2=>simp only[List.getElem?_cons_zero,Option.some.injEq] at h1 h2;subst h1 h2;exact h
theorem lH{σ:St}{a b a' b':MV}(h:View σ a a')(k:View σ b b'):∀(i:Nat) (m m':MV),[a,b][i]?=some m→[a',b'][i]?=some m'→View σ m m':=fun i m m' h1 h2=>by
 match i,h1,h2 with
 | 0,h1,h2=>simp only[List.getElem?_cons_zero,Option.some.injEq] at h1 h2;subst h1 h2;exact h
 | 1,h1,h2=>simp only[List.getElem?_cons_succ,List.getElem?_cons_zero,Option.some.injEq] at h1 h2;subst h1 h2;exact k
end

section
class Sfx (bs:BL) (r:RD):Prop where
 h:r.l <:+ bs
instance {bs:BL} {c:Prop} [Decidable c] {r s:RD} [h:Sfx bs r] [k:Sfx bs s]:Sfx bs (if c then r else s):=by
 split
 ·exact h
 ·exact k
theorem Sfx.len{bs:BL}{r:RD}(h:Sfx bs r):r.l.length≤bs.length:=h.h.length_le
theorem Sfx.drop{bs:BL}{r:RD}(h:Sfx bs r):bs.drop (bs.length - r.l.length)=r.l:=by
 obtain⟨a,e⟩:=h.h
 rw[←e]
 simp
theorem oC{P:Program}{g:FuncId}{ms:List MV}{σ:St}{l:Nat}{o o':bE}{r:MV}{k:MV→St→Prop}(hs:σ l=some o)(h:aA P g ms (St.none.set l o) fun v σ'=>v=r∧σ'=St.none.set l o')(hk:R (cD r (σ.set l o') k)):R (dN P g ms σ k):=by
 refine cR h (St.aL (St.none_le _) hs) ?_
 rintro v σ' ⟨rfl,rfl⟩ -
 have e:(St.none.set l o').over (σ.minus (St.none.set l o))=σ.set l o':=by
  funext j
  by_cases h:j=l
  ·subst h;simp[St.over,St.set]
  ·simp[St.over,St.set,St.minus,h,St.none]
 rw[e]
 exact hk
def O6(l:List (Nat × MV))(e k:Nat):List (Nat × MV)→Prop
 | []=>True
 | p::r=>(cH l p.1=p.2∨(p.2=.vec e k 0 0∧(cH l p.1=.aT∨cH l p.1=.lst e [] true)))∧O6 l e k r
theorem Df{l:List (Nat × MV)}{e k:Nat}:∀{l1:List (Nat × MV)},O6 l e k l1→∀p,p∈l1→cH l p.1=p.2∨(p.2=.vec e k 0 0∧(cH l p.1=.aT∨cH l p.1=.lst e [] true))
 | [],_,p,hp=>absurd hp (List.not_mem_nil)
 | q::r,h,p,hp=>by
  rcases List.mem_cons.1 hp with rfl|hp
  ·exact h.1
  ·exact Df h.2 p hp
theorem Gh.Bd{n:Nat}{l:List (Nat × MV)}{d:List (FuncId × List MV)}{σ:St}{K:FR→St→Prop}(t:TypeId)(e:Nat)(l1:Nat→List (Nat × MV))(h1:∀k,O6 l e k (l1 k))
 (h:∀k,σ k=none→Gh ⟨n,l1 k,d⟩ (σ.set k (.row t e [])) K):Gh ⟨n,l,d⟩ σ K:=Gh.row t e l1 (fun k=>Df (h1 k)) h
theorem aA.obj{P:Program}{g:FuncId}{ms:List MV}{σ:St}{X:MV}{l:Nat}{o:bE}(h:aA P g ms σ fun v σ'=>v=X∧σ' l=some o):aA P g ms σ fun v σ'=>v=X∧σ'=St.none.set l o :=
 h.less fun v σ' k=>⟨St.none.set l o,St.aL (St.none_le _) k.2,k.1,rfl⟩
end

section
abbrev RE.c(a:RE):List MV:=a.k (.lst 5 (a.fl.map ND.c) false)
abbrev IT.ks(l:List IT):List (List MV):=l.map fun x=>.int .i64 x.kd::.int .i64 x.c.id::.int .i64 x.c.ver::.int .u32 (x.c.lab.toNat:Int)::fc x.c.f
abbrev PG.c(p:PG):List MV:=p.k (.lst 28 (IT.ks p.items) false)
abbrev CM.c(c:CM):List MV:=c.k (.lst 5 (c.fl.map ND.c) false)
def gF(σ:St):List MV→List MV→Prop
 | [],[]=>True
 | m::ms,m'::ms'=>View σ m m'∧gF σ ms ms'
 | _,_=>False
theorem gF.same{σ:St}:∀ms:List MV,gF σ ms ms
 | []=>trivial
 | m::ms=>⟨.same m,gF.same ms⟩
theorem gF.app{σ:St}:∀{a b c d:List MV},gF σ a b→gF σ c d→gF σ (a++c) (b++d)
 | [],[],_,_,_,h=>h
 | _::_,_::_,_,_,h,k=>⟨h.1,gF.app h.2 k⟩
theorem gF.len{σ:St}:∀{a b:List MV},gF σ a b→a.length=b.length
 | [],[],_=>rfl
 | _::_,_::_,h=>congrArg (·+1) (gF.len h.2)
theorem gF.at{σ:St}:∀{a b:List MV},gF σ a b→∀(i:Nat) (m m':MV),a[i]?=some m→b[i]?=some m'→View σ m m'
 | _::_,_::_,h,0,m,m',h1,h2=>by simp at h1 h2;subst h1 h2;exact h.1
 | _::_,_::_,h,i+1,m,m',h1,h2=>by simp at h1 h2;exact h.2.at i m m' h1 h2
theorem View.Mv{σ:St}{ms ms':List MV}(h:gF σ ms ms')(hc:ms'.all MV.aP=true):View σ (.agg ms) (.agg ms') :=
 .agg h.len (fun i m hm=>List.all_eq_true.1 hc m (List.mem_of_getElem? hm)) h.at
theorem View.aT{σ:St}{e:Nat}{xs:List (List MV)}(h:xs=[]):View σ .aT (.lst e xs false):=by subst h;exact .nil e false
theorem Eg{f:F8}{r:List MV}:(fc f++r).all MV.aP=r.all MV.aP:=by rw[List.all_append,eL,Bool.true_and]
theorem BO{f:F8}{a b:List MV}:(fc f++a)++b=fc f++(a++b):=List.append_assoc _ _ _
theorem Pn:((UInt32.toNat 0:Nat):Int)=0:=rfl
theorem RE.cell(a:RE):a.c.all MV.aP=true:=rfl
theorem PG.cell(a:PG):a.c.all MV.aP=true:=rfl
theorem CM.cell(c:CM):c.c.all MV.aP=true:=by
 simp only[CM.c,CM.k,List.all_cons,List.all_append,eL];rfl
end

section
inductive Fk:Prop→Prop→Prop→Prop
 | i {c A B:Prop}:Fk (R (mif c A B)) (c→R A) (¬c→R B)
 | f {p:Prop} [Decidable p] {A B:Prop}:Fk (R (iV (.bool (decide p)) A B)) (p→R A) (¬p→R B)
 | g {p:Prop} [Decidable p] {A B:Prop}:Fk (R (bX (.bool (decide p)) true A B)) (p→R A) (¬p→R B)
 | h {p:Prop} [Decidable p] {A B:Prop}:Fk (R (bX (.bool (decide p)) false A B)) (¬p→R A) (p→R B)
theorem wK{p a b:Prop}(h1:a)(h2:b)(e:Fk p a b:=by first|exact .i|exact .f|exact .g|exact .h):p:=by
 cases e
 ·exact wI h1 h2
 ·exact wF h1 h2
 ·exact wG h1 h2
 ·exact wH h1 h2
inductive Fb:Prop→Prop→Prop→Prop
 | b {b:Bool} {A B:Prop}:Fb (R (iV (.bool b) A B)) (b=true→R A) (b=false→R B)
 | g {b want:Bool} {A B:Prop}:Fb (R (bX (.bool b) want A B)) (b=want→R A) (b=(!want)→R B)
theorem wB{p a b:Prop}(h1:a)(h2:b)(e:Fb p a b:=by first|exact .b|exact .g):p:=by
 cases e
 ·exact aG h1 h2
 ·exact aE h1 h2
theorem wE{id:Nat}{l:List Oper}{f:FR}{σ:St}{Q:MQ}(h:R (mU Tryz.prog (fun _ _=>none) (@OfNat.ofNat (Array Oper) (nat_lit 0) (@_root_.id (OfNat (Array Oper) (nat_lit 0)) (OfNat.mk (l.toArray)))) (Q .normal) (@OfNat.ofNat (List Oper) (nat_lit 0) (@_root_.id (OfNat (List Oper) (nat_lit 0)) (OfNat.mk l))) f σ))
 (hchk:(chk l.toArray&&l.all fun o=>lW o.op)=true:=by decide +kernel):R (sN Tryz.prog id (@OfNat.ofNat (List Oper) (nat_lit 0) (@_root_.id (OfNat (List Oper) (nat_lit 0)) (OfNat.mk l))) f σ Q):=wD hchk h
inductive Up (l:Nat) (o o':bE):St→St→Prop
 | u0 {σ:St}:Up l o o' (σ.set l o) (σ.set l o')
 | u1 {σ:St} {j:Nat} {oj:bE} (h:j≠l):Up l o o' ((σ.set l o).set j oj) ((σ.set l o').set j oj)
 | u2 {σ:St} {j i:Nat} {oj oi:bE} (h:j≠l) (h1:i≠l):Up l o o' (((σ.set l o).set j oj).set i oi) (((σ.set l o').set j oj).set i oi)
 | u3 {σ:St} {j i m:Nat} {oj oi om:bE} (h:j≠l) (h1:i≠l) (h2:m≠l):Up l o o' ((((σ.set l o).set j oj).set i oi).set m om) ((((σ.set l o').set j oj).set i oi).set m om)
theorem FXs:(type_of% @Gi)∧(type_of% @cL)∧(type_of% @eL)∧(type_of% @Gg)∧(type_of% @mK)∧(type_of% @Gd)∧(type_of% @BP)∧(type_of% @Gf)∧(type_of% @BI)∧(type_of% @lN)∧(type_of% @Du)∧(type_of% @wX)∧(type_of% @BU)∧(type_of% @uO)∧(type_of% @p8)∧(type_of% @yY)∧(type_of% @tO)∧(type_of% @tP)∧(type_of% @p9)∧(type_of% @Ge)∧(∀{f:F8} {i:Nat} {v:VA} (h:i<8),(f.set i v).get i=v) :=
 ⟨Gi,cL,eL,Gg,mK,Gd,BP,Gf,BI,lN,Du,wX,BU,uO,p8,yY,tO,tP,p9,Ge,F8.MN⟩
theorem FYs:(type_of% FXs)∧(type_of% @Eg)∧(type_of% @BO)∧(∀{α:Type} (l:List α),l++[]=l)∧(∀{α:Type} (l:List α),l.take 0=[])∧(type_of% Pn)∧(∀{α:Type} (a:α) (l r:List α),a::l++r=a::(l++r))∧(∀{α:Type} (l:List α),[]++l=l) :=
 ⟨FXs,Eg,BO,List.append_nil,fun _=>List.take_zero,Pn,fun _ _ _=>List.cons_append,List.nil_append⟩
end

section
def hasB(s:Nat)(n:Int):Bool:=decide (0≤n∧n≤31∧s / 2 ^ n.toNat % 2=1)
theorem J8(s:Nat)(k:Nat):s / 2 ^ k / 2=s / 2 ^ (k+1):=by
 rw[Nat.pow_succ,Nat.div_div_eq_div_mul]
set_option maxHeartbeats 2000000 in
theorem oB (s:Nat) (n:Int) (h1:s<4294967296):aA Tryz.prog 201 [.int .u32 (s:Int),.int .i64 n] St.none (fun r _=>r=.bool (hasB s n)):=by
 refine(aA.body 22 [.tmp 4] Tryz.func201 rfl rfl rfl rfl ?_)
 by_cases hn:n<0∨31<n
 ·repeat' (first|(with_reducible first|(refine wN fun nl hnl=>?_;revert hnl;(repeat refine wS fun _ _=>?_);intro hnl)|refine wD (by decide +kernel) ?_|refine wI (fun h=>?_) fun h=>?_|refine wF (fun h=>?_) fun h=>?_|refine wG (fun h=>?_) fun h=>?_|refine wH (fun h=>?_) fun h=>?_|((first|refine aG (fun h=>?_) fun h=>?_|refine aE (fun h=>?_) fun h=>?_)<;>simp only[h]))|simp(maxSteps:=4000000) (disch:=first|exact ddL|fail) only[go_sem,simprocAttr,Tryz.f201])
  all_goals simp only[hasB,MV.bool.injEq,Bool.false_eq,decide_eq_false_iff_not]
  all_goals omega
 ·obtain⟨m,rfl⟩:∃m:Nat,n=m:=⟨n.toNat,by omega⟩
  repeat' (first|(with_reducible first|(refine wN fun nl hnl=>?_;revert hnl;(repeat refine wS fun _ _=>?_);intro hnl)|refine wD (by decide +kernel) ?_|refine wI (fun h=>?_) fun h=>?_|refine wF (fun h=>?_) fun h=>?_|refine wG (fun h=>?_) fun h=>?_|refine wH (fun h=>?_) fun h=>?_|((first|refine aG (fun h=>?_) fun h=>?_|refine aE (fun h=>?_) fun h=>?_)<;>simp only[h]))|simp(maxSteps:=4000000) (disch:=first|exact ddL|fail) only[go_sem,simprocAttr,Tryz.f201])
  refine aD (α:=Nat) (fun a=>⟨22,[(5,.int .i64 (a:Int)),(0,.int .u32 ((s / 2 ^ a:Nat):Int)),(1,.int .i64 (m:Int))],[]⟩) (fun _=>St.none)
   (fun a=>a≤m) (fun a=>m - a) (.of (.less ?_ (St.le_refl _)) ⟨0,rfl,rfl,Nat.zero_le _⟩) ?_
  ·simp(maxSteps:=4000000) (disch:=first|exact ddL|fail) only[go_sem,simprocAttr,aC,aB,Nat.pow_zero,Nat.div_one]
   all_goals rfl
  ·intro k hk
   have hk:k≤m:=hk
   have hb:s / 2 ^ k<4294967296:=Nat.lt_of_le_of_lt (Nat.div_le_self ..) h1
   by_cases hlt:k<m
   ·repeat' (first|(with_reducible first|(refine wN fun nl hnl=>?_;revert hnl;(repeat refine wS fun _ _=>?_);intro hnl)|refine wD (by decide +kernel) ?_|refine wI (fun h=>?_) fun h=>?_|refine wF (fun h=>?_) fun h=>?_|refine wG (fun h=>?_) fun h=>?_|refine wH (fun h=>?_) fun h=>?_|((first|refine aG (fun h=>?_) fun h=>?_|refine aE (fun h=>?_) fun h=>?_)<;>simp only[h]))|simp(maxSteps:=4000000) (disch:=first|exact ddL|fail) only[go_sem,simprocAttr,Nat.add_zero])
    refine .of (.less (l1:=[(5,.int .i64 ((k+1:Nat):Int)),(0,.int .u32 ((s / 2 ^ (k+1):Nat):Int)),(1,.int .i64 (m:Int))]) ?_ (St.le_refl _)) ⟨k+1,rfl,rfl,by omega,by omega⟩
    rw[←J8]
    have ew:IntKind.u32.wrap (((s / 2 ^ k:Nat):Int).tdiv 2)=((s / 2 ^ k / 2:Nat):Int):=by
     generalize s / 2 ^ k=w at hb ⊢
     have e2:((w:Int)).tdiv 2=((w / 2:Nat):Int):=by
      rw[Int.tdiv_eq_ediv_of_nonneg (by omega)]
      omega
     rw[e2]
     simp only[IntKind.wrap,IntKind.signed,IntKind.bits]
     simp
     omega
    simp(maxSteps:=4000000) (disch:=first|exact ddL|fail) only[go_sem,simprocAttr,aC,aB,ew]
    all_goals rfl
   ·have:k=m:=by omega
    subst this
    repeat' (first|(with_reducible first|(refine wN fun nl hnl=>?_;revert hnl;(repeat refine wS fun _ _=>?_);intro hnl)|refine wD (by decide +kernel) ?_|refine wI (fun h=>?_) fun h=>?_|refine wF (fun h=>?_) fun h=>?_|refine wG (fun h=>?_) fun h=>?_|refine wH (fun h=>?_) fun h=>?_|((first|refine aG (fun h=>?_) fun h=>?_|refine aE (fun h=>?_) fun h=>?_)<;>simp only[h]))|simp(maxSteps:=4000000) (disch:=first|exact ddL|fail) only[go_sem,simprocAttr])
    simp only[hasB,Int.toNat_natCast,MV.bool.injEq]
    have e2:(((s / 2 ^ k:Nat):Int).tmod 2)=((s / 2 ^ k % 2:Nat):Int):=by
     generalize s / 2 ^ k=w at hb ⊢
     rw[Int.tmod_eq_emod_of_nonneg (by omega)]
     omega
    refine decide_eq_decide.mpr ?_
    rw[e2]
    generalize s / 2 ^ k % 2=w
    omega
end

section
set_option maxRecDepth 100000
theorem BY{s:Nat}{i:Nat}(h:i<32):hasB s (i:Int)=bit s i:=by
 unfold hasB bit
 rw[Nat.testBit_eq_decide_div_mod_eq]
 refine decide_eq_decide.mpr ?_
 rw[Int.toNat_natCast]
 constructor
 ·exact fun h=>h.2.2
 ·exact fun k=>⟨by omega,by omega,k⟩
theorem zW(m:UInt32)(i:Nat)(h:i<32):aA Tryz.prog 201 [.int .u32 (m.toNat:Int),.int .i64 (i:Int)] St.none (fun r _=>r=.bool (bit m.toNat i)):=by
 have:=oB m.toNat (i:Int) m.toNat_lt
 rwa [BY h] at this
theorem Fz(m:UInt32):aA Tryz.prog 200 [.int .u32 (m.toNat:Int)] St.none (fun r _=>r=.bool (bit m.toNat 8)):=by
 refine(aA.body 5 [.tmp 2] Tryz.func200 rfl rfl rfl rfl ?_)
 have h:=zW m 8 (by decide)
 repeat' (first|(with_reducible first|refine up h ?_)|(with_reducible first|(refine wN fun _ hnl=>?_;revert hnl;(repeat refine wS fun _ _=>?_);intro hnl)|refine wE ?_|(refine wK ?_ ?_<;>intro h)|(refine wB ?_ ?_<;>intro h<;>simp only[h]))|simp(maxSteps:=4000000) (disch:=first|exact ddL|fail) only[go_sem,simprocAttr,Tryz.f200])
 all_goals rfl
theorem qT(m:UInt32):aA Tryz.prog 49 [.int .u32 (m.toNat:Int)] St.none (fun r _=>r=.bool (decide (m.toNat≤511))):=by
 refine(aA.body 5 [.tmp 2] Tryz.func49 rfl rfl rfl rfl ?_)
 repeat' (first|(with_reducible first|(refine wN fun _ hnl=>?_;revert hnl;(repeat refine wS fun _ _=>?_);intro hnl)|refine wE ?_|(refine wK ?_ ?_<;>intro h)|(refine wB ?_ ?_<;>intro h<;>simp only[h]))|simp(maxSteps:=4000000) (disch:=first|exact ddL|fail) only[go_sem,simprocAttr,Tryz.f49])
 all_goals first|rfl|(refine decide_eq_decide.mpr ?_;omega)
end

section
section
variable {P:Program} {C:YC} {f:FR} {σ:St} {t:Option Nat} {Q:YQ} {q:MQ} {c:Code}
theorem qJ(h:R (dB P (@OfNat.ofNat Code (nat_lit 0) (@_root_.id (OfNat Code (nat_lit 0)) (OfNat.mk c))) f σ q)):mwp P c f σ q:=kK c f σ q h
theorem kB(h:R (dB P (@OfNat.ofNat Code (nat_lit 0) (@_root_.id (OfNat Code (nat_lit 0)) (OfNat.mk c))) f σ (fun e f' σ'=>Q e f' σ' t))):ywp P C c f σ t Q:=Ps (kK c f σ _ h)
theorem Br{k:FR→St→Option Nat→Prop}:R (Dx k Q .normal f σ t)=R (k f σ t):=congrArg R rfl
theorem Ju{k:FR→St→Option Nat→Prop}:R (Dx k Q .ret f σ t)=R (Q .ret f σ t):=congrArg R rfl
theorem FN{k:FR→St→Option Nat→Prop}{id:Nat}:R (Dx k Q (.exit id) f σ t)=R (Q (.exit id) f σ t):=congrArg R rfl
theorem xJ{id:Nat}:R (rG id Q .normal f σ t)=R (Q .normal f σ t):=congrArg R rfl
theorem DV{id:Nat}:R (rG id Q .ret f σ t)=R (Q .ret f σ t):=congrArg R rfl
theorem Bz{id:Nat}:R (rG id Q (.exit id) f σ t)=R (Q .normal f σ t):=congrArg R (by simp[rG])
theorem A5{k:FR→St→Prop}:R (Lp k .normal f σ)=R (k f σ):=congrArg R rfl
theorem yG{fc:FR}{n:St→Prop}:R (v7 q fc n .normal f σ)=R (Gh f σ fun _ σ1=>n σ1):=congrArg R rfl
theorem Dd{fc:FR}{n:St→Prop}{id:Nat}:R (v7 q fc n (.exit id) f σ)=R (Gh f σ fun _ σ1=>q (.exit id) fc σ1):=congrArg R rfl
theorem Db{n:Nat}:R (O5 n .normal f σ t)=R (f.d=[]∧(t=some n∨t=none)):=congrArg R rfl
theorem LI{n:Nat}:R (O5 n .ret f σ t)=R (f.d=[]∧(t=some n∨t=none)):=congrArg R rfl
def vI(l:List Oper):Bool:=l.all fun o=>match o.op with|.defer _=>false|_=>true
theorem lV{l:List Oper}(h:vI l=true):∀o,o∈l→∀c,o.op≠.defer c:=fun o ho c e=>by
 have:=List.all_eq_true.1 h o ho
 rw[e] at this
 cases this
theorem JE{id:Nat}{ops:Array Oper}(pre:List Oper)(y:Oper)(post:List Oper){o:Operand}{args:Array Operand}{ts:Array TypeId}{i:Nat}{x:List MV}(ho:ops.toList=pre++y::post)(hd:(vI pre&&vI post)=true)
 (hy:y.op=.call ⟨.value o,args,ts⟩)(hg:y.guard=none)(ht:t=some i)(hx:C.xs[i]?=some x)(hno:∀m,m∈x→iP m)(hspec:pV P C.l C.xs C.Y C.Yx C.Φ0 C.σ0 C.n0)
 (h:R (gL P (@OfNat.ofNat (Array Oper) (nat_lit 0) (@_root_.id (OfNat (Array Oper) (nat_lit 0)) (OfNat.mk ops))) (fun f1 σ1=>aK f1 o=.fn (.yield C.l) [] []∧args.toList.map (aK f1)=x ∧
   gL P (@OfNat.ofNat (Array Oper) (nat_lit 0) (@_root_.id (OfNat (Array Oper) (nat_lit 0)) (OfNat.mk ops))) (fun f2 σ2=>Q .normal f2 σ2 (some (i+1))) (@OfNat.ofNat (List Oper) (nat_lit 0) (@_root_.id (OfNat (List Oper) (nat_lit 0)) (OfNat.mk post))) (bI f1 y.dst (.bool true)) σ1 ∧
   gL P (@OfNat.ofNat (Array Oper) (nat_lit 0) (@_root_.id (OfNat (Array Oper) (nat_lit 0)) (OfNat.mk ops))) (fun f2 σ2=>Q .normal f2 σ2 none) (@OfNat.ofNat (List Oper) (nat_lit 0) (@_root_.id (OfNat (List Oper) (nat_lit 0)) (OfNat.mk post))) (bI f1 y.dst (.bool false)) σ1)
   (@OfNat.ofNat (List Oper) (nat_lit 0) (@_root_.id (OfNat (List Oper) (nat_lit 0)) (OfNat.mk pre))) f σ)):ywp P C (.region id ops false) f σ t Q:=by
 have hd:=Bool.and_eq_true_iff.1 hd
 exact FZ pre y post ho (lV hd.1) (lV hd.2) hy hg ht hx hno hspec h
end
attribute [go_sem ↓] Br Ju FN xJ DV Bz A5 yG Dd Db LI
end

section
section
variable {P:Program} {f:FR} {σ:St} {Q:MQ} {id:Nat} {a b l:List Oper} {x:Oper} {dr:Bool}
def Oc(P:Program)(id:Nat)(dr:Bool)(l:List Oper)(f:FR)(σ:St)(Q:MQ):Prop:=dB P (.region id l.toArray dr) f σ Q
theorem H0:R (dB P (.region id (List.append a b).toArray dr) f σ Q)=R (Oc P id dr (E (List.append a b)) f σ Q):=congrArg R rfl
theorem K3:R (Oc P id false (x::l) f σ Q)=R (gL P (@OfNat.ofNat (Array Oper) (nat_lit 0) (@_root_.id (OfNat (Array Oper) (nat_lit 0)) (OfNat.mk ((x::l).toArray)))) (Q .normal) (@OfNat.ofNat (List Oper) (nat_lit 0) (@_root_.id (OfNat (List Oper) (nat_lit 0)) (OfNat.mk (x::l)))) f σ):=congrArg R rfl
theorem PQ:List.append (x::a) b=x::List.append a b:=rfl
theorem QQ:List.append ([]:List Oper) b=b:=rfl
end
attribute [go_sem ↓ high] H0
attribute [go_sem] K3 PQ QQ
theorem kP{P:Program}{g:FuncId}{ms:List MV}{σ:St}{o:bE}{u:Nat→MV}{k:MV→St→Prop}(h:aA P g ms St.none fun v σ'=>∃l,v=u l∧σ'=St.none.set l o)(hk:∀l,σ l=none→R (cD (u l) (σ.set l o) k)):R (dN P g ms σ k) :=
 cR h (St.none_le σ) fun v σ' hv hf=>by
  obtain⟨l,rfl,rfl⟩:=hv
  rw[gC,cN,iE]
  refine hk l ?_
  rcases hf l o (aM _ _ _) with h|⟨o',h⟩
  ·exact h
  ·simp[St.none] at h
end
end Go.Proofs.YtojmhmejdihaaaaGreatDoor
