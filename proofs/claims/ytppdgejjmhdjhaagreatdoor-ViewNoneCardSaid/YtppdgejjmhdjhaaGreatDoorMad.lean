/- Parts of the proof, joined; conditions: those that its theorems name. -/
import Derived.Test.YtppdgejjmhdjhaaGreatDoorMab
set_option linter.unusedVariables false
set_option linter.unusedSimpArgs false
set_option maxHeartbeats 4000000
namespace Go.Proofs.YtppdgejjmhdjhaaGreatDoor
section
structure VA where
 kd:Int
 n:Int
 s:ByteArray
 deriving DecidableEq
abbrev VA.c(v:VA):List MV:=[.int .i64 v.kd,.int .i64 v.n,.str v.s]
def va0:VA:=⟨0,0,⟨#[]⟩⟩
structure ND where
 op:Int
 n:Int
 v:VA
 deriving DecidableEq
abbrev ND.c(x:ND):List MV:=[.int .i64 x.op,.int .i64 x.n,.int .i64 x.v.kd,.int .i64 x.v.n,.str x.v.s]
def nd0:ND:=⟨0,0,va0⟩
theorem eY{α:Type}{f:α→List MV}{l:List α}{n:Nat}(d:α)(h:n<l.length):(l.map f).getD n []=f (l.getD n d):=by simp[List.getD,h]
theorem i7{α:Sort _}[DecidableEq α]{a:α}:decide (¬a=a)=false:=by simp
theorem cW{α:Type}{l:List α}{n:Nat}(d:α)(h:n<l.length):l.getD n d=l[n]:=by simp[List.getD,h]
theorem pP{α:Type}{l:List α}{n:Nat}(d:α)(h:n<l.length):l.getD n d∈l:=by rw[cW d h];exact List.getElem_mem h
theorem rL{α:Type}{p:α→Bool}{l:List α}{i:Nat}(h:i<l.length):(l.take (i+1)).any p=((l.take i).any p || p l[i]):=by
 rw[List.take_succ_eq_append_getElem h,List.any_append];simp
def VA.key(v:VA):List Int:=v.kd::v.n::v.s.toList.map fun b=>(b.toNat:Int)
def ND.key(x:ND):List Int:=x.op::x.n::x.v.key
theorem bytes_inj{a b:ByteArray}(h:a.toList.map (fun b=>(b.toNat:Int))=b.toList.map fun b=>(b.toNat:Int)):a=b:=by
 refine(lE a b).1 ?_
 exact(List.map_inj_right (fun x y h=>by
  have:x.toNat=y.toNat:=by exact_mod_cast h
  exact UInt8.toNat_inj.1 this)).1 h
def nQ:Ordering→Int
 | .lt=>-1
 | .eq=>0
 | .gt=>1
def cmpL:List Int→List Int→Ordering
 | [],[]=>.eq
 | [],_::_=>.lt
 | _::_,[]=>.gt
 | a::x,b::y=>if a<b then .lt else if b<a then .gt else cmpL x y
theorem cmpL_eq:∀{a b:List Int},cmpL a b=.eq↔a=b
 | [],[]=>by simp[cmpL]
 | [],_::_=>by simp[cmpL]
 | _::_,[]=>by simp[cmpL]
 | a::x,b::y=>by
  unfold cmpL
  split
  ·simp;intro h;omega
  ·split
   ·simp;intro h;omega
   ·rw[cmpL_eq]
    constructor
    ·rintro rfl;have:a=b:=by omega
     rw[this]
    ·intro h;cases h;rfl
theorem nF(a:List Int):cmpL a a=.eq:=cmpL_eq.2 rfl
theorem B8{a b:Int}{x y:List Int}(h:a≠b):cmpL (a::x) (b::y)=cmpL [a] [b]:=by
 unfold cmpL
 by_cases h1:a<b
 ·rw[if_pos h1,if_pos h1]
 ·have h2:b<a:=by omega
  rw[if_neg h1,if_neg h1,if_pos h2,if_pos h2]
theorem sO{a:Int}{x y:List Int}:cmpL (a::x) (a::y)=cmpL x y:=by
 rw[cmpL,if_neg (by omega),if_neg (by omega)]
def bk(s:ByteArray):List Int:=s.toList.map fun b=>(b.toNat:Int)
theorem kY:∀(x y:List UInt8),Op.bytesLess x y=decide (cmpL (x.map fun b=>(b.toNat:Int)) (y.map fun b=>(b.toNat:Int))=.lt)
 | [],[]=>by simp[Op.bytesLess,cmpL]
 | _::_,[]=>by simp[Op.bytesLess,cmpL]
 | [],_::_=>by simp[Op.bytesLess,cmpL]
 | a::x,b::y=>by
  simp only[Op.bytesLess,List.map_cons,cmpL]
  rw[kY x y]
  have hlt:(a<b)↔(a.toNat:Int)<b.toNat:=by
   rw[UInt8.lt_iff_toNat_lt];omega
  have heq:(a=b)↔(a.toNat:Int)=b.toNat:=by
   constructor
   ·rintro rfl;rfl
   ·intro h;exact UInt8.toNat_inj.1 (by exact_mod_cast h)
  by_cases h1:(a.toNat:Int)<b.toNat
  ·have:=hlt.2 h1
   rw[if_pos h1];simp[this]
  ·have h1':¬a<b:=fun h=>h1 (hlt.1 h)
   rw[if_neg h1]
   by_cases h2:(b.toNat:Int)<a.toNat
   ·have:a≠b:=fun h=>by have:=heq.1 h;omega
    rw[if_pos h2];simp[h1',this]
   ·have:a=b:=heq.2 (by omega)
    rw[if_neg h2];simp[h1',this]
end

section
abbrev BL:=List UInt8
def big:Int:=1099511627776
def nxF:Nat→Bool→BL→Int × Nat × Nat
 | 0,_,_=>(3,0,0)
 | _+1,_,[]=>(2,0,0)
 | k+1,first,c::l=>if 128≤c.toNat then(if (nxF k false l).1=0 then(0,c.toNat % 128+128 * (nxF k false l).2.1,(nxF k false l).2.2+1) else((nxF k false l).1,0,0))
  else if c.toNat=0∧first=false then(3,0,0) else(0,c.toNat,1)
def nx(l:BL)(most:Int):Int × Nat × Int :=
 if (nxF 6 true l).1=0 then(if ((nxF 6 true l).2.1:Int) > big∨((nxF 6 true l).2.1:Int) > most then(0,0,4) else((nxF 6 true l).2.1,(nxF 6 true l).2.2,0)) else(0,0,(nxF 6 true l).1)
end

section
theorem C9{α:Type}{l:List α}{i:Nat}(d:α)(h:i<l.length):l.drop i=l.getD i d::l.drop (i+1):=by
 rw[List.drop_eq_getElem_cons h,cW d h]
theorem tE{o:Ordering}:nQ o=0↔o=.eq:=by cases o<;>simp[nQ]
def parts(op:Int):Nat:=if op=10 then 1 else if op=11∨op=12 then 2 else 0
def hJ:Nat→List ND→Option Nat
 | 0,_=>some 0
 | _+1,[]=>none
 | n+1,x::r=>(hJ (n+parts x.op) r).map (·+1)
def lH(l:List ND)(i:Int):Int:=if i<0 then -1 else match hJ 1 (l.drop i.toNat) with
 | none=>-1
 | some k=>i+k
inductive T where
 | leaf (x:ND)
 | one (x:ND) (a:T)
 | two (x:ND) (a b:T)
def T.fl:T→List ND
 | .leaf x=>[x]
 | .one x a=>x::a.fl
 | .two x a b=>x::(a.fl++b.fl)
def T.ok:T→Prop
 | .leaf x=>parts x.op=0
 | .one x a=>parts x.op=1∧a.ok
 | .two x a b=>parts x.op=2∧a.ok∧b.ok
theorem mC:∀(t:T),t.ok→∀(n:Nat) (r:List ND),hJ (n+1) (t.fl++r)=(hJ n r).map (·+t.fl.length)
 | .leaf x,h,n,r=>by
  simp only[T.ok] at h
  simp[T.fl,hJ,h]
 | .one x a,h,n,r=>by
  obtain⟨h1,h2⟩:=h
  simp only[T.fl,List.cons_append,hJ,h1]
  rw[mC a h2]
  cases hJ n r<;>simp
  omega
 | .two x a b,h,n,r=>by
  obtain⟨h1,h2,h3⟩:=h
  simp only[T.fl,List.cons_append,List.append_assoc,hJ,h1]
  rw[show n+2=(n+1)+1 from rfl,mC a h2,mC b h3]
  cases hJ n r<;>simp
  omega
theorem kF(op:Int):parts op=0∨parts op=1∨parts op=2:=by
 unfold parts
 split
 ·simp
 ·split<;>simp
theorem kP:∀(m:Nat) (l:List ND),l.length≤m→∀(n k:Nat),hJ (n+1) l=some k→∃(t:T) (r:List ND),t.ok∧l=t.fl++r
 | 0,l,hl,n,k,h=>by
  have:l=[]:=List.eq_nil_of_length_eq_zero (by omega)
  subst this
  simp[hJ] at h
 | m+1,[],hl,n,k,h=>by simp[hJ] at h
 | m+1,x::r,hl,n,k,h=>by
  simp only[List.length_cons] at hl
  simp only[hJ,Option.map_eq_some_iff] at h
  obtain⟨j,h,rfl⟩:=h
  rcases kF x.op with hp|hp|hp
  ·exact⟨.leaf x,r,hp,rfl⟩
  ·rw[hp] at h
   obtain⟨t,r',ht,rfl⟩:=kP m r (by omega) n j h
   exact⟨.one x t,r',⟨hp,ht⟩,rfl⟩
  ·rw[hp] at h
   obtain⟨a,r1,ha,rfl⟩:=kP m r (by omega) (n+1) j h
   rw[show n+2=(n+1)+1 from rfl,mC a ha] at h
   simp only[Option.map_eq_some_iff] at h
   obtain⟨j1,h,rfl⟩:=h
   obtain⟨b,r2,hb,rfl⟩:=kP m r1 (by simp at hl;omega) n j1 h
   exact⟨.two x a b,r2,⟨hp,ha,hb⟩,by simp[T.fl]⟩
theorem parse{l:List ND}(h:lH l 0=l.length):∃t:T,t.ok∧l=t.fl:=by
 unfold lH at h
 rw[if_neg (by omega)] at h
 simp only[Int.toNat_zero,List.drop_zero] at h
 cases e:hJ 1 l with
 | none=>rw[e] at h;simp at h
 | some k =>
  rw[e] at h
  simp only[Int.zero_add] at h
  have hk:k=l.length:=by exact_mod_cast h
  obtain⟨t,r,ht,rfl⟩:=kP l.length l (Nat.le_refl _) 0 k e
  rw[mC t ht] at e
  simp only[hJ,Option.map_some,Option.some.injEq] at e
  refine⟨t,ht,?_⟩
  have:r=[]:=List.eq_nil_of_length_eq_zero (by simp at hk;omega)
  rw[this,List.append_nil]
def fF(v:VA):Bool :=
 if v.kd=0 then decide (v=va0) else if v.kd=1 then decide (0≤v.n∧v.n≤1099511627776∧v.s=⟨#[]⟩) else if v.kd=2 then decide (v.n=0∧v.s.size≤24) else false
def eH(x:ND):Bool :=
 if x.op=1∨x.op=2∨x.op=10∨x.op=11∨x.op=12 then decide (x.n=0∧x.v=va0)
 else if x.op=3∨x.op=4 then decide (0≤x.n∧x.n<16∧x.v=va0)
 else if x.op=5 then decide (0≤x.n∧x.n<8∧x.v=va0)
 else if x.op=6∨x.op=7∨x.op=8 then decide (0≤x.n∧x.n<8∧fF x.v=true∧x.v≠va0)
 else if x.op=9 then decide (0≤x.n∧x.n<8∧fF x.v=true∧x.v.kd=2)
 else false
def H6(l:List ND):Bool:=decide (l≠[]∧l.length≤63)&&decide (lH l 0=l.length)&&l.all eH
theorem Fv{l:List ND}(h:H6 l=true):∃t:T,t.ok∧l=t.fl∧l.length≤63∧∀x,x∈l→eH x=true:=by
 simp only[H6,Bool.and_eq_true,decide_eq_true_eq,List.all_eq_true] at h
 obtain⟨t,ht,e⟩:=parse h.1.2
 exact⟨t,ht,e,h.1.1.2,h.2⟩
end

section
theorem aA.pre{P:Program}{g:FuncId}{ms ms':List MV}{σ σ2:St}{Q:MV→St→Prop}(hl:ms.length=ms'.length)(hg:bU ⟨ms.length,hO 0 ms,[]⟩ σ ⟨ms.length,hO 0 ms',[]⟩ σ2)(h:aA P g ms' σ2 Q):aA P g ms σ Q:=by
 refine⟨h.1,fun Φ w vs hi hr=>?_⟩
 obtain⟨-,hg⟩:=hg
 obtain⟨Φ1,i1,r1,s1⟩:=hg Φ w vs hi ⟨hr.1,fun t=>by
  simp only[FR.get,nA,Nat.sub_zero,Nat.zero_le,if_true]
  cases hm:ms[t]? with
  | none=>exact .junk _
  | some m=>exact hr.2 t m hm⟩
 refine(h.2 Φ1 w vs i1 ⟨hr.1.trans hl,fun i m hm=>?_⟩).mono ?_
 ·have:=r1.2 i
  simp only[FR.get,nA,Nat.sub_zero,Nat.zero_le,if_true,hm] at this
  exact this
 ·rintro e w' ⟨v,mv,σ',Φ',rfl,q1,q2,q3,hq⟩
  exact⟨v,mv,σ',Φ',rfl,q1,q2,s1.trans q3,hq⟩
theorem nX{σ:St}{a a':MV}(h:View σ a a'):∀(i:Nat) (m m':MV),[a][i]?=some m→[a'][i]?=some m'→View σ m m':=fun i m m' h1 h2=>by
 match i,h1,h2 with
 | 0,h1,h2=>simp only[List.getElem?_cons_zero,Option.some.injEq] at h1 h2;subst h1 h2;exact h
theorem nY{σ:St}{a b a' b':MV}(h:View σ a a')(k:View σ b b'):∀(i:Nat) (m m':MV),[a,b][i]?=some m→[a',b'][i]?=some m'→View σ m m':=fun i m m' h1 h2=>by
 match i,h1,h2 with
 | 0,h1,h2=>simp only[List.getElem?_cons_zero,Option.some.injEq] at h1 h2;subst h1 h2;exact h
 | 1,h1,h2=>simp only[List.getElem?_cons_succ,List.getElem?_cons_zero,Option.some.injEq] at h1 h2;subst h1 h2;exact k
end
end Go.Proofs.YtppdgejjmhdjhaaGreatDoor
