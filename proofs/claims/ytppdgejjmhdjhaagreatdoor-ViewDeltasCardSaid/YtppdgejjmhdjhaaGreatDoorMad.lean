/- Parts of the proof; conditions: as its theorems name them. -/
import Derived.Test.YtppdgejjmhdjhaaGreatDoorMab
import Derived.RangeFuncIn
import Derived.RangeFuncSeq
set_option linter.unusedVariables false
set_option linter.unusedSimpArgs false
set_option maxHeartbeats 8000000
set_option maxRecDepth 100000
namespace Go.Proofs.YtppdgejjmhdjhaaGreatDoor
section
structure VA where
 kd:Int
 n:Int
 s:ByteArray
 deriving DecidableEq
abbrev VA.c(v:VA):List MV:=[.int .i64 v.kd,.int .i64 v.n,.str v.s]
def va0:VA:=⟨0,0,⟨#[]⟩⟩
structure ND where
 op:Int
 n:Int
 v:VA
 deriving DecidableEq
abbrev ND.c(x:ND):List MV:=[.int .i64 x.op,.int .i64 x.n,.int .i64 x.v.kd,.int .i64 x.v.n,.str x.v.s]
def nd0:ND:=⟨0,0,va0⟩
theorem bW{α:Type}{f:α→List MV}{l:List α}{n:Nat}(d:α)(h:n<l.length):(l.map f).getD n []=f (l.getD n d):=by simp[List.getD,h]
theorem gM{α:Sort _}[DecidableEq α]{a:α}:decide (¬a=a)=false:=by simp
theorem b9{α:Type}{l:List α}{n:Nat}(d:α)(h:n<l.length):l.getD n d=l[n]:=by simp[List.getD,h]
theorem gT{α:Type}{l:List α}{n:Nat}(d:α)(h:n<l.length):l.getD n d∈l:=by rw[b9 d h];exact List.getElem_mem h
theorem Bh{α:Type}{p:α→Bool}{l:List α}{i:Nat}(h:i<l.length):(l.take (i+1)).all p=((l.take i).all p&&p l[i]):=by
 rw[List.take_succ_eq_append_getElem h,List.all_append];simp
theorem rJ{α:Type}{p:α→Bool}{l:List α}{i:Nat}(h:i<l.length):(l.take (i+1)).any p=((l.take i).any p || p l[i]):=by
 rw[List.take_succ_eq_append_getElem h,List.any_append];simp
def VA.key(v:VA):List Int:=v.kd::v.n::v.s.toList.map fun b=>(b.toNat:Int)
def ND.key(x:ND):List Int:=x.op::x.n::x.v.key
theorem bytes_inj{a b:ByteArray}(h:a.toList.map (fun b=>(b.toNat:Int))=b.toList.map fun b=>(b.toNat:Int)):a=b:=by
 refine(r0 a b).1 ?_
 exact(List.map_inj_right (fun x y h=>by
  have:x.toNat=y.toNat:=by exact_mod_cast h
  exact UInt8.toNat_inj.1 this)).1 h
def oJ:Ordering→Int
 | .lt=>-1
 | .eq=>0
 | .gt=>1
def cmpL:List Int→List Int→Ordering
 | [],[]=>.eq
 | [],_::_=>.lt
 | _::_,[]=>.gt
 | a::x,b::y=>if a<b then .lt else if b<a then .gt else cmpL x y
theorem cmpL_eq:∀{a b:List Int},cmpL a b=.eq↔a=b
 | [],[]=>by simp[cmpL]
 | [],_::_=>by simp[cmpL]
 | _::_,[]=>by simp[cmpL]
 | a::x,b::y=>by
  unfold cmpL
  split
  ·simp;intro h;omega
  ·split
   ·simp;intro h;omega
   ·rw[cmpL_eq]
    constructor
    ·rintro rfl;have:a=b:=by omega
     rw[this]
    ·intro h;cases h;rfl
theorem vF(a:List Int):cmpL a a=.eq:=cmpL_eq.2 rfl
theorem tE{a b:Int}{x y:List Int}(h:a≠b):cmpL (a::x) (b::y)=cmpL [a] [b]:=by
 unfold cmpL
 by_cases h1:a<b
 ·rw[if_pos h1,if_pos h1]
 ·have h2:b<a:=by omega
  rw[if_neg h1,if_neg h1,if_pos h2,if_pos h2]
theorem lM{a:Int}{x y:List Int}:cmpL (a::x) (a::y)=cmpL x y:=by
 rw[cmpL,if_neg oM,if_neg oM]
def bk(s:ByteArray):List Int:=s.toList.map fun b=>(b.toNat:Int)
theorem qN(s:ByteArray):(bk s).length=s.size:=by
 rw[bk,List.length_map]
 refine Nat.le_antisymm (Nat.le_of_not_lt fun h=>?_) (Nat.le_of_not_lt fun h=>?_)
 ·have h1:=sW s s.size
  rw[List.getElem?_eq_getElem h] at h1
  have h2:s[s.size]?=none:=by simp
  rw[h2] at h1
  cases h1
 ·have h1:=sW s s.toList.length
  rw[List.getElem?_eq_none (Nat.le_refl _)] at h1
  have h2:s[s.toList.length]?=some s[s.toList.length]:=by simp[h]
  rw[h2] at h1
  cases h1
theorem SM{s:ByteArray}{n:Nat}(h:n<s.size):((s.toList.getD n 0).toNat:Int)=(bk s)[n]'(by rw[qN];exact h):=by
 have hl:n<s.toList.length:=by have:=qN s;rw[bk,List.length_map] at this;omega
 simp[bk,List.getD,hl]
theorem yN{s:ByteArray}{n:Nat}(h:n<s.size):(bk s).drop n=((s.toList.getD n 0).toNat:Int)::(bk s).drop (n+1):=by
 rw[List.drop_eq_getElem_cons (by rw[qN];exact h),SM h]
theorem o7{s:ByteArray}{n:Nat}(h:s.size≤n):(bk s).drop n=[]:=List.drop_eq_nil_of_le (by rw[qN];exact h)
theorem rK:∀(x y:List UInt8),Op.bytesLess x y=decide (cmpL (x.map fun b=>(b.toNat:Int)) (y.map fun b=>(b.toNat:Int))=.lt)
 | [],[]=>by simp[Op.bytesLess,cmpL]
 | _::_,[]=>by simp[Op.bytesLess,cmpL]
 | [],_::_=>by simp[Op.bytesLess,cmpL]
 | a::x,b::y=>by
  simp only[Op.bytesLess,List.map_cons,cmpL]
  rw[rK x y]
  have hlt:(a<b)↔(a.toNat:Int)<b.toNat:=by
   rw[UInt8.lt_iff_toNat_lt];omega
  have heq:(a=b)↔(a.toNat:Int)=b.toNat:=by
   constructor
   ·rintro rfl;rfl
   ·intro h;exact UInt8.toNat_inj.1 (by exact_mod_cast h)
  by_cases h1:(a.toNat:Int)<b.toNat
  ·have:=hlt.2 h1
   rw[if_pos h1];simp[this]
  ·have h1':¬a<b:=fun h=>h1 (hlt.1 h)
   rw[if_neg h1]
   by_cases h2:(b.toNat:Int)<a.toNat
   ·have:a≠b:=fun h=>by have:=heq.1 h;omega
    rw[if_pos h2];simp[h1',this]
   ·have:a=b:=heq.2 oM
    rw[if_neg h2];simp[h1',this]
end

section
abbrev BL:=List UInt8
def big:Int:=1099511627776
def nxF:Nat→Bool→BL→Int × Nat × Nat
 | 0,_,_=>(3,0,0)
 | _+1,_,[]=>(2,0,0)
 | k+1,first,c::l=>if 128≤c.toNat then(if (nxF k false l).1=0 then(0,c.toNat % 128+128 * (nxF k false l).2.1,(nxF k false l).2.2+1) else((nxF k false l).1,0,0))
  else if c.toNat=0∧first=false then(3,0,0) else(0,c.toNat,1)
def nx(l:BL)(most:Int):Int × Nat × Int :=
 if (nxF 6 true l).1=0 then(if ((nxF 6 true l).2.1:Int) > big∨((nxF 6 true l).2.1:Int) > most then(0,0,4) else((nxF 6 true l).2.1,(nxF 6 true l).2.2,0)) else(0,0,(nxF 6 true l).1)
end

section
theorem Mu{α:Type}{l:List α}{i:Nat}(d:α)(h:i<l.length):l.drop i=l.getD i d::l.drop (i+1):=by
 rw[List.drop_eq_getElem_cons h,b9 d h]
theorem CS{o:Ordering}:oJ o=0↔o=.eq:=by cases o<;>simp[oJ]
def parts(op:Int):Nat:=if op=10 then 1 else if op=11∨op=12 then 2 else 0
def jI:Nat→List ND→Option Nat
 | 0,_=>some 0
 | _+1,[]=>none
 | n+1,x::r=>(jI (n+parts x.op) r).map (·+1)
def iR(l:List ND)(i:Int):Int:=if i<0 then -1 else match jI 1 (l.drop i.toNat) with
 | none=>-1
 | some k=>i+k
inductive T where
 | leaf (x:ND)
 | one (x:ND) (a:T)
 | two (x:ND) (a b:T)
def T.fl:T→List ND
 | .leaf x=>[x]
 | .one x a=>x::a.fl
 | .two x a b=>x::(a.fl++b.fl)
def T.ok:T→Prop
 | .leaf x=>parts x.op=0
 | .one x a=>parts x.op=1∧a.ok
 | .two x a b=>parts x.op=2∧a.ok∧b.ok
theorem T.DA:∀t:T,0<t.fl.length
 | .leaf _=>by simp[T.fl]
 | .one _ _=>by simp[T.fl]
 | .two _ _ _=>by simp[T.fl]
theorem qS:∀(t:T),t.ok→∀(n:Nat) (r:List ND),jI (n+1) (t.fl++r)=(jI n r).map (·+t.fl.length)
 | .leaf x,h,n,r=>by
  simp only[T.ok] at h
  simp[T.fl,jI,h]
 | .one x a,h,n,r=>by
  obtain⟨h1,h2⟩:=h
  simp only[T.fl,List.cons_append,jI,h1]
  rw[qS a h2]
  cases jI n r<;>simp
  omega
 | .two x a b,h,n,r=>by
  obtain⟨h1,h2,h3⟩:=h
  simp only[T.fl,List.cons_append,List.append_assoc,jI,h1]
  rw[show n+2=(n+1)+1 from rfl,qS a h2,qS b h3]
  cases jI n r<;>simp
  omega
theorem kP(op:Int):parts op=0∨parts op=1∨parts op=2:=by
 unfold parts
 split
 ·simp
 ·split<;>simp
theorem qZ:∀(m:Nat) (l:List ND),l.length≤m→∀(n k:Nat),jI (n+1) l=some k→∃(t:T) (r:List ND),t.ok∧l=t.fl++r
 | 0,l,hl,n,k,h=>by
  have:l=[]:=List.eq_nil_of_length_eq_zero oM
  subst this
  simp[jI] at h
 | m+1,[],hl,n,k,h=>by simp[jI] at h
 | m+1,x::r,hl,n,k,h=>by
  simp only[List.length_cons] at hl
  simp only[jI,Option.map_eq_some_iff] at h
  obtain⟨j,h,rfl⟩:=h
  rcases kP x.op with hp|hp|hp
  ·exact⟨.leaf x,r,hp,rfl⟩
  ·rw[hp] at h
   obtain⟨t,r',ht,rfl⟩:=qZ m r oM n j h
   exact⟨.one x t,r',⟨hp,ht⟩,rfl⟩
  ·rw[hp] at h
   obtain⟨a,r1,ha,rfl⟩:=qZ m r oM (n+1) j h
   rw[show n+2=(n+1)+1 from rfl,qS a ha] at h
   simp only[Option.map_eq_some_iff] at h
   obtain⟨j1,h,rfl⟩:=h
   obtain⟨b,r2,hb,rfl⟩:=qZ m r1 (by simp at hl;omega) n j1 h
   exact⟨.two x a b,r2,⟨hp,ha,hb⟩,by simp[T.fl]⟩
theorem parse{l:List ND}(h:iR l 0=l.length):∃t:T,t.ok∧l=t.fl:=by
 unfold iR at h
 rw[if_neg oM] at h
 simp only[Int.toNat_zero,List.drop_zero] at h
 cases e:jI 1 l with
 | none=>rw[e] at h;simp at h
 | some k =>
  rw[e] at h
  simp only[Int.zero_add] at h
  have hk:k=l.length:=by exact_mod_cast h
  obtain⟨t,r,ht,rfl⟩:=qZ l.length l (Nat.le_refl _) 0 k e
  rw[qS t ht] at e
  simp only[jI,Option.map_some,Option.some.injEq] at e
  refine⟨t,ht,?_⟩
  have:r=[]:=List.eq_nil_of_length_eq_zero (by simp at hk;omega)
  rw[this,List.append_nil]
theorem KW{t:T}(h:t.ok)(pre r:List ND):iR (pre++(t.fl++r)) pre.length=(pre.length+t.fl.length:Nat):=by
 unfold iR
 rw[if_neg oM]
 simp only[Int.toNat_natCast,List.drop_left]
 rw[qS t h]
 simp[jI]
def fF(v:VA):Bool :=
 if v.kd=0 then decide (v=va0) else if v.kd=1 then decide (0≤v.n∧v.n≤1099511627776∧v.s=⟨#[]⟩) else if v.kd=2 then decide (v.n=0∧v.s.size≤24) else false
def fM(x:ND):Bool :=
 if x.op=1∨x.op=2∨x.op=10∨x.op=11∨x.op=12 then decide (x.n=0∧x.v=va0)
 else if x.op=3∨x.op=4 then decide (0≤x.n∧x.n<16∧x.v=va0)
 else if x.op=5 then decide (0≤x.n∧x.n<8∧x.v=va0)
 else if x.op=6∨x.op=7∨x.op=8 then decide (0≤x.n∧x.n<8∧fF x.v=true∧x.v≠va0)
 else if x.op=9 then decide (0≤x.n∧x.n<8∧fF x.v=true∧x.v.kd=2)
 else false
def S7(l:List ND):Bool:=decide (l≠[]∧l.length≤63)&&decide (iR l 0=l.length)&&l.all fM
theorem Ps{l:List ND}(h:S7 l=true):∃t:T,t.ok∧l=t.fl∧l.length≤63∧∀x,x∈l→fM x=true:=by
 simp only[S7,Bool.and_eq_true,decide_eq_true_eq,List.all_eq_true] at h
 obtain⟨t,ht,e⟩:=parse h.1.2
 exact⟨t,ht,e,h.1.1.2,h.2⟩
end

section
structure RD where
 l:BL
 e:Int
 deriving DecidableEq
structure F8 where
 l:List VA
 h:l.length=8
 deriving DecidableEq
abbrev F8.c(f:F8):List MV:=(f.l.map VA.c).flatten
def F8.get(f:F8)(i:Nat):VA:=f.l.getD i va0
def F8.set(f:F8)(i:Nat)(v:VA):F8:=⟨f.l.set i v,by rw[List.length_set,f.h]⟩
def f80:F8:=⟨List.replicate 8 va0,rfl⟩
abbrev bl(s:ByteArray):BL:=s.data.toList
abbrev bit(m i:Nat):Bool:=m.testBit i
structure PA where
 mask:UInt32
 lab:UInt32
 f:F8
 deriving DecidableEq
def pa0:PA:=⟨0,0,f80⟩
structure CA where
 id:Int
 ver:Int
 lab:UInt32
 f:F8
 deriving DecidableEq
def ca0:CA:=⟨0,0,0,f80⟩
def mM:Int:=1073741824
def hJ(c:CA):Bool:=decide (1≤c.id∧c.id<mM∧1≤c.ver∧c.ver≤big∧c.lab.toNat<65536)&&c.f.l.all fF
def bI(p:PA):Int :=
 if p.mask.toNat=0∨511<p.mask.toNat then 11
 else if 65536≤p.lab.toNat∨p.lab.toNat≠0∧bit p.mask.toNat 8=false then 1
 else if (List.range 8).all (fun i=>fF (p.f.get i)&&(decide ((p.f.get i).kd=0) || bit p.mask.toNat i))=true then 0 else 1
structure ED where
 kd:Int
 id:Int
 gr:Int
 p:PA
 deriving DecidableEq
def edG(k:Int):Bool:=decide (k=4∨k=5∨k=6∨k=7)
def edI(k:Int):Bool:=decide (k=2∨k=3∨k=6∨k=7)
def edP(k:Int):Bool:=decide (k=1∨k=2)
def aQ(e:ED):Int :=
 if e.kd<1∨7<e.kd then 1
 else if edG e.kd=false∧e.gr≠0∨edI e.kd=false∧e.id≠0∨edP e.kd=false∧e.p≠pa0 then 1
 else if e.gr<0∨16≤e.gr∨edI e.kd=true∧(e.id<1∨mM≤e.id) then 1
 else if edP e.kd=true then bI e.p else 0
structure TO where
 dev:Int
 ep:Int
 sq:Int
 cu:Int
 deriving DecidableEq
abbrev TO.c(t:TO):List MV:=[.int .i64 t.dev,.int .i64 t.ep,.int .i64 t.sq,.int .i64 t.cu]
def shut:List Nat→List Nat
 | []=>[]
 | [0]=>[]
 | 0::k::s=>shut ((k - 1)::s)
 | (n+1)::s=>(n+1)::s
termination_by s=>s.length
def dp:Nat→List Nat→List ND→Nat
 | d,_,[]=>d
 | d,s,x::l=>dp (max d (s.length+1)) (shut (parts x.op::s)) l
def iU(l:List ND):Nat:=if l=[]∨iR l 0≠l.length then 0 else dp 0 [] l
def cR(l:List ND):Int :=
 if 31<l.length then 4 else if l=[]∨iR l 0≠l.length∨l.all fM=false then 1 else if 8<iU l then 5 else 0
structure RE where
 kd:Int
 dev:Int
 req:Int
 code:Int
 id:Int
 ver:Int
 sq:Int
 ep:Int
 fl:List ND
 mask:UInt32
 deriving DecidableEq
structure IT where
 kd:Int
 c:CA
 deriving DecidableEq
def it0:IT:=⟨0,ca0⟩
structure PG where
 code:Int
 reset:Bool
 fr:TO
 to:TO
 items:List IT
 deriving DecidableEq
structure CM where
 kd:Int
 e:ED
 dev:Int
 req:Int
 id:Int
 base:Int
 Tj:Int
 p:PA
 fl:List ND
 mask:UInt32
 deriving DecidableEq
structure MS where
 kd:Int
 size:Int
 cmd:CM
 tok:TO
 rep:RE
 page:PG
 code:Int
 deriving DecidableEq
end

section
structure Sk {α:Type} (f:RD→α × RD):Prop where
 stk:∀r,r.e≠0→(f r).2=r
 sfx:∀r,(f r).2.l <:+ r.l
structure Rt {α:Type} (f:RD→α × RD) (ok:α→Prop) (w:α→BL):Prop where
 fwd:∀x l,ok x→f ⟨w x++l,0⟩=(x,⟨l,0⟩)
 bck:∀r,(f r).2.e=0→r.e=0∧ok (f r).1∧r.l=w (f r).1++(f r).2.l
theorem Sk.err{α:Type}{f:RD→α × RD}(h:Sk f){r:RD}(e:(f r).2.e=0):r.e=0:=by
 by_cases h0:r.e=0
 ·exact h0
 ·rw[h.stk r h0] at e;exact e
section
variable {α:Type} {d:α} {y:α × RD}
end
theorem Sz(v:VA):fF v=true↔(v.kd=0∧v=va0)∨(v.kd=1∧0≤v.n∧v.n≤big∧v.s=⟨#[]⟩)∨(v.kd=2∧v.n=0∧v.s.size≤24):=by
 unfold fF big
 by_cases h0:v.kd=0
 ·simp[h0]
 ·by_cases h1:v.kd=1
  ·simp[h1]
  ·by_cases h2:v.kd=2
   ·simp[h2]
   ·simp[h0,h1,h2]
end

section
theorem oZ.view{σ:St}{m m':MV}(h:oZ m m'):View σ m m':=by
 cases h with
 | same=>exact .same _
 | junk=>exact .junk _
 | nil e t=>exact .nil e t
 | tight e xs=>exact .tight e xs
theorem bA.nest{n:Nat}{l l1:List (Nat × MV)}{d:List (FuncId × List MV)}{σ:St}{q m:Nat}{t t1:TypeId}{e1:Nat}{pre post ys:List (List MV)}{n1:Nat}(σ2:St)
 (hm:σ m=some (.row t1 e1 ys))(hq:σ q=some (.row t 1 (pre++[.vec e1 m 0 n1]::post)))(hn:n1=ys.length)(h2:σ2.le σ)(h2m:σ2 m=none)(hne:q≠m)
 (hw:∀p,p∈l1→oZ (cQ l p.1) p.2):bA ⟨n,l,d⟩ σ ⟨n,l1,d⟩ (σ2.set q (.row t 1 (pre++[.lst e1 ys false]::post))):=by
 subst hn
 have hv:(St.none.set m (.row t1 e1 ys)) m=some (.row t1 e1 ys):=aD _ _ _
 refine bA.tJ (St.none.set m (.row t1 e1 ys)) (St.aB (St.none_le _) hm) (fun k o1 hk=>?_) (fun k o hk=>?_) fun p hp=>(hw p hp).view
 ·by_cases h:k=q
  ·subst h
   rw[aD] at hk
   cases hk
   refine⟨_,hq,.inr ⟨t,1,_,_,rfl,rfl,by simp,fun i x x1 hx hx1=>?_⟩⟩
   rcases Nat.lt_trichotomy i pre.length with hi|hi|hi
   ·rw[List.getElem?_append_left hi] at hx hx1
    rw[hx] at hx1;cases hx1
    exact⟨rfl,fun j a b ha hb=>by rw[ha] at hb;cases hb;exact .inl rfl⟩
   ·subst hi
    rw[List.getElem?_append_right (Nat.le_refl _),Nat.sub_self] at hx hx1
    simp only[List.getElem?_cons_zero,Option.some.injEq] at hx hx1
    subst hx;subst hx1
    refine⟨rfl,fun j a b ha hb=>?_⟩
    cases j with
    | zero =>
     simp only[List.getElem?_cons_zero,Option.some.injEq] at ha hb
     subst ha;subst hb
     exact .inr ⟨rfl,.vecAll hv rfl⟩
    | succ j=>simp at ha
   ·rw[List.getElem?_append_right oM] at hx hx1
    obtain⟨j,hj⟩:∃j,i - pre.length=j+1:=⟨i - pre.length - 1,by omega⟩
    rw[hj,List.getElem?_cons_succ] at hx hx1
    rw[hx] at hx1;cases hx1
    exact⟨rfl,fun j a b ha hb=>by rw[ha] at hb;cases hb;exact .inl rfl⟩
  ·rw[aG _ _ _ _ h] at hk
   exact⟨o1,h2 k o1 hk,.inl rfl⟩
 ·by_cases h:k=m
  ·subst h
   by_cases hq':k=q
   ·exact absurd hq'.symm hne
   ·rw[aG _ _ _ _ hq',h2m] at hk;cases hk
  ·exact aG _ _ _ _ h ▸ rfl
theorem aA.pre{P:Program}{g:FuncId}{ms ms':List MV}{σ σ2:St}{Q:MV→St→Prop}(hl:ms.length=ms'.length)(hg:bA ⟨ms.length,iG 0 ms,[]⟩ σ ⟨ms.length,iG 0 ms',[]⟩ σ2)(h:aA P g ms' σ2 Q):aA P g ms σ Q:=by
 refine⟨h.1,fun Φ w vs hi hr=>?_⟩
 obtain⟨-,hg⟩:=hg
 obtain⟨Φ1,i1,r1,s1⟩:=hg Φ w vs hi ⟨hr.1,fun t=>by
  simp only[FR.get,qM,Nat.sub_zero,Nat.zero_le,if_true]
  cases hm:ms[t]? with
  | none=>exact .junk _
  | some m=>exact hr.2 t m hm⟩
 refine(h.2 Φ1 w vs i1 ⟨hr.1.trans hl,fun i m hm=>?_⟩).mono ?_
 ·have:=r1.2 i
  simp only[FR.get,qM,Nat.sub_zero,Nat.zero_le,if_true,hm] at this
  exact this
 ·rintro e w' ⟨v,mv,σ',Φ',rfl,q1,q2,q3,hq⟩
  exact⟨v,mv,σ',Φ',rfl,q1,q2,s1.trans q3,hq⟩
theorem CH:∀{ms:List MV} {i:Nat} {p:Nat × MV},p∈iG i ms→∃j,p.1=i+j∧ms[j]?=some p.2
 | [],_,_,h=>by simp[iG] at h
 | m::ms,i,p,h=>by
  rw[iG,List.mem_cons] at h
  rcases h with rfl|h
  ·exact⟨0,rfl,rfl⟩
  ·obtain⟨j,h1,h2⟩:=CH h
   exact⟨j+1,by omega,by simpa using h2⟩
theorem Sp{P:Program}{g:FuncId}{ms:List MV}(ms':List MV){σ:St}(σv σ2:St){r:MV}{k:MV→St→Prop}(h:aA P g ms' St.none fun v _=>v=r)(hle:σv.le σ)(h2:σ2.le σ)(hd:∀k o,σ2 k=some o→σv k=none)
 (hl:ms.length=ms'.length)(hv:∀(i:Nat) (m m':MV),ms[i]?=some m→ms'[i]?=some m'→View σv m m')(hk:R (bT r σ2 k)):R (cW P g ms σ k):=by
 refine aA.pre hl (bA.freeze σv hle h2 hd fun p hp=>?_) (aC h hk)
 obtain⟨j,h1,h3⟩:=CH hp
 rw[h1,qM]
 simp only[Nat.zero_add,Nat.zero_le,if_true,Nat.sub_zero]
 have hj:=(List.getElem?_eq_some_iff.1 h3).1
 obtain⟨m,hm⟩:∃m,ms[j]?=some m:=⟨ms[j]'oM,by simp⟩
 rw[hm]
 exact hv j m _ hm h3
theorem OP{P:Program}{g:FuncId}{ms:List MV}(ms':List MV){σ:St}(l:Nat){o:aT}{r:MV}{k:MV→St→Prop}(h:aA P g ms' St.none fun v _=>v=r)(ho:σ l=some o)
 (hl:ms.length=ms'.length)(hv:∀(i:Nat) (m m':MV),ms[i]?=some m→ms'[i]?=some m'→View (St.none.set l o) m m')(hk:R (bT r (σ.del l) k)):R (cW P g ms σ k) :=
 Sp ms' (St.none.set l o) (σ.del l) h (St.aB (St.none_le _) ho) (fun j q hq=>by
  simp only[St.del] at hq
  split at hq
  ·cases hq
  ·exact hq) (fun j q hq=>by
  simp only[St.del] at hq
  split at hq
  ·cases hq
  ·exact aG _ _ _ _ (by assumption)) hl hv hk
theorem xD{σ:St}{a a':MV}(h:View σ a a'):∀(i:Nat) (m m':MV),[a][i]?=some m→[a'][i]?=some m'→View σ m m':=fun i m m' h1 h2=>by
 match i,h1,h2 with
 | 0,h1,h2=>simp only[List.getElem?_cons_zero,Option.some.injEq] at h1 h2;subst h1 h2;exact h
theorem rF{σ:St}{a b a' b':MV}(h:View σ a a')(k:View σ b b'):∀(i:Nat) (m m':MV),[a,b][i]?=some m→[a',b'][i]?=some m'→View σ m m':=fun i m m' h1 h2=>by
 match i,h1,h2 with
 | 0,h1,h2=>simp only[List.getElem?_cons_zero,Option.some.injEq] at h1 h2;subst h1 h2;exact h
 | 1,h1,h2=>simp only[List.getElem?_cons_succ,List.getElem?_cons_zero,Option.some.injEq] at h1 h2;subst h1 h2;exact k
end

section
structure YS where
 w:World
 wr:Nat→Prop
 sn:Addr→Option Value
structure oU (S:YS) (w:World):Prop where
 same:∀k,S.wr k→w.heap[k]?=S.w.heap[k]?
 lt:∀k,S.wr k→k<S.w.heap.size
 nomark:∀k,S.wr k→∀x,S.w.heap[k]?≠some (Obj.deferred x)
 sn:∀a v,S.sn a=some v→w.cell? a=some v
 size:S.w.heap.size≤w.heap.size
 os:w.os=S.w.os
 tape:w.tape=S.w.tape
 output:w.output=S.w.output
 drawn:drw S.w≤drw w
structure Apt (Φ:Phi) (σ:St) (S:YS) (w:World):Prop where
 agree:oU S w
 own:∀k,S.wr k→¬aY Φ σ k
 snown:∀a v,S.sn a=some v→¬aY Φ σ a.block
 snap:∀a v,Φ.snap a=some v→¬S.wr a.block
theorem Apt.step{Φ Φ':Phi}{σ σ':St}{S:YS}{w w':World}(h:Apt Φ σ S w)(hs:Step Φ σ w Φ' σ' w'):Apt Φ' σ' S w':=by
 have hlt:∀k,S.wr k→k<w.heap.size:=fun k hk=>Nat.lt_of_lt_of_le (h.agree.lt k hk) h.agree.size
 have hsl:∀a v,S.sn a=some v→a.block<w.heap.size:=fun a v q=>World.block_lt_of_cell? w a (h.agree.sn a v q)
 refine⟨⟨fun k hk=>(hs.block k (hlt k hk) (h.own k hk)).trans (h.agree.same k hk),h.agree.lt,h.agree.nomark,fun a v q=>?_,Nat.le_trans h.agree.size hs.size,hs.os.trans h.agree.os,hs.tape.trans h.agree.tape,hs.output.trans h.agree.output,Nat.le_trans h.agree.drawn hs.drawn⟩,fun k hk ho=>?_,fun a v q ho=>?_,fun a v hv hk=>?_⟩
 ·rw[World.gC (hs.block _ (hsl a v q) (h.snown a v q))]
  exact h.agree.sn a v q
 ·rcases hs.ownd k ho with q|q
  ·exact h.own k hk q
  ·have:=hlt k hk;omega
 ·rcases hs.ownd _ ho with p|p
  ·exact h.snown a v q p
  ·have:=hsl a v q;omega
 ·rcases hs.snapn a v hv with q|q|q
  ·exact h.snap a v q hk
  ·have:=hlt _ hk;omega
  ·exact h.own _ hk q
structure eU (Φ:Phi) (σ:St) (w:World) (S:YS) (Φ':Phi) (σ':St) (w':World) (S':YS):Prop where
 le:Φ.le Φ'
 os:w'.os=w.os
 tape:w'.tape=w.tape
 output:w'.output=w.output
 drawn:drw w≤drw w'
 size:w.heap.size≤w'.heap.size
 block:∀k,k<w.heap.size→¬aY Φ σ k→¬S.wr k→w'.heap[k]?=w.heap[k]?
 snapn:∀a v,Φ'.snap a=some v→Φ.snap a=some v∨w.heap.size≤a.block∨aY Φ σ a.block
 ownd:∀R,aY Φ' σ' R→aY Φ σ R∨w.heap.size≤R
 wr:∀k,S'.wr k→S.wr k∨w.heap.size≤k
 sn:∀a v,S'.sn a=some v→S.sn a=some v∨S.wr a.block∨w.heap.size≤a.block∨Φ.snap a=some v∨aY Φ σ a.block
theorem eU.of{Φ Φ':Phi}{σ σ':St}{w w':World}(S:YS)(hs:Step Φ σ w Φ' σ' w'):eU Φ σ w S Φ' σ' w' S :=
 ⟨hs.le,hs.os,hs.tape,hs.output,hs.drawn,hs.size,fun k hk hn _=>hs.block k hk hn,hs.snapn,hs.ownd,fun k hk=>.inl hk,fun _ _ q=>.inl q⟩
theorem eU.refl(Φ:Phi)(σ:St)(w:World)(S:YS):eU Φ σ w S Φ σ w S:=.of S (.refl Φ σ w)
theorem eU.trans{Φ Φ1 Φ2:Phi}{σ σ1 σ2:St}{w w1 w2:World}{S S1 S2:YS}(h:eU Φ σ w S Φ1 σ1 w1 S1)(k:eU Φ1 σ1 w1 S1 Φ2 σ2 w2 S2):eU Φ σ w S Φ2 σ2 w2 S2 where
 le:=h.le.trans k.le
 os:=k.os.trans h.os
 tape:=k.tape.trans h.tape
 output:=k.output.trans h.output
 drawn:=Nat.le_trans h.drawn k.drawn
 size:=Nat.le_trans h.size k.size
 block:=fun i hi hn hw=>(k.block i (Nat.lt_of_lt_of_le hi h.size) (fun ho=>(h.ownd i ho).elim hn (fun q=>by omega)) (fun ho=>(h.wr i ho).elim hw (fun q=>by omega))).trans (h.block i hi hn hw)
 snapn:=fun a v hv=>by
  rcases k.snapn a v hv with q|q|q
  ·exact h.snapn a v q
  ·exact .inr (.inl (Nat.le_trans h.size q))
  ·rcases h.ownd _ q with q|q
   ·exact .inr (.inr q)
   ·exact .inr (.inl q)
 ownd:=fun R hR=>by
  rcases k.ownd R hR with q|q
  ·exact h.ownd R q
  ·exact .inr (Nat.le_trans h.size q)
 wr:=fun i hi=>by
  rcases k.wr i hi with q|q
  ·exact h.wr i q
  ·exact .inr (Nat.le_trans h.size q)
 sn:=fun a v hv=>by
  rcases k.sn a v hv with q|q|q|q|q
  ·exact h.sn a v q
  ·rcases h.wr _ q with q|q
   ·exact .inr (.inl q)
   ·exact .inr (.inr (.inl q))
  ·exact .inr (.inr (.inl (Nat.le_trans h.size q)))
  ·rcases h.snapn a v q with q|q|q
   ·exact .inr (.inr (.inr (.inl q)))
   ·exact .inr (.inr (.inl q))
   ·exact .inr (.inr (.inr (.inr q)))
  ·rcases h.ownd _ q with q|q
   ·exact .inr (.inr (.inr (.inr q)))
   ·exact .inr (.inr (.inl q))
def s7(P:Program)(l:Nat)(xs:List (List MV))(Y:Nat→YS→Prop)(Yx:YS→Prop)(Φ0:Phi)(σ0:St)(n0:Nat):Prop :=
 ∀(i:Nat) (x:List MV) (S:YS) (w:World) (Ψ:Phi) (vs:Array Value),xs[i]?=some x→Y i S→oU S w→n0≤w.heap.size→(∀m,Ψ.obj m=none) →
  (∀a v,Ψ.snap a=some v→w.cell? a=some v∧¬S.wr a.block∧(Φ0.snap a=some v∨n0≤a.block∨aY Φ0 σ0 a.block))→iS Ψ vs x →
  YieldAt Fence.wide 0 P l vs w fun e w'=>∃b S',e=.returned (.bool b)∧S'.w=w'∧oU S' w'∧w'.os=w.os∧w'.tape=w.tape∧w'.output=w.output∧drw w≤drw w'∧w.heap.size≤w'.heap.size ∧
   (∀k,k<w.heap.size→¬S.wr k→w'.heap[k]?=w.heap[k]?)∧(∀k,S'.wr k→S.wr k∨w.heap.size≤k) ∧
   (∀a v,S'.sn a=some v→S.sn a=some v∨S.wr a.block∨w.heap.size≤a.block∨Ψ.snap a=some v)∧(if b=true then Y (i+1) S' else Yx S')
def OU(P:Program)(g:FuncId)(ns:List MV)(σi:St)(xs:List (List MV)):Prop :=
 Enters P g∧∀(l:Nat) (Y:Nat→YS→Prop) (Yx:YS→Prop) (Φ:Phi) (w:World) (S:YS) (vs:Array Value),s7 P l xs Y Yx Φ σi w.heap.size→Inv Φ w σi→Apt Φ σi S w→Y 0 S→iS Φ vs ns →
  Calls P g (#[.func (.yield l) #[] #[]]++vs) w fun e w'=>∃v Φ' σ' S',e=.returned v∧Inv Φ' w' σ'∧Apt Φ' σ' S' w'∧eU Φ σi w S Φ' σ' w' S'∧(Y xs.length S'∨Yx S')
def rU(f:FR):List Tmp→List MV→FR
 | p::ps,x::xs=>rU (bD f (some p) x) ps xs
 | _,_=>f
theorem TS(ps:List Tmp):∀(f:FR) (xs:List MV),(rU f ps xs).d=f.d:=by
 induction ps with
 | nil=>intro f xs;rfl
 | cons p ps ih =>
  intro f xs
  cases xs with
  | nil=>rfl
  | cons x xs=>rw[rU,ih,dZ]
theorem Cq{Φ:Phi}:∀(ps:List Tmp) (xs:List MV) (vs:List Value) (tmps:Array Value) (f:FR),dD Φ tmps f→vs.length=xs.length→(∀(i:Nat) m,xs[i]?=some m→Rel Φ (vs.getD i undef) m) →
  dD Φ ((ps.zip vs).foldl (fun t (p:Tmp × Value)=>t.setIfInBounds p.1 p.2) tmps) (rU f ps xs)
 | [],_,_,_,_,h,_,_=>by simpa[rU] using h
 | _::_,[],[],_,_,h,_,_=>by simpa[rU] using h
 | p::ps,x::xs,v::vs,tmps,f,h,hl,hr=>by
  simp only[List.zip_cons_cons,List.foldl_cons,rU]
  refine Cq ps xs vs _ _ ?_ (by simpa using hl) (fun i m hm=>by have:=hr (i+1) m (by simpa using hm);simpa using this)
  have:=cL (a:={ tmps:=tmps,defers:=[] }) h (some p) (hr 0 x rfl)
  simpa[Act.put] using this
 | _::_,[],_::_,_,_,_,hl,_=>by simp at hl
 | _::_,_::_,[],_,_,_,hl,_=>by simp at hl
theorem ME{β:Type}(ps:Array Tmp)(vs:Array Value)(g:β→Tmp × Value→β)(b:β):(ps.zip vs).foldl g b=(ps.toList.zip vs.toList).foldl g b:=by
 rw[←Array.foldl_toList,Array.toList_zip]
end

section
theorem Inv.grow{Φ:Phi}{w w':World}{σ:St}(hi:Inv Φ w σ)(h1:w'.os=w.os)(h2:w'.tape=w.tape)(h3:w'.output=w.output)(h4:drw w≤drw w')(h5:w.heap.size≤w'.heap.size)(hb:∀k,k<w.heap.size→w'.heap[k]?=w.heap[k]?) :
  Inv Φ w' σ∧Step Φ σ w Φ σ w' :=
 ⟨⟨fun l o h=>(hi.own l o h).mono (.refl Φ) fun p R hp hR=>by
   obtain⟨p',hp',hlt⟩:=(hi.own l o h).place
   rw[hp] at hp';cases hp'
   exact hb R (hlt R hR),hi.inj,fun a v h=>by
   rw[World.gC (hb _ (World.block_lt_of_cell? w a (hi.snap a v h)))]
   exact hi.snap a v h,hi.apart,hi.fresh⟩,
  ⟨.refl Φ,h1,h2,h3,h4,h5,fun k hk _=>hb k hk,fun _ _ h=>.inl h,fun l o h=>.inl ⟨o,h⟩,fun _ h=>.inl h⟩⟩
structure s6 (Φ0:Phi) (σ0:St) (n0:Nat) (Φ:Phi) (σ:St):Prop where
 le:Φ0.le Φ
 snapn:∀a v,Φ.snap a=some v→Φ0.snap a=some v∨n0≤a.block∨aY Φ0 σ0 a.block
 locs:∀l o,σ l=some o→(∃o',σ0 l=some o')∨Φ0.obj l=none
 ownd:∀R,aY Φ σ R→aY Φ0 σ0 R∨n0≤R
theorem s6.of{Φ Φ':Phi}{σ σ':St}{w w':World}(h:Step Φ σ w Φ' σ' w'):s6 Φ σ w.heap.size Φ' σ':=⟨h.le,h.snapn,h.locs,h.ownd⟩
theorem s6.step{Φ0 Φ Φ':Phi}{σ0 σ σ':St}{n0:Nat}{w w':World}(h:s6 Φ0 σ0 n0 Φ σ)(hn:n0≤w.heap.size)(k:Step Φ σ w Φ' σ' w'):s6 Φ0 σ0 n0 Φ' σ' where
 le:=h.le.trans k.le
 snapn:=fun a v hv=>by
  rcases k.snapn a v hv with q|q|q
  ·exact h.snapn a v q
  ·exact .inr (.inl (Nat.le_trans hn q))
  ·rcases h.ownd _ q with q|q
   ·exact .inr (.inr q)
   ·exact .inr (.inl q)
 locs:=fun l o hl=>by
  rcases k.locs l o hl with⟨o',q⟩|q
  ·exact h.locs l o' q
  ·right
   cases hl:Φ0.obj l with
   | none=>rfl
   | some p=>have:=h.le.obj l p hl;simp[this] at q
 ownd:=fun R hR=>by
  rcases k.ownd R hR with q|q
  ·exact h.ownd R q
  ·exact .inr (Nat.le_trans hn q)
structure CSt (Φ0:Phi) (σ0:St) (n0:Nat) (tmps:Array Value) (fc:FR) (l:Nat) (st:Loop) (σ:St) (S:YS) (Φ:Phi):Prop where
 inv:Inv Φ S.w σ
 frame:dD Φ tmps fc
 step:s6 Φ0 σ0 n0 Φ σ
 wr:∀k,S.wr k↔(aY Φ σ k∨k=l)
 sn:∀a,S.sn a=Φ.snap a
 lrec:S.w.heap[l]?=some (.loop st)
 size:n0≤S.w.heap.size
 base:Φ.base≤S.w.heap.size
theorem Inv.DP{Φ:Phi}{w:World}{σ:St}(hi:Inv Φ w σ){l:Nat}{st:Loop}(h:w.heap[l]?=some (.loop st)):¬aY Φ σ l :=
 hi.AB (fun c t fz e=>by rw[h] at e;cases e) (fun c k e=>by rw[h] at e;cases e) (fun _ _ _ _ e=>by rw[h] at e;cases e)
theorem CSt.agree{Φ0 Φ:Phi}{σ0 σ:St}{n0:Nat}{tmps:Array Value}{fc:FR}{l:Nat}{st:Loop}{S:YS}(h:CSt Φ0 σ0 n0 tmps fc l st σ S Φ):oU S S.w :=
 ⟨fun _ _=>rfl,fun k hk=>by
  rcases (h.wr k).1 hk with q|rfl
  ·obtain⟨l',o,p,h1,h2,h3⟩:=q
   obtain⟨p',e,hlt⟩:=(h.inv.own l' o h1).place
   rw[h2] at e;cases e
   exact hlt k h3
  ·exact(Array.getElem?_eq_some_iff.1 h.lrec).1,(fun k hk x e=>by
  rcases (h.wr k).1 hk with q|rfl
  ·exact h.inv.mark e q
  ·rw[h.lrec] at e;cases e),fun a v q=>h.inv.snap a v (by rw[←h.sn a];exact q),Nat.le_refl _,rfl,rfl,rfl,Nat.le_refl _⟩
theorem CSt.at{Φ0 Φ:Phi}{σ0 σ:St}{n0:Nat}{tmps:Array Value}{fc:FR}{l:Nat}{st:Loop}{S:YS}(h:CSt Φ0 σ0 n0 tmps fc l st σ S Φ){w:World}(ha:oU S w){Ψ:Phi}(ho:∀m,Ψ.obj m=none)
 (hs:∀a v,Ψ.snap a=some v→w.cell? a=some v∧¬S.wr a.block∧(Φ0.snap a=some v∨n0≤a.block∨aY Φ0 σ0 a.block)) :
  ∃Φ',Inv Φ' w σ∧dD Φ' tmps fc∧s6 Φ0 σ0 n0 Φ' σ∧(∀k,aY Φ' σ k↔aY Φ σ k)∧(∀a v,Φ'.snap a=some v→S.sn a=some v∨Ψ.snap a=some v)∧(∀v m,Rel Ψ v m→Rel Φ' v m)∧w.heap[l]?=some (.loop st)∧Φ'.base≤w.heap.size:=by
 obtain⟨Φ',hΦ⟩:∃Φ':Phi,Φ'={ Φ with snap:=fun a=>match Φ.snap a with|some v=>some v|none=>Ψ.snap a }:=⟨_,rfl⟩
 have hle:Φ.le Φ':=by subst hΦ;exact⟨fun a v q=>by simp[q],fun _ _ q=>q,rfl⟩
 have hobj:Φ'.obj=Φ.obj:=by subst hΦ;rfl
 have hb:Φ'.base=Φ.base:=by subst hΦ;rfl
 have hsn:∀a v,Φ'.snap a=some v→Φ.snap a=some v∨Ψ.snap a=some v:=fun a v q=>by
  subst hΦ
  simp only at q
  cases e:Φ.snap a with
  | none=>rw[e] at q;exact .inr q
  | some u=>rw[e] at q;exact .inl q
 have hwr:∀k,aY Φ σ k→w.heap[k]?=S.w.heap[k]?:=fun k hk=>ha.same k ((h.wr k).2 (.inl hk))
 have hown:∀k,aY Φ' σ k↔aY Φ σ k:=fun k=>by unfold aY;rw[hobj]
 refine⟨Φ',⟨fun l' o hl=>(h.inv.own l' o hl).mono hle fun p R h1 h2=>hwr R ⟨l',o,p,hl,h1,h2⟩,fun a b o o' p p' R h1 h2 h3 h4=>?_,fun a v q=>?_,fun l' o p R a v h1 h2 h3 q=>?_,?_⟩,h.frame.mono hle,⟨h.step.le.trans hle,fun a v q=>?_,h.step.locs,fun R hR=>h.step.ownd R ((hown R).1 hR)⟩,hown,fun a v q=>?_,fun v m r=>?_,?_,?_⟩
 ·rw[hobj] at h3 h4;exact h.inv.inj a b o o' p p' R h1 h2 h3 h4
 ·rcases hsn a v q with q|q
  ·exact ha.sn a v (by rw[h.sn a];exact q)
  ·exact(hs a v q).1
 ·rw[hobj] at h2
  rcases hsn a v q with q|q
  ·exact h.inv.apart l' o p R a v h1 h2 h3 q
  ·intro e
   exact(hs a v q).2.1 ((h.wr _).2 (.inl ⟨l',o,p,h1,h2,e ▸ h3⟩))
 ·obtain⟨n,hn⟩:=h.inv.fresh.1.1
  exact⟨⟨⟨n,fun k hk=>by rw[hobj];exact hn k hk⟩,fun k p hk=>h.inv.fresh.1.2 k p (by rw[←hobj];exact hk)⟩,fun g i v q=>hle.snap _ _ (h.inv.fresh.2.1 g i v q),h.inv.fresh.2.2.mono hle.snap⟩
 ·rcases hsn a v q with q|q
  ·exact h.step.snapn a v q
  ·exact(hs a v q).2.2
 ·rcases hsn a v q with q|q
  ·exact .inl (by rw[h.sn a];exact q)
  ·exact .inr q
 ·refine r.Gx (fun a u q=>?_) (fun l' p q=>by rw[ho l'] at q;cases q)
  have h1:=(hs a u q).1
  subst hΦ
  simp only
  cases e:Φ.snap a with
  | none=>exact q
  | some u' =>
   have h2:=ha.sn a u' (by rw[h.sn a];exact e)
   rw[h1] at h2
   simpa using h2.symm
 ·rw[ha.same l ((h.wr l).2 (.inr rfl))];exact h.lrec
 ·rw[hb];exact Nat.le_trans h.base ha.size
def Q4(K:FR→St→Prop):MQ
 | .normal,f,σ=>K f σ
 | _,_,_=>False
def EF(Q:MQ)(fc:FR)(nxt:St→Prop):MQ
 | .normal,f,σ=>Gh f σ fun _ σ1=>nxt σ1
 | .ret,f,σ=>Gh f σ fun _ σ1=>Q .ret fc σ1
 | .exit id,f,σ=>Gh f σ fun _ σ1=>Q (.exit id) fc σ1
 | _,_,_=>False
theorem RG{P:Program}{Φ0:Phi}{σ0:St}{n0:Nat}{tmps:Array Value}{fc:FR}{l:Nat}{fn:FuncId}{ps:Array Tmp}{assign body:Code}{Q:MQ}{nxt:St→Prop}{D:Nat}{σ:St}{S:YS}{Φ:Phi}{x:List MV}{w:World}{Ψ:Phi}{vs:Array Value}
 (rec:LoopState→Option Code→Loop)(hrec:rec=fun st pe=>{ state:=st,pending:=pe,fn,tmps,params:=ps,assign,body,defers:=D })
 (nda:j9 assign=true)(ndb:j9 body=true)(hx:x.length=ps.size)
 (hr:mwp P assign (rU ⟨fc.n,fc.l,[]⟩ ps.toList x) σ (Q4 fun f1 σ1=>mwp P body f1 σ1 (EF Q fc nxt)))
 (h:CSt Φ0 σ0 n0 tmps fc l (rec .ready none) σ S Φ)(ha:oU S w)(hn0:n0≤w.heap.size)(ho:∀m,Ψ.obj m=none)
 (hs:∀a v,Ψ.snap a=some v→w.cell? a=some v∧¬S.wr a.block∧(Φ0.snap a=some v∨n0≤a.block∨aY Φ0 σ0 a.block))(hv:iS Ψ vs x) :
  YieldAt Fence.wide 0 P l vs w fun e w'=>∃b S',e=.returned (.bool b)∧S'.w=w'∧oU S' w'∧w'.os=w.os∧w'.tape=w.tape∧w'.output=w.output∧drw w≤drw w'∧w.heap.size≤w'.heap.size ∧
   (∀k,k<w.heap.size→¬S.wr k→w'.heap[k]?=w.heap[k]?)∧(∀k,S'.wr k→S.wr k∨w.heap.size≤k) ∧
   (∀a v,S'.sn a=some v→S.sn a=some v∨S.wr a.block∨w.heap.size≤a.block∨Ψ.snap a=some v) ∧
   (if b=true then ∃σ1 Φ1,nxt σ1∧CSt Φ0 σ0 n0 tmps fc l (rec .ready none) σ1 S' Φ1 else ∃c σ1 Φ1,((c=.ret∧Q .ret fc σ1)∨∃id,c=.exit id∧Q (.exit id) fc σ1)∧CSt Φ0 σ0 n0 tmps fc l (rec .done (some c)) σ1 S' Φ1):=by
 obtain⟨Φc,i1,fr1,c1,o1,s1,r1,l1,b1⟩:=h.at ha ho hs
 have hl:l<w.heap.size:=(Array.getElem?_eq_some_iff.1 l1).1
 have hwl:S.wr l:=(h.wr l).2 (.inr rfl)
 have hy:=run_yield (P:=P) (args:=vs) l1 (by rw[hrec];exact hv.1.trans hx)
 rw[hrec] at hy
 refine⟨fn,_,assign,body,hy,roundIn_of_wpIn trivial ?_⟩
 have hfr:dD Φc ((ps.zip vs).foldl (fun t (p:Tmp × Value)=>t.setIfInBounds p.1 p.2) tmps) (rU ⟨fc.n,fc.l,[]⟩ ps.toList x):=by
  rw[ME]
  refine Cq ps.toList x vs.toList tmps ⟨fc.n,fc.l,[]⟩ fr1 (by simpa using hv.1) fun i m hm=>?_
  have:=r1 _ _ (hv.2 i m hm)
  simpa[Array.getD_eq_getD_getElem?,List.getD_eq_getElem?_getD] using this
 refine wpIn_mono (hr (Fence.wide.inRound l) (.inr ⟨l,rfl,nda⟩) Φc w { tmps:=_,defers:=[] } i1 hfr (by rw[TS];exact⟨rfl,b1⟩)) ?_
 rintro e a₁ w₁ ⟨f2,σ2,Φ2,d2,fr2,i2,st2,q⟩
 cases e with
 | normal =>
  have hnl:¬aY Φc σ l:=i1.DP l1
  have hl2:w₁.heap[l]?=some (.loop (rec .ready none)):=(st2.block l hl hnl).trans l1
  refine⟨_,run_beginRound hl2 (by rw[hrec]),?_⟩
  obtain⟨w₂,hw2⟩:∃w₂,w₁.putObj l (.loop { rec .ready none with state:=.busy })=w₂:=⟨_,rfl⟩
  rw[hw2]
  have i2':Inv Φ2 w₂ σ2:=by rw[←hw2];exact i2.putObj _ hl2 (fun _ _ _ e=>by cases e) (fun _ _ e=>by cases e)
  have sz2:w₂.heap.size=w₁.heap.size:=by rw[←hw2,World.putObj_size]
  have ll2:w₂.heap[l]?=some (.loop { rec .ready none with state:=.busy }):=by rw[←hw2];exact World.putObj_heap_same (Array.getElem?_eq_some_iff.1 hl2).1
  have d2':eC Φ2 w₂ a₁.defers f2.d:=d2.mono (.refl _) oM fun D' hD=>by
   rw[←hw2,World.putObj_heap_other]
   ·exact hD
   ·rintro rfl;rw[hl2] at hD;cases hD
  have q:mwp P body f2 σ2 (EF Q fc nxt):=q
  refine wpIn_mono (q (Fence.wide.inRound l) (.inr ⟨l,rfl,ndb⟩) Φ2 w₂ a₁ i2' fr2 d2') ?_
  rintro e a₃ w₃ ⟨f3,σ3,Φ3,d3,fr3,i3,st3,q3⟩
  have hnl2:¬aY Φ2 σ2 l:=i2'.DP ll2
  have hl3:w₃.heap[l]?=some (.loop { rec .ready none with state:=.busy }):=(st3.block l (Array.getElem?_eq_some_iff.1 ll2).1 hnl2).trans ll2
  -- what a round comes to,whichever way it is left
  have fin:∀(jump:Option Code) (st:Loop) (σ4:St) (K:FR→St→Prop),st=rec (if jump.isNone then .ready else .done) jump→Gh f3 σ3 K →
    ∃σ4 f4 Φ4,K f4 σ4∧(Instr.endRound l jump).run P w₃=.ok (.bool jump.isNone) (w₃.putObj l (.loop st)) ∧
     (∃S':YS,S'.w=w₃.putObj l (.loop st)∧oU S' (w₃.putObj l (.loop st))∧(w₃.putObj l (.loop st)).os=w.os∧(w₃.putObj l (.loop st)).tape=w.tape∧(w₃.putObj l (.loop st)).output=w.output∧drw w≤drw (w₃.putObj l (.loop st))∧w.heap.size≤(w₃.putObj l (.loop st)).heap.size ∧
      (∀k,k<w.heap.size→¬S.wr k→(w₃.putObj l (.loop st)).heap[k]?=w.heap[k]?)∧(∀k,S'.wr k→S.wr k∨w.heap.size≤k) ∧
      (∀a v,S'.sn a=some v→S.sn a=some v∨S.wr a.block∨w.heap.size≤a.block∨Ψ.snap a=some v)∧CSt Φ0 σ0 n0 tmps fc l st σ4 S' Φ4):=by
   intro jump st _ K hst hg
   obtain⟨f4,σ4,Φ4,-,k4,i4,fr4,st4⟩:=hg Φ3 w₃ a₃.tmps i3 fr3
   have hend:=run_endRound (P:=P) jump hl3
   have hst':({ ({ rec .ready none with state:=.busy }:Loop) with state:=if jump.isNone then .ready else .done,pending:=jump }:Loop)=st:=by rw[hst,hrec]
   rw[hst'] at hend
   refine⟨σ4,f4,Φ4,k4,hend,?_⟩
   obtain⟨w₄,hw4⟩:∃w₄,w₃.putObj l (.loop st)=w₄:=⟨_,rfl⟩
   rw[hw4]
   have sz4:w₄.heap.size=w₃.heap.size:=by rw[←hw4,World.putObj_size]
   have i4':Inv Φ4 w₄ σ4:=by rw[←hw4];exact i4.putObj _ hl3 (fun _ _ _ e=>by cases e) (fun _ _ e=>by cases e)
   have cs:s6 Φ0 σ0 n0 Φ4 σ4:=((c1.step hn0 st2).step (w:=w₂) (by have:=st2.size;omega) st3).step (w:=w₃) (by have:=st2.size;have:=st3.size;omega) st4
   have hsz:w.heap.size≤w₃.heap.size:=by have:=st2.size;have:=st3.size;omega
   have oth:∀k,k≠l→w₄.heap[k]?=w₃.heap[k]?:=fun k hk=>by rw[←hw4];exact World.putObj_heap_other hk
   have oth2:∀k,k≠l→w₂.heap[k]?=w₁.heap[k]?:=fun k hk=>by rw[←hw2];exact World.putObj_heap_other hk
   have ow:∀k,aY Φ4 σ4 k→S.wr k∨w.heap.size≤k:=fun k hk=>by
    rcases st4.ownd k hk with q|q
    ·rcases st3.ownd k q with q|q
     ·rcases st2.ownd k q with q|q
      ·exact .inl ((h.wr k).2 (.inl ((o1 k).1 q)))
      ·exact .inr q
     ·have:=st2.size;exact .inr oM
    ·exact .inr oM
   have hcst:CSt Φ0 σ0 n0 tmps fc l st σ4 ⟨w₄,fun k=>aY Φ4 σ4 k∨k=l,Φ4.snap⟩ Φ4 :=
    ⟨i4',fr1.mono ((st2.le.trans st3.le).trans st4.le),cs,fun _=>Iff.rfl,fun _=>rfl,by simp only;rw[←hw4];exact World.putObj_heap_same (Array.getElem?_eq_some_iff.1 hl3).1,by simp only;omega,by
     simp only
     rw[st4.le.base,st3.le.base,st2.le.base];omega⟩
   refine⟨⟨w₄,fun k=>aY Φ4 σ4 k∨k=l,Φ4.snap⟩,rfl,hcst.agree,?_,?_,?_,?_,by omega,fun k hk hw=>?_,fun k hk=>?_,fun a v hv=>?_,hcst⟩
   ·have e1:w₄.os=w₃.os:=by rw[←hw4];rfl
    have e2:w₂.os=w₁.os:=by rw[←hw2];rfl
    rw[e1,st3.os,e2,st2.os]
   ·have e1:w₄.tape=w₃.tape:=by rw[←hw4];rfl
    have e2:w₂.tape=w₁.tape:=by rw[←hw2];rfl
    rw[e1,st3.tape,e2,st2.tape]
   ·have e1:w₄.output=w₃.output:=by rw[←hw4];rfl
    have e2:w₂.output=w₁.output:=by rw[←hw2];rfl
    rw[e1,st3.output,e2,st2.output]
   ·have e1:drw w₄=drw w₃:=by rw[←hw4];rfl
    have e2:drw w₂=drw w₁:=by rw[←hw2];rfl
    have:=st2.drawn
    have:=st3.drawn
    omega
   ·have hkl:k≠l:=fun e=>hw (e ▸ hwl)
    have hno:¬aY Φc σ k:=fun q=>hw ((h.wr k).2 (.inl ((o1 k).1 q)))
    have hno2:¬aY Φ2 σ2 k:=fun q=>(st2.ownd k q).elim hno (fun q=>by omega)
    rw[oth k hkl,st3.block k (by have:=st2.size;omega) hno2,oth2 k hkl,st2.block k hk hno]
   ·rcases hk with q|rfl
    ·exact ow k q
    ·exact .inl hwl
   ·have hv:Φ4.snap a=some v:=hv
    have ow3:∀k,aY Φ3 σ3 k→S.wr k∨w.heap.size≤k:=fun k hk=>by
     rcases st3.ownd k hk with q|q
     ·rcases st2.ownd k q with q|q
      ·exact .inl ((h.wr k).2 (.inl ((o1 k).1 q)))
      ·exact .inr q
     ·have:=st2.size;exact .inr oM
    have ow2:∀k,aY Φ2 σ2 k→S.wr k∨w.heap.size≤k:=fun k hk=>by
     rcases st2.ownd k hk with q|q
     ·exact .inl ((h.wr k).2 (.inl ((o1 k).1 q)))
     ·exact .inr q
    have tw:S.wr a.block∨w.heap.size≤a.block→S.sn a=some v∨S.wr a.block∨w.heap.size≤a.block∨Ψ.snap a=some v:=fun q=>q.elim (fun q=>.inr (.inl q)) (fun q=>.inr (.inr (.inl q)))
    rcases st4.snapn a v hv with q|q|q
    ·rcases st3.snapn a v q with q|q|q
     ·rcases st2.snapn a v q with q|q|q
      ·rcases s1 a v q with q|q
       ·exact .inl q
       ·exact .inr (.inr (.inr q))
      ·exact tw (.inr q)
      ·exact tw (.inl ((h.wr _).2 (.inl ((o1 _).1 q))))
     ·have:=st2.size;exact tw (.inr oM)
     ·exact tw (ow2 _ q)
    ·exact tw (.inr oM)
    ·exact tw (ow3 _ q)
  cases e with
  | normal =>
   obtain⟨σ4,f4,Φ4,k4,hend,S',hS1,hS2,hS3,hS4,hS5,hS6,hS7,hS8,hS9,hS10,hS11⟩:=fin none (rec .ready none) σ3 _ rfl q3
   exact⟨_,_,hend,true,S',rfl,hS1,hS2,hS3,hS4,hS5,hS6,hS7,hS8,hS9,hS10,σ4,Φ4,k4,hS11⟩
  | ret =>
   obtain⟨σ4,f4,Φ4,k4,hend,S',hS1,hS2,hS3,hS4,hS5,hS6,hS7,hS8,hS9,hS10,hS11⟩:=fin (some .ret) (rec .done (some .ret)) σ3 _ rfl q3
   exact⟨_,_,hend,false,S',rfl,hS1,hS2,hS3,hS4,hS5,hS6,hS7,hS8,hS9,hS10,.ret,σ4,Φ4,.inl ⟨rfl,k4⟩,hS11⟩
  | exit id =>
   obtain⟨σ4,f4,Φ4,k4,hend,S',hS1,hS2,hS3,hS4,hS5,hS6,hS7,hS8,hS9,hS10,hS11⟩:=fin (some (.exit id)) (rec .done (some (.exit id))) σ3 _ rfl q3
   exact⟨_,_,hend,false,S',rfl,hS1,hS2,hS3,hS4,hS5,hS6,hS7,hS8,hS9,hS10,.exit id,σ4,Φ4,.inr ⟨id,rfl,k4⟩,hS11⟩
  | goto l=>exact q3.elim
  | panic c=>exact q3.elim
  | outgrown=>exact q3.elim
 | exit id=>exact q.elim
 | goto l=>exact q.elim
 | ret=>exact q.elim
 | panic c=>exact q.elim
 | outgrown=>exact q.elim
end

section
def T.sem(av:ND→Bool):T→Bool
 | .leaf x=>if x.op=1 then true else if x.op=2 then false else av x
 | .one x a=>!a.sem av
 | .two x a b=>if x.op=11 then a.sem av&&b.sem av else a.sem av || b.sem av
end

section
def wd(g:Nat→Bool):Nat→Nat
 | 0=>0
 | n+1=>wd g n ||| (if g n=true then 2 ^ n else 0)
def tw(f:Nat→Bool)(i:Nat):Nat:=wd (fun j=>f (64 * i+j)) 64
end

section
def nd(op:Int):ND:=⟨op,0,va0⟩
def T.root:T→ND
 | .leaf x=>x
 | .one x _=>x
 | .two x _ _=>x
def T.kids:T→List T
 | .leaf _=>[]
 | .one _ a=>[a]
 | .two _ a b=>[a,b]
theorem T.K6(t:T):t.fl=t.root::(t.kids.map T.fl).flatten:=by cases t<;>simp[T.fl,T.kids,T.root]
theorem T.Lw{t:T}(h:t.ok):t.kids.length=parts t.root.op∧∀k,k∈t.kids→k.ok:=by
 cases t with
 | leaf x=>simp only[T.ok] at h;simp[T.kids,T.root,h]
 | one x a=>simp only[T.ok] at h;simp[T.kids,T.root,h.1,h.2]
 | two x a b=>simp only[T.ok] at h;simp[T.kids,T.root,h.1,h.2.1,h.2.2]
theorem Dz:∀(t u:T) (r s:List ND),t.ok→u.ok→t.fl++r=u.fl++s→t=u∧r=s
 | .leaf x,.leaf y,r,s,ht,hu,h=>by simp only[T.fl,List.cons_append,List.nil_append,List.cons.injEq] at h;exact⟨by rw[h.1],h.2⟩
 | .leaf x,.one y b,r,s,ht,hu,h=>by simp only[T.fl,List.cons_append,List.cons.injEq] at h;simp only[T.ok] at ht hu;rw[h.1] at ht;omega
 | .leaf x,.two y b c,r,s,ht,hu,h=>by simp only[T.fl,List.cons_append,List.cons.injEq] at h;simp only[T.ok] at ht hu;rw[h.1] at ht;omega
 | .one x a,.leaf y,r,s,ht,hu,h=>by simp only[T.fl,List.cons_append,List.cons.injEq] at h;simp only[T.ok] at ht hu;rw[h.1] at ht;omega
 | .one x a,.one y b,r,s,ht,hu,h=>by
  simp only[T.fl,List.cons_append,List.cons.injEq] at h
  obtain⟨e1,e2⟩:=Dz a b r s ht.2 hu.2 h.2
  exact⟨by rw[h.1,e1],e2⟩
 | .one x a,.two y b c,r,s,ht,hu,h=>by simp only[T.fl,List.cons_append,List.cons.injEq] at h;simp only[T.ok] at ht hu;rw[h.1] at ht;omega
 | .two x a a',.leaf y,r,s,ht,hu,h=>by simp only[T.fl,List.cons_append,List.cons.injEq] at h;simp only[T.ok] at ht hu;rw[h.1] at ht;omega
 | .two x a a',.one y b,r,s,ht,hu,h=>by simp only[T.fl,List.cons_append,List.cons.injEq] at h;simp only[T.ok] at ht hu;rw[h.1] at ht;omega
 | .two x a a',.two y b b',r,s,ht,hu,h=>by
  simp only[T.fl,List.cons_append,List.cons.injEq,List.append_assoc] at h
  obtain⟨e1,e2⟩:=Dz a b _ _ ht.2.1 hu.2.1 h.2
  obtain⟨e3,e4⟩:=Dz a' b' r s ht.2.2 hu.2.2 e2
  exact⟨by rw[h.1,e1,e3],e4⟩
theorem WA{t u:T}(ht:t.ok)(hu:u.ok)(h:t.fl=u.fl):t=u:=(Dz t u [] [] ht hu (by rw[h])).1
end

section
theorem CV{op:Int}(h:parts op=2):op=11∨op=12:=by
 unfold parts at h
 split at h
 ·omega
 ·split at h
  ·assumption
  ·omega
theorem CU{op:Int}(h:parts op=1):op=10:=by
 unfold parts at h
 split at h
 ·assumption
 ·split at h<;>omega
def Good(t:T):Prop:=t.ok∧∀x,x∈t.fl→fM x=true
theorem z6{x:ND}{a:T}:Good (.one x a)↔parts x.op=1∧fM x=true∧Good a:=by
 simp only[Good,T.ok,T.fl,List.mem_cons]
 exact⟨fun h=>⟨h.1.1,h.2 x (.inl rfl),h.1.2,fun y hy=>h.2 y (.inr hy)⟩,fun h=>⟨⟨h.1,h.2.2.1⟩,fun y hy=>hy.elim (fun e=>e ▸ h.2.1) (h.2.2.2 y)⟩⟩
theorem z7{x:ND}{a b:T}:Good (.two x a b)↔parts x.op=2∧fM x=true∧Good a∧Good b:=by
 simp only[Good,T.ok,T.fl,List.mem_cons,List.mem_append]
 exact⟨fun h=>⟨h.1.1,h.2 x (.inl rfl),⟨h.1.2.1,fun y hy=>h.2 y (.inr (.inl hy))⟩,h.1.2.2,fun y hy=>h.2 y (.inr (.inr hy))⟩,
  fun h=>⟨⟨h.1,h.2.2.1.1,h.2.2.2.1⟩,fun y hy=>hy.elim (fun e=>e ▸ h.2.1) fun hy=>hy.elim (h.2.2.1.2 y) (h.2.2.2.2 y)⟩⟩
end
end Go.Proofs.YtppdgejjmhdjhaaGreatDoor
