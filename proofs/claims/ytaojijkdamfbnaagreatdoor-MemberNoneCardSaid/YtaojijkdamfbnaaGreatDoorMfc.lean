/- Parts of the proof, joined; conditions: those that its theorems name. -/
import Derived.Test.YtaojijkdamfbnaaGreatDoorMfb
set_option linter.unusedVariables false
set_option linter.unusedSimpArgs false
set_option maxHeartbeats 4000000
namespace Go.Proofs.YtaojijkdamfbnaaGreatDoor
section
structure VA where
 kd:Int
 n:Int
 s:ByteArray
 deriving DecidableEq
abbrev VA.c(v:VA):List MV:=[.int .i64 v.kd,.int .i64 v.n,.str v.s]
def va0:VA:=⟨0,0,⟨#[]⟩⟩
structure ND where
 op:Int
 n:Int
 v:VA
 deriving DecidableEq
abbrev ND.c(x:ND):List MV:=[.int .i64 x.op,.int .i64 x.n,.int .i64 x.v.kd,.int .i64 x.v.n,.str x.v.s]
def nd0:ND:=⟨0,0,va0⟩
theorem bE{α:Type}{f:α→List MV}{l:List α}{n:Nat}(d:α)(h:n<l.length):(l.map f).getD n []=f (l.getD n d):=by simp[List.getD,h]
theorem kS{α:Sort _}[DecidableEq α]{a:α}:decide (¬a=a)=false:=by simp
theorem bH{α:Type}{l:List α}{n:Nat}(d:α)(h:n<l.length):l.getD n d=l[n]:=by simp[List.getD,h]
theorem eB{α:Type}{l:List α}{n:Nat}(d:α)(h:n<l.length):l.getD n d∈l:=by rw[bH d h];exact List.getElem_mem h
theorem uX{α:Type}{p:α→Bool}{l:List α}{i:Nat}(h:i<l.length):(l.take (i+1)).all p=((l.take i).all p&&p l[i]):=by
 rw[List.take_succ_eq_append_getElem h,List.all_append];simp
theorem nH{α:Type}{p:α→Bool}{l:List α}{i:Nat}(h:i<l.length):(l.take (i+1)).any p=((l.take i).any p || p l[i]):=by
 rw[List.take_succ_eq_append_getElem h,List.any_append];simp
def VA.key(v:VA):List Int:=v.kd::v.n::v.s.toList.map fun b=>(b.toNat:Int)
def ND.key(x:ND):List Int:=x.op::x.n::x.v.key
theorem bytes_inj{a b:ByteArray}(h:a.toList.map (fun b=>(b.toNat:Int))=b.toList.map fun b=>(b.toNat:Int)):a=b:=by
 refine(nT a b).1 ?_
 exact(List.map_inj_right (fun x y h=>by
  have:x.toNat=y.toNat:=by exact_mod_cast h
  exact UInt8.toNat_inj.1 this)).1 h
def qG:Ordering→Int
 | .lt=>-1
 | .eq=>0
 | .gt=>1
def cmpL:List Int→List Int→Ordering
 | [],[]=>.eq
 | [],_::_=>.lt
 | _::_,[]=>.gt
 | a::x,b::y=>if a<b then .lt else if b<a then .gt else cmpL x y
theorem cmpL_eq:∀{a b:List Int},cmpL a b=.eq↔a=b
 | [],[]=>by simp[cmpL]
 | [],_::_=>by simp[cmpL]
 | _::_,[]=>by simp[cmpL]
 | a::x,b::y=>by
  unfold cmpL
  split
  ·simp;intro h;omega
  ·split
   ·simp;intro h;omega
   ·rw[cmpL_eq]
    constructor
    ·rintro rfl;have:a=b:=by omega
     rw[this]
    ·intro h;cases h;rfl
theorem pW(a:List Int):cmpL a a=.eq:=cmpL_eq.2 rfl
theorem EF{a b:Int}{x y:List Int}(h:a≠b):cmpL (a::x) (b::y)=cmpL [a] [b]:=by
 unfold cmpL
 by_cases h1:a<b
 ·rw[if_pos h1,if_pos h1]
 ·have h2:b<a:=by omega
  rw[if_neg h1,if_neg h1,if_pos h2,if_pos h2]
theorem wM{a:Int}{x y:List Int}:cmpL (a::x) (a::y)=cmpL x y:=by
 rw[cmpL,if_neg (by omega),if_neg (by omega)]
def bk(s:ByteArray):List Int:=s.toList.map fun b=>(b.toNat:Int)
theorem nI:∀(x y:List UInt8),Op.bytesLess x y=decide (cmpL (x.map fun b=>(b.toNat:Int)) (y.map fun b=>(b.toNat:Int))=.lt)
 | [],[]=>by simp[Op.bytesLess,cmpL]
 | _::_,[]=>by simp[Op.bytesLess,cmpL]
 | [],_::_=>by simp[Op.bytesLess,cmpL]
 | a::x,b::y=>by
  simp only[Op.bytesLess,List.map_cons,cmpL]
  rw[nI x y]
  have hlt:(a<b)↔(a.toNat:Int)<b.toNat:=by
   rw[UInt8.lt_iff_toNat_lt];omega
  have heq:(a=b)↔(a.toNat:Int)=b.toNat:=by
   constructor
   ·rintro rfl;rfl
   ·intro h;exact UInt8.toNat_inj.1 (by exact_mod_cast h)
  by_cases h1:(a.toNat:Int)<b.toNat
  ·have:=hlt.2 h1
   rw[if_pos h1];simp[this]
  ·have h1':¬a<b:=fun h=>h1 (hlt.1 h)
   rw[if_neg h1]
   by_cases h2:(b.toNat:Int)<a.toNat
   ·have:a≠b:=fun h=>by have:=heq.1 h;omega
    rw[if_pos h2];simp[h1',this]
   ·have:a=b:=heq.2 (by omega)
    rw[if_neg h2];simp[h1',this]
end

section
abbrev BL:=List UInt8
def big:Int:=1099511627776
def nxF:Nat→Bool→BL→Int × Nat × Nat
 | 0,_,_=>(3,0,0)
 | _+1,_,[]=>(2,0,0)
 | k+1,first,c::l=>if 128≤c.toNat then(if (nxF k false l).1=0 then(0,c.toNat % 128+128 * (nxF k false l).2.1,(nxF k false l).2.2+1) else((nxF k false l).1,0,0))
  else if c.toNat=0∧first=false then(3,0,0) else(0,c.toNat,1)
def nx(l:BL)(most:Int):Int × Nat × Int :=
 if (nxF 6 true l).1=0 then(if ((nxF 6 true l).2.1:Int) > big∨((nxF 6 true l).2.1:Int) > most then(0,0,4) else((nxF 6 true l).2.1,(nxF 6 true l).2.2,0)) else(0,0,(nxF 6 true l).1)
end

section
theorem FO{α:Type}{l:List α}{i:Nat}(d:α)(h:i<l.length):l.drop i=l.getD i d::l.drop (i+1):=by
 rw[List.drop_eq_getElem_cons h,bH d h]
theorem xN{o:Ordering}:qG o=0↔o=.eq:=by cases o<;>simp[qG]
def parts(op:Int):Nat:=if op=10 then 1 else if op=11∨op=12 then 2 else 0
def gI:Nat→List ND→Option Nat
 | 0,_=>some 0
 | _+1,[]=>none
 | n+1,x::r=>(gI (n+parts x.op) r).map (·+1)
def fQ(l:List ND)(i:Int):Int:=if i<0 then -1 else match gI 1 (l.drop i.toNat) with
 | none=>-1
 | some k=>i+k
inductive T where
 | leaf (x:ND)
 | one (x:ND) (a:T)
 | two (x:ND) (a b:T)
def T.fl:T→List ND
 | .leaf x=>[x]
 | .one x a=>x::a.fl
 | .two x a b=>x::(a.fl++b.fl)
def T.ok:T→Prop
 | .leaf x=>parts x.op=0
 | .one x a=>parts x.op=1∧a.ok
 | .two x a b=>parts x.op=2∧a.ok∧b.ok
theorem T.yL:∀t:T,0<t.fl.length
 | .leaf _=>by simp[T.fl]
 | .one _ _=>by simp[T.fl]
 | .two _ _ _=>by simp[T.fl]
theorem mT:∀(t:T),t.ok→∀(n:Nat) (r:List ND),gI (n+1) (t.fl++r)=(gI n r).map (·+t.fl.length)
 | .leaf x,h,n,r=>by
  simp only[T.ok] at h
  simp[T.fl,gI,h]
 | .one x a,h,n,r=>by
  obtain⟨h1,h2⟩:=h
  simp only[T.fl,List.cons_append,gI,h1]
  rw[mT a h2]
  cases gI n r<;>simp
  omega
 | .two x a b,h,n,r=>by
  obtain⟨h1,h2,h3⟩:=h
  simp only[T.fl,List.cons_append,List.append_assoc,gI,h1]
  rw[show n+2=(n+1)+1 from rfl,mT a h2,mT b h3]
  cases gI n r<;>simp
  omega
theorem iI(op:Int):parts op=0∨parts op=1∨parts op=2:=by
 unfold parts
 split
 ·simp
 ·split<;>simp
theorem mW:∀(m:Nat) (l:List ND),l.length≤m→∀(n k:Nat),gI (n+1) l=some k→∃(t:T) (r:List ND),t.ok∧l=t.fl++r
 | 0,l,hl,n,k,h=>by
  have:l=[]:=List.eq_nil_of_length_eq_zero (by omega)
  subst this
  simp[gI] at h
 | m+1,[],hl,n,k,h=>by simp[gI] at h
 | m+1,x::r,hl,n,k,h=>by
  simp only[List.length_cons] at hl
  simp only[gI,Option.map_eq_some_iff] at h
  obtain⟨j,h,rfl⟩:=h
  rcases iI x.op with hp|hp|hp
  ·exact⟨.leaf x,r,hp,rfl⟩
  ·rw[hp] at h
   obtain⟨t,r',ht,rfl⟩:=mW m r (by omega) n j h
   exact⟨.one x t,r',⟨hp,ht⟩,rfl⟩
  ·rw[hp] at h
   obtain⟨a,r1,ha,rfl⟩:=mW m r (by omega) (n+1) j h
   rw[show n+2=(n+1)+1 from rfl,mT a ha] at h
   simp only[Option.map_eq_some_iff] at h
   obtain⟨j1,h,rfl⟩:=h
   obtain⟨b,r2,hb,rfl⟩:=mW m r1 (by simp at hl;omega) n j1 h
   exact⟨.two x a b,r2,⟨hp,ha,hb⟩,by simp[T.fl]⟩
theorem parse{l:List ND}(h:fQ l 0=l.length):∃t:T,t.ok∧l=t.fl:=by
 unfold fQ at h
 rw[if_neg (by omega)] at h
 simp only[Int.toNat_zero,List.drop_zero] at h
 cases e:gI 1 l with
 | none=>rw[e] at h;simp at h
 | some k =>
  rw[e] at h
  simp only[Int.zero_add] at h
  have hk:k=l.length:=by exact_mod_cast h
  obtain⟨t,r,ht,rfl⟩:=mW l.length l (Nat.le_refl _) 0 k e
  rw[mT t ht] at e
  simp only[gI,Option.map_some,Option.some.injEq] at e
  refine⟨t,ht,?_⟩
  have:r=[]:=List.eq_nil_of_length_eq_zero (by simp at hk;omega)
  rw[this,List.append_nil]
theorem EG{t:T}(h:t.ok)(pre r:List ND):fQ (pre++(t.fl++r)) pre.length=(pre.length+t.fl.length:Nat):=by
 unfold fQ
 rw[if_neg (by omega)]
 simp only[Int.toNat_natCast,List.drop_left]
 rw[mT t h]
 simp[gI]
def dU(v:VA):Bool :=
 if v.kd=0 then decide (v=va0) else if v.kd=1 then decide (0≤v.n∧v.n≤1099511627776∧v.s=⟨#[]⟩) else if v.kd=2 then decide (v.n=0∧v.s.size≤24) else false
def eH(x:ND):Bool :=
 if x.op=1∨x.op=2∨x.op=10∨x.op=11∨x.op=12 then decide (x.n=0∧x.v=va0)
 else if x.op=3∨x.op=4 then decide (0≤x.n∧x.n<16∧x.v=va0)
 else if x.op=5 then decide (0≤x.n∧x.n<8∧x.v=va0)
 else if x.op=6∨x.op=7∨x.op=8 then decide (0≤x.n∧x.n<8∧dU x.v=true∧x.v≠va0)
 else if x.op=9 then decide (0≤x.n∧x.n<8∧dU x.v=true∧x.v.kd=2)
 else false
def KH(l:List ND):Bool:=decide (l≠[]∧l.length≤63)&&decide (fQ l 0=l.length)&&l.all eH
theorem Il{l:List ND}(h:KH l=true):∃t:T,t.ok∧l=t.fl∧l.length≤63∧∀x,x∈l→eH x=true:=by
 simp only[KH,Bool.and_eq_true,decide_eq_true_eq,List.all_eq_true] at h
 obtain⟨t,ht,e⟩:=parse h.1.2
 exact⟨t,ht,e,h.1.1.2,h.2⟩
end

section
structure RD where
 l:BL
 e:Int
 deriving DecidableEq
structure F8 where
 l:List VA
 h:l.length=8
 deriving DecidableEq
abbrev F8.c(f:F8):List MV:=(f.l.map VA.c).flatten
def F8.get(f:F8)(i:Nat):VA:=f.l.getD i va0
def F8.set(f:F8)(i:Nat)(v:VA):F8:=⟨f.l.set i v,by rw[List.length_set,f.h]⟩
def f80:F8:=⟨List.replicate 8 va0,rfl⟩
abbrev bl(s:ByteArray):BL:=s.data.toList
abbrev bit(m i:Nat):Bool:=m.testBit i
structure PA where
 mask:UInt32
 lab:UInt32
 f:F8
 deriving DecidableEq
def pa0:PA:=⟨0,0,f80⟩
structure CA where
 id:Int
 ver:Int
 lab:UInt32
 f:F8
 deriving DecidableEq
def ca0:CA:=⟨0,0,0,f80⟩
def fY:Int:=1073741824
def dY(c:CA):Bool:=decide (1≤c.id∧c.id<fY∧1≤c.ver∧c.ver≤big∧c.lab.toNat<65536)&&c.f.l.all dU
def dG(p:PA):Int :=
 if p.mask.toNat=0∨511<p.mask.toNat then 11
 else if 65536≤p.lab.toNat∨p.lab.toNat≠0∧bit p.mask.toNat 8=false then 1
 else if (List.range 8).all (fun i=>dU (p.f.get i)&&(decide ((p.f.get i).kd=0) || bit p.mask.toNat i))=true then 0 else 1
structure ED where
 kd:Int
 id:Int
 gr:Int
 p:PA
 deriving DecidableEq
def edG(k:Int):Bool:=decide (k=4∨k=5∨k=6∨k=7)
def edI(k:Int):Bool:=decide (k=2∨k=3∨k=6∨k=7)
def edP(k:Int):Bool:=decide (k=1∨k=2)
def fU(e:ED):Int :=
 if e.kd<1∨7<e.kd then 1
 else if edG e.kd=false∧e.gr≠0∨edI e.kd=false∧e.id≠0∨edP e.kd=false∧e.p≠pa0 then 1
 else if e.gr<0∨16≤e.gr∨edI e.kd=true∧(e.id<1∨fY≤e.id) then 1
 else if edP e.kd=true then dG e.p else 0
structure TO where
 dev:Int
 ep:Int
 sq:Int
 cu:Int
 deriving DecidableEq
abbrev TO.c(t:TO):List MV:=[.int .i64 t.dev,.int .i64 t.ep,.int .i64 t.sq,.int .i64 t.cu]
def shut:List Nat→List Nat
 | []=>[]
 | [0]=>[]
 | 0::k::s=>shut ((k - 1)::s)
 | (n+1)::s=>(n+1)::s
termination_by s=>s.length
def dp:Nat→List Nat→List ND→Nat
 | d,_,[]=>d
 | d,s,x::l=>dp (max d (s.length+1)) (shut (parts x.op::s)) l
def fT(l:List ND):Nat:=if l=[]∨fQ l 0≠l.length then 0 else dp 0 [] l
def bI(l:List ND):Int :=
 if 31<l.length then 4 else if l=[]∨fQ l 0≠l.length∨l.all eH=false then 1 else if 8<fT l then 5 else 0
structure RE where
 kd:Int
 dev:Int
 req:Int
 code:Int
 id:Int
 ver:Int
 sq:Int
 ep:Int
 fl:List ND
 mask:UInt32
 deriving DecidableEq
structure IT where
 kd:Int
 c:CA
 deriving DecidableEq
structure PG where
 code:Int
 reset:Bool
 fr:TO
 to:TO
 items:List IT
 deriving DecidableEq
structure CM where
 kd:Int
 e:ED
 dev:Int
 req:Int
 id:Int
 base:Int
 KS:Int
 p:PA
 fl:List ND
 mask:UInt32
 deriving DecidableEq
structure MS where
 kd:Int
 size:Int
 cmd:CM
 tok:TO
 rep:RE
 page:PG
 code:Int
 deriving DecidableEq
end

section
structure Sk {α:Type} (f:RD→α × RD):Prop where
 stk:∀r,r.e≠0→(f r).2=r
 sfx:∀r,(f r).2.l <:+ r.l
structure Rt {α:Type} (f:RD→α × RD) (ok:α→Prop) (w:α→BL):Prop where
 fwd:∀x l,ok x→f ⟨w x++l,0⟩=(x,⟨l,0⟩)
 bck:∀r,(f r).2.e=0→r.e=0∧ok (f r).1∧r.l=w (f r).1++(f r).2.l
section
variable {α:Type} {d:α} {y:α × RD}
end
theorem Kk(v:VA):dU v=true↔(v.kd=0∧v=va0)∨(v.kd=1∧0≤v.n∧v.n≤big∧v.s=⟨#[]⟩)∨(v.kd=2∧v.n=0∧v.s.size≤24):=by
 unfold dU big
 by_cases h0:v.kd=0
 ·simp[h0]
 ·by_cases h1:v.kd=1
  ·simp[h1]
  ·by_cases h2:v.kd=2
   ·simp[h2]
   ·simp[h0,h1,h2]
end
end Go.Proofs.YtaojijkdamfbnaaGreatDoor
