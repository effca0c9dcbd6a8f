/- Parts of the proof, joined; conditions: those that its theorems name. -/
import Derived.Test.YtppdgejjmhdjhaaGreatDoorMbb
import Derived.RangeFuncIn
import Derived.RangeFuncSeq
set_option linter.unusedVariables false
set_option linter.unusedSimpArgs false
set_option maxHeartbeats 4000000
namespace Go.Proofs.YtppdgejjmhdjhaaGreatDoor
section
structure VA where
 kd:Int
 n:Int
 s:ByteArray
 deriving DecidableEq
abbrev VA.c(v:VA):List MV:=[.int .i64 v.kd,.int .i64 v.n,.str v.s]
def va0:VA:=⟨0,0,⟨#[]⟩⟩
structure ND where
 op:Int
 n:Int
 v:VA
 deriving DecidableEq
abbrev ND.c(x:ND):List MV:=[.int .i64 x.op,.int .i64 x.n,.int .i64 x.v.kd,.int .i64 x.v.n,.str x.v.s]
def nd0:ND:=⟨0,0,va0⟩
theorem bE{α:Type}{f:α→List MV}{l:List α}{n:Nat}(d:α)(h:n<l.length):(l.map f).getD n []=f (l.getD n d):=by simp[List.getD,h]
theorem lC{α:Sort _}[DecidableEq α]{a:α}:decide (¬a=a)=false:=by simp
theorem bG{α:Type}{l:List α}{n:Nat}(d:α)(h:n<l.length):l.getD n d=l[n]:=by simp[List.getD,h]
theorem dJ{α:Type}{l:List α}{n:Nat}(d:α)(h:n<l.length):l.getD n d∈l:=by rw[bG d h];exact List.getElem_mem h
theorem xD{α:Type}{p:α→Bool}{l:List α}{i:Nat}(h:i<l.length):(l.take (i+1)).all p=((l.take i).all p&&p l[i]):=by
 rw[List.take_succ_eq_append_getElem h,List.all_append];simp
theorem kF{α:Type}{p:α→Bool}{l:List α}{i:Nat}(h:i<l.length):(l.take (i+1)).any p=((l.take i).any p || p l[i]):=by
 rw[List.take_succ_eq_append_getElem h,List.any_append];simp
def VA.key(v:VA):List Int:=v.kd::v.n::v.s.toList.map fun b=>(b.toNat:Int)
def ND.key(x:ND):List Int:=x.op::x.n::x.v.key
theorem bytes_inj{a b:ByteArray}(h:a.toList.map (fun b=>(b.toNat:Int))=b.toList.map fun b=>(b.toNat:Int)):a=b:=by
 refine(oN a b).1 ?_
 exact(List.map_inj_right (fun x y h=>by
  have:x.toNat=y.toNat:=by exact_mod_cast h
  exact UInt8.toNat_inj.1 this)).1 h
def lM:Ordering→Int
 | .lt=>-1
 | .eq=>0
 | .gt=>1
def cmpL:List Int→List Int→Ordering
 | [],[]=>.eq
 | [],_::_=>.lt
 | _::_,[]=>.gt
 | a::x,b::y=>if a<b then .lt else if b<a then .gt else cmpL x y
theorem cmpL_eq:∀{a b:List Int},cmpL a b=.eq↔a=b
 | [],[]=>by simp[cmpL]
 | [],_::_=>by simp[cmpL]
 | _::_,[]=>by simp[cmpL]
 | a::x,b::y=>by
  unfold cmpL
  split
  ·simp;intro h;omega
  ·split
   ·simp;intro h;omega
   ·rw[cmpL_eq]
    constructor
    ·rintro rfl;have:a=b:=by omega
     rw[this]
    ·intro h;cases h;rfl
theorem qS(a:List Int):cmpL a a=.eq:=cmpL_eq.2 rfl
theorem pQ{a b:Int}{x y:List Int}(h:a≠b):cmpL (a::x) (b::y)=cmpL [a] [b]:=by
 unfold cmpL
 by_cases h1:a<b
 ·rw[if_pos h1,if_pos h1]
 ·have h2:b<a:=by omega
  rw[if_neg h1,if_neg h1,if_pos h2,if_pos h2]
theorem jI{a:Int}{x y:List Int}:cmpL (a::x) (a::y)=cmpL x y:=by
 rw[cmpL,if_neg (by omega),if_neg (by omega)]
def bk(s:ByteArray):List Int:=s.toList.map fun b=>(b.toNat:Int)
theorem nH(s:ByteArray):(bk s).length=s.size:=by
 rw[bk,List.length_map]
 refine Nat.le_antisymm (Nat.le_of_not_lt fun h=>?_) (Nat.le_of_not_lt fun h=>?_)
 ·have h1:=pH s s.size
  rw[List.getElem?_eq_getElem h] at h1
  have h2:s[s.size]?=none:=by simp
  rw[h2] at h1
  cases h1
 ·have h1:=pH s s.toList.length
  rw[List.getElem?_eq_none (Nat.le_refl _)] at h1
  have h2:s[s.toList.length]?=some s[s.toList.length]:=by simp[h]
  rw[h2] at h1
  cases h1
theorem Mm{s:ByteArray}{n:Nat}(h:n<s.size):((s.toList.getD n 0).toNat:Int)=(bk s)[n]'(by rw[nH];exact h):=by
 have hl:n<s.toList.length:=by have:=nH s;rw[bk,List.length_map] at this;omega
 simp[bk,List.getD,hl]
theorem sV{s:ByteArray}{n:Nat}(h:n<s.size):(bk s).drop n=((s.toList.getD n 0).toNat:Int)::(bk s).drop (n+1):=by
 rw[List.drop_eq_getElem_cons (by rw[nH];exact h),Mm h]
theorem l9{s:ByteArray}{n:Nat}(h:s.size≤n):(bk s).drop n=[]:=List.drop_eq_nil_of_le (by rw[nH];exact h)
theorem nZ:∀(x y:List UInt8),Op.bytesLess x y=decide (cmpL (x.map fun b=>(b.toNat:Int)) (y.map fun b=>(b.toNat:Int))=.lt)
 | [],[]=>by simp[Op.bytesLess,cmpL]
 | _::_,[]=>by simp[Op.bytesLess,cmpL]
 | [],_::_=>by simp[Op.bytesLess,cmpL]
 | a::x,b::y=>by
  simp only[Op.bytesLess,List.map_cons,cmpL]
  rw[nZ x y]
  have hlt:(a<b)↔(a.toNat:Int)<b.toNat:=by
   rw[UInt8.lt_iff_toNat_lt];omega
  have heq:(a=b)↔(a.toNat:Int)=b.toNat:=by
   constructor
   ·rintro rfl;rfl
   ·intro h;exact UInt8.toNat_inj.1 (by exact_mod_cast h)
  by_cases h1:(a.toNat:Int)<b.toNat
  ·have:=hlt.2 h1
   rw[if_pos h1];simp[this]
  ·have h1':¬a<b:=fun h=>h1 (hlt.1 h)
   rw[if_neg h1]
   by_cases h2:(b.toNat:Int)<a.toNat
   ·have:a≠b:=fun h=>by have:=heq.1 h;omega
    rw[if_pos h2];simp[h1',this]
   ·have:a=b:=heq.2 (by omega)
    rw[if_neg h2];simp[h1',this]
end

section
abbrev BL:=List UInt8
def big:Int:=1099511627776
def nxF:Nat→Bool→BL→Int × Nat × Nat
 | 0,_,_=>(3,0,0)
 | _+1,_,[]=>(2,0,0)
 | k+1,first,c::l=>if 128≤c.toNat then(if (nxF k false l).1=0 then(0,c.toNat % 128+128 * (nxF k false l).2.1,(nxF k false l).2.2+1) else((nxF k false l).1,0,0))
  else if c.toNat=0∧first=false then(3,0,0) else(0,c.toNat,1)
def nx(l:BL)(most:Int):Int × Nat × Int :=
 if (nxF 6 true l).1=0 then(if ((nxF 6 true l).2.1:Int) > big∨((nxF 6 true l).2.1:Int) > most then(0,0,4) else((nxF 6 true l).2.1,(nxF 6 true l).2.2,0)) else(0,0,(nxF 6 true l).1)
end

section
theorem Ho{α:Type}{l:List α}{i:Nat}(d:α)(h:i<l.length):l.drop i=l.getD i d::l.drop (i+1):=by
 rw[List.drop_eq_getElem_cons h,bG d h]
theorem zI{o:Ordering}:lM o=0↔o=.eq:=by cases o<;>simp[lM]
def parts(op:Int):Nat:=if op=10 then 1 else if op=11∨op=12 then 2 else 0
def gS:Nat→List ND→Option Nat
 | 0,_=>some 0
 | _+1,[]=>none
 | n+1,x::r=>(gS (n+parts x.op) r).map (·+1)
def gD(l:List ND)(i:Int):Int:=if i<0 then -1 else match gS 1 (l.drop i.toNat) with
 | none=>-1
 | some k=>i+k
inductive T where
 | leaf (x:ND)
 | one (x:ND) (a:T)
 | two (x:ND) (a b:T)
def T.fl:T→List ND
 | .leaf x=>[x]
 | .one x a=>x::a.fl
 | .two x a b=>x::(a.fl++b.fl)
def T.ok:T→Prop
 | .leaf x=>parts x.op=0
 | .one x a=>parts x.op=1∧a.ok
 | .two x a b=>parts x.op=2∧a.ok∧b.ok
theorem T.Aj:∀t:T,0<t.fl.length
 | .leaf _=>by simp[T.fl]
 | .one _ _=>by simp[T.fl]
 | .two _ _ _=>by simp[T.fl]
theorem nJ:∀(t:T),t.ok→∀(n:Nat) (r:List ND),gS (n+1) (t.fl++r)=(gS n r).map (·+t.fl.length)
 | .leaf x,h,n,r=>by
  simp only[T.ok] at h
  simp[T.fl,gS,h]
 | .one x a,h,n,r=>by
  obtain⟨h1,h2⟩:=h
  simp only[T.fl,List.cons_append,gS,h1]
  rw[nJ a h2]
  cases gS n r<;>simp
  omega
 | .two x a b,h,n,r=>by
  obtain⟨h1,h2,h3⟩:=h
  simp only[T.fl,List.cons_append,List.append_assoc,gS,h1]
  rw[show n+2=(n+1)+1 from rfl,nJ a h2,nJ b h3]
  cases gS n r<;>simp
  omega
theorem iO(op:Int):parts op=0∨parts op=1∨parts op=2:=by
 unfold parts
 split
 ·simp
 ·split<;>simp
theorem nN:∀(m:Nat) (l:List ND),l.length≤m→∀(n k:Nat),gS (n+1) l=some k→∃(t:T) (r:List ND),t.ok∧l=t.fl++r
 | 0,l,hl,n,k,h=>by
  have:l=[]:=List.eq_nil_of_length_eq_zero (by omega)
  subst this
  simp[gS] at h
 | m+1,[],hl,n,k,h=>by simp[gS] at h
 | m+1,x::r,hl,n,k,h=>by
  simp only[List.length_cons] at hl
  simp only[gS,Option.map_eq_some_iff] at h
  obtain⟨j,h,rfl⟩:=h
  rcases iO x.op with hp|hp|hp
  ·exact⟨.leaf x,r,hp,rfl⟩
  ·rw[hp] at h
   obtain⟨t,r',ht,rfl⟩:=nN m r (by omega) n j h
   exact⟨.one x t,r',⟨hp,ht⟩,rfl⟩
  ·rw[hp] at h
   obtain⟨a,r1,ha,rfl⟩:=nN m r (by omega) (n+1) j h
   rw[show n+2=(n+1)+1 from rfl,nJ a ha] at h
   simp only[Option.map_eq_some_iff] at h
   obtain⟨j1,h,rfl⟩:=h
   obtain⟨b,r2,hb,rfl⟩:=nN m r1 (by simp at hl;omega) n j1 h
   exact⟨.two x a b,r2,⟨hp,ha,hb⟩,by simp[T.fl]⟩
theorem parse{l:List ND}(h:gD l 0=l.length):∃t:T,t.ok∧l=t.fl:=by
 unfold gD at h
 rw[if_neg (by omega)] at h
 simp only[Int.toNat_zero,List.drop_zero] at h
 cases e:gS 1 l with
 | none=>rw[e] at h;simp at h
 | some k =>
  rw[e] at h
  simp only[Int.zero_add] at h
  have hk:k=l.length:=by exact_mod_cast h
  obtain⟨t,r,ht,rfl⟩:=nN l.length l (Nat.le_refl _) 0 k e
  rw[nJ t ht] at e
  simp only[gS,Option.map_some,Option.some.injEq] at e
  refine⟨t,ht,?_⟩
  have:r=[]:=List.eq_nil_of_length_eq_zero (by simp at hk;omega)
  rw[this,List.append_nil]
theorem F1{t:T}(h:t.ok)(pre r:List ND):gD (pre++(t.fl++r)) pre.length=(pre.length+t.fl.length:Nat):=by
 unfold gD
 rw[if_neg (by omega)]
 simp only[Int.toNat_natCast,List.drop_left]
 rw[nJ t h]
 simp[gS]
def eC(v:VA):Bool :=
 if v.kd=0 then decide (v=va0) else if v.kd=1 then decide (0≤v.n∧v.n≤1099511627776∧v.s=⟨#[]⟩) else if v.kd=2 then decide (v.n=0∧v.s.size≤24) else false
def eG(x:ND):Bool :=
 if x.op=1∨x.op=2∨x.op=10∨x.op=11∨x.op=12 then decide (x.n=0∧x.v=va0)
 else if x.op=3∨x.op=4 then decide (0≤x.n∧x.n<16∧x.v=va0)
 else if x.op=5 then decide (0≤x.n∧x.n<8∧x.v=va0)
 else if x.op=6∨x.op=7∨x.op=8 then decide (0≤x.n∧x.n<8∧eC x.v=true∧x.v≠va0)
 else if x.op=9 then decide (0≤x.n∧x.n<8∧eC x.v=true∧x.v.kd=2)
 else false
def Mz(l:List ND):Bool:=decide (l≠[]∧l.length≤63)&&decide (gD l 0=l.length)&&l.all eG
theorem JZ{l:List ND}(h:Mz l=true):∃t:T,t.ok∧l=t.fl∧l.length≤63∧∀x,x∈l→eG x=true:=by
 simp only[Mz,Bool.and_eq_true,decide_eq_true_eq,List.all_eq_true] at h
 obtain⟨t,ht,e⟩:=parse h.1.2
 exact⟨t,ht,e,h.1.1.2,h.2⟩
end

section
structure RD where
 l:BL
 e:Int
 deriving DecidableEq
structure F8 where
 l:List VA
 h:l.length=8
 deriving DecidableEq
abbrev F8.c(f:F8):List MV:=(f.l.map VA.c).flatten
def F8.get(f:F8)(i:Nat):VA:=f.l.getD i va0
def F8.set(f:F8)(i:Nat)(v:VA):F8:=⟨f.l.set i v,by rw[List.length_set,f.h]⟩
def f80:F8:=⟨List.replicate 8 va0,rfl⟩
abbrev bl(s:ByteArray):BL:=s.data.toList
abbrev bit(m i:Nat):Bool:=m.testBit i
structure PA where
 mask:UInt32
 lab:UInt32
 f:F8
 deriving DecidableEq
def pa0:PA:=⟨0,0,f80⟩
structure CA where
 id:Int
 ver:Int
 lab:UInt32
 f:F8
 deriving DecidableEq
def ca0:CA:=⟨0,0,0,f80⟩
def eU:Int:=1073741824
def cW(c:CA):Bool:=decide (1≤c.id∧c.id<eU∧1≤c.ver∧c.ver≤big∧c.lab.toNat<65536)&&c.f.l.all eC
def cH(p:PA):Int :=
 if p.mask.toNat=0∨511<p.mask.toNat then 11
 else if 65536≤p.lab.toNat∨p.lab.toNat≠0∧bit p.mask.toNat 8=false then 1
 else if (List.range 8).all (fun i=>eC (p.f.get i)&&(decide ((p.f.get i).kd=0) || bit p.mask.toNat i))=true then 0 else 1
structure ED where
 kd:Int
 id:Int
 gr:Int
 p:PA
 deriving DecidableEq
def edG(k:Int):Bool:=decide (k=4∨k=5∨k=6∨k=7)
def edI(k:Int):Bool:=decide (k=2∨k=3∨k=6∨k=7)
def edP(k:Int):Bool:=decide (k=1∨k=2)
def iZ(e:ED):Int :=
 if e.kd<1∨7<e.kd then 1
 else if edG e.kd=false∧e.gr≠0∨edI e.kd=false∧e.id≠0∨edP e.kd=false∧e.p≠pa0 then 1
 else if e.gr<0∨16≤e.gr∨edI e.kd=true∧(e.id<1∨eU≤e.id) then 1
 else if edP e.kd=true then cH e.p else 0
structure TO where
 dev:Int
 ep:Int
 sq:Int
 cu:Int
 deriving DecidableEq
abbrev TO.c(t:TO):List MV:=[.int .i64 t.dev,.int .i64 t.ep,.int .i64 t.sq,.int .i64 t.cu]
def shut:List Nat→List Nat
 | []=>[]
 | [0]=>[]
 | 0::k::s=>shut ((k - 1)::s)
 | (n+1)::s=>(n+1)::s
termination_by s=>s.length
def dp:Nat→List Nat→List ND→Nat
 | d,_,[]=>d
 | d,s,x::l=>dp (max d (s.length+1)) (shut (parts x.op::s)) l
def gH(l:List ND):Nat:=if l=[]∨gD l 0≠l.length then 0 else dp 0 [] l
def bF(l:List ND):Int :=
 if 31<l.length then 4 else if l=[]∨gD l 0≠l.length∨l.all eG=false then 1 else if 8<gH l then 5 else 0
structure RE where
 kd:Int
 dev:Int
 req:Int
 code:Int
 id:Int
 ver:Int
 sq:Int
 ep:Int
 fl:List ND
 mask:UInt32
 deriving DecidableEq
structure IT where
 kd:Int
 c:CA
 deriving DecidableEq
structure PG where
 code:Int
 reset:Bool
 fr:TO
 to:TO
 items:List IT
 deriving DecidableEq
structure CM where
 kd:Int
 e:ED
 dev:Int
 req:Int
 id:Int
 base:Int
 ML:Int
 p:PA
 fl:List ND
 mask:UInt32
 deriving DecidableEq
structure MS where
 kd:Int
 size:Int
 cmd:CM
 tok:TO
 rep:RE
 page:PG
 code:Int
 deriving DecidableEq
end

section
theorem l6.view{σ:St}{m m':MV}(h:l6 m m'):View σ m m':=by
 cases h with
 | same=>exact .same _
 | junk=>exact .junk _
 | nil e t=>exact .nil e t
 | tight e xs=>exact .tight e xs
theorem bM.nest{n:Nat}{l l1:List (Nat × MV)}{d:List (FuncId × List MV)}{σ:St}{q m:Nat}{t t1:TypeId}{e1:Nat}{pre post ys:List (List MV)}{n1:Nat}(σ2:St)
 (hm:σ m=some (.row t1 e1 ys))(hq:σ q=some (.row t 1 (pre++[.vec e1 m 0 n1]::post)))(hn:n1=ys.length)(h2:σ2.le σ)(h2m:σ2 m=none)(hne:q≠m)
 (hw:∀p,p∈l1→l6 (cA l p.1) p.2):bM ⟨n,l,d⟩ σ ⟨n,l1,d⟩ (σ2.set q (.row t 1 (pre++[.lst e1 ys false]::post))):=by
 subst hn
 have hv:(St.none.set m (.row t1 e1 ys)) m=some (.row t1 e1 ys):=aJ _ _ _
 refine bM.BJ (St.none.set m (.row t1 e1 ys)) (St.aD (St.none_le _) hm) (fun k o1 hk=>?_) (fun k o hk=>?_) fun p hp=>(hw p hp).view
 ·by_cases h:k=q
  ·subst h
   rw[aJ] at hk
   cases hk
   refine⟨_,hq,.inr ⟨t,1,_,_,rfl,rfl,by simp,fun i x x1 hx hx1=>?_⟩⟩
   rcases Nat.lt_trichotomy i pre.length with hi|hi|hi
   ·rw[List.getElem?_append_left hi] at hx hx1
    rw[hx] at hx1;cases hx1
    exact⟨rfl,fun j a b ha hb=>by rw[ha] at hb;cases hb;exact .inl rfl⟩
   ·subst hi
    rw[List.getElem?_append_right (Nat.le_refl _),Nat.sub_self] at hx hx1
    simp only[List.getElem?_cons_zero,Option.some.injEq] at hx hx1
    subst hx;subst hx1
    refine⟨rfl,fun j a b ha hb=>?_⟩
    cases j with
    | zero =>
     simp only[List.getElem?_cons_zero,Option.some.injEq] at ha hb
     subst ha;subst hb
     exact .inr ⟨rfl,.vecAll hv rfl⟩
    | succ j=>simp at ha
   ·rw[List.getElem?_append_right (by omega)] at hx hx1
    obtain⟨j,hj⟩:∃j,i - pre.length=j+1:=⟨i - pre.length - 1,by omega⟩
    rw[hj,List.getElem?_cons_succ] at hx hx1
    rw[hx] at hx1;cases hx1
    exact⟨rfl,fun j a b ha hb=>by rw[ha] at hb;cases hb;exact .inl rfl⟩
  ·rw[aM _ _ _ _ h] at hk
   exact⟨o1,h2 k o1 hk,.inl rfl⟩
 ·by_cases h:k=m
  ·subst h
   by_cases hq':k=q
   ·exact absurd hq'.symm hne
   ·rw[aM _ _ _ _ hq',h2m] at hk;cases hk
  ·exact aM _ _ _ _ h ▸ rfl
theorem aA.pre{P:Program}{g:FuncId}{ms ms':List MV}{σ σ2:St}{Q:MV→St→Prop}(hl:ms.length=ms'.length)(hg:bM ⟨ms.length,j0 0 ms,[]⟩ σ ⟨ms.length,j0 0 ms',[]⟩ σ2)(h:aA P g ms' σ2 Q):aA P g ms σ Q:=by
 refine⟨h.1,fun Φ w vs hi hr=>?_⟩
 obtain⟨-,hg⟩:=hg
 obtain⟨Φ1,i1,r1,s1⟩:=hg Φ w vs hi ⟨hr.1,fun t=>by
  simp only[FR.get,qP,Nat.sub_zero,Nat.zero_le,if_true]
  cases hm:ms[t]? with
  | none=>exact .junk _
  | some m=>exact hr.2 t m hm⟩
 refine(h.2 Φ1 w vs i1 ⟨hr.1.trans hl,fun i m hm=>?_⟩).mono ?_
 ·have:=r1.2 i
  simp only[FR.get,qP,Nat.sub_zero,Nat.zero_le,if_true,hm] at this
  exact this
 ·rintro e w' ⟨v,mv,σ',Φ',rfl,q1,q2,q3,hq⟩
  exact⟨v,mv,σ',Φ',rfl,q1,q2,s1.trans q3,hq⟩
theorem gB{σ:St}{a a':MV}(h:View σ a a'):∀(i:Nat) (m m':MV),[a][i]?=some m→[a'][i]?=some m'→View σ m m':=fun i m m' h1 h2=>by
 match i,h1,h2 with
 | 0,h1,h2=>simp only[List.getElem?_cons_zero,Option.some.injEq] at h1 h2;subst h1 h2;exact h
theorem rQ{σ:St}{a b a' b':MV}(h:View σ a a')(k:View σ b b'):∀(i:Nat) (m m':MV),[a,b][i]?=some m→[a',b'][i]?=some m'→View σ m m':=fun i m m' h1 h2=>by
 match i,h1,h2 with
 | 0,h1,h2=>simp only[List.getElem?_cons_zero,Option.some.injEq] at h1 h2;subst h1 h2;exact h
 | 1,h1,h2=>simp only[List.getElem?_cons_succ,List.getElem?_cons_zero,Option.some.injEq] at h1 h2;subst h1 h2;exact k
end

section
structure YS where
 w:World
 wr:Nat→Prop
 sn:Addr→Option Value
structure lW (S:YS) (w:World):Prop where
 same:∀k,S.wr k→w.heap[k]?=S.w.heap[k]?
 lt:∀k,S.wr k→k<S.w.heap.size
 nomark:∀k,S.wr k→∀x,S.w.heap[k]?≠some (Obj.deferred x)
 sn:∀a v,S.sn a=some v→w.cell? a=some v
 size:S.w.heap.size≤w.heap.size
 os:w.os=S.w.os
 tape:w.tape=S.w.tape
 output:w.output=S.w.output
 drawn:drw S.w≤drw w
structure Apt (Φ:Phi) (σ:St) (S:YS) (w:World):Prop where
 agree:lW S w
 own:∀k,S.wr k→¬aU Φ σ k
 snown:∀a v,S.sn a=some v→¬aU Φ σ a.block
 snap:∀a v,Φ.snap a=some v→¬S.wr a.block
theorem Apt.step{Φ Φ':Phi}{σ σ':St}{S:YS}{w w':World}(h:Apt Φ σ S w)(hs:Step Φ σ w Φ' σ' w'):Apt Φ' σ' S w':=by
 have hlt:∀k,S.wr k→k<w.heap.size:=fun k hk=>Nat.lt_of_lt_of_le (h.agree.lt k hk) h.agree.size
 have hsl:∀a v,S.sn a=some v→a.block<w.heap.size:=fun a v q=>World.block_lt_of_cell? w a (h.agree.sn a v q)
 refine⟨⟨fun k hk=>(hs.block k (hlt k hk) (h.own k hk)).trans (h.agree.same k hk),h.agree.lt,h.agree.nomark,fun a v q=>?_,Nat.le_trans h.agree.size hs.size,hs.os.trans h.agree.os,hs.tape.trans h.agree.tape,hs.output.trans h.agree.output,Nat.le_trans h.agree.drawn hs.drawn⟩,fun k hk ho=>?_,fun a v q ho=>?_,fun a v hv hk=>?_⟩
 ·rw[World.eS (hs.block _ (hsl a v q) (h.snown a v q))]
  exact h.agree.sn a v q
 ·rcases hs.ownd k ho with q|q
  ·exact h.own k hk q
  ·have:=hlt k hk;omega
 ·rcases hs.ownd _ ho with p|p
  ·exact h.snown a v q p
  ·have:=hsl a v q;omega
 ·rcases hs.snapn a v hv with q|q|q
  ·exact h.snap a v q hk
  ·have:=hlt _ hk;omega
  ·exact h.own _ hk q
structure dS (Φ:Phi) (σ:St) (w:World) (S:YS) (Φ':Phi) (σ':St) (w':World) (S':YS):Prop where
 le:Φ.le Φ'
 os:w'.os=w.os
 tape:w'.tape=w.tape
 output:w'.output=w.output
 drawn:drw w≤drw w'
 size:w.heap.size≤w'.heap.size
 block:∀k,k<w.heap.size→¬aU Φ σ k→¬S.wr k→w'.heap[k]?=w.heap[k]?
 snapn:∀a v,Φ'.snap a=some v→Φ.snap a=some v∨w.heap.size≤a.block∨aU Φ σ a.block
 ownd:∀R,aU Φ' σ' R→aU Φ σ R∨w.heap.size≤R
 wr:∀k,S'.wr k→S.wr k∨w.heap.size≤k
 sn:∀a v,S'.sn a=some v→S.sn a=some v∨S.wr a.block∨w.heap.size≤a.block∨Φ.snap a=some v∨aU Φ σ a.block
theorem dS.of{Φ Φ':Phi}{σ σ':St}{w w':World}(S:YS)(hs:Step Φ σ w Φ' σ' w'):dS Φ σ w S Φ' σ' w' S :=
 ⟨hs.le,hs.os,hs.tape,hs.output,hs.drawn,hs.size,fun k hk hn _=>hs.block k hk hn,hs.snapn,hs.ownd,fun k hk=>.inl hk,fun _ _ q=>.inl q⟩
theorem dS.refl(Φ:Phi)(σ:St)(w:World)(S:YS):dS Φ σ w S Φ σ w S:=.of S (.refl Φ σ w)
theorem dS.trans{Φ Φ1 Φ2:Phi}{σ σ1 σ2:St}{w w1 w2:World}{S S1 S2:YS}(h:dS Φ σ w S Φ1 σ1 w1 S1)(k:dS Φ1 σ1 w1 S1 Φ2 σ2 w2 S2):dS Φ σ w S Φ2 σ2 w2 S2 where
 le:=h.le.trans k.le
 os:=k.os.trans h.os
 tape:=k.tape.trans h.tape
 output:=k.output.trans h.output
 drawn:=Nat.le_trans h.drawn k.drawn
 size:=Nat.le_trans h.size k.size
 block:=fun i hi hn hw=>(k.block i (Nat.lt_of_lt_of_le hi h.size) (fun ho=>(h.ownd i ho).elim hn (fun q=>by omega)) (fun ho=>(h.wr i ho).elim hw (fun q=>by omega))).trans (h.block i hi hn hw)
 snapn:=fun a v hv=>by
  rcases k.snapn a v hv with q|q|q
  ·exact h.snapn a v q
  ·exact .inr (.inl (Nat.le_trans h.size q))
  ·rcases h.ownd _ q with q|q
   ·exact .inr (.inr q)
   ·exact .inr (.inl q)
 ownd:=fun R hR=>by
  rcases k.ownd R hR with q|q
  ·exact h.ownd R q
  ·exact .inr (Nat.le_trans h.size q)
 wr:=fun i hi=>by
  rcases k.wr i hi with q|q
  ·exact h.wr i q
  ·exact .inr (Nat.le_trans h.size q)
 sn:=fun a v hv=>by
  rcases k.sn a v hv with q|q|q|q|q
  ·exact h.sn a v q
  ·rcases h.wr _ q with q|q
   ·exact .inr (.inl q)
   ·exact .inr (.inr (.inl q))
  ·exact .inr (.inr (.inl (Nat.le_trans h.size q)))
  ·rcases h.snapn a v q with q|q|q
   ·exact .inr (.inr (.inr (.inl q)))
   ·exact .inr (.inr (.inl q))
   ·exact .inr (.inr (.inr (.inr q)))
  ·rcases h.ownd _ q with q|q
   ·exact .inr (.inr (.inr (.inr q)))
   ·exact .inr (.inr (.inl q))
def pL(P:Program)(l:Nat)(xs:List (List MV))(Y:Nat→YS→Prop)(Yx:YS→Prop)(Φ0:Phi)(σ0:St)(n0:Nat):Prop :=
 ∀(i:Nat) (x:List MV) (S:YS) (w:World) (Ψ:Phi) (vs:Array Value),xs[i]?=some x→Y i S→lW S w→n0≤w.heap.size→(∀m,Ψ.obj m=none) →
  (∀a v,Ψ.snap a=some v→w.cell? a=some v∧¬S.wr a.block∧(Φ0.snap a=some v∨n0≤a.block∨aU Φ0 σ0 a.block))→gE Ψ vs x →
  YieldAt Fence.wide 0 P l vs w fun e w'=>∃b S',e=.returned (.bool b)∧S'.w=w'∧lW S' w'∧w'.os=w.os∧w'.tape=w.tape∧w'.output=w.output∧drw w≤drw w'∧w.heap.size≤w'.heap.size ∧
   (∀k,k<w.heap.size→¬S.wr k→w'.heap[k]?=w.heap[k]?)∧(∀k,S'.wr k→S.wr k∨w.heap.size≤k) ∧
   (∀a v,S'.sn a=some v→S.sn a=some v∨S.wr a.block∨w.heap.size≤a.block∨Ψ.snap a=some v)∧(if b=true then Y (i+1) S' else Yx S')
def JD(P:Program)(g:FuncId)(ns:List MV)(σi:St)(xs:List (List MV)):Prop :=
 Enters P g∧∀(l:Nat) (Y:Nat→YS→Prop) (Yx:YS→Prop) (Φ:Phi) (w:World) (S:YS) (vs:Array Value),pL P l xs Y Yx Φ σi w.heap.size→Inv Φ w σi→Apt Φ σi S w→Y 0 S→gE Φ vs ns →
  Calls P g (#[.func (.yield l) #[] #[]]++vs) w fun e w'=>∃v Φ' σ' S',e=.returned v∧Inv Φ' w' σ'∧Apt Φ' σ' S' w'∧dS Φ σi w S Φ' σ' w' S'∧(Y xs.length S'∨Yx S')
def oI(f:FR):List Tmp→List MV→FR
 | p::ps,x::xs=>oI (bD f (some p) x) ps xs
 | _,_=>f
theorem Nn(ps:List Tmp):∀(f:FR) (xs:List MV),(oI f ps xs).d=f.d:=by
 induction ps with
 | nil=>intro f xs;rfl
 | cons p ps ih =>
  intro f xs
  cases xs with
  | nil=>rfl
  | cons x xs=>rw[oI,ih,eF]
theorem yU{Φ:Phi}:∀(ps:List Tmp) (xs:List MV) (vs:List Value) (tmps:Array Value) (f:FR),cL Φ tmps f→vs.length=xs.length→(∀(i:Nat) m,xs[i]?=some m→Rel Φ (vs.getD i undef) m) →
  cL Φ ((ps.zip vs).foldl (fun t (p:Tmp × Value)=>t.setIfInBounds p.1 p.2) tmps) (oI f ps xs)
 | [],_,_,_,_,h,_,_=>by simpa[oI] using h
 | _::_,[],[],_,_,h,_,_=>by simpa[oI] using h
 | p::ps,x::xs,v::vs,tmps,f,h,hl,hr=>by
  simp only[List.zip_cons_cons,List.foldl_cons,oI]
  refine yU ps xs vs _ _ ?_ (by simpa using hl) (fun i m hm=>by have:=hr (i+1) m (by simpa using hm);simpa using this)
  have:=cO (a:={ tmps:=tmps,defers:=[] }) h (some p) (hr 0 x rfl)
  simpa[Act.put] using this
 | _::_,[],_::_,_,_,_,hl,_=>by simp at hl
 | _::_,_::_,[],_,_,_,hl,_=>by simp at hl
theorem Hv{β:Type}(ps:Array Tmp)(vs:Array Value)(g:β→Tmp × Value→β)(b:β):(ps.zip vs).foldl g b=(ps.toList.zip vs.toList).foldl g b:=by
 rw[←Array.foldl_toList,Array.toList_zip]
end

section
theorem Inv.grow{Φ:Phi}{w w':World}{σ:St}(hi:Inv Φ w σ)(h1:w'.os=w.os)(h2:w'.tape=w.tape)(h3:w'.output=w.output)(h4:drw w≤drw w')(h5:w.heap.size≤w'.heap.size)(hb:∀k,k<w.heap.size→w'.heap[k]?=w.heap[k]?) :
  Inv Φ w' σ∧Step Φ σ w Φ σ w' :=
 ⟨⟨fun l o h=>(hi.own l o h).mono (.refl Φ) fun p R hp hR=>by
   obtain⟨p',hp',hlt⟩:=(hi.own l o h).place
   rw[hp] at hp';cases hp'
   exact hb R (hlt R hR),hi.inj,fun a v h=>by
   rw[World.eS (hb _ (World.block_lt_of_cell? w a (hi.snap a v h)))]
   exact hi.snap a v h,hi.apart,hi.fresh⟩,
  ⟨.refl Φ,h1,h2,h3,h4,h5,fun k hk _=>hb k hk,fun _ _ h=>.inl h,fun l o h=>.inl ⟨o,h⟩,fun _ h=>.inl h⟩⟩
structure pK (Φ0:Phi) (σ0:St) (n0:Nat) (Φ:Phi) (σ:St):Prop where
 le:Φ0.le Φ
 snapn:∀a v,Φ.snap a=some v→Φ0.snap a=some v∨n0≤a.block∨aU Φ0 σ0 a.block
 locs:∀l o,σ l=some o→(∃o',σ0 l=some o')∨Φ0.obj l=none
 ownd:∀R,aU Φ σ R→aU Φ0 σ0 R∨n0≤R
theorem pK.of{Φ Φ':Phi}{σ σ':St}{w w':World}(h:Step Φ σ w Φ' σ' w'):pK Φ σ w.heap.size Φ' σ':=⟨h.le,h.snapn,h.locs,h.ownd⟩
theorem pK.step{Φ0 Φ Φ':Phi}{σ0 σ σ':St}{n0:Nat}{w w':World}(h:pK Φ0 σ0 n0 Φ σ)(hn:n0≤w.heap.size)(k:Step Φ σ w Φ' σ' w'):pK Φ0 σ0 n0 Φ' σ' where
 le:=h.le.trans k.le
 snapn:=fun a v hv=>by
  rcases k.snapn a v hv with q|q|q
  ·exact h.snapn a v q
  ·exact .inr (.inl (Nat.le_trans hn q))
  ·rcases h.ownd _ q with q|q
   ·exact .inr (.inr q)
   ·exact .inr (.inl q)
 locs:=fun l o hl=>by
  rcases k.locs l o hl with⟨o',q⟩|q
  ·exact h.locs l o' q
  ·right
   cases hl:Φ0.obj l with
   | none=>rfl
   | some p=>have:=h.le.obj l p hl;simp[this] at q
 ownd:=fun R hR=>by
  rcases k.ownd R hR with q|q
  ·exact h.ownd R q
  ·exact .inr (Nat.le_trans hn q)
structure CSt (Φ0:Phi) (σ0:St) (n0:Nat) (tmps:Array Value) (fc:FR) (l:Nat) (st:Loop) (σ:St) (S:YS) (Φ:Phi):Prop where
 inv:Inv Φ S.w σ
 frame:cL Φ tmps fc
 step:pK Φ0 σ0 n0 Φ σ
 wr:∀k,S.wr k↔(aU Φ σ k∨k=l)
 sn:∀a,S.sn a=Φ.snap a
 lrec:S.w.heap[l]?=some (.loop st)
 size:n0≤S.w.heap.size
 base:Φ.base≤S.w.heap.size
theorem Inv.Ar{Φ:Phi}{w:World}{σ:St}(hi:Inv Φ w σ){l:Nat}{st:Loop}(h:w.heap[l]?=some (.loop st)):¬aU Φ σ l :=
 hi.vB (fun c t fz e=>by rw[h] at e;cases e) (fun c k e=>by rw[h] at e;cases e) (fun _ _ _ _ e=>by rw[h] at e;cases e)
theorem CSt.agree{Φ0 Φ:Phi}{σ0 σ:St}{n0:Nat}{tmps:Array Value}{fc:FR}{l:Nat}{st:Loop}{S:YS}(h:CSt Φ0 σ0 n0 tmps fc l st σ S Φ):lW S S.w :=
 ⟨fun _ _=>rfl,fun k hk=>by
  rcases (h.wr k).1 hk with q|rfl
  ·obtain⟨l',o,p,h1,h2,h3⟩:=q
   obtain⟨p',e,hlt⟩:=(h.inv.own l' o h1).place
   rw[h2] at e;cases e
   exact hlt k h3
  ·exact(Array.getElem?_eq_some_iff.1 h.lrec).1,(fun k hk x e=>by
  rcases (h.wr k).1 hk with q|rfl
  ·exact h.inv.mark e q
  ·rw[h.lrec] at e;cases e),fun a v q=>h.inv.snap a v (by rw[←h.sn a];exact q),Nat.le_refl _,rfl,rfl,rfl,Nat.le_refl _⟩
theorem CSt.at{Φ0 Φ:Phi}{σ0 σ:St}{n0:Nat}{tmps:Array Value}{fc:FR}{l:Nat}{st:Loop}{S:YS}(h:CSt Φ0 σ0 n0 tmps fc l st σ S Φ){w:World}(ha:lW S w){Ψ:Phi}(ho:∀m,Ψ.obj m=none)
 (hs:∀a v,Ψ.snap a=some v→w.cell? a=some v∧¬S.wr a.block∧(Φ0.snap a=some v∨n0≤a.block∨aU Φ0 σ0 a.block)) :
  ∃Φ',Inv Φ' w σ∧cL Φ' tmps fc∧pK Φ0 σ0 n0 Φ' σ∧(∀k,aU Φ' σ k↔aU Φ σ k)∧(∀a v,Φ'.snap a=some v→S.sn a=some v∨Ψ.snap a=some v)∧(∀v m,Rel Ψ v m→Rel Φ' v m)∧w.heap[l]?=some (.loop st)∧Φ'.base≤w.heap.size:=by
 obtain⟨Φ',hΦ⟩:∃Φ':Phi,Φ'={ Φ with snap:=fun a=>match Φ.snap a with|some v=>some v|none=>Ψ.snap a }:=⟨_,rfl⟩
 have hle:Φ.le Φ':=by subst hΦ;exact⟨fun a v q=>by simp[q],fun _ _ q=>q,rfl⟩
 have hobj:Φ'.obj=Φ.obj:=by subst hΦ;rfl
 have hb:Φ'.base=Φ.base:=by subst hΦ;rfl
 have hsn:∀a v,Φ'.snap a=some v→Φ.snap a=some v∨Ψ.snap a=some v:=fun a v q=>by
  subst hΦ
  simp only at q
  cases e:Φ.snap a with
  | none=>rw[e] at q;exact .inr q
  | some u=>rw[e] at q;exact .inl q
 have hwr:∀k,aU Φ σ k→w.heap[k]?=S.w.heap[k]?:=fun k hk=>ha.same k ((h.wr k).2 (.inl hk))
 have hown:∀k,aU Φ' σ k↔aU Φ σ k:=fun k=>by unfold aU;rw[hobj]
 refine⟨Φ',⟨fun l' o hl=>(h.inv.own l' o hl).mono hle fun p R h1 h2=>hwr R ⟨l',o,p,hl,h1,h2⟩,fun a b o o' p p' R h1 h2 h3 h4=>?_,fun a v q=>?_,fun l' o p R a v h1 h2 h3 q=>?_,?_⟩,h.frame.mono hle,⟨h.step.le.trans hle,fun a v q=>?_,h.step.locs,fun R hR=>h.step.ownd R ((hown R).1 hR)⟩,hown,fun a v q=>?_,fun v m r=>?_,?_,?_⟩
 ·rw[hobj] at h3 h4;exact h.inv.inj a b o o' p p' R h1 h2 h3 h4
 ·rcases hsn a v q with q|q
  ·exact ha.sn a v (by rw[h.sn a];exact q)
  ·exact(hs a v q).1
 ·rw[hobj] at h2
  rcases hsn a v q with q|q
  ·exact h.inv.apart l' o p R a v h1 h2 h3 q
  ·intro e
   exact(hs a v q).2.1 ((h.wr _).2 (.inl ⟨l',o,p,h1,h2,e ▸ h3⟩))
 ·obtain⟨n,hn⟩:=h.inv.fresh.1.1
  exact⟨⟨⟨n,fun k hk=>by rw[hobj];exact hn k hk⟩,fun k p hk=>h.inv.fresh.1.2 k p (by rw[←hobj];exact hk)⟩,fun g i v q=>hle.snap _ _ (h.inv.fresh.2.1 g i v q),h.inv.fresh.2.2.mono hle.snap⟩
 ·rcases hsn a v q with q|q
  ·exact h.step.snapn a v q
  ·exact(hs a v q).2.2
 ·rcases hsn a v q with q|q
  ·exact .inl (by rw[h.sn a];exact q)
  ·exact .inr q
 ·refine r.Cw (fun a u q=>?_) (fun l' p q=>by rw[ho l'] at q;cases q)
  have h1:=(hs a u q).1
  subst hΦ
  simp only
  cases e:Φ.snap a with
  | none=>exact q
  | some u' =>
   have h2:=ha.sn a u' (by rw[h.sn a];exact e)
   rw[h1] at h2
   simpa using h2.symm
 ·rw[ha.same l ((h.wr l).2 (.inr rfl))];exact h.lrec
 ·rw[hb];exact Nat.le_trans h.base ha.size
def Li(K:FR→St→Prop):MQ
 | .normal,f,σ=>K f σ
 | _,_,_=>False
def A3(Q:MQ)(fc:FR)(nxt:St→Prop):MQ
 | .normal,f,σ=>Gh f σ fun _ σ1=>nxt σ1
 | .ret,f,σ=>Gh f σ fun _ σ1=>Q .ret fc σ1
 | .exit id,f,σ=>Gh f σ fun _ σ1=>Q (.exit id) fc σ1
 | _,_,_=>False
theorem Lu{P:Program}{Φ0:Phi}{σ0:St}{n0:Nat}{tmps:Array Value}{fc:FR}{l:Nat}{fn:FuncId}{ps:Array Tmp}{assign body:Code}{Q:MQ}{nxt:St→Prop}{D:Nat}{σ:St}{S:YS}{Φ:Phi}{x:List MV}{w:World}{Ψ:Phi}{vs:Array Value}
 (rec:LoopState→Option Code→Loop)(hrec:rec=fun st pe=>{ state:=st,pending:=pe,fn,tmps,params:=ps,assign,body,defers:=D })
 (nda:iF assign=true)(ndb:iF body=true)(hx:x.length=ps.size)
 (hr:mwp P assign (oI ⟨fc.n,fc.l,[]⟩ ps.toList x) σ (Li fun f1 σ1=>mwp P body f1 σ1 (A3 Q fc nxt)))
 (h:CSt Φ0 σ0 n0 tmps fc l (rec .ready none) σ S Φ)(ha:lW S w)(hn0:n0≤w.heap.size)(ho:∀m,Ψ.obj m=none)
 (hs:∀a v,Ψ.snap a=some v→w.cell? a=some v∧¬S.wr a.block∧(Φ0.snap a=some v∨n0≤a.block∨aU Φ0 σ0 a.block))(hv:gE Ψ vs x) :
  YieldAt Fence.wide 0 P l vs w fun e w'=>∃b S',e=.returned (.bool b)∧S'.w=w'∧lW S' w'∧w'.os=w.os∧w'.tape=w.tape∧w'.output=w.output∧drw w≤drw w'∧w.heap.size≤w'.heap.size ∧
   (∀k,k<w.heap.size→¬S.wr k→w'.heap[k]?=w.heap[k]?)∧(∀k,S'.wr k→S.wr k∨w.heap.size≤k) ∧
   (∀a v,S'.sn a=some v→S.sn a=some v∨S.wr a.block∨w.heap.size≤a.block∨Ψ.snap a=some v) ∧
   (if b=true then ∃σ1 Φ1,nxt σ1∧CSt Φ0 σ0 n0 tmps fc l (rec .ready none) σ1 S' Φ1 else ∃c σ1 Φ1,((c=.ret∧Q .ret fc σ1)∨∃id,c=.exit id∧Q (.exit id) fc σ1)∧CSt Φ0 σ0 n0 tmps fc l (rec .done (some c)) σ1 S' Φ1):=by
 obtain⟨Φc,i1,fr1,c1,o1,s1,r1,l1,b1⟩:=h.at ha ho hs
 have hl:l<w.heap.size:=(Array.getElem?_eq_some_iff.1 l1).1
 have hwl:S.wr l:=(h.wr l).2 (.inr rfl)
 have hy:=run_yield (P:=P) (args:=vs) l1 (by rw[hrec];exact hv.1.trans hx)
 rw[hrec] at hy
 refine⟨fn,_,assign,body,hy,roundIn_of_wpIn trivial ?_⟩
 have hfr:cL Φc ((ps.zip vs).foldl (fun t (p:Tmp × Value)=>t.setIfInBounds p.1 p.2) tmps) (oI ⟨fc.n,fc.l,[]⟩ ps.toList x):=by
  rw[Hv]
  refine yU ps.toList x vs.toList tmps ⟨fc.n,fc.l,[]⟩ fr1 (by simpa using hv.1) fun i m hm=>?_
  have:=r1 _ _ (hv.2 i m hm)
  simpa[Array.getD_eq_getD_getElem?,List.getD_eq_getElem?_getD] using this
 refine wpIn_mono (hr (Fence.wide.inRound l) (.inr ⟨l,rfl,nda⟩) Φc w { tmps:=_,defers:=[] } i1 hfr (by rw[Nn];exact⟨rfl,b1⟩)) ?_
 rintro e a₁ w₁ ⟨f2,σ2,Φ2,d2,fr2,i2,st2,q⟩
 cases e with
 | normal =>
  have hnl:¬aU Φc σ l:=i1.Ar l1
  have hl2:w₁.heap[l]?=some (.loop (rec .ready none)):=(st2.block l hl hnl).trans l1
  refine⟨_,run_beginRound hl2 (by rw[hrec]),?_⟩
  obtain⟨w₂,hw2⟩:∃w₂,w₁.putObj l (.loop { rec .ready none with state:=.busy })=w₂:=⟨_,rfl⟩
  rw[hw2]
  have i2':Inv Φ2 w₂ σ2:=by rw[←hw2];exact i2.putObj _ hl2 (fun _ _ _ e=>by cases e) (fun _ _ e=>by cases e)
  have sz2:w₂.heap.size=w₁.heap.size:=by rw[←hw2,World.putObj_size]
  have ll2:w₂.heap[l]?=some (.loop { rec .ready none with state:=.busy }):=by rw[←hw2];exact World.putObj_heap_same (Array.getElem?_eq_some_iff.1 hl2).1
  have d2':dR Φ2 w₂ a₁.defers f2.d:=d2.mono (.refl _) (by omega) fun D' hD=>by
   rw[←hw2,World.putObj_heap_other]
   ·exact hD
   ·rintro rfl;rw[hl2] at hD;cases hD
  have q:mwp P body f2 σ2 (A3 Q fc nxt):=q
  refine wpIn_mono (q (Fence.wide.inRound l) (.inr ⟨l,rfl,ndb⟩) Φ2 w₂ a₁ i2' fr2 d2') ?_
  rintro e a₃ w₃ ⟨f3,σ3,Φ3,d3,fr3,i3,st3,q3⟩
  have hnl2:¬aU Φ2 σ2 l:=i2'.Ar ll2
  have hl3:w₃.heap[l]?=some (.loop { rec .ready none with state:=.busy }):=(st3.block l (Array.getElem?_eq_some_iff.1 ll2).1 hnl2).trans ll2
  -- what a round comes to,whichever way it is left
  have fin:∀(jump:Option Code) (st:Loop) (σ4:St) (K:FR→St→Prop),st=rec (if jump.isNone then .ready else .done) jump→Gh f3 σ3 K →
    ∃σ4 f4 Φ4,K f4 σ4∧(Instr.endRound l jump).run P w₃=.ok (.bool jump.isNone) (w₃.putObj l (.loop st)) ∧
     (∃S':YS,S'.w=w₃.putObj l (.loop st)∧lW S' (w₃.putObj l (.loop st))∧(w₃.putObj l (.loop st)).os=w.os∧(w₃.putObj l (.loop st)).tape=w.tape∧(w₃.putObj l (.loop st)).output=w.output∧drw w≤drw (w₃.putObj l (.loop st))∧w.heap.size≤(w₃.putObj l (.loop st)).heap.size ∧
      (∀k,k<w.heap.size→¬S.wr k→(w₃.putObj l (.loop st)).heap[k]?=w.heap[k]?)∧(∀k,S'.wr k→S.wr k∨w.heap.size≤k) ∧
      (∀a v,S'.sn a=some v→S.sn a=some v∨S.wr a.block∨w.heap.size≤a.block∨Ψ.snap a=some v)∧CSt Φ0 σ0 n0 tmps fc l st σ4 S' Φ4):=by
   intro jump st _ K hst hg
   obtain⟨f4,σ4,Φ4,-,k4,i4,fr4,st4⟩:=hg Φ3 w₃ a₃.tmps i3 fr3
   have hend:=run_endRound (P:=P) jump hl3
   have hst':({ ({ rec .ready none with state:=.busy }:Loop) with state:=if jump.isNone then .ready else .done,pending:=jump }:Loop)=st:=by rw[hst,hrec]
   rw[hst'] at hend
   refine⟨σ4,f4,Φ4,k4,hend,?_⟩
   obtain⟨w₄,hw4⟩:∃w₄,w₃.putObj l (.loop st)=w₄:=⟨_,rfl⟩
   rw[hw4]
   have sz4:w₄.heap.size=w₃.heap.size:=by rw[←hw4,World.putObj_size]
   have i4':Inv Φ4 w₄ σ4:=by rw[←hw4];exact i4.putObj _ hl3 (fun _ _ _ e=>by cases e) (fun _ _ e=>by cases e)
   have cs:pK Φ0 σ0 n0 Φ4 σ4:=((c1.step hn0 st2).step (w:=w₂) (by have:=st2.size;omega) st3).step (w:=w₃) (by have:=st2.size;have:=st3.size;omega) st4
   have hsz:w.heap.size≤w₃.heap.size:=by have:=st2.size;have:=st3.size;omega
   have oth:∀k,k≠l→w₄.heap[k]?=w₃.heap[k]?:=fun k hk=>by rw[←hw4];exact World.putObj_heap_other hk
   have oth2:∀k,k≠l→w₂.heap[k]?=w₁.heap[k]?:=fun k hk=>by rw[←hw2];exact World.putObj_heap_other hk
   have ow:∀k,aU Φ4 σ4 k→S.wr k∨w.heap.size≤k:=fun k hk=>by
    rcases st4.ownd k hk with q|q
    ·rcases st3.ownd k q with q|q
     ·rcases st2.ownd k q with q|q
      ·exact .inl ((h.wr k).2 (.inl ((o1 k).1 q)))
      ·exact .inr q
     ·have:=st2.size;exact .inr (by omega)
    ·exact .inr (by omega)
   have hcst:CSt Φ0 σ0 n0 tmps fc l st σ4 ⟨w₄,fun k=>aU Φ4 σ4 k∨k=l,Φ4.snap⟩ Φ4 :=
    ⟨i4',fr1.mono ((st2.le.trans st3.le).trans st4.le),cs,fun _=>Iff.rfl,fun _=>rfl,by simp only;rw[←hw4];exact World.putObj_heap_same (Array.getElem?_eq_some_iff.1 hl3).1,by simp only;omega,by
     simp only
     rw[st4.le.base,st3.le.base,st2.le.base];omega⟩
   refine⟨⟨w₄,fun k=>aU Φ4 σ4 k∨k=l,Φ4.snap⟩,rfl,hcst.agree,?_,?_,?_,?_,by omega,fun k hk hw=>?_,fun k hk=>?_,fun a v hv=>?_,hcst⟩
   ·have e1:w₄.os=w₃.os:=by rw[←hw4];rfl
    have e2:w₂.os=w₁.os:=by rw[←hw2];rfl
    rw[e1,st3.os,e2,st2.os]
   ·have e1:w₄.tape=w₃.tape:=by rw[←hw4];rfl
    have e2:w₂.tape=w₁.tape:=by rw[←hw2];rfl
    rw[e1,st3.tape,e2,st2.tape]
   ·have e1:w₄.output=w₃.output:=by rw[←hw4];rfl
    have e2:w₂.output=w₁.output:=by rw[←hw2];rfl
    rw[e1,st3.output,e2,st2.output]
   ·have e1:drw w₄=drw w₃:=by rw[←hw4];rfl
    have e2:drw w₂=drw w₁:=by rw[←hw2];rfl
    have:=st2.drawn
    have:=st3.drawn
    omega
   ·have hkl:k≠l:=fun e=>hw (e ▸ hwl)
    have hno:¬aU Φc σ k:=fun q=>hw ((h.wr k).2 (.inl ((o1 k).1 q)))
    have hno2:¬aU Φ2 σ2 k:=fun q=>(st2.ownd k q).elim hno (fun q=>by omega)
    rw[oth k hkl,st3.block k (by have:=st2.size;omega) hno2,oth2 k hkl,st2.block k hk hno]
   ·rcases hk with q|rfl
    ·exact ow k q
    ·exact .inl hwl
   ·have hv:Φ4.snap a=some v:=hv
    have ow3:∀k,aU Φ3 σ3 k→S.wr k∨w.heap.size≤k:=fun k hk=>by
     rcases st3.ownd k hk with q|q
     ·rcases st2.ownd k q with q|q
      ·exact .inl ((h.wr k).2 (.inl ((o1 k).1 q)))
      ·exact .inr q
     ·have:=st2.size;exact .inr (by omega)
    have ow2:∀k,aU Φ2 σ2 k→S.wr k∨w.heap.size≤k:=fun k hk=>by
     rcases st2.ownd k hk with q|q
     ·exact .inl ((h.wr k).2 (.inl ((o1 k).1 q)))
     ·exact .inr q
    have tw:S.wr a.block∨w.heap.size≤a.block→S.sn a=some v∨S.wr a.block∨w.heap.size≤a.block∨Ψ.snap a=some v:=fun q=>q.elim (fun q=>.inr (.inl q)) (fun q=>.inr (.inr (.inl q)))
    rcases st4.snapn a v hv with q|q|q
    ·rcases st3.snapn a v q with q|q|q
     ·rcases st2.snapn a v q with q|q|q
      ·rcases s1 a v q with q|q
       ·exact .inl q
       ·exact .inr (.inr (.inr q))
      ·exact tw (.inr q)
      ·exact tw (.inl ((h.wr _).2 (.inl ((o1 _).1 q))))
     ·have:=st2.size;exact tw (.inr (by omega))
     ·exact tw (ow2 _ q)
    ·exact tw (.inr (by omega))
    ·exact tw (ow3 _ q)
  cases e with
  | normal =>
   obtain⟨σ4,f4,Φ4,k4,hend,S',hS1,hS2,hS3,hS4,hS5,hS6,hS7,hS8,hS9,hS10,hS11⟩:=fin none (rec .ready none) σ3 _ rfl q3
   exact⟨_,_,hend,true,S',rfl,hS1,hS2,hS3,hS4,hS5,hS6,hS7,hS8,hS9,hS10,σ4,Φ4,k4,hS11⟩
  | ret =>
   obtain⟨σ4,f4,Φ4,k4,hend,S',hS1,hS2,hS3,hS4,hS5,hS6,hS7,hS8,hS9,hS10,hS11⟩:=fin (some .ret) (rec .done (some .ret)) σ3 _ rfl q3
   exact⟨_,_,hend,false,S',rfl,hS1,hS2,hS3,hS4,hS5,hS6,hS7,hS8,hS9,hS10,.ret,σ4,Φ4,.inl ⟨rfl,k4⟩,hS11⟩
  | exit id =>
   obtain⟨σ4,f4,Φ4,k4,hend,S',hS1,hS2,hS3,hS4,hS5,hS6,hS7,hS8,hS9,hS10,hS11⟩:=fin (some (.exit id)) (rec .done (some (.exit id))) σ3 _ rfl q3
   exact⟨_,_,hend,false,S',rfl,hS1,hS2,hS3,hS4,hS5,hS6,hS7,hS8,hS9,hS10,.exit id,σ4,Φ4,.inr ⟨id,rfl,k4⟩,hS11⟩
  | goto l=>exact q3.elim
  | panic c=>exact q3.elim
  | outgrown=>exact q3.elim
 | exit id=>exact q.elim
 | goto l=>exact q.elim
 | ret=>exact q.elim
 | panic c=>exact q.elim
 | outgrown=>exact q.elim
end
end Go.Proofs.YtppdgejjmhdjhaaGreatDoor
