/- Parts of the proof; conditions: as its theorems name them. -/
import Derived.Test.YtppdgejjmhdjhaaGreatDoorMbb
import Derived.Test.YtppdgejjmhdjhaaGreatDoorRows
import Derived.KernelRfl
import Derived.RangeFuncIn
import Derived.RangeFuncSeq
set_option linter.all false
set_option maxHeartbeats 8000000
set_option maxRecDepth 100000
namespace Go.Proofs.YtppdgejjmhdjhaaGreatDoor
open Bool renaming and_eq_true->aa,false_eq_true->ab
open Classical renaming not_not->ac
open Fence renaming wide->ad
open Go.World renaming putObj_heap_other->ag,putObj_size->ah,block_lt_of_cell?->ak,size_alloc->al,putObj_heap_same->am
open Int renaming toNat_natCast->an
open List renaming getD_eq_getElem?_getD->ao,getElem?_cons_zero->ap,mem_of_getElem?->au,drop_eq_nil_of_le->ay,cons_append->az,all_eq_true->aI,map_cons->aN,flatten_cons->a6,getElem?_append_right->a7,drop_eq_getElem_cons->a9,nil_append->be,range->bf,length_cons->bg,mem_cons->bi,eq_nil_of_length_eq_zero->bj,getD->bp,getElem?_eq_getElem->bv,mem_range->bx,mem_iff_getElem->bz,filter_eq_self->b0,pairwise_cons->b6,take_succ_eq_append_getElem->b7,mem_map->b8,append_assoc->cd,append_nil->ce,all_append->cf,getElem?_append_left->ci,getElem?_cons_succ->ck,take_of_length_le->cm,pairwise_lt_range->co,getElem?_eq_none->cr,filterMap_append->ct,append->cv,mem_filterMap->cx,length_append->cy
open Nat renaming le_trans->cS,le_refl->c8,le_of_not_lt->da,lt_of_lt_of_le->dc,zero_le->dd,sub_zero->de
open Obj renaming deferred->df
open OfNat renaming ofNat->dk,mk->dl
open Op renaming bytesLess->dn
open Option renaming map_some->dt,map_eq_some_iff->du
open Option.some renaming injEq->d0
open Region renaming binds->d5,wanted->d6
open Sem renaming run_pure->d7,run_bind->d8
open St renaming none->d9,ofList->ea
open _root_.Array renaming getElem?_eq_some_iff->eb,getD_eq_getD_getElem?->ee,eq_empty_of_size_eq_zero->el,getElem?_push->em,getElem?_toList->eo,getElem?_append->er
structure VA where
 kd:Int
 n:Int
 s:ByteArray
 deriving DecidableEq
abbrev VA.c(v:VA):List MV:=[.int .i64 v.kd,.int .i64 v.n,.str v.s]
def ir:VA:=⟨0,0,⟨#[]⟩⟩
structure ND where
 op:Int
 n:Int
 v:VA
 deriving DecidableEq
abbrev ND.c(x:ND):List MV:=[.int .i64 x.op,.int .i64 x.n,.int .i64 x.v.kd,.int .i64 x.v.n,.str x.v.s]
def jd:ND:=⟨0,0,ir⟩
def cN{α:Type}{f:α→List MV}{l:List α}{n:Nat}(d:α)(h:n<l.length):(l.map f).getD n []=f (l.getD n d):=by simp[bp,h]
def iL{α:Sort _}[DecidableEq α]{a:α}:decide (¬a=a)=false:=ax
def cU{α:Type}{l:List α}{n:Nat}(d:α)(h:n<l.length):l.getD n d=l[n]:=by simp[bp,h]
def mR{α:Type}{l:List α}{n:Nat}(d:α)(h:n<l.length):l.getD n d∈l:=by rw[cU d h];exact List.getElem_mem h
def B6{α:Type}{p:α→Bool}{l:List α}{i:Nat}(h:i<l.length):(l.take (i+1)).all p=((l.take i).all p&&p l[i]):=by rw[b7 h,cf];simp
def B7{α:Type}{p:α→Bool}{l:List α}{i:Nat}(h:i<l.length):(l.take (i+1)).any p=((l.take i).any p || p l[i]):=by rw[b7 h,List.any_append];simp
def VA.key(v:VA):List Int:=v.kd::v.n::v.s.toList.map fun b=>(b.toNat:Int)
def ND.key(x:ND):List Int:=x.op::x.n::x.v.key
def bytes_inj{a b:ByteArray}(h:a.toList.map (fun b=>(b.toNat:Int))=b.toList.map fun b=>(b.toNat:Int)):a=b:=by
 refine(tL a b).1 ?_;exact(List.map_inj_right (fun x y h=>by
  have:x.toNat=y.toNat:=by exact_mod_cast h
  exact UInt8.toNat_inj.1 this)).1 h
def pS:Ordering→Int
 |.lt=>-1
 |.eq=>0
 |.gt=>1
def cmpL:List Int→List Int→Ordering
 |[],[]=>.eq
 |[],_::_=>.lt
 |_::_,[]=>.gt
 |a::x,b::y=>if a<b then .lt else if b<a then .gt else cmpL x y
theorem cmpL_eq:∀{a b:List Int},cmpL a b=.eq↔a=b
 |[],[]=>by simp[cmpL]
 |[],_::_=>by simp[cmpL]
 |_::_,[]=>by simp[cmpL]
 |a::x,b::y=>by
  unfold cmpL;split
  ·simp;intro h;omega
  ·split
   ·simp;intro h;omega
   ·rw[cmpL_eq];constructor
    ·rintro rfl;have:a=b:=oM;rw[this]
    ·intro h;cases h;rfl
def xY(a:List Int):cmpL a a=.eq:=cmpL_eq.2 rfl
def vD{a b:Int}{x y:List Int}(h:a≠b):cmpL (a::x) (b::y)=cmpL [a] [b]:=by
 unfold cmpL;by_cases h1:a<b
 ·rw[if_pos h1,if_pos h1]
 ·have h2:b<a:=oM;rw[if_neg h1,if_neg h1,if_pos h2,if_pos h2]
def mG{a:Int}{x y:List Int}:cmpL (a::x) (a::y)=cmpL x y:=by rw[cmpL,if_neg oM,if_neg oM]
def bk(s:ByteArray):List Int:=s.toList.map fun b=>(b.toNat:Int)
def r8(s:ByteArray):(bk s).length=s.size:=by
 rw[bk,List.length_map];refine Nat.le_antisymm (da fun h=>?_) (da fun h=>?_)
 ·have h1:=uR s s.size;rw[bv h] at h1;have h2:s[s.size]?=none:=ax;rw[h2] at h1;cases h1
 ·have h1:=uR s s.toList.length;rw[cr (c8 _)] at h1;have h2:s[s.toList.length]?=some s[s.toList.length]:=by simp[h]
  rw[h2] at h1;cases h1
def Ud{s:ByteArray}{n:Nat}(h:n<s.size):((s.toList.getD n 0).toNat:Int)=(bk s)[n]'(by rw[r8];exact h):=by
 have hl:n<s.toList.length:=by have:=r8 s;rw[bk,List.length_map] at this;omega
 simp[bk,bp,hl]
def Ai{s:ByteArray}{n:Nat}(h:n<s.size):(bk s).drop n=((s.toList.getD n 0).toNat:Int)::(bk s).drop (n+1):=by rw[a9 (by rw[r8];exact h),Ud h]
def qJ{s:ByteArray}{n:Nat}(h:s.size≤n):(bk s).drop n=[]:=ay (by rw[r8];exact h)
theorem sX:∀(x y:List UInt8),dn x y=decide (cmpL (x.map fun b=>(b.toNat:Int)) (y.map fun b=>(b.toNat:Int))=.lt)
 |[],[]=>by simp[dn,cmpL]
 |_::_,[]=>by simp[dn,cmpL]
 |[],_::_=>by simp[dn,cmpL]
 |a::x,b::y=>by
  simp only[dn,aN,cmpL];rw[sX x y];have bh:(a<b)↔(a.toNat:Int)<b.toNat:=by rw[UInt8.lt_iff_toNat_lt];omega
  have heq:(a=b)↔(a.toNat:Int)=b.toNat:=by
   constructor
   ·rintro rfl;rfl
   ·intro h;exact UInt8.toNat_inj.1 (by exact_mod_cast h)
  by_cases h1:(a.toNat:Int)<b.toNat
  ·have:=bh.2 h1;rw[if_pos h1];simp[this]
  ·have h1':¬a<b:=fun h=>h1 (bh.1 h);rw[if_neg h1];by_cases h2:(b.toNat:Int)<a.toNat
   ·have:a≠b:=fun h=>by have:=heq.1 h;omega
    rw[if_pos h2];simp[h1',this]
   ·have:a=b:=heq.2 oM;rw[if_neg h2];simp[h1',this]
abbrev BL:=List UInt8
def yc:Int:=1099511627776
def nxF:Nat→Bool→BL→Int×Nat×Nat
 |0,_,_=>(3,0,0)
 |_+1,_,[]=>(2,0,0)
 |k+1,first,c::l=>if 128≤c.toNat then(if (nxF k false l).1=0 then(0,c.toNat % 128+128*(nxF k false l).2.1,(nxF k false l).2.2+1) else((nxF k false l).1,0,0))
  else if c.toNat=0∧first=false then(3,0,0) else(0,c.toNat,1)
def nx(l:BL)(most:Int):Int×Nat×Int :=
 if (nxF 6 true l).1=0 then(if ((nxF 6 true l).2.1:Int) > yc∨((nxF 6 true l).2.1:Int) > most then(0,0,4) else((nxF 6 true l).2.1,(nxF 6 true l).2.2,0)) else(0,0,(nxF 6 true l).1)
def NF{α:Type}{l:List α}{i:Nat}(d:α)(h:i<l.length):l.drop i=l.getD i d::l.drop (i+1):=by rw[a9 h,cU d h]
def DN{o:Ordering}:pS o=0↔o=.eq:=by cases o<;>simp[pS]
def parts(op:Int):Nat:=if op=10 then 1 else if op=11∨op=12 then 2 else 0
def j9:Nat→List ND→Option Nat
 |0,_=>some 0
 |_+1,[]=>none
 |n+1,x::r=>(j9 (n+parts x.op) r).map (·+1)
def jK(l:List ND)(i:Int):Int:=if i<0 then -1 else match j9 1 (l.drop i.toNat) with
 |none=>-1
 |some k=>i+k
inductive T where
 |leaf (x:ND)
 |one (x:ND) (a:T)
 |two (x:ND) (a b:T)
def T.fl:T→List ND
 |.leaf x=>[x]
 |.one x a=>x::a.fl
 |.two x a b=>x::(a.fl++b.fl)
def T.ok:T→Prop
 |.leaf x=>parts x.op=0
 |.one x a=>parts x.op=1∧a.ok
 |.two x a b=>parts x.op=2∧a.ok∧b.ok
theorem T.Es:∀t:T,0<t.fl.length
 |.leaf _=>by simp[T.fl]
 |.one _ _=>by simp[T.fl]
 |.two _ _ _=>by simp[T.fl]
theorem sD:∀(t:T),t.ok→∀(n:Nat) (r:List ND),j9 (n+1) (t.fl++r)=(j9 n r).map (·+t.fl.length)
 |.leaf x,h,n,r=>by
  simp only[T.ok] at h;simp[T.fl,j9,h]
 |.one x a,h,n,r=>by
  obtain⟨h1,h2⟩:=h;simp only[T.fl,az,j9,h1];rw[sD a h2];cases j9 n r<;>simp;omega
 |.two x a b,h,n,r=>by obtain⟨h1,h2,h3⟩:=h;simp only[T.fl,az,cd,j9,h1];rw[show n+2=(n+1)+1 from rfl,sD a h2,sD b h3];cases j9 n r<;>simp;omega
def lI(op:Int):parts op=0∨parts op=1∨parts op=2:=by
 unfold parts;split
 ·simp
 ·split<;>simp
theorem sM:∀(m:Nat) (l:List ND),l.length≤m→∀(n k:Nat),j9 (n+1) l=some k→∃(t:T) (r:List ND),t.ok∧l=t.fl++r
 |0,l,hl,n,k,h=>by
  have:l=[]:=bj oM;subst this;simp[j9] at h
 |m+1,[],hl,n,k,h=>by simp[j9] at h
 |m+1,x::r,hl,n,k,h=>by
  simp only[bg] at hl;simp only[j9,du] at h;obtain⟨j,h,rfl⟩:=h;rcases lI x.op with hp|hp|hp
  ·exact⟨.leaf x,r,hp,rfl⟩
  ·rw[hp] at h;obtain⟨t,r',ht,rfl⟩:=sM m r oM n j h;exact⟨.one x t,r',⟨hp,ht⟩,rfl⟩
  ·rw[hp] at h;obtain⟨a,r1,ha,rfl⟩:=sM m r oM (n+1) j h;rw[show n+2=(n+1)+1 from rfl,sD a ha] at h;simp only[du] at h;obtain⟨j1,h,rfl⟩:=h;obtain⟨b,r2,hb,rfl⟩:=sM m r1 (by simp at hl;omega) n j1 h;exact⟨.two x a b,r2,⟨hp,ha,hb⟩,by simp[T.fl]⟩
def parse{l:List ND}(h:jK l 0=l.length):∃t:T,t.ok∧l=t.fl:=by
 unfold jK at h;rw[if_neg oM] at h;simp only[Int.toNat_zero,List.drop_zero] at h;cases e:j9 1 l with
 |none=>rw[e] at h;simp at h
 |some k =>
  rw[e] at h;simp only[Int.zero_add] at h;have hk:k=l.length:=by exact_mod_cast h
  obtain⟨t,r,ht,rfl⟩:=sM l.length l (c8 _) 0 k e;rw[sD t ht] at e;simp only[j9,dt,d0] at e;refine⟨t,ht,?_⟩;have:r=[]:=bj (by simp at hk;omega);rw[this,ce]
def Ma{t:T}(h:t.ok)(pre r:List ND):jK (pre++(t.fl++r)) pre.length=(pre.length+t.fl.length:Nat):=by unfold jK;rw[if_neg oM];simp only[an,List.drop_left];rw[sD t h];simp[j9]
def fW(v:VA):Bool :=
 if v.kd=0 then decide (v=ir) else if v.kd=1 then decide (0≤v.n∧v.n≤1099511627776∧v.s=⟨#[]⟩) else if v.kd=2 then decide (v.n=0∧v.s.size≤24) else false
def gB(x:ND):Bool :=
 if x.op=1∨x.op=2∨x.op=10∨x.op=11∨x.op=12 then decide (x.n=0∧x.v=ir)
 else if x.op=3∨x.op=4 then decide (0≤x.n∧x.n<16∧x.v=ir)
 else if x.op=5 then decide (0≤x.n∧x.n<8∧x.v=ir)
 else if x.op=6∨x.op=7∨x.op=8 then decide (0≤x.n∧x.n<8∧fW x.v=true∧x.v≠ir)
 else if x.op=9 then decide (0≤x.n∧x.n<8∧fW x.v=true∧x.v.kd=2)
 else false
def Un(l:List ND):Bool:=decide (l≠[]∧l.length≤63)&&decide (jK l 0=l.length)&&l.all gB
def QP{l:List ND}(h:Un l=true):∃t:T,t.ok∧l=t.fl∧l.length≤63∧∀x,x∈l→gB x=true:=by simp only[Un,aa,decide_eq_true_eq,aI] at h;obtain⟨t,ht,e⟩:=parse h.1.2;exact⟨t,ht,e,h.1.1.2,h.2⟩
structure RD where
 l:BL
 e:Int
 deriving DecidableEq
structure F8 where
 l:List VA
 h:l.length=8
 deriving DecidableEq
abbrev F8.c(f:F8):List MV:=(f.l.map VA.c).flatten
def F8.get(f:F8)(i:Nat):VA:=f.l.getD i ir
def F8.set(f:F8)(i:Nat)(v:VA):F8:=⟨f.l.set i v,by rw[List.length_set,f.h]⟩
def f80:F8:=⟨List.replicate 8 ir,rfl⟩
abbrev bl(s:ByteArray):BL:=s.data.toList
abbrev bit(m i:Nat):Bool:=m.testBit i
structure PA where
 mask:UInt32
 fp:UInt32
 f:F8
 deriving DecidableEq
def pa0:PA:=⟨0,0,f80⟩
structure CA where
 id:Int
 c9:Int
 fp:UInt32
 f:F8
 deriving DecidableEq
def ig:CA:=⟨0,0,0,f80⟩
def jT:Int:=1073741824
def iY(c:CA):Bool:=decide (1≤c.id∧c.id<jT∧1≤c.c9∧c.c9≤yc∧c.fp.toNat<65536)&&c.f.l.all fW
def bL(p:PA):Int :=
 if p.mask.toNat=0∨511<p.mask.toNat then 11
 else if 65536≤p.fp.toNat∨p.fp.toNat≠0∧bit p.mask.toNat 8=false then 1
 else if (bf 8).all (fun i=>fW (p.f.get i)&&(decide ((p.f.get i).kd=0) || bit p.mask.toNat i))=true then 0 else 1
structure ED where
 kd:Int
 id:Int
 gr:Int
 p:PA
 deriving DecidableEq
def edG(k:Int):Bool:=decide (k=4∨k=5∨k=6∨k=7)
def edI(k:Int):Bool:=decide (k=2∨k=3∨k=6∨k=7)
def edP(k:Int):Bool:=decide (k=1∨k=2)
def aQ(e:ED):Int :=
 if e.kd<1∨7<e.kd then 1
 else if edG e.kd=false∧e.gr≠0∨edI e.kd=false∧e.id≠0∨edP e.kd=false∧e.p≠pa0 then 1
 else if e.gr<0∨16≤e.gr∨edI e.kd=true∧(e.id<1∨jT≤e.id) then 1
 else if edP e.kd=true then bL e.p else 0
structure TO where
 dev:Int
 ep:Int
 sq:Int
 cu:Int
 deriving DecidableEq
abbrev TO.c(t:TO):List MV:=[.int .i64 t.dev,.int .i64 t.ep,.int .i64 t.sq,.int .i64 t.cu]
def ui:TO:=⟨0,0,0,0⟩
def lM(t:TO):Bool:=decide (0≤t.dev∧t.dev<6∧1≤t.ep∧t.ep≤yc∧0≤t.sq∧t.sq≤yc∧0≤t.cu∧t.cu≤jT)
def shut:List Nat→List Nat
 |[]=>[]
 |[0]=>[]
 |0::k::s=>shut ((k-1)::s)
 |(n+1)::s=>(n+1)::s
termination_by s=>s.length
def dp:Nat→List Nat→List ND→Nat
 |d,_,[]=>d
 |d,s,x::l=>dp (max d (s.length+1)) (shut (parts x.op::s)) l
def jM(l:List ND):Nat:=if l=[]∨jK l 0≠l.length then 0 else dp 0 [] l
def bR(l:List ND):Int :=
 if 31<l.length then 4 else if l=[]∨jK l 0≠l.length∨l.all gB=false then 1 else if 8<jM l then 5 else 0
structure RE where
 kd:Int
 dev:Int
 req:Int
 code:Int
 id:Int
 c9:Int
 sq:Int
 ep:Int
 fl:List ND
 mask:UInt32
 deriving DecidableEq
structure IT where
 kd:Int
 c:CA
 deriving DecidableEq
def it0:IT:=⟨0,ig⟩
structure PG where
 code:Int
 reset:Bool
 fr:TO
 to:TO
 items:List IT
 deriving DecidableEq
structure CM where
 kd:Int
 e:ED
 dev:Int
 req:Int
 id:Int
 base:Int
 UB:Int
 p:PA
 fl:List ND
 mask:UInt32
 deriving DecidableEq
structure MS where
 kd:Int
 size:Int
 cmd:CM
 tok:TO
 rep:RE
 aq:PG
 code:Int
 deriving DecidableEq
structure Sk {α:Type} (f:RD→α×RD):Prop where
 stk:∀r,r.e≠0→(f r).2=r
 sfx:∀r,(f r).2.l <:+ r.l
structure Rt {α:Type} (f:RD→α×RD) (ok:α→Prop) (w:α→BL):Prop where
 fwd:∀x l,ok x→f ⟨w x++l,0⟩=(x,⟨l,0⟩)
 bck:∀r,(f r).2.e=0→r.e=0∧ok (f r).1∧r.l=w (f r).1++(f r).2.l
def Sk.err{α:Type}{f:RD→α×RD}(h:Sk f){r:RD}(e:(f r).2.e=0):r.e=0:=by
 by_cases h0:r.e=0
 ·exact h0
 ·rw[h.stk r h0] at e;exact e
section
variable {α:Type} {d:α} {y:α×RD}
end
def T3(v:VA):fW v=true↔(v.kd=0∧v=ir)∨(v.kd=1∧0≤v.n∧v.n≤yc∧v.s=⟨#[]⟩)∨(v.kd=2∧v.n=0∧v.s.size≤24):=by
 unfold fW yc;by_cases h0:v.kd=0
 ·simp[h0]
 ·by_cases h1:v.kd=1
  ·simp[h1]
  ·by_cases h2:v.kd=2
   ·simp[h2]
   ·simp[h0,h1,h2]
def tA:List Oper→List Nat→List Nat
 |[],acc=>acc
 |o::r,acc=>tA r (acc++[o.after.toList.foldl (fun m e=>if d5 .any e then(m ||| 2 ^ e.on) ||| acc.getD e.on 0 else m) 0])
def qE(X:RX)(ops:Array Oper):Bool :=
 let ms:=tA ops.toList []
 (ops.toList.all (yC X))&&(bf ops.size).all fun i=>match ops[i]? with
  |none=>true
  |some oi=>(oi.after.toList.all fun e=>!d5 .any e || decide (e.on<i)) &&
   ((bf i).all fun j=>match ops[j]? with
    |none=>true
    |some oj=>(ms.getD i 0).testBit j || zZ X ops oj oi)
def chk(ops:Array Oper):Bool:=qE ⟨[],[],none,.no,[]⟩ ops
section
variable {P:Program} {C:b9} {ops:Array Oper}
def xR(ops:Array Oper)(L:Nat→Prop):Prop:=∀i o,ops[i]?=some o→L i→∀e,e∈o.after.toList→d5 .any e=true→L e.on
def QV{L:Nat→Prop}{acc:List Nat}{B:Edge→Bool}(hacc:∀i,L i→∀j,(acc.getD i 0).testBit j=true→L j):∀(es:List Edge) (m:Nat),(∀e,e∈es→B e=true→L e.on)→(∀j,m.testBit j=true→L j) →
  ∀j,(es.foldl (fun m e=>if B e then(m ||| 2 ^ e.on) ||| acc.getD e.on 0 else m) m).testBit j=true→L j:=by
 intro es
 induction es with
 |nil=>intro m _ hm j h;exact hm j h
 |cons e r ih =>
  intro m he hm j h;simp only[List.foldl_cons] at h;refine ih _ (fun e' h'=>he e' (by simp[h'])) (fun k hk=>?_) j h;split at hk
  ·rename_i hb;simp only[Nat.testBit_or,Bool.or_eq_true] at hk;rcases hk with(hk|hk)|hk
   ·exact hm k hk
   ·rw[Nat.testBit_two_pow] at hk;have:e.on=k:=by simpa using hk
    exact this ▸ he e ax hb
   ·exact hacc e.on (he e ax hb) k hk
  ·exact hm k hk
def tY{L:Nat→Prop}:∀(l pre:List Oper) (acc:List Nat),acc.length=pre.length→xR (pre++l).toArray L →
  (∀i,(L i∨∃o,(pre++l)[i]?=some o∧∀e,e∈o.after.toList→d5 .any e=true→L e.on)→∀j,(acc.getD i 0).testBit j=true→L j) →
  ∀i,(L i∨∃o,(pre++l)[i]?=some o∧∀e,e∈o.after.toList→d5 .any e=true→L e.on)→∀j,((tA l acc).getD i 0).testBit j=true→L j:=by
 intro l
 induction l with
 |nil=>intro pre acc _ _ h;exact h
 |cons o r ih =>
  intro pre acc hl hc h;have e1:pre++o::r=(pre++[o])++r:=ax
  (try simp only[tA])
  rw[e1] at hc h ⊢;refine ih (pre++[o]) _ (by simp[hl]) hc (fun i hi j hj=>?_);rcases Nat.lt_trichotomy i acc.length with q|q|q
  ·refine h i hi j ?_;simpa[bp,ci q] using hj
  ·have ho:((pre++[o])++r)[i]?=some o:=by rw[q,hl];simp
   have mo:∀e,e∈o.after.toList→d5 .any e=true→L e.on:=by
    rcases hi with hi|⟨o',h1,h2⟩
    ·exact hc i o (by simpa using ho) hi
    ·rw[ho] at h1;cases h1;exact h2
   rw[q] at hj;simp only[bp,a7 (c8 _),Nat.sub_self,ap,Option.getD_some] at hj;exact QV (B:=d5 .any) (fun k hk=>h k (.inl hk)) o.after.toList 0 mo (fun j hj=>by simp at hj) j hj
  ·have:(acc++[o.after.toList.foldl (fun m e=>if d5 .any e then(m ||| 2 ^ e.on) ||| acc.getD e.on 0 else m) 0])[i]?=none:=by rw[cr];simp;omega
   rw[bp,this] at hj;simp at hj
def left(listed:Array Bool)(n:Nat):List Nat:=(bf n).filter fun i=>!listed.getD i true
def AZ{listed:Array Bool}{n i:Nat}(hs:listed.size=n):left (listed.setIfInBounds i true) n=(left listed n).filter fun j=>j != i:=by
 unfold left;rw[List.filter_filter];refine List.filter_congr fun j hj=>?_;have hj:j<n:=by simpa using hj
 by_cases h:j=i
 ·subst h;simp[hs,hj]
 ·have:(i:Nat)≠j:=fun e=>h e.symm;simp[h,Array.getElem?_setIfInBounds_ne this]
def tV{listed:Array Bool}{n i:Nat}(h:i∈left listed n):∃l1 l2,left listed n=l1++i::l2∧(∀j,j∈l1→j<i)∧(left listed n).filter (fun j=>j != i)=l1++l2:=by
 obtain⟨l1,l2,he⟩:=List.append_of_mem h;have hp:(left listed n).Pairwise (·<·):=List.Pairwise.filter _ co;rw[he] at hp;obtain⟨h1,h2,h3⟩:=List.pairwise_append.1 hp;have h4:=(b6.1 h2).1;refine⟨l1,l2,he,fun j hj=>h3 j hj i ax,?_⟩;rw[he]
 (try simp only[List.filter_append,List.filter_cons,bne_self_eq_false,ab,if_false])
 congr 1
 ·exact b0.2 fun j hj=>by have:=h3 j hj i ax;simp;omega
 ·exact b0.2 fun j hj=>by have:=h4 j hj;simp;omega
def opsOf(ops:Array Oper)(is:List Nat):List Oper:=is.filterMap fun i=>ops[i]?
def mem_left{listed:Array Bool}{n i:Nat}:i∈left listed n↔i<n∧listed.getD i true=false:=by simp[left]
def Ng{X:RX}{loc:Nat→Nat→Prop}(hC:oO X loc C)(dj:qE X ops=true){F:Fence}(hF:F=ad∨∃l0,F=ad.inRound l0∧∀o,o∈ops.toList→∀c,o.op≠.defer c){Q:MQ}{Φ0:bd}{σ0:St}{w0:World}:∀(fuel:Nat) (listed:Array Bool) (f:FR) (σ:St) (Φ:bd) (w:World) (a:Act),listed.size=ops.size→(left listed ops.size).length=fuel →
  xR ops (fun i=>listed.getD i false=true)→Inv Φ w σ→dP Φ a.tmps f→eF Φ w a.defers f.d→vw P X loc f→Step Φ0 σ0 w0 Φ σ w →
  gl P C ops (fun f' _ af=>∃js,qd f' js∧Q .normal js af) (opsOf ops (left listed ops.size)) f (fun l=>Φ.obj l≠none) σ→wpAnyIn F 0 P .any ops (lift Φ0 σ0 w0 Q) fuel listed a w:=by
 have hKok:KOk (fun f' (_:Nat→Prop) af=>∃js,qd f' js∧Q .normal js af):=fun f f' U U' σ hf _ ⟨js,h1,h2⟩=>⟨js,hf.symm.trans h1,h2⟩
 have fin:∀(listed:Array Bool) (f:FR) (σ:St) (Φ:bd) (w:World) (a:Act),left listed ops.size=[]→Inv Φ w σ→dP Φ a.tmps f→eF Φ w a.defers f.d→Step Φ0 σ0 w0 Φ σ w →
   gl P C ops (fun f' _ af=>∃js,qd f' js∧Q .normal js af) (opsOf ops (left listed ops.size)) f (fun l=>Φ.obj l≠none) σ→lift Φ0 σ0 w0 Q .normal a w:=by intro listed f σ Φ w a hl hi hr hd hs h;rw[hl] at h;obtain⟨js,h1,h2⟩:=h;exact⟨js,σ,Φ,h1.2.1 ▸ hd,⟨hr.1.trans h1.1,fun t=>by rw[←h1.2.2 t];exact hr.2 t⟩,hi,hs,h2⟩
 have mr:∀(listed:Array Bool) i,i∈Region.ready .any ops listed→i∈left listed ops.size:=fun listed i hi=>by obtain⟨h0,o,ho,-⟩:=mem_ready.1 hi;exact mem_left.2 ⟨(eb.1 ho).1,h0⟩
 have Zo:∀i oi,ops[i]?=some oi→(∀e,e∈oi.after.toList→d5 .any e=true→e.on<i)∧∀j oj,j<i→ops[j]?=some oj→((tA ops.toList []).getD i 0).testBit j=true∨zZ X ops oj oi=true:=by
  intro i oi yk;have bh:=(eb.1 yk).1;have h:=dj;simp only[qE,aa] at h;replace h:=h.2;simp only[aI,bx] at h;have h1:=h i bh;rw[yk] at h1;simp only[aa,aI,Bool.or_eq_true,Bool.not_eq_true',decide_eq_true_eq,bx] at h1;refine⟨fun e he hb=>?_,fun j oj hj hoj=>?_⟩
  ·rcases h1.1 e he with q|q
   ·rw[hb] at q;cases q
   ·exact q
  ·have:=h1.2 j hj;rw[hoj] at this;simpa using this
 intro fuel
 induction fuel with
 |zero =>
  intro listed f σ Φ w a dq hl hc hi hr hd hD hs h;have qg:left listed ops.size=[]:=bj hl;refine⟨?_,fin listed f σ Φ w a qg hi hr hd hs h⟩;rw[List.eq_nil_iff_forall_not_mem];intro i hi;have:=mr listed i hi;rw[qg] at this;cases this
 |succ fuel ih =>
  intro listed f σ Φ w a dq hl hc hi hr hd hD hs h;refine⟨fun th=>?_,fun i hrd=>?_⟩
  ·-- the first that is left is ready
   exfalso;cases qx:left listed ops.size with
   |nil=>rw[qx] at hl;cases hl
   |cons i0 r =>
    have h0:i0∈left listed ops.size:=by rw[qx];simp
    obtain⟨bh,h0'⟩:=mem_left.1 h0;have yk:ops[i0]?=some ops[i0]:=Array.getElem?_eq_getElem bh;have:i0∈Region.ready .any ops listed:=mem_ready.2 ⟨h0',_,yk,fun e he hb=>by
     have ot:=(Zo i0 _ yk).1 e (by simpa using he) hb;cases hq:listed.getD e.on false with
     |true=>rfl
     |false =>
      exfalso;have hm:e.on∈left listed ops.size:=mem_left.2 ⟨oM,by
       have me:e.on<listed.size:=oM;simpa[me] using hq⟩
      have hp:(left listed ops.size).Pairwise (·<·):=List.Pairwise.filter _ co;rw[qx] at hp hm;have:=(b6.1 hp).1;rcases bi.1 hm with q|q
      ·omega
      ·have:=this e.on q;omega⟩
    rw[th] at this;cases this
  ·have mn:=mr listed i hrd;obtain⟨l1,l2,he,bh,sg⟩:=tV mn;obtain⟨h0,o,ho,mo⟩:=mem_ready.1 hrd;have hsw:∀x,x∈opsOf ops l1→zZ X ops x o=true:=by
    intro x hx;obtain⟨j,hj,hx⟩:=cx.1 hx;rcases (Zo i o ho).2 j x (bh j hj) hx with q|q
    ·exfalso;have:=tY (L:=fun i=>listed.getD i false=true) ops.toList [] [] rfl (by simpa using hc) (fun i hi j hj=>by simp at hj) i (.inr ⟨o,by simpa using ho,fun e he hb=>mo e (by simpa using he) hb⟩) j q;have xk:j∈left listed ops.size:=by rw[he];simp[hj]
     have hj2:=(mem_left.1 xk)
     have me:j<listed.size:=oM;simp[me] at this hj2;simp[this] at hj2
    ·exact q
   have e2:opsOf ops (left listed ops.size)=opsOf ops l1++o::opsOf ops l2:=by rw[he];simp[opsOf,ct,ho]
   rw[e2] at h;have hdom:wj (fun l=>Φ.obj l≠none) σ:=fun l hl q=>hl (hi.gI q);have eu:Fin (fun l=>Φ.obj l≠none):=by obtain⟨n,hn⟩:=hi.fresh.1.1;exact⟨n,fun l hl q=>q (hn l hl)⟩
   have zi:∀(j:Nat) x,ops[j]?=some x→yC X x=true:=fun j x hx=>by have h:=dj;simp only[qE,aa,aI] at h;exact h.1 x (by rw[←eo] at hx;exact au hx)
   have hp:=J2 (pull hKok hC (opsOf ops l2) o (opsOf ops l1) f _ σ hdom eu hD hsw (fun x hx=>by
    obtain⟨j,hj,hx⟩:=cx.1 hx;exact zi j x hx) h)
   have e3:opsOf ops (left (listed.setIfInBounds i true) ops.size)=opsOf ops l1++opsOf ops l2:=by rw[AZ dq,sg];simp[opsOf,ct]
   have hlen:(left (listed.setIfInBounds i true) ops.size).length=fuel:=by rw[AZ dq,sg];rw[he] at hl;simp at hl ⊢;omega
   have jv:xR ops (fun k=>(listed.setIfInBounds i true).getD k false=true):=by
    intro k ok hk hlk e hek hb;by_cases hki:k=i
    ·subst hki;rw[ho] at hk;cases hk;exact getD_set_true (mo e (by simpa using hek) hb)
    ·have:listed.getD k false=true:=by rw[←hlk,getD_set_ne _ (Ne.symm hki)]
     exact getD_set_true (hc k ok hk this e hek hb)
   -- what comes then
   have next:∀v mv af Φ' w' ,Rel Φ' v mv→Inv Φ' w' af→Step Φ σ w Φ' af w' →
     (∃U':Nat→Prop,(∀l,U' l→Φ.obj l≠none∨af l≠none)∧GV (ji P C ops f o) mv∧∀pr,(∀l,U' l→pr l)→gl P C ops (fun f' _ af=>∃js,qd f' js∧Q .normal js af) (opsOf ops l1++opsOf ops l2) (bI f o.dst mv) pr af) →
     wpAnyIn F 0 P .any ops (lift Φ0 σ0 w0 Q) fuel (listed.setIfInBounds i true) (a.put o.dst v) w':=by
    rintro v mv af Φ' w' r1 i1 s1 ⟨U',hu,ZB,hk⟩;refine ih _ (bI f o.dst mv) af Φ' w' (a.put o.dst v) (by simpa using dq) hlen jv i1 (cT (hr.mono s1.le) o.dst r1) (by rw[bT,eD];exact hd.step hi s1) (hD.put (zi i o ho) ZB) (hs.trans s1) ?_;rw[e3];refine hk _ fun l hl=>?_;rcases hu l hl with q|q
    ·intro hn;cases hp:Φ.obj l with
     |none=>exact q hp
     |some p=>rw[s1.le.obj l p hp] at hn;cases hn
    ·intro hn;exact q (i1.gI hn)
   unfold wpOpIn;rw[ho];simp only;have yd:F=ad∨∃l0,F=ad.inRound l0∧∀c,o.op≠.defer c:=hF.imp id fun⟨l0,e,q⟩=>⟨l0,e,q o (by rw[←eo] at ho;exact au ho)⟩
   have mm:∀g,F.fn g:=fun g=>by rcases hF with rfl|⟨l,rfl,_⟩<;>trivial
   have run:gs (fun l=>Φ.obj l≠none) σ (jt P C f o.op) (fun v U1 σ1=>GV (ji P C ops f o) v∧∀pr,(∀l,U1 l→pr l)→gl P C ops (fun f' _ af=>∃js,qd f' js∧Q .normal js af) (opsOf ops l1++opsOf ops l2) (bI f o.dst v) pr σ1) →
     o.wpIn F 0 P a w (wpAnyIn F 0 P .any ops (lift Φ0 σ0 w0 Q) fuel (listed.setIfInBounds i true)) (lift Φ0 σ0 w0 Q):=by
    intro hg;refine fK yd ?_;refine o7 (VY hg) Φ w a _ _ hi hr fun v mv af Φ' w' r1 i1 s1 hk=>next v mv af Φ' w' r1 i1 s1 (hk fun l h1 h2 q=>?_)
    rcases s1.jc l _ (Option.ne_none_iff_exists'.1 h1).choose_spec with⟨o',ho'⟩|ho'
    ·rw[h2] at ho';cases ho'
    ·exact q ho'
   obtain⟨G,hG⟩:∃G,GV (ji P C ops f o)=G:=⟨_,rfl⟩
   rw[hG] at hp run next
   unfold ji at hp;split at hp
   ·rename_i hg;have hw:d6 o (yielded ops a.tmps)=true:=by unfold d6;rw[hg]
    rw[if_pos hw];exact run hp
   ·rename_i j want hg;split at hp
    ·rename_i t ht;split at hp
     ·rename_i b hb;have hmg:∀{A B:Prop},(b=want→A)∧(b=(!want)→B)→(d6 o (yielded ops a.tmps)=true∧A)∨(d6 o (yielded ops a.tmps)=false∧B):=fun {A B} h =>
       cQ (ops:=ops) (o:=o) (f:=f) (by unfold fH;rw[hg];(try simp only[ht,hb]);exact h) hr
      split at hp
      ·rename_i hbw;rcases hmg (A:=True) (B:=False) ⟨fun _=>trivial,fun e=>by rw[hbw] at e;cases want<;>cases e⟩ with⟨hw,-⟩|⟨-,hw⟩
       ·rw[if_pos hw];exact run hp
       ·exact hw.elim
      ·rename_i hbw;rcases hmg (A:=False) (B:=True) ⟨fun e=>hbw e,fun _=>trivial⟩ with⟨-,hw⟩|⟨hw,-⟩
       ·exact hw.elim
       ·rw[if_neg (by simp[hw])];obtain⟨-,U',hu,ZB,hk⟩:=pV hp;exact⟨fun f _=>mm f,next undef (.ar []) σ Φ w gL hi (.refl _ _ _) ⟨U',hu,ZB,hk⟩⟩
     ·rename_i hb;rcases cQ (ops:=ops) (o:=o) (f:=f) (yes:=False) (no:=True) (by unfold fH;rw[hg];simp only[ht,hb]) hr with⟨-,hw⟩|⟨hw,-⟩
      ·exact hw.elim
      ·rw[if_neg (by simp[hw])];obtain⟨-,U',hu,ZB,hk⟩:=pV hp;exact⟨fun f _=>mm f,next undef (.ar []) σ Φ w gL hi (.refl _ _ _) ⟨U',hu,ZB,hk⟩⟩
     ·exact(gX hp).elim
    ·exact(gX hp).elim
def dX(P:Program)(MC:FuncId→List MV→St→(MV→St→Prop)→Prop)(ops:Array Oper)(K:FR→St→Prop):List Oper→FR→St→Prop
 |[],f,σ=>K f σ
 |o::rest,f,σ=>fH ops f o (Cn P MC f σ (fun v af=>dX P MC ops K rest (bI f o.dst v) af) o.op) (dX P MC ops K rest (bI f o.dst (.ar [])) σ)
abbrev kB(P:Program)(C:b9):=dX P (rC P C)
def VT{MC:FuncId→List MV→St→(MV→St→Prop)→Prop}(hMC:∀U σ,wj U σ→∀g ms k,MC g ms σ k→gs U σ (jE P C g ms) fun v _ af=>k v af){u:jL}(hu:pq u C){K:FR→St→Prop}:∀(l:List Oper) (f:FR) (U:Nat→Prop) (σ:St),wj U σ→Fin U→dX P MC ops K l f σ→gl P C ops (fun f' _ af=>∃js,qd f' js∧K js af) l f U σ:=by
 intro l
 induction l with
 |nil=>intro f U σ _ _ h;exact⟨f,.refl f,h⟩
 |cons o r ih =>
  intro f U σ hd hf h;simp only[dX] at h
  (try simp only[gl])
  have run:Cn P MC f σ (fun v af=>dX P MC ops K r (bI f o.dst v) af) o.op→gs U σ (jt P C f o.op) fun v U' af=>gl P C ops (fun f' _ af=>∃js,qd f' js∧K js af) r (bI f o.dst v) U' af:=fun h =>
   Al (Wu (hMC U σ hd) hd h) hd hf (fun v U' af xi hf' _ hh=>ih _ U' af xi hf' hh) (LR P C hu f o.op).1
  unfold fH at h;unfold ji;split at h
  ·rename_i hg;(try simp only[hg]);exact run h
  ·rename_i j want hg
   (try simp only[hg])
   split at h
   ·rename_i t ht
    (try simp only[ht])
    split at h
    ·rename_i b hb
     (try simp only[hb])
     split
     ·rename_i hbw;exact run (h.1 hbw)
     ·rename_i hbw;have mw:b=!want:=by cases b<;>cases want<;>simp at hbw ⊢
      refine x8 (Al (pK (U:=U) (pv:=some (True,.ar [])) (k:=fun v af=>v=.ar []∧af=σ) ⟨trivial,rfl,rfl⟩) hd hf (k':=fun v U' af=>v=.ar []∧af=σ∧wj U' af∧Fin U') (fun v U' af h1 h2 _ h3=>⟨h3.1,h3.2,h1,h2⟩) (dN _).1) ?_;rintro v U' af ⟨rfl,rfl,h1,h2⟩;exact ih _ U' _ h1 h2 (h.2 mw)
    ·rename_i hb
     (try simp only[hb])
     refine x8 (Al (pK (U:=U) (pv:=some (True,.ar [])) (k:=fun v af=>v=.ar []∧af=σ) ⟨trivial,rfl,rfl⟩) hd hf (k':=fun v U' af=>v=.ar []∧af=σ∧wj U' af∧Fin U') (fun v U' af h1 h2 _ h3=>⟨h3.1,h3.2,h1,h2⟩) (dN _).1) ?_;rintro v U' af ⟨rfl,rfl,h1,h2⟩;exact ih _ U' _ h1 h2 h
    ·exact h.elim
   ·exact h.elim
def sL(hm:P.follows .mixedOrders=true){X:RX}{loc:Nat→Nat→Prop}(hC:oO X loc C)(dj:qE X ops=true){MC:FuncId→List MV→St→(MV→St→Prop)→Prop}(hMC:∀U σ,wj U σ→∀g ms k,MC g ms σ k→gs U σ (jE P C g ms) fun v _ af=>k v af){id:Nat}{f:FR}{σ:St}{Q:MQ}(hD:vw P X loc f)(h:dX P MC ops (Q .normal) ops.toList f σ):il P (.region id ops true) f σ Q:=by
 intro F hF Φ w a hi hr hd;have hi':Inv Φ { w with drawn:=w.drawn+1 } σ:=⟨fun l o hl=>by
  have:=hi.own l o hl;cases o<;>exact this,hi.inj,hi.snap,hi.apart,hi.fresh⟩
 have dg:Step Φ σ w Φ σ { w with drawn:=w.drawn+1 }:=⟨.refl Φ,rfl,rfl,rfl,lO (Nat.le_succ _),c8 _,fun _ _ _=>rfl,fun _ _ h=>.inl h,fun l o h=>.inl ⟨o,h⟩,fun _ h=>.inl h⟩
 have ef:left (Array.replicate ops.size false) ops.size=bf ops.size:=by
  unfold left;refine b0.2 fun j hj=>?_;have hj:j<ops.size:=by simpa using hj
  simp[hj]
 have hops:opsOf ops (bf ops.size)=ops.toList:=by
  unfold opsOf;apply List.ext_getElem?;intro i;have:∀(l:List Oper),(bf l.length).filterMap (fun i=>l[i]?)=l:=by
   intro l
   induction l with
   |nil=>rfl
   |cons a r ih =>
    rw[bg,List.range_succ_eq_map,List.filterMap_cons]
    (try simp only[ap,List.filterMap_map])
    congr 1
  have:=this ops.toList;simp only[Array.length_toList,eo] at this;rw[this]
 refine wpIn_region_any hm (Ng (C:=C) hC dj hF.ops ops.size _ f σ Φ _ a ax (by rw[ef];simp) ?_ hi' hr (hd.step hi dg) hD dg ?_)
 ·intro i o ho hl;simp only[ee,Array.getElem?_replicate] at hl;split at hl<;>simp at hl
 ·rw[ef,hops];refine VT hMC hC.u ops.toList f _ σ (fun l hl q=>hl (hi.gI q)) ?_ h;obtain⟨n,hn⟩:=hi.fresh.1.1;exact⟨n,fun l hl q=>q (hn l hl)⟩
def O0(hm:P.follows .mixedOrders=true){Ds:List Nat}{loc:Nat→Nat→Prop}(dj:qE ⟨Ds,[],none,.no,[]⟩ ops=true)(C:b9){id:Nat}{f:FR}{σ:St}{Q:MQ}(hD:vw P ⟨Ds,[],none,.no,[]⟩ loc f)(h:kB P C ops (Q .normal) ops.toList f σ):il P (.region id ops true) f σ Q :=
 sL (C:=C.pl) (X:=⟨Ds,[],none,.no,[]⟩) (loc:=loc) hm (show oO ⟨Ds,[],none,.no,[]⟩ loc C.pl from⟨C.Ir.u,trivial⟩) dj (fun _ _ hd _ _ _ h=>vK hd h) hD h
def HT(hm:P.follows .mixedOrders=true)(dj:chk ops=true)(C:b9){id:Nat}{f:FR}{σ:St}{Q:MQ}(h:kB P C ops (Q .normal) ops.toList f σ):il P (.region id ops true) f σ Q :=
 O0 (loc:=fun _ _=>True) hm dj C ⟨fun t ht=>(by cases ht),fun t t' ht=>(by cases ht),fun p hp=>(by cases hp),fun p hp=>(by cases hp)⟩ h
def O3(hm:P.follows .mixedOrders=true){X:RX}{loc:Nat→Nat→Prop}(C:b9)(hC:oO X loc C)(dj:qE X ops=true){id:Nat}{f:FR}{σ:St}{Q:MQ}(hD:vw P X loc f)(h:dX P (fS P C) ops (Q .normal) ops.toList f σ):il P (.region id ops true) f σ Q :=
 sL hm hC dj (fun _ _ hd _ _ _ h=>GW hd h) hD h
def O2(hm:P.follows .mixedOrders=true)(L:List FuncId)(C:b9)(hC:pq (.dz L) C)(dj:qE ⟨[],[],none,.dz L,[]⟩ ops=true){id:Nat}{f:FR}{σ:St}{Q:MQ}(h:dX P (fS P C) ops (Q .normal) ops.toList f σ):il P (.region id ops true) f σ Q :=
 O3 (X:=⟨[],[],none,.dz L,[]⟩) (loc:=fun _ _=>True) hm C ⟨hC,trivial⟩ dj ⟨fun t ht=>(by cases ht),fun t t' ht=>(by cases ht),fun p hp=>(by cases hp),fun p hp=>(by cases hp)⟩ h
end
def pU:Op→Bool
 |.call ⟨.value _,_,_⟩|.defer _=>false
 |_=>true
section
variable {P:Program} {C:b9} {MC:FuncId→List MV→St→(MV→St→Prop)→Prop} {f:FR} {σ:St} {Q:MQ} {k:MV→St→Prop} {K:FR→St→Prop} {ops:Array Oper} {rest:List Oper}
def KG{op:Op}(h:pU op=true):Cn P MC f σ k op=mq P f σ k op:=by
 cases op<;>first|rfl|(simp[pU] at h;done)|skip
 rename_i c;obtain⟨callee,args,ts⟩:=c;cases callee<;>first|rfl|(simp[pU] at h;done)
def Hr{id:Nat}{l:List Oper}(hm:P.follows .mixedOrders=true)(dj:(chk l.toArray&&l.all fun o=>pU o.op)=true)(h:R (kB P (fun _ _=>none) (@dk (Array Oper) (nat_lit 0) (@_root_.id (OfNat (Array Oper) (nat_lit 0)) (dl (l.toArray)))) (Q .normal) (@dk (List Oper) (nat_lit 0) (@_root_.id (OfNat (List Oper) (nat_lit 0)) (dl l))) f σ)):R (rD P id (@dk (List Oper) (nat_lit 0) (@_root_.id (OfNat (List Oper) (nat_lit 0)) (dl l))) f σ Q):=by simp only[aa] at dj;exact HT hm dj.1 (fun _ _=>none) h
def aJ{id:Nat}{l:List Oper}(hm:P.follows .mixedOrders=true)(dj:chk l.toArray=true)(C:b9)(h:R (kB P C (@dk (Array Oper) (nat_lit 0) (@_root_.id (OfNat (Array Oper) (nat_lit 0)) (dl (l.toArray)))) (Q .normal) (@dk (List Oper) (nat_lit 0) (@_root_.id (OfNat (List Oper) (nat_lit 0)) (dl l))) f σ)):R (rD P id (@dk (List Oper) (nat_lit 0) (@_root_.id (OfNat (List Oper) (nat_lit 0)) (dl l))) f σ Q) :=
 HT hm dj C h
def vS(ds:List (Nat×Nat))(t:Nat):Nat:=((ds.find? fun p=>p.1==t).map (·.2)).getD 0
theorem An:∀{ds:List (Nat×Nat)},(ds.map (·.1)).Pairwise (·≠·)→∀p,p∈ds→vS ds p.1=p.2
 |[],_,p,hp=>by cases hp
 |q::r,h3,p,hp=>by
  simp only[aN] at h3;obtain⟨b1,b2⟩:=b6.1 h3;rcases bi.1 hp with rfl|dw
  ·simp[vS]
  ·have:(q.1==p.1)=false:=by simpa using b1 p.1 (b8.2 ⟨p,dw,rfl⟩)
   unfold vS;rw[List.find?_cons,this];exact An b2 p dw
def Rq{ds:List (Nat×Nat)}{f:FR}(h1:∀p,p∈ds→∃i o,f.get p.1=.ptr p.2 i o)(h3:(ds.map (·.1)).Pairwise (·≠·)):∀t,t∈ds.map (·.1)→∃i o,f.get t=.ptr (vS ds t) i o:=fun t ht=>by obtain⟨p,hp,rfl⟩:=b8.1 ht;rw[An h3 p hp];exact h1 p hp
def UL{ds:List (Nat×Nat)}(h2:(ds.map (·.2)).Pairwise (·≠·))(h3:(ds.map (·.1)).Pairwise (·≠·)):∀t t',t∈ds.map (·.1)→t'∈ds.map (·.1)→t≠t'→vS ds t≠vS ds t':=fun t t' ht ht' fg=>by
 obtain⟨p,hp,rfl⟩:=b8.1 ht;obtain⟨q,hq,rfl⟩:=b8.1 ht';rw[An h3 p hp,An h3 q hq];intro e;obtain⟨i,hi,e1⟩:=bz.1 hp;obtain⟨j,hj,e2⟩:=bz.1 hq;have hij:i≠j:=fun e=>by subst e;exact fg (by rw[←e1,←e2])
 rw[List.pairwise_iff_getElem] at h2;rcases Nat.lt_or_gt_of_ne hij with bh|tp
 ·have:=h2 i j (by simpa using hi) (by simpa using hj) bh;simp only[List.getElem_map,e1,e2] at this;exact this e
 ·have:=h2 j i (by simpa using hj) (by simpa using hi) tp;simp only[List.getElem_map,e1,e2] at this;exact this e.symm
def vw.of{ds:List (Nat×Nat)}{Rs:List (Nat×Nat)}{dr:Option Nat}{tu:jL}{f:FR}(h1:∀p,p∈ds→∃i o,f.get p.1=.ptr p.2 i o)(h2:(ds.map (·.2)).Pairwise (·≠·))(h3:(ds.map (·.1)).Pairwise (·≠·))(h4:∀p,p∈Rs→p.2∈ds.map (·.1)∧∀l i o,f.get p.1=.ptr l i o→l=vS ds p.2):vw P ⟨ds.map (·.1),Rs,dr,tu,[]⟩ (fun t l=>l=vS ds t) f :=
 ⟨fun t ht=>by obtain⟨i,o,e⟩:=Rq h1 h3 t ht;exact⟨_,i,o,e,rfl⟩,fun t t' ht ht' fg l e1 e2=>UL h2 h3 t t' ht ht' fg (e1.symm.trans e2),h4,fun p hp=>(by cases hp)⟩
def l5{ty:TypeId}{k off:Nat}{ft:TypeId}{fs:List (Nat×TypeId)}(h1:(td P ty).k=.struct fs)(h2:fs[k]?=some (off,ft)):∀x c v,eP P ty x k=some (c,v)→∀l i o,v=.ptr l i o→∃o0,x=.ptr l i o0∧o=o0+off:=by intro x c v h l i o e;subst e;unfold eP at h;rw[h1] at h;simp only[h2] at h;cases x<;>simp at h;obtain⟨-,rfl,rfl,rfl⟩:=h;exact⟨_,rfl,rfl⟩
def Dz{id:Nat}{l:List Oper}(hm:P.follows .mixedOrders=true)(ds:List (Nat×Nat))(Ds:List Nat)(hds:ds.map (·.1)=Ds)(Rs:List (Nat×Nat))(Fs:List FX)(dj:qE ⟨Ds,Rs,none,.no,Fs⟩ l.toArray=true)(C:b9)
 (h1:∀p,p∈ds→∃i o,f.get p.1=.ptr p.2 i o)(h2:(ds.map (·.2)).Pairwise (·≠·))(h3:Ds.Pairwise (·≠·))(h4:∀p,p∈Rs→p.2∈Ds∧∀l i o,f.get p.1=.ptr l i o→l=vS ds p.2)(h5:VM P ⟨Ds,Rs,none,.no,Fs⟩ f)
 (h:R (kB P C (@dk (Array Oper) (nat_lit 0) (@_root_.id (OfNat (Array Oper) (nat_lit 0)) (dl (l.toArray)))) (Q .normal) (@dk (List Oper) (nat_lit 0) (@_root_.id (OfNat (List Oper) (nat_lit 0)) (dl l))) f σ)):R (rD P id (@dk (List Oper) (nat_lit 0) (@_root_.id (OfNat (List Oper) (nat_lit 0)) (dl l))) f σ Q):=by subst hds;have hD:=vw.of (P:=P) (dr:=none) (tu:=.no) h1 h2 h3 h4;exact sL (C:=C.pl) (X:=⟨ds.map (·.1),Rs,none,.no,Fs⟩) (loc:=fun t l=>l=vS ds t) hm (show oO ⟨ds.map (·.1),Rs,none,.no,Fs⟩ (fun t l=>l=vS ds t) C.pl from⟨C.Ir.u,trivial⟩) dj (fun _ _ hd _ _ _ h=>vK hd h) ⟨hD.1,hD.2.1,hD.2.2.1,h5⟩ h
def bP{id:Nat}{l:List Oper}(hm:P.follows .mixedOrders=true)(L:List FuncId)(dj:qE ⟨[],[],none,.dz L,[]⟩ l.toArray=true)(C:b9)(hC:pq (.dz L) C)
 (h:R (dX P (fS P C) (@dk (Array Oper) (nat_lit 0) (@_root_.id (OfNat (Array Oper) (nat_lit 0)) (dl (l.toArray)))) (Q .normal) (@dk (List Oper) (nat_lit 0) (@_root_.id (OfNat (List Oper) (nat_lit 0)) (dl l))) f σ)):R (rD P id (@dk (List Oper) (nat_lit 0) (@_root_.id (OfNat (List Oper) (nat_lit 0)) (dl l))) f σ Q) :=
 O2 hm L C hC dj h
def OS:R (dX P MC ops K [] f σ)=R (K f σ):=rfl
def KJ{dst:Option Tmp}{op:Op}{ty:TypeId}{pos:String}{after:Array Edge}:R (dX P MC ops K (⟨dst,op,ty,pos,after,none⟩::rest) f σ)=R (Cn P MC f σ (fun v af=>dX P MC ops K (@dk (List Oper) (nat_lit 0) (@_root_.id (OfNat (List Oper) (nat_lit 0)) (dl rest))) (bI f dst v) af) op):=congrArg R rfl
def KK{l:List Oper}:R (dX P MC ops K (@dk (List Oper) (nat_lit 0) (@_root_.id (OfNat (List Oper) (nat_lit 0)) (dl l))) f σ)=R (dX P MC ops K l f σ):=congrArg R rfl
def HK{l:List Oper}{dst:Option Tmp}{op:Op}{ty:TypeId}{pos:String}{after:Array Edge}{j:Nat}{want:Bool}:R (dX P MC (@dk (Array Oper) (nat_lit 0) (@_root_.id (OfNat (Array Oper) (nat_lit 0)) (dl (l.toArray)))) K (⟨dst,op,ty,pos,after,some (j,want)⟩::rest) f σ)=R (cP (E (J4 f (pI (@dk (List Oper) (nat_lit 0) (@_root_.id (OfNat (List Oper) (nat_lit 0)) (dl l))) j))) want (Cn P MC f σ (fun v af=>dX P MC (@dk (Array Oper) (nat_lit 0) (@_root_.id (OfNat (Array Oper) (nat_lit 0)) (dl (l.toArray)))) K (@dk (List Oper) (nat_lit 0) (@_root_.id (OfNat (List Oper) (nat_lit 0)) (dl rest))) (bI f dst v) af) op) (dX P MC (@dk (Array Oper) (nat_lit 0) (@_root_.id (OfNat (Array Oper) (nat_lit 0)) (dl (l.toArray)))) K (@dk (List Oper) (nat_lit 0) (@_root_.id (OfNat (List Oper) (nat_lit 0)) (dl rest))) (bI f dst (.ar [])) σ)):=congrArg R (by
 show dX P MC l.toArray K (⟨dst,op,ty,pos,after,some (j,want)⟩::rest) f σ=cP (J4 f (pI l j)) want (Cn P MC f σ (fun v af=>dX P MC l.toArray K rest (bI f dst v) af) op) (dX P MC l.toArray K rest (bI f dst (.ar [])) σ);simp only[dX,fH,Ew];cases pI l j<;>rfl)
def U6{op:Op}(h:pU op=true):R (Cn P MC f σ k op)=R (mq P f σ k op):=by rw[KG h]
def ME(MC:FuncId→List MV→St→(MV→St→Prop)→Prop)(x:MV)(args:List MV)(σ:St)(k:MV→St→Prop):Prop:=match x with
 |.fn (.func g) ms ns=>MC g (ms++args++ns) σ k
 |_=>False
def OL{x:Operand}{args:Array Operand}{ts:Array TypeId}:R (Cn P MC f σ k (.call ⟨.value x,args,ts⟩))=R (ME MC (E (aH f x)) (E (args.toList.map (aH f))) σ k):=congrArg R rfl
def Kl{g:FuncId}{ms ns args:List MV}:R (ME MC (.fn (.func g) ms ns) args σ k)=R (MC g (E (ms++args++ns)) σ k):=congrArg R rfl
def aF{g:FuncId}{ms:List MV}{r:MV}(hC:C g ms=some ⟨[],fun v=>v=r,none⟩)(h:aA P g ms d9 fun v _=>v=r)(hk:R (cD r σ k)):R (rC P C g ms σ k) :=
 .inl ⟨[],_,[],hC,rfl,h.DC,⟨r,rfl⟩,fun v hv=>hv ▸ hk⟩
def UE{g:FuncId}{ms:List MV}(rd:List Nat)(os:List aY){q:MV→Prop}(hC:C g ms=some ⟨rd,q,none⟩)(yl:rd.map σ=os.map some)(h:aA P g ms (ea rd os) fun v af=>q v∧af=ea rd os)(hq:∃v,q v)(hk:∀v,q v→R (cD v σ k)):R (rC P C g ms σ k) :=
 .inl ⟨rd,q,os,hC,yl,h,hq,hk⟩
def AY{g:FuncId}{ms:List MV}{r:MV}(hC:C g ms=some ⟨[],fun v=>v=r,none⟩)(h:aA P g ms d9 fun v _=>v=r)(hk:R (cD r σ k)):R (fS P C g ms σ k) :=
 .inl ⟨[],_,[],hC,rfl,h.DC,⟨r,rfl⟩,fun v hv=>hv ▸ hk⟩
def ofList_nil(ls:List Nat):ea ls []=d9:=by cases ls<;>rfl
def zC{g:FuncId}{ms:List MV}{l:Nat}{rd:List Nat}{q:MV→Prop}{os ts:List aY}{r:MV}(hC:C g ms=some ⟨l::rd,q,some (ts,fun _=>r)⟩)(yl:(l::rd).map σ=os.map some)
 (h:aA P g ms (ea (l::rd) os) fun v af=>v=r∧af=(ea (l::rd) ts).over (ea (l::rd) os))(hk:R (cD r ((ea (l::rd) ts).over σ) k)):R (fS P C g ms σ k) :=
 .inr (.inr ⟨l,rd,q,ts,os,fun _=>r,hC,yl,h,hk⟩)
def kF{g:FuncId}{ms:List MV}{l:Nat}{rd:List Nat}{q:MV→Prop}{o':aY}{os:List aY}{r:MV}(hC:C g ms=some ⟨l::rd,q,some ([o'],fun _=>r)⟩)(yl:(l::rd).map σ=os.map some)
 (h:aA P g ms (ea (l::rd) os) fun v af=>v=r∧af=(ea (l::rd) os).set l o')(hk:R (cD r (σ.set l o') k)):R (fS P C g ms σ k) :=
 zC hC yl (by simp only[ea,ofList_nil,bS,dS];exact h) (by simp only[ea,ofList_nil,bS,dS];exact hk)
def Hc{g:FuncId}{ms:List MV}{l m:Nat}{rd:List Nat}{q:MV→Prop}{o' p':aY}{os:List aY}{r:MV}(hC:C g ms=some ⟨l::m::rd,q,some ([o',p'],fun _=>r)⟩)(yl:(l::m::rd).map σ=os.map some)
 (h:aA P g ms (ea (l::m::rd) os) fun v af=>v=r∧af=((ea (l::m::rd) os).set m p').set l o')(hk:R (cD r ((σ.set m p').set l o') k)):R (fS P C g ms σ k) :=
 zC hC yl (by simp only[ea,ofList_nil,bS,dS];exact h) (by simp only[ea,ofList_nil,bS,dS];exact hk)
def cZ{g:FuncId}{ms:List MV}{l:Nat}{q:MV→Prop}{o o':aY}{r:MV}(hC:C g ms=some ⟨[l],q,some ([o'],fun _=>r)⟩)(ho:σ l=some o)(h:aA P g ms (d9.set l o) fun v af=>v=r∧af=d9.set l o')(hk:R (cD r (σ.set l o') k)):R (fS P C g ms σ k) :=
 kF (os:=[o]) hC (by simp[ho]) (h.mono (by
  rintro v af ⟨h1,rfl⟩;refine⟨h1,funext fun j=>?_⟩;by_cases hj:j=l<;>simp[ea,St.set,hj])) hk
def vQ{g:FuncId}{ms:List MV}(rd:List Nat)(os:List aY){r:MV}(hC:C g ms=some ⟨rd,fun v=>v=r,none⟩)(yl:rd.map σ=os.map some)(h:aA P g ms (ea rd os) fun v af=>v=r∧af=ea rd os)(hk:R (cD r σ k)):R (fS P C g ms σ k) :=
 .inl ⟨rd,_,os,hC,yl,h,⟨r,rfl⟩,fun v hv=>hv ▸ hk⟩
def Re{g:FuncId}{ms:List MV}{rd:List Nat}{q:MV→Prop}{o:aY}{u:Nat→MV}(hC:C g ms=some ⟨rd,q,some ([o],u)⟩)(h:aA P g ms d9 fun v af=>∃l,v=u l∧af=d9.set l o)(hk:∀l,σ l=none→R (cD (u l) (σ.set l o) k)):R (rC P C g ms σ k) :=
 .inr ⟨rd,q,o,u,hC,h,hk⟩
end
attribute [go_sem ↓] KK OS KJ HK OL U6
attribute [go_sem] Kl
noncomputable def kn(L:List (FuncId×List MV×Fact)):b9:=fun g ms=>by classical exact(L.find? fun p=>decide (p.1=g∧p.2.1=ms)).map (·.2.2)
def yD{g:FuncId}{ms:List MV}{F:Fact}{L:List (FuncId×List MV×Fact)}:kn ((g,ms,F)::L) g ms=some F:=by simp[kn]
def Mx{g g':FuncId}{ms ms':List MV}{F F':Fact}{L:List (FuncId×List MV×Fact)}(h:g'=g∧ms'=ms→F'=F)(k:kn L g ms=some F):kn ((g',ms',F')::L) g ms=some F:=by
 by_cases e:g'=g∧ms'=ms
 ·obtain⟨rfl,rfl⟩:=e;rw[yD,h ⟨rfl,rfl⟩]
 ·unfold kn at k ⊢;rw[List.find?_cons_of_neg (by simpa using e)];exact k
def td3:td Tryz.prog 3=⟨true,1,8,true,[.int .i64 0],.int .i64⟩:=by kernel_rfl
def td4:td Tryz.prog 4=⟨true,1,1,true,[.bool false],.bool⟩:=by kernel_rfl
def td5:td Tryz.prog 5=⟨true,1,1,true,[.int .u8 0],.int .u8⟩:=by kernel_rfl
def td9:td Tryz.prog 9=⟨true,1,16,true,[.str ⟨#[]⟩],.str⟩:=by kernel_rfl
def W9:td Tryz.prog 22=⟨true,1,24,true,[.aK],.slice 121⟩:=by kernel_rfl
def LK:td Tryz.prog 23=⟨true,1,4,true,[.int .u32 0],.int .u32⟩:=by kernel_rfl
def Xa:td Tryz.prog 24=⟨true,1,24,true,[.aK],.slice 59⟩:=by kernel_rfl
def Vw:td Tryz.prog 26=⟨true,4,80,true,[.aK,.int .u32 0,.aK,.aK],.struct [(0,22),(1,23),(2,24),(3,24)]⟩:=by kernel_rfl
def YU:td Tryz.prog 30=⟨true,1,8,true,[.int .i64 0],.int .i64⟩:=by kernel_rfl
def YV:td Tryz.prog 33=⟨true,1,8,true,[.cw],.func⟩:=by kernel_rfl
def YW:td Tryz.prog 34=⟨true,1,8,true,[.ej],.ptr 140⟩:=by kernel_rfl
def YX:td Tryz.prog 35=⟨true,1,24,true,[.aK],.slice 126⟩:=by kernel_rfl
def YY:td Tryz.prog 36=⟨true,1,24,true,[.aK],.slice 197⟩:=by kernel_rfl
def YZ:td Tryz.prog 38=⟨true,3,56,true,[.int .i64 0,.aK,.aK],.struct [(0,3),(1,35),(2,36)]⟩:=by kernel_rfl
def CY:td Tryz.prog 39=⟨true,1,24,true,[.aK],.slice 200⟩:=by kernel_rfl
def Y0:td Tryz.prog 41=⟨true,5,88,true,[.int .i64 0,.int .i64 0,.aK,.aK,.aK],.struct [(0,3),(1,38),(4,39)]⟩:=by kernel_rfl
def Y1:td Tryz.prog 44=⟨true,1,8,true,[.ej],.ptr 133⟩:=by kernel_rfl
def Y2:td Tryz.prog 47=⟨true,5,88,true,[.int .i64 0,.int .i64 0,.aK,.aK,.aK],.struct [(0,3),(1,3),(2,35),(3,36),(4,39)]⟩:=by kernel_rfl
def Y3:td Tryz.prog 49=⟨true,1,24,true,[.aK],.slice 47⟩:=by kernel_rfl
def Y4:td Tryz.prog 50=⟨true,1,24,true,[.aK],.slice 73⟩:=by kernel_rfl
def BX:td Tryz.prog 54=⟨true,3,32,true,[.int .i64 0,.int .i64 0,.str ⟨#[]⟩],.struct [(0,3),(1,3),(2,9)]⟩:=by kernel_rfl
def LL:td Tryz.prog 55=⟨true,24,256,true,[.int .i64 0,.int .i64 0,.str ⟨#[]⟩,.int .i64 0,.int .i64 0,.str ⟨#[]⟩,.int .i64 0,.int .i64 0,.str ⟨#[]⟩,.int .i64 0,.int .i64 0,.str ⟨#[]⟩,.int .i64 0,.int .i64 0,.str ⟨#[]⟩,.int .i64 0,.int .i64 0,.str ⟨#[]⟩,.int .i64 0,.int .i64 0,.str ⟨#[]⟩,.int .i64 0,.int .i64 0,.str ⟨#[]⟩],.array 8 54⟩:=by kernel_rfl
def TN:td Tryz.prog 57=⟨true,26,264,true,[.int .u32 0,.int .u32 0,.int .i64 0,.int .i64 0,.str ⟨#[]⟩,.int .i64 0,.int .i64 0,.str ⟨#[]⟩,.int .i64 0,.int .i64 0,.str ⟨#[]⟩,.int .i64 0,.int .i64 0,.str ⟨#[]⟩,.int .i64 0,.int .i64 0,.str ⟨#[]⟩,.int .i64 0,.int .i64 0,.str ⟨#[]⟩,.int .i64 0,.int .i64 0,.str ⟨#[]⟩,.int .i64 0,.int .i64 0,.str ⟨#[]⟩],.struct [(0,23),(1,23),(2,55)]⟩:=by kernel_rfl
def Vx:td Tryz.prog 59=⟨true,29,288,true,[.int .i64 0,.int .i64 0,.int .i64 0,.int .u32 0,.int .u32 0,.int .i64 0,.int .i64 0,.str ⟨#[]⟩,.int .i64 0,.int .i64 0,.str ⟨#[]⟩,.int .i64 0,.int .i64 0,.str ⟨#[]⟩,.int .i64 0,.int .i64 0,.str ⟨#[]⟩,.int .i64 0,.int .i64 0,.str ⟨#[]⟩,.int .i64 0,.int .i64 0,.str ⟨#[]⟩,.int .i64 0,.int .i64 0,.str ⟨#[]⟩,.int .i64 0,.int .i64 0,.str ⟨#[]⟩],.struct [(0,3),(1,3),(2,3),(3,57)]⟩:=by kernel_rfl
def Xb:td Tryz.prog 62=⟨true,1,24,true,[.aK],.slice 164⟩:=by kernel_rfl
def Y5:td Tryz.prog 73=⟨true,2,16,true,[.int .i64 0,.int .i64 0],.struct [(0,3),(1,3)]⟩:=by kernel_rfl
def CZ:td Tryz.prog 75=⟨true,1,24,true,[.aK],.slice 3⟩:=by kernel_rfl
def Y6:td Tryz.prog 77=⟨true,1,24,true,[.aK],.slice 128⟩:=by kernel_rfl
def Y7:td Tryz.prog 79=⟨true,1,8,true,[.ej],.ptr 192⟩:=by kernel_rfl
def Y8:td Tryz.prog 84=⟨true,5,72,true,[.aK,.int .u32 0,.int .i64 0,.int .i64 0,.aK],.struct [(0,22),(1,23),(2,3),(3,3),(4,77)]⟩:=by kernel_rfl
def BW:td Tryz.prog 103=⟨true,4,32,true,[.int .i64 0,.int .i64 0,.int .i64 0,.int .i64 0],.struct [(0,3),(1,3),(2,3),(3,3)]⟩:=by kernel_rfl
def M6:td Tryz.prog 104=⟨true,2,16,true,[.int .i64 0,.int .i64 0],.array 2 3⟩:=by kernel_rfl
def X5:td Tryz.prog 106=⟨true,13,200,true,[.ej,.ej,.int .i64 0,.int .i64 0,.aK,.aK,.aK,.aK,.int .u32 0,.int .i64 0,.int .i64 0,.aK,.aK],.struct [(0,34),(1,44),(2,41),(7,84),(12,49)]⟩:=by kernel_rfl
def Jg:td Tryz.prog 109=⟨true,11,104,true,[.int .i64 0,.bool false,.int .i64 0,.int .i64 0,.int .i64 0,.int .i64 0,.int .i64 0,.int .i64 0,.int .i64 0,.int .i64 0,.aK],.struct [(0,30),(1,4),(2,103),(6,103),(10,62)]⟩:=by kernel_rfl
def M7:td Tryz.prog 121=⟨true,5,48,true,[.int .i64 0,.int .i64 0,.int .i64 0,.int .i64 0,.str ⟨#[]⟩],.struct [(0,3),(1,3),(2,54)]⟩:=by kernel_rfl
def TL:td Tryz.prog 126=⟨true,27,280,true,[.int .i64 0,.int .i64 0,.int .u32 0,.int .i64 0,.int .i64 0,.str ⟨#[]⟩,.int .i64 0,.int .i64 0,.str ⟨#[]⟩,.int .i64 0,.int .i64 0,.str ⟨#[]⟩,.int .i64 0,.int .i64 0,.str ⟨#[]⟩,.int .i64 0,.int .i64 0,.str ⟨#[]⟩,.int .i64 0,.int .i64 0,.str ⟨#[]⟩,.int .i64 0,.int .i64 0,.str ⟨#[]⟩,.int .i64 0,.int .i64 0,.str ⟨#[]⟩],.struct [(0,3),(1,3),(2,23),(3,55)]⟩:=by kernel_rfl
def X6:td Tryz.prog 128=⟨true,31,312,true,[.int .i64 0,.int .i64 0,.int .i64 0,.int .i64 0,.int .i64 0,.int .i64 0,.int .u32 0,.int .i64 0,.int .i64 0,.str ⟨#[]⟩,.int .i64 0,.int .i64 0,.str ⟨#[]⟩,.int .i64 0,.int .i64 0,.str ⟨#[]⟩,.int .i64 0,.int .i64 0,.str ⟨#[]⟩,.int .i64 0,.int .i64 0,.str ⟨#[]⟩,.int .i64 0,.int .i64 0,.str ⟨#[]⟩,.int .i64 0,.int .i64 0,.str ⟨#[]⟩,.int .i64 0,.int .i64 0,.str ⟨#[]⟩],.struct [(0,3),(1,3),(2,3),(3,3),(4,126)]⟩:=by kernel_rfl
def TM:td Tryz.prog 131=⟨true,1,8,true,[.kp],.map 3 3⟩:=by kernel_rfl
def X7:td Tryz.prog 133=⟨true,6,64,true,[.ej,.int .u32 0,.kp,.int .i64 0,.int .i64 0,.aK],.struct [(0,79),(1,23),(2,131),(3,3),(4,3),(5,77)]⟩:=by kernel_rfl
def X8:td Tryz.prog 138=⟨true,1,8,true,[.ej],.ptr 251⟩:=by kernel_rfl
def X9:td Tryz.prog 140=⟨true,3,40,true,[.int .i64 0,.ej,.aK],.struct [(0,3),(1,138),(2,39)]⟩:=by kernel_rfl
def Ya:td Tryz.prog 141=⟨true,1,8,true,[.cw],.func⟩:=by kernel_rfl
def Yb:td Tryz.prog 142=⟨true,7,56,true,[.cw,.cw,.cw,.cw,.cw,.cw,.cw],.array 7 141⟩:=by kernel_rfl
def V4:td Tryz.prog 164=⟨true,28,288,true,[.int .i64 0,.int .i64 0,.int .i64 0,.int .u32 0,.int .i64 0,.int .i64 0,.str ⟨#[]⟩,.int .i64 0,.int .i64 0,.str ⟨#[]⟩,.int .i64 0,.int .i64 0,.str ⟨#[]⟩,.int .i64 0,.int .i64 0,.str ⟨#[]⟩,.int .i64 0,.int .i64 0,.str ⟨#[]⟩,.int .i64 0,.int .i64 0,.str ⟨#[]⟩,.int .i64 0,.int .i64 0,.str ⟨#[]⟩,.int .i64 0,.int .i64 0,.str ⟨#[]⟩],.struct [(0,3),(1,126)]⟩:=by kernel_rfl
def Yc:td Tryz.prog 182=⟨true,1,4,true,[.int .u32 0],.struct [(0,180),(0,23)]⟩:=by kernel_rfl
def Yd:td Tryz.prog 186=⟨true,2,8,true,[.int .i32 0,.int .u32 0],.struct [(0,179),(0,184)]⟩:=by kernel_rfl
def Ye:td Tryz.prog 188=⟨true,3,12,true,[.int .u32 0,.int .i32 0,.int .u32 0],.struct [(0,179),(0,182),(1,186)]⟩:=by kernel_rfl
def Yf:td Tryz.prog 190=⟨true,1,8,true,[.cw],.func⟩:=by kernel_rfl
def Yg:td Tryz.prog 192=⟨true,5,48,true,[.aK,.int .u32 0,.int .i32 0,.int .u32 0,.cw],.struct [(0,22),(1,188),(4,190)]⟩:=by kernel_rfl
def Yh:td Tryz.prog 197=⟨true,3,24,true,[.int .i64 0,.int .i64 0,.int .i64 0],.struct [(0,3),(1,3),(2,3)]⟩:=by kernel_rfl
def oF:td Tryz.prog 200=⟨true,2,32,true,[.int .i64 0,.aK],.struct [(0,3),(1,75)]⟩:=by kernel_rfl
def Yi:td Tryz.prog 208=⟨true,3,24,true,[.cw,.cw,.cw],.array 3 33⟩:=by kernel_rfl
def Yj:td Tryz.prog 214=⟨true,1,24,true,[.aK],.slice 22⟩:=by kernel_rfl
def Jh:td Tryz.prog 249=⟨true,1,8,true,[.kp],.map 3 126⟩:=by kernel_rfl
def Yk:td Tryz.prog 251=⟨true,3,40,true,[.int .i64 0,.kp,.aK],.struct [(0,3),(1,249),(2,36)]⟩:=by kernel_rfl
def Yl:td Tryz.prog 255=⟨true,4,32,true,[.int .i64 0,.int .i64 0,.int .i64 0,.int .i64 0],.array 4 3⟩:=by kernel_rfl
def Ym:td Tryz.prog 263=⟨true,1,8,true,[.int .u64 0],.int .u64⟩:=by kernel_rfl
def Yn:td Tryz.prog 276=⟨true,1,8,true,[.kp],.map 3 128⟩:=by kernel_rfl
def V5:td Tryz.prog 325=⟨true,32,32,true,List.replicate 32 (.int .u8 0),.array 32 5⟩:=by kernel_rfl
def Yo:td Tryz.prog 327=⟨true,1,24,true,[.aK],.slice 5⟩:=by kernel_rfl
def XK:dU Tryz.prog 54=true:=by kernel_rfl
def Wn:dU Tryz.prog 103=true:=by kernel_rfl
def mixed:Tryz.prog.follows .mixedOrders=true:=by kernel_rfl
def wD{id:Nat}{l:List Oper}{f:FR}{σ:St}{Q:MQ}(dj:(chk l.toArray&&l.all fun o=>pU o.op)=true)(h:R (kB Tryz.prog (fun _ _=>none) (@dk (Array Oper) (nat_lit 0) (@_root_.id (OfNat (Array Oper) (nat_lit 0)) (dl (l.toArray)))) (Q .normal) (@dk (List Oper) (nat_lit 0) (@_root_.id (OfNat (List Oper) (nat_lit 0)) (dl l))) f σ)):R (rD Tryz.prog id (@dk (List Oper) (nat_lit 0) (@_root_.id (OfNat (List Oper) (nat_lit 0)) (dl l))) f σ Q):=Hr mixed dj h
def wO{p q:Prop}(h:q)(e:q→p:=by
  intro h;with_reducible first|(refine wN fun a ha=>?_;revert ha;(repeat refine wS fun _ _=>?_);revert a;exact h)|exact wD (by decide +kernel) h):p:=e h
def wM{p q:Prop}(h:q)(e:q→p:=by
  intro h;with_reducible (refine wN fun a ha=>?_;revert ha;(repeat refine wS fun _ _=>?_);revert a;exact h)):p:=e h
def wV{p q:Prop}(h:q)(e:q→p:=by
  intro h;with_reducible exact wD (by decide +kernel) h):p:=e h
def wY{p a b:Prop}(x:a)(y:b)(e:a→b→p:=by
  intro x y;with_reducible first|exact wI x y|exact wF x y|exact wG x y|exact wH x y|((first|refine cY (fun h=>?_) fun h=>?_|refine cL (fun h=>?_) fun h=>?_);(·simp only[h];revert h;exact x);(·simp only[h];revert h;exact y))):p:=e x y
def sS{p:Prop}(h:p:=by simp[St.set, *]):p:=h
def dK{p:Prop}(h:p:=by decide +kernel):p:=h
def wW{p:Prop}(h:p:=by
  simp(maxSteps:=4000000)(disch:=first|exact gd|fail) only[go_sem,simprocAttr,bE,aX];all_goals first|rfl|exact .same _|(simp;done)|(simp[aX];done)):p:=h
def lE{p:Prop}(h:p:=by first|exact⟨_,ba,rfl⟩|exact⟨_,ba⟩|(exfalso;omega)):p:=h
def mB{P:Program}{g:FuncId}{fn:Func}{c:Code}{ms:List MV}{σ:St}{Q:MV→St→Prop}(n:Nat)(rs:List ResultVar)(hf:P.funcs[g]?=some fn)(h:R (eE P (@dk Code (nat_lit 0) (@_root_.id (OfNat Code (nat_lit 0)) (dl c))) ⟨n,jD 0 ms,[]⟩ σ (Pw P rs Q)))(hb:fn.body=some c:=by rfl)(hn:(fn.name=="runtime.NumGoroutine")=false:=by rfl)(ZH:max fn.ntmps ms.length=n:=by rfl)(tq:fn.results.toList=rs:=by rfl):aA P g ms σ Q:=aA.body n rs hf hb hn ZH tq h
def ed{p q:Prop}(h:q)(e:q→p:=by intro h;simp(maxSteps:=4000000)(disch:=first|exact gd|fail) only[go_sem,simprocAttr];exact h):p:=e h
def aw{p q A1:Prop}(a:A1)(h:q)(e:A1→q→p:=by intro a h;simp(maxSteps:=4000000)(disch:=first|exact gd|fail) only[go_sem,simprocAttr,a];exact h):p:=e a h
def bu{p q A1 B1:Prop}(a:A1)(b:B1)(h:q)(e:A1→B1→q→p:=by intro a b h;simp(maxSteps:=4000000)(disch:=first|exact gd|fail) only[go_sem,simprocAttr,a,b];exact h):p:=e a b h
def fx{p q A1 B1 C1:Prop}(a:A1)(b:B1)(c:C1)(h:q)(e:A1→B1→C1→q→p:=by intro a b c h;simp(maxSteps:=4000000)(disch:=first|exact gd|fail) only[go_sem,simprocAttr,a,b,c];exact h):p:=e a b c h
def jf{p q A1 B1 C1 D1:Prop}(a:A1)(b:B1)(c:C1)(d:D1)(h:q)(e:A1→B1→C1→D1→q→p:=by intro a b c d h;simp(maxSteps:=4000000)(disch:=first|exact gd|fail) only[go_sem,simprocAttr,a,b,c,d];exact h):p:=e a b c d h
def wZ5{p q A1 B1 C1 D1 F1:Prop}(a:A1)(b:B1)(c:C1)(d:D1)(f:F1)(h:q)(e:A1→B1→C1→D1→F1→q→p:=by intro a b c d f h;simp(maxSteps:=4000000)(disch:=first|exact gd|fail) only[go_sem,simprocAttr,a,b,c,d,f];exact h):p:=e a b c d f h
def xv{p q A1 B1 C1 D1 F1 G1:Prop}(a:A1)(b:B1)(c:C1)(d:D1)(f:F1)(g:G1)(h:q)(e:A1→B1→C1→D1→F1→G1→q→p:=by intro a b c d f g h;simp(maxSteps:=4000000)(disch:=first|exact gd|fail) only[go_sem,simprocAttr,a,b,c,d,f,g];exact h):p:=e a b c d f g h
def wh{p q A1 B1 C1 D1 F1 G1 I1:Prop}(a:A1)(b:B1)(c:C1)(d:D1)(f:F1)(g:G1)(i:I1)(h:q)(e:A1→B1→C1→D1→F1→G1→I1→q→p:=by intro a b c d f g i h;simp(maxSteps:=4000000)(disch:=first|exact gd|fail) only[go_sem,simprocAttr,a,b,c,d,f,g,i];exact h):p:=e a b c d f g i h
def vu{p q A1 B1 C1 D1 F1 G1 I1 J1:Prop}(a:A1)(b:B1)(c:C1)(d:D1)(f:F1)(g:G1)(i:I1)(j:J1)(h:q)(e:A1→B1→C1→D1→F1→G1→I1→J1→q→p:=by intro a b c d f g i j h;simp(maxSteps:=4000000)(disch:=first|exact gd|fail) only[go_sem,simprocAttr,a,b,c,d,f,g,i,j];exact h):p:=e a b c d f g i j h
def wZ9{p q A1 B1 C1 D1 F1 G1 I1 J1 K1:Prop}(a:A1)(b:B1)(c:C1)(d:D1)(f:F1)(g:G1)(i:I1)(j:J1)(k:K1)(h:q)(e:A1→B1→C1→D1→F1→G1→I1→J1→K1→q→p:=by intro a b c d f g i j k h;simp(maxSteps:=4000000)(disch:=first|exact gd|fail) only[go_sem,simprocAttr,a,b,c,d,f,g,i,j,k];exact h):p:=e a b c d f g i j k h
def wZ11{p q A1 B1 C1 D1 F1 G1 I1 J1 K1 L1 M1:Prop}(a:A1)(b:B1)(c:C1)(d:D1)(f:F1)(g:G1)(i:I1)(j:J1)(k:K1)(l:L1)(m:M1)(h:q)(e:A1→B1→C1→D1→F1→G1→I1→J1→K1→L1→M1→q→p:=by intro a b c d f g i j k l m h;simp(maxSteps:=4000000)(disch:=first|exact gd|fail) only[go_sem,simprocAttr,a,b,c,d,f,g,i,j,k,l,m];exact h):p:=e a b c d f g i j k l m h
def wZ12{p q A1 B1 C1 D1 F1 G1 I1 J1 K1 L1 M1 N1:Prop}(a:A1)(b:B1)(c:C1)(d:D1)(f:F1)(g:G1)(i:I1)(j:J1)(k:K1)(l:L1)(m:M1)(n:N1)(h:q)(e:A1→B1→C1→D1→F1→G1→I1→J1→K1→L1→M1→N1→q→p:=by intro a b c d f g i j k l m n h;simp(maxSteps:=4000000)(disch:=first|exact gd|fail) only[go_sem,simprocAttr,a,b,c,d,f,g,i,j,k,l,m,n];exact h):p:=e a b c d f g i j k l m n h
def wZ13{p q A1 B1 C1 D1 F1 G1 I1 J1 K1 L1 M1 N1 O1:Prop}(a:A1)(b:B1)(c:C1)(d:D1)(f:F1)(g:G1)(i:I1)(j:J1)(k:K1)(l:L1)(m:M1)(n:N1)(o:O1)(h:q)(e:A1→B1→C1→D1→F1→G1→I1→J1→K1→L1→M1→N1→O1→q→p:=by intro a b c d f g i j k l m n o h;simp(maxSteps:=4000000)(disch:=first|exact gd|fail) only[go_sem,simprocAttr,a,b,c,d,f,g,i,j,k,l,m,n,o];exact h):p:=e a b c d f g i j k l m n o h
def wZ14{p q A1 B1 C1 D1 F1 G1 I1 J1 K1 L1 M1 N1 O1 R1:Prop}(a:A1)(b:B1)(c:C1)(d:D1)(f:F1)(g:G1)(i:I1)(j:J1)(k:K1)(l:L1)(m:M1)(n:N1)(o:O1)(r:R1)(h:q)(e:A1→B1→C1→D1→F1→G1→I1→J1→K1→L1→M1→N1→O1→R1→q→p:=by intro a b c d f g i j k l m n o r h;simp(maxSteps:=4000000)(disch:=first|exact gd|fail) only[go_sem,simprocAttr,a,b,c,d,f,g,i,j,k,l,m,n,o,r];exact h):p:=e a b c d f g i j k l m n o r h
def ll{p:Prop}(e:p:=by simp(maxSteps:=4000000)(disch:=first|exact gd|fail) only[go_sem,simprocAttr]):p:=e
def ev{p A1:Prop}(a:A1)(e:A1→p:=by intro a;simp(maxSteps:=4000000)(disch:=first|exact gd|fail) only[go_sem,simprocAttr,a]):p:=e a
def fk{p A1 B1:Prop}(a:A1)(b:B1)(e:A1→B1→p:=by intro a b;simp(maxSteps:=4000000)(disch:=first|exact gd|fail) only[go_sem,simprocAttr,a,b]):p:=e a b
def tk{p A1 B1 C1:Prop}(a:A1)(b:B1)(c:C1)(e:A1→B1→C1→p:=by intro a b c;simp(maxSteps:=4000000)(disch:=first|exact gd|fail) only[go_sem,simprocAttr,a,b,c]):p:=e a b c
def ZY{p A1 B1 C1 D1:Prop}(a:A1)(b:B1)(c:C1)(d:D1)(e:A1→B1→C1→D1→p:=by intro a b c d;simp(maxSteps:=4000000)(disch:=first|exact gd|fail) only[go_sem,simprocAttr,a,b,c,d]):p:=e a b c d
def wC5{p A1 B1 C1 D1 F1:Prop}(a:A1)(b:B1)(c:C1)(d:D1)(f:F1)(e:A1→B1→C1→D1→F1→p:=by intro a b c d f;simp(maxSteps:=4000000)(disch:=first|exact gd|fail) only[go_sem,simprocAttr,a,b,c,d,f]):p:=e a b c d f
def wC6{p A1 B1 C1 D1 F1 G1:Prop}(a:A1)(b:B1)(c:C1)(d:D1)(f:F1)(g:G1)(e:A1→B1→C1→D1→F1→G1→p:=by intro a b c d f g;simp(maxSteps:=4000000)(disch:=first|exact gd|fail) only[go_sem,simprocAttr,a,b,c,d,f,g]):p:=e a b c d f g
def yz{p A1 B1 C1 D1 F1 G1 I1:Prop}(a:A1)(b:B1)(c:C1)(d:D1)(f:F1)(g:G1)(i:I1)(e:A1→B1→C1→D1→F1→G1→I1→p:=by intro a b c d f g i;simp(maxSteps:=4000000)(disch:=first|exact gd|fail) only[go_sem,simprocAttr,a,b,c,d,f,g,i]):p:=e a b c d f g i
def xu{p A1 B1 C1 D1 F1 G1 I1 J1:Prop}(a:A1)(b:B1)(c:C1)(d:D1)(f:F1)(g:G1)(i:I1)(j:J1)(e:A1→B1→C1→D1→F1→G1→I1→J1→p:=by intro a b c d f g i j;simp(maxSteps:=4000000)(disch:=first|exact gd|fail) only[go_sem,simprocAttr,a,b,c,d,f,g,i,j]):p:=e a b c d f g i j
attribute [go_sem] td3 td4 td5 td9 W9 LK Xa Vw YU YV YW YX YY YZ CY Y0 Y1 Y2 Y3 Y4 BX LL TN Vx Xb Y5 CZ Y6 Y7 Y8 BW M6 X5 Jg M7 TL X6 TM X7 X8 X9 Ya Yb V4 Yc Yd Ye Yf Yg Yh oF Yi Yj Jh Yk Yl Ym Yn V5 Yo XK Wn
def oP.view{σ:St}{m m':MV}(h:oP m m'):View σ m m':=by
 cases h with
 |same=>exact .same _
 |bw=>exact .bw _
 |nil e t=>exact .nil e t
 |tight e xs=>exact .tight e xs
def aR.nest{n:Nat}{l l1:List (Nat×MV)}{d:List (FuncId×List MV)}{σ:St}{q m:Nat}{t t1:TypeId}{e1:Nat}{pre post ys:List (List MV)}{n1:Nat}(eh:St)
 (hm:σ m=some (.row t1 e1 ys))(hq:σ q=some (.row t 1 (pre++[.vec e1 m 0 n1]::post)))(hn:n1=ys.length)(h2:eh.le σ)(h2m:eh m=none)(fg:q≠m)
 (hw:∀p,p∈l1→oP (cV l p.1) p.2):aR ⟨n,l,d⟩ σ ⟨n,l1,d⟩ (eh.set q (.row t 1 (pre++[.aj e1 ys false]::post))):=by
 subst hn;have hv:(d9.set m (.row t1 e1 ys)) m=some (.row t1 e1 ys):=cj;refine aR.qU (d9.set m (.row t1 e1 ys)) (St.aB bt hm) (fun k o1 hk=>?_) (fun k o hk=>?_) fun p hp=>(hw p hp).view
 ·by_cases h:k=q
  ·subst h;rw[aD] at hk;cases hk;refine⟨_,hq,.inr ⟨t,1,_,_,rfl,rfl,ax,fun i x x1 hx pw=>?_⟩⟩;rcases Nat.lt_trichotomy i pre.length with hi|hi|hi
   ·rw[ci hi] at hx pw;rw[hx] at pw;cases pw;exact⟨rfl,fun j a b ha hb=>by rw[ha] at hb;cases hb;exact .inl rfl⟩
   ·subst hi;rw[a7 (c8 _),Nat.sub_self] at hx pw;simp only[ap,d0] at hx pw;subst hx;subst pw;refine⟨rfl,fun j a b ha hb=>?_⟩;cases j with
    |zero =>
     simp only[ap,d0] at ha hb;subst ha;subst hb;exact .inr ⟨rfl,.cq hv rfl⟩
    |succ j=>simp at ha
   ·rw[a7 oM] at hx pw;obtain⟨j,hj⟩:∃j,i-pre.length=j+1:=⟨i-pre.length-1,oM⟩
    rw[hj,ck] at hx pw;rw[hx] at pw;cases pw;exact⟨rfl,fun j a b ha hb=>by rw[ha] at hb;cases hb;exact .inl rfl⟩
  ·rw[cn h] at hk;exact⟨o1,h2 k o1 hk,.inl rfl⟩
 ·by_cases h:k=m
  ·subst h;by_cases hq':k=q
   ·exact absurd hq'.symm fg
   ·rw[cn hq',h2m] at hk;cases hk
  ·exact cn h ▸ rfl
def aA.pre{P:Program}{g:FuncId}{ms ms':List MV}{σ eh:St}{Q:MV→St→Prop}(hl:ms.length=ms'.length)(hg:aR ⟨ms.length,jD 0 ms,[]⟩ σ ⟨ms.length,jD 0 ms',[]⟩ eh)(h:aA P g ms' eh Q):aA P g ms σ Q:=by
 refine⟨h.1,fun Φ w vs hi hr=>?_⟩;obtain⟨-,hg⟩:=hg;obtain⟨ei,i1,r1,s1⟩:=hg Φ w vs hi ⟨hr.1,fun t=>by
  simp only[FR.get,rZ,de,dd,if_true];cases hm:ms[t]? with
  |none=>exact .bw _
  |some m=>exact hr.2 t m hm⟩
 refine(h.2 ei w vs i1 ⟨hr.1.trans hl,fun i m hm=>?_⟩).mono ?_
 ·have:=r1.2 i;simp only[FR.get,rZ,de,dd,if_true,hm] at this;exact this
 ·rintro e w' ⟨v,mv,af,Φ',rfl,q1,q2,q3,hq⟩;exact⟨v,mv,af,Φ',rfl,q1,q2,s1.trans q3,hq⟩
theorem DB:∀{ms:List MV} {i:Nat} {p:Nat×MV},p∈jD i ms→∃j,p.1=i+j∧ms[j]?=some p.2
 |[],_,_,h=>by simp[jD] at h
 |m::ms,i,p,h=>by
  rw[jD,bi] at h;rcases h with rfl|h
  ·exact⟨0,rfl,rfl⟩
  ·obtain⟨j,h1,h2⟩:=DB h;exact⟨j+1,oM,by simpa using h2⟩
def TZ{P:Program}{g:FuncId}{ms:List MV}(ms':List MV){σ:St}(jk eh:St){r:MV}{k:MV→St→Prop}(h:aA P g ms' d9 fun v _=>v=r)(hle:jk.le σ)(h2:eh.le σ)(hd:∀k o,eh k=some o→jk k=none)
 (hl:ms.length=ms'.length)(hv:∀(i:Nat) (m m':MV),ms[i]?=some m→ms'[i]?=some m'→View jk m m')(hk:R (cD r eh k)):R (dR P g ms σ k):=by
 refine aA.pre hl (aR.freeze jk hle h2 hd fun p hp=>?_) (aC h hk);obtain⟨j,h1,h3⟩:=DB hp;rw[h1,rZ];simp only[Nat.zero_add,dd,if_true,de];have hj:=(List.getElem?_eq_some_iff.1 h3).1;obtain⟨m,hm⟩:∃m,ms[j]?=some m:=⟨ms[j]'oM,ax⟩
 rw[hm];exact hv j m _ hm h3
def Qc{P:Program}{g:FuncId}{ms:List MV}(ms':List MV){σ:St}(l:Nat){o:aY}{r:MV}{k:MV→St→Prop}(h:aA P g ms' d9 fun v _=>v=r)(ho:σ l=some o)
 (hl:ms.length=ms'.length)(hv:∀(i:Nat) (m m':MV),ms[i]?=some m→ms'[i]?=some m'→View (d9.set l o) m m')(hk:R (cD r (σ.del l) k)):R (dR P g ms σ k) :=
 TZ ms' (d9.set l o) (σ.del l) h (St.aB bt ho) (fun j q hq=>by
  simp only[St.del] at hq;split at hq
  ·cases hq
  ·exact hq) (fun j q hq=>by
  simp only[St.del] at hq;split at hq
  ·cases hq
  ·exact cn bc) hl hv hk
def yZ{σ:St}{a a':MV}(h:View σ a a'):∀(i:Nat) (m m':MV),[a][i]?=some m→[a'][i]?=some m'→View σ m m':=fun i m m' h1 h2=>by
 match i,h1,h2 with
 |0,h1,h2=>simp only[ap,d0] at h1 h2;subst h1 h2;exact h
def sT{σ:St}{a b a' b':MV}(h:View σ a a')(k:View σ b b'):∀(i:Nat) (m m':MV),[a,b][i]?=some m→[a',b'][i]?=some m'→View σ m m':=fun i m m' h1 h2=>by
 match i,h1,h2 with
 |0,h1,h2=>simp only[ap,d0] at h1 h2;subst h1 h2;exact h
 |1,h1,h2=>simp only[ck,ap,d0] at h1 h2;subst h1 h2;exact k
class Sfx (bs:BL) (r:RD):Prop where
 h:r.l <:+ bs
instance {bs:BL} {c:Prop} [Decidable c] {r s:RD} [h:Sfx bs r] [k:Sfx bs s]:Sfx bs (if c then r else s):=by
 split
 ·exact h
 ·exact k
theorem Sfx.len{bs:BL}{r:RD}(h:Sfx bs r):r.l.length≤bs.length:=h.h.length_le
def Sfx.drop{bs:BL}{r:RD}(h:Sfx bs r):bs.drop (bs.length-r.l.length)=r.l:=by obtain⟨a,e⟩:=h.h;rw[←e];simp
def cB{P:Program}{g:FuncId}{ms:List MV}{σ:St}{l:Nat}{o o':aY}{r:MV}{k:MV→St→Prop}(hs:σ l=some o)(h:aA P g ms (d9.set l o) fun v af=>v=r∧af=d9.set l o')(hk:R (cD r (σ.set l o') k)):R (dR P g ms σ k):=by
 refine bU h (St.aB bt hs) ?_;rintro v af ⟨rfl,rfl⟩ -;have e:(d9.set l o').over (σ.minus (d9.set l o))=σ.set l o':=by
  funext j;by_cases h:j=l
  ·subst h;simp[St.over,St.set]
  ·simp[St.over,St.set,St.minus,h,d9]
 rw[e];exact hk
def W4(l:List (Nat×MV))(e k:Nat):List (Nat×MV)→Prop
 |[]=>True
 |p::r=>(cV l p.1=p.2∨(p.2=.vec e k 0 0∧(cV l p.1=.aK∨cV l p.1=.aj e [] true)))∧W4 l e k r
theorem IX{l:List (Nat×MV)}{e k:Nat}:∀{l1:List (Nat×MV)},W4 l e k l1→∀p,p∈l1→cV l p.1=p.2∨(p.2=.vec e k 0 0∧(cV l p.1=.aK∨cV l p.1=.aj e [] true))
 |[],_,p,hp=>absurd hp (List.not_mem_nil)
 |q::r,h,p,hp=>by
  rcases bi.1 hp with rfl|hp
  ·exact h.1
  ·exact IX h.2 p hp
def Gh.yN{n:Nat}{l:List (Nat×MV)}{d:List (FuncId×List MV)}{σ:St}{K:FR→St→Prop}(t:TypeId)(e:Nat)(l1:Nat→List (Nat×MV))(h1:∀k,W4 l e k (l1 k))
 (h:∀k,σ k=none→Gh ⟨n,l1 k,d⟩ (σ.set k (.row t e [])) K):Gh ⟨n,l,d⟩ σ K:=Gh.row t e l1 (fun k=>IX (h1 k)) h
def aA.obj{P:Program}{g:FuncId}{ms:List MV}{σ:St}{X:MV}{l:Nat}{o:aY}(h:aA P g ms σ fun v af=>v=X∧af l=some o):aA P g ms σ fun v af=>v=X∧af=d9.set l o :=
 h.less fun v af k=>⟨d9.set l o,St.aB bt k.2,k.1,rfl⟩
def F8.ext{f g:F8}(h:∀i,i<8→f.get i=g.get i):f=g:=by
 obtain⟨a,ha⟩:=f;obtain⟨b,hb⟩:=g;have:a=b:=by apply List.ext_getElem oM;intro i h1 h2;have:=h i oM;simpa[F8.get,bp,h1,h2] using this
 subst this;rfl
def F8.Mo(f:F8)(i j:Nat)(v:VA)(hi:i<8):(f.set i v).get j=if i=j then v else f.get j:=by
 have:=f.h;simp only[F8.get,F8.set,ao,List.getElem?_set];split
 ·rename_i e;subst e;rw[if_pos oM];rfl
 ·rfl
def F8.LZ(f:F8)(p:VA→Bool):f.l.all p=true↔∀i,i<8→p (f.get i)=true:=by
 rw[aI];constructor
 ·intro h i hi;refine h _ ?_;have:i<f.l.length:=by rw[f.h];exact hi
  rw[F8.get,ao,bv this];exact List.getElem_mem _
 ·intro h x hx;obtain⟨i,hi,rfl⟩:=bz.1 hx;have:=h i (by rw[←f.h];exact hi)
  rwa [F8.get,ao,bv hi] at this
def VI{v:VA}(h:fW v=true)(h0:v.kd=0):v=ir:=by
 rcases (T3 v).1 h with⟨_,h⟩|⟨h,_⟩|⟨h,_⟩
 ·exact h
 ·omega
 ·omega
def VB{n:Int}(h0:0≤n)(h:n≤4294967295):((UInt32.ofNat n.toNat).toNat:Int)=n:=by rw[UInt32.toNat_ofNat',Nat.mod_eq_of_lt oM];omega
def Sk.cond{α:Type}{f:RD→α×RD}(h:Sk f)(d:α)(b:Bool):Sk (fun r=>if b=true then f r else(d,r)):=⟨fun r hr=>by
 cases b
 ·rfl
 ·simpa using h.stk r hr,fun r=>by
 cases b
 ·exact List.suffix_refl _
 ·simpa using h.sfx r⟩
def Rt.cond{α:Type}{f:RD→α×RD}{ok:α→Prop}{w:α→BL}(h:Rt f ok w)(d:α)(b:Bool):Rt (fun r=>if b=true then f r else(d,r)) (fun x=>if b=true then ok x else x=d) (fun x=>if b=true then w x else[]) where
 fwd x l hx:=by
  cases b
  ·simp only[ab,if_false,be] at hx ⊢;rw[hx]
  ·simp only[if_true] at hx ⊢;exact h.fwd x l hx
 bck r hr:=by
  cases b
  ·exact⟨by simpa using hr,ax,ax⟩
  ·simp only[if_true] at hr ⊢;exact h.bck r hr
section
variable {α:Type} {f:RD→α×RD} {ok:α→Prop} {w:α→BL}
end
section
variable {c:Prop} [Decidable c] {e:Int} {r:RD} {l:BL}
end
def Ix(l:List ND):bR l=0↔l.length≤31∧l≠[]∧jK l 0=l.length∧l.all gB=true∧jM l≤8:=by
 unfold bR;by_cases h1:31<l.length
 ·rw[if_pos h1];constructor
  ·intro h;cases h
  ·intro h;omega
 ·rw[if_neg h1];by_cases h2:l=[]∨jK l 0≠l.length∨l.all gB=false
  ·rw[if_pos h2];constructor
   ·intro h;cases h
   ·rintro⟨_,k1,k2,k3,_⟩;rcases h2 with hc|hc|hc
    ·exact absurd hc k1
    ·exact absurd k2 hc
    ·rw[k3] at hc;cases hc
  ·rw[if_neg h2];by_cases h3:8<jM l
   ·rw[if_pos h3];constructor
    ·intro h;cases h
    ·rintro⟨_,_,_,_,k⟩;exact absurd h3 (Nat.not_lt.2 k)
   ·rw[if_neg h3];refine⟨fun _=>⟨da h1,fun h=>h2 (.inl h),Classical.byContradiction fun h=>h2 (.inr (.inl h)),?_,da h3⟩,fun _=>rfl⟩;cases h:l.all gB
    ·exact absurd (.inr (.inr h)) h2
    ·rfl
def fc(f:F8):List MV:=(f.l.map VA.c).flatten
def Xi(l:List VA):(l.map VA.c).flatten.length=3*l.length:=by
 induction l with
 |nil=>rfl
 |cons v l ih=>simp only[aN,a6,cy,bg,List.length_nil,ih];omega
theorem Aw:∀(l:List VA) (i:Nat),((l.map VA.c).flatten).drop (i*3)=((l.drop i).map VA.c).flatten
 |_,0=>ax
 |[],i+1=>ax
 |v::l,i+1=>by have:=Aw l i;rw[show(i+1)*3=i*3+3 by omega];simp only[aN,a6,az,be,List.drop_succ_cons];exact this
theorem Nd:∀(l:List VA) (i:Nat),((l.map VA.c).flatten).take (i*3)=((l.take i).map VA.c).flatten
 |_,0=>ax
 |[],i+1=>ax
 |v::l,i+1=>by have:=Nd l i;rw[show(i+1)*3=i*3+3 by omega];simp only[aN,a6,az,be,List.take_succ_cons];rw[this]
def VH(l:List VA):((l.map VA.c).flatten).all MV.aP=true:=by
 induction l with
 |nil=>rfl
 |cons v l ih =>
  simp only[aN,a6,az,be,List.all_cons,ih];rfl
def dD(f:F8):(fc f).length=24:=by rw[fc,Xi,f.h]
def dV(f:F8):(fc f).all MV.aP=true:=VH f.l
def Mi{f:F8}{r:List MV}{n:Nat}(h:24≤n):(fc f++r).take n=fc f++r.take (n-24):=by rw[List.take_append,cm (by rw[dD];exact h),dD]
def jQ{f:F8}{n:Nat}(h:24≤n):(fc f).take n=fc f:=cm (by rw[dD];exact h)
def Me{f:F8}{r:List MV}{n:Nat}(h:24≤n):(fc f++r).drop n=r.drop (n-24):=by rw[List.drop_append,ay (by rw[dD];exact h),dD,be]
def GM{f:F8}{n:Nat}(h:24≤n):(fc f).drop n=[]:=ay (by rw[dD];exact h)
def Mh{f:F8}{r:List MV}{n:Nat}{d:MV}(h:24≤n):(fc f++r).getD n d=r.getD (n-24) d:=by rw[ao,a7 (by rw[dD];exact h),dD,←ao]
def kD{f:F8}{i:Nat}(h:i<8):(fc f).drop (i*3)=(f.get i).c++(fc f).drop ((i+1)*3):=by
 have hl:i<f.l.length:=by rw[f.h];exact h
 rw[fc,Aw,Aw,a9 hl,aN,a6]
 congr 1
 rw[F8.get,cU ir hl]
def qT{f:F8}{i:Nat}(h:i<8):((fc f).drop (i*3)).take 3=[.int .i64 (f.get i).kd,.int .i64 (f.get i).n,.str (f.get i).s]:=by rw[kD h];rfl
def Dc{f:F8}{r:List MV}{i:Nat}(h:i<8):((fc f++r).drop (i*3)).take 3=[.int .i64 (f.get i).kd,.int .i64 (f.get i).n,.str (f.get i).s]:=by rw[List.drop_append_of_le_length (by rw[dD];omega),kD h];rfl
def getD_drop{α:Type}{l:List α}{n k:Nat}{d:α}:l.getD (n+k) d=(l.drop n).getD k d:=by rw[ao,ao,List.getElem?_drop]
def vH{f:F8}{i:Nat}{d:MV}(h:i<8):(fc f).getD (i*3) d=.int .i64 (f.get i).kd:=by have:=getD_drop (l:=fc f) (n:=i*3) (k:=0) (d:=d);rw[Nat.add_zero] at this;rw[this,kD h];rfl
def Mg{f:F8}{i:Nat}{d:MV}(h:i<8):(fc f).getD (i*3+1) d=.int .i64 (f.get i).n:=by rw[getD_drop,kD h];rfl
def Eo{f:F8}{i:Nat}{d:MV}(h:i<8):(fc f).getD (i*3+2) d=.str (f.get i).s:=by rw[getD_drop,kD h];rfl
def Uk{f:F8}{i:Nat}{a b:Int}{s:ByteArray}(h:i<8):laid (fc f) (i*3) [.int .i64 a,.int .i64 b,.str s]=fc (f.set i ⟨a,b,s⟩):=by
 have hl:i<f.l.length:=by rw[f.h];exact h
 unfold laid;simp only[bg,List.length_nil];have e:(f.set i ⟨a,b,s⟩).l=f.l.set i ⟨a,b,s⟩:=rfl;rw[show i*3+(0+1+1+1)=(i+1)*3 by omega,fc,fc,Nd,Aw,e,List.set_eq_take_append_cons_drop,if_pos hl,List.map_append,List.flatten_append,aN,a6];simp only[cd]
def Mf{f:F8}{i:Nat}{v:VA}(h:i<8):(fc f).take (i*3)++v.c++(fc f).drop (3+i*3)=fc (f.set i v):=by have:=Uk (f:=f) (i:=i) (a:=v.kd) (b:=v.n) (s:=v.s) h;rw[←this,laid,show 3+i*3=i*3+3 by omega];rfl
def F8.Uq{f:F8}{i:Nat}{v:VA}(h:i<8):(f.set i v).get i=v:=by rw[F8.Mo f i i v h,if_pos rfl]
def qR{α:Type}{a b:α}{l:List α}{n:Nat}:(a::b::l).drop (2+n)=l.drop n:=by rw[show 2+n=n+1+1 by omega];rfl
def AJ{α:Type}{a b c:α}{l:List α}{n:Nat}:(a::b::c::l).drop (3+n)=l.drop n:=by rw[show 3+n=n+1+1+1 by omega];rfl
def Jf{α:Type}{a b:α}{l:List α}{n:Nat}:(a::b::l).take (2+n)=a::b::l.take n:=by rw[show 2+n=n+1+1 by omega];rfl
def BV{α:Type}{a b c:α}{l:List α}{n:Nat}:(a::b::c::l).take (3+n)=a::b::c::l.take n:=by rw[show 3+n=n+1+1+1 by omega];rfl
def AS{α:Type}{a b c d:α}{l:List α}{n:Nat}:(a::b::c::l).getD (3+n) d=l.getD n d:=by rw[show 3+n=n+1+1+1 by omega];simp
def qV{α:Type}{a b d:α}{l:List α}{n:Nat}:(a::b::l).getD (2+n) d=l.getD n d:=by rw[show 2+n=n+1+1 by omega];simp
def Mj{r:List MV}:(MV.int .i64 0::.int .i64 0::.str ⟨#[]⟩::.int .i64 0::.int .i64 0::.str ⟨#[]⟩::.int .i64 0::.int .i64 0::.str ⟨#[]⟩::.int .i64 0::.int .i64 0::.str ⟨#[]⟩ ::
  .int .i64 0::.int .i64 0::.str ⟨#[]⟩::.int .i64 0::.int .i64 0::.str ⟨#[]⟩::.int .i64 0::.int .i64 0::.str ⟨#[]⟩::.int .i64 0::.int .i64 0::.str ⟨#[]⟩::r)=fc f80++r:=rfl
abbrev PA.c(p:PA):List MV:=.int .u32 (p.mask.toNat:Int)::.int .u32 (p.fp.toNat:Int)::fc p.f
abbrev CA.c(c:CA):List MV:=.int .i64 c.id::.int .i64 c.c9::.int .u32 (c.fp.toNat:Int)::fc c.f
abbrev ED.c(e:ED):List MV:=.int .i64 e.kd::.int .i64 e.id::.int .i64 e.gr::.int .u32 (e.p.mask.toNat:Int)::.int .u32 (e.p.fp.toNat:Int)::fc e.p.f
def M8{a b:UInt32}:((a.toNat:Int)=(b.toNat:Int))↔a=b:=by
 constructor
 ·intro h;exact UInt32.toNat_inj.1 (by exact_mod_cast h)
 ·intro h;rw[h]
class LB (l:BL) (k:outParam Nat):Prop where
 h:l.length≤k
instance {a b:BL} {i j:Nat} [h:LB a i] [k:LB b j]:LB (a++b) (i+j):=⟨by have:=h.h;have:=k.h;rw[cy];omega⟩
instance:LB [] 0:=⟨c8 _⟩
instance {c:Prop} [Decidable c] {a b:BL} {i j:Nat} [h:LB a i] [k:LB b j]:LB (if c then a else b) (i+j):=⟨by have:=h.h;have:=k.h;split<;>omega⟩
theorem LB.le{l:BL}{k n:Nat}[h:LB l k](hk:k≤n):l.length≤n:=cS h.h hk
class Sh (r:RD):Prop where
 h:r.l.length≤1000000
theorem Sh.sk{α:Type}{f:RD→α×RD}(hf:Sk f){r:RD}[h:Sh r]:Sh (f r).2:=⟨cS (hf.sfx r).length_le h.h⟩
instance {c:Prop} [Decidable c] {r s:RD} [h:Sh r] [k:Sh s]:Sh (if c then r else s):=by
 split
 ·exact h
 ·exact k
inductive Lz (e:Nat) (xs:List (List MV)):MV→Prop where
 |aj (t:Bool):Lz e xs (.aj e xs t)
 |nil (h:xs=[]):Lz e xs .aK
def Lz.cell{e:Nat}{xs:List (List MV)}{m:MV}(h:Lz e xs m):m.aP=true:=by cases h<;>rfl
def Lz.cells{e:Nat}{xs:List (List MV)}{m:MV}(h:Lz e xs m):m.cells=[m]:=by cases h<;>rfl
def Lz.Yt{e:Nat}{xs:List (List MV)}{m:MV}(h:Lz e xs m):oP m (.aj e xs false):=by
 cases h with
 |aj t=>cases t with
  |false=>exact .same _
  |true=>exact .tight _ _
 |nil h=>subst h;exact .nil _ _
abbrev CM.k(c:CM)(f:MV):List MV:=.int .i64 c.kd::.int .i64 c.e.kd::.int .i64 c.e.id::.int .i64 c.e.gr::.int .u32 (c.e.p.mask.toNat:Int)::.int .u32 (c.e.p.fp.toNat:Int)::(fc c.e.p.f ++
 .int .i64 c.dev::.int .i64 c.req::.int .i64 c.id::.int .i64 c.base::.int .i64 c.UB::.int .u32 (c.p.mask.toNat:Int)::.int .u32 (c.p.fp.toNat:Int)::(fc c.p.f++[f,.int .u32 (c.mask.toNat:Int)]))
abbrev RE.k(a:RE)(f:MV):List MV:=[.int .i64 a.kd,.int .i64 a.dev,.int .i64 a.req,.int .i64 a.code,.int .i64 a.id,.int .i64 a.c9,.int .i64 a.sq,.int .i64 a.ep,f,.int .u32 (a.mask.toNat:Int)]
abbrev PG.k(p:PG)(i:MV):List MV:=[.int .i64 p.code,.bool p.reset,.int .i64 p.fr.dev,.int .i64 p.fr.ep,.int .i64 p.fr.sq,.int .i64 p.fr.cu,.int .i64 p.to.dev,.int .i64 p.to.ep,.int .i64 p.to.sq,.int .i64 p.to.cu,i]
abbrev MS.k(m:MS)(f g i:MV):List MV:=.int .i64 m.kd::.int .i64 m.size::.int .i64 m.cmd.kd::.int .i64 m.cmd.e.kd::.int .i64 m.cmd.e.id::.int .i64 m.cmd.e.gr::.int .u32 (m.cmd.e.p.mask.toNat:Int)::.int .u32 (m.cmd.e.p.fp.toNat:Int)::(fc m.cmd.e.p.f ++
 .int .i64 m.cmd.dev::.int .i64 m.cmd.req::.int .i64 m.cmd.id::.int .i64 m.cmd.base::.int .i64 m.cmd.UB::.int .u32 (m.cmd.p.mask.toNat:Int)::.int .u32 (m.cmd.p.fp.toNat:Int)::(fc m.cmd.p.f++f::.int .u32 (m.cmd.mask.toNat:Int) ::
 .int .i64 m.tok.dev::.int .i64 m.tok.ep::.int .i64 m.tok.sq::.int .i64 m.tok.cu ::
 .int .i64 m.rep.kd::.int .i64 m.rep.dev::.int .i64 m.rep.req::.int .i64 m.rep.code::.int .i64 m.rep.id::.int .i64 m.rep.c9::.int .i64 m.rep.sq::.int .i64 m.rep.ep::g::.int .u32 (m.rep.mask.toNat:Int) ::
 .int .i64 m.aq.code::.bool m.aq.reset::.int .i64 m.aq.fr.dev::.int .i64 m.aq.fr.ep::.int .i64 m.aq.fr.sq::.int .i64 m.aq.fr.cu::.int .i64 m.aq.to.dev::.int .i64 m.aq.to.ep::.int .i64 m.aq.to.sq::.int .i64 m.aq.to.cu::i ::
 [.int .i64 m.code]))
def WY{a b:PG}:a=b↔a.code=b.code∧a.reset=b.reset∧a.fr=b.fr∧a.to=b.to∧a.items=b.items:=by obtain⟨a1,a2,a3,a4,a5⟩:=a;obtain⟨b1,b2,b3,b4,b5⟩:=b;simp
abbrev RE.c(a:RE):List MV:=a.k (.aj 5 (a.fl.map ND.c) false)
abbrev IT.ks(l:List IT):List (List MV):=l.map fun x=>.int .i64 x.kd::.int .i64 x.c.id::.int .i64 x.c.c9::.int .u32 (x.c.fp.toNat:Int)::fc x.c.f
abbrev PG.c(p:PG):List MV:=p.k (.aj 28 (IT.ks p.items) false)
abbrev CM.c(c:CM):List MV:=c.k (.aj 5 (c.fl.map ND.c) false)
def jC(σ:St):List MV→List MV→Prop
 |[],[]=>True
 |m::ms,m'::ms'=>View σ m m'∧jC σ ms ms'
 |_,_=>False
theorem jC.same{σ:St}:∀ms:List MV,jC σ ms ms
 |[]=>trivial
 |m::ms=>⟨.same m,jC.same ms⟩
theorem jC.app{σ:St}:∀{a b c d:List MV},jC σ a b→jC σ c d→jC σ (a++c) (b++d)
 |[],[],_,_,_,h=>h
 |_::_,_::_,_,_,h,k=>⟨h.1,jC.app h.2 k⟩
theorem jC.len{σ:St}:∀{a b:List MV},jC σ a b→a.length=b.length
 |[],[],_=>rfl
 |_::_,_::_,h=>congrArg (·+1) (jC.len h.2)
theorem jC.at{σ:St}:∀{a b:List MV},jC σ a b→∀(i:Nat) (m m':MV),a[i]?=some m→b[i]?=some m'→View σ m m'
 |_::_,_::_,h,0,m,m',h1,h2=>by simp at h1 h2;subst h1 h2;exact h.1
 |_::_,_::_,h,i+1,m,m',h1,h2=>by simp at h1 h2;exact h.2.at i m m' h1 h2
def View.Wc{σ:St}{ms ms':List MV}(h:jC σ ms ms')(hc:ms'.all MV.aP=true):View σ (.agg ms) (.agg ms') :=
 .agg h.len (fun i m hm=>aI.1 hc m (au hm)) h.at
def View.aK{σ:St}{e:Nat}{xs:List (List MV)}(h:xs=[]):View σ .aK (.aj e xs false):=by subst h;exact .nil e false
def JW{f:F8}{r:List MV}:(fc f++r).all MV.aP=r.all MV.aP:=by rw[cf,dV,Bool.true_and]
def GL{f:F8}{a b:List MV}:(fc f++a)++b=fc f++(a++b):=cd _ _ _
def Yq:((UInt32.toNat 0:Nat):Int)=0:=rfl
def RE.cell(a:RE):a.c.all MV.aP=true:=rfl
def PG.cell(a:PG):a.c.all MV.aP=true:=rfl
def CM.cell(c:CM):c.c.all MV.aP=true:=by simp only[CM.c,CM.k,List.all_cons,cf,dV];rfl
inductive Fk:Prop→Prop→Prop→Prop
 |i {c A B:Prop}:Fk (R (mif c A B)) (c→R A) (¬c→R B)
 |f {p:Prop} [Decidable p] {A B:Prop}:Fk (R (lD (.bool (decide p)) A B)) (p→R A) (¬p→R B)
 |g {p:Prop} [Decidable p] {A B:Prop}:Fk (R (cP (.bool (decide p)) true A B)) (p→R A) (¬p→R B)
 |h {p:Prop} [Decidable p] {A B:Prop}:Fk (R (cP (.bool (decide p)) false A B)) (¬p→R A) (p→R B)
def wK{p a b:Prop}(h1:a)(h2:b)(e:Fk p a b:=by first|exact .i|exact .f|exact .g|exact .h):p:=by
 cases e
 ·exact wI h1 h2
 ·exact wF h1 h2
 ·exact wG h1 h2
 ·exact wH h1 h2
inductive Fb:Prop→Prop→Prop→Prop
 |b {b:Bool} {A B:Prop}:Fb (R (lD (.bool b) A B)) (b=true→R A) (b=false→R B)
 |g {b want:Bool} {A B:Prop}:Fb (R (cP (.bool b) want A B)) (b=want→R A) (b=(!want)→R B)
def wB{p a b:Prop}(h1:a)(h2:b)(e:Fb p a b:=by first|exact .b|exact .g):p:=by
 cases e
 ·exact cY h1 h2
 ·exact cL h1 h2
def wE{id:Nat}{l:List Oper}{f:FR}{σ:St}{Q:MQ}(h:R (kB Tryz.prog (fun _ _=>none) (@dk (Array Oper) (nat_lit 0) (@_root_.id (OfNat (Array Oper) (nat_lit 0)) (dl (l.toArray)))) (Q .normal) (@dk (List Oper) (nat_lit 0) (@_root_.id (OfNat (List Oper) (nat_lit 0)) (dl l))) f σ))
 (dj:(chk l.toArray&&l.all fun o=>pU o.op)=true:=by decide +kernel):R (rD Tryz.prog id (@dk (List Oper) (nat_lit 0) (@_root_.id (OfNat (List Oper) (nat_lit 0)) (dl l))) f σ Q):=wD dj h
inductive Up (l:Nat) (o o':aY):St→St→Prop
 |u0 {σ:St}:Up l o o' (σ.set l o) (σ.set l o')
 |u1 {σ:St} {j:Nat} {oj:aY} (h:j≠l):Up l o o' ((σ.set l o).set j oj) ((σ.set l o').set j oj)
 |u2 {σ:St} {j i:Nat} {oj oi:aY} (h:j≠l) (h1:i≠l):Up l o o' (((σ.set l o).set j oj).set i oi) (((σ.set l o').set j oj).set i oi)
 |u3 {σ:St} {j i m:Nat} {oj oi om:aY} (h:j≠l) (h1:i≠l) (h2:m≠l):Up l o o' ((((σ.set l o).set j oj).set i oi).set m om) ((((σ.set l o').set j oj).set i oi).set m om)
def ai:(type_of% @Mj)∧(type_of% @dD)∧(type_of% @dV)∧(type_of% @Mi)∧(type_of% @jQ)∧(type_of% @Me)∧(type_of% @GM)∧(type_of% @Mh)∧(type_of% @qR)∧(type_of% @AJ)∧(type_of% @Jf)∧(type_of% @BV)∧(type_of% @qV)∧(type_of% @AS)∧(type_of% @qT)∧(type_of% @Dc)∧(type_of% @vH)∧(type_of% @Mg)∧(type_of% @Eo)∧(type_of% @Mf)∧(∀{f:F8} {i:Nat} {v:VA} (h:i<8),(f.set i v).get i=v) :=
 ⟨Mj,dD,dV,Mi,jQ,Me,GM,Mh,qR,AJ,Jf,BV,qV,AS,qT,Dc,vH,Mg,Eo,Mf,F8.Uq⟩
def Zn:(type_of% ai)∧(type_of% @JW)∧(type_of% @GL)∧(∀{α:Type} (l:List α),l++[]=l)∧(∀{α:Type} (l:List α),l.take 0=[])∧(type_of% Yq)∧(∀{α:Type} (a:α) (l r:List α),a::l++r=a::(l++r))∧(∀{α:Type} (l:List α),[]++l=l) :=
 ⟨ai,JW,GL,ce,fun _=>List.take_zero,Yq,fun _ _ _=>az,be⟩
def cE(m:Nat):List Nat:=(bf 8).filter fun i=>bit m i
def uZ{m i:Nat}(h:i∈cE m):i<8:=bx.1 (List.mem_filter.1 h).1
def xU(m:Nat):(cE m).length≤8:=by
 have:=List.length_filter_le (fun i=>bit m i) (bf 8)
 rwa [List.length_range] at this
def Nj(m:Nat):cE (m &&& 255)=cE m:=by
 unfold cE;apply List.filter_congr;intro i hi;have hi:=bx.1 hi;unfold bit;rw[Nat.testBit_and];have:(255:Nat).testBit i=true:=by have h:∀i,i<8→(255:Nat).testBit i=true:=br;exact h i hi
 rw[this,Bool.and_true]
def AA:∀s:Nat,s<256→s≠0→cE s=(cE s).headD 0::cE (s &&& (s-1)):=by decide +kernel
def Nk:cE 0=[]:=br
section
def hasB(s:Nat)(n:Int):Bool:=decide (0≤n∧n≤31∧s / 2 ^ n.toNat % 2=1)
def Q0(s:Nat)(k:Nat):s / 2 ^ k / 2=s / 2 ^ (k+1):=by rw[Nat.pow_succ,Nat.div_div_eq_div_mul]
set_option maxHeartbeats 2000000 in
def sQ (s:Nat) (n:Int) (h1:s<4294967296):aA Tryz.prog 178 [.int .u32 (s:Int),.int .i64 n] d9 (fun r _=>r=.bool (hasB s n)):=by
 refine(mB 22 [.tmp 4] Tryz.func178 ?_);by_cases hn:n<0∨31<n
 ·repeat' first|(refine wY ?_ ?_<;>intro h)|refine aw @Tryz.f178.eq_1 ?_|fail
  all_goals simp only[hasB,MV.bool.injEq,Bool.false_eq,decide_eq_false_iff_not]
  all_goals omega
 ·obtain⟨m,rfl⟩:∃m:Nat,n=m:=⟨n.toNat,oM⟩
  repeat' first|refine aw @Tryz.f178.eq_1 ?_|fail
  refine aG (α:=Nat) (fun a=>⟨22,[(5,.int .i64 (a:Int)),(0,.int .u32 ((s / 2 ^ a:Nat):Int)),(1,.int .i64 (m:Int))],[]⟩) (fun _=>d9)
   (fun a=>a≤m) (fun a=>m-a) (.of (.less ?_ ba) ⟨0,rfl,rfl,dd _⟩) ?_
  ·simp(maxSteps:=4000000) (disch:=first|exact gd|fail) only[go_sem,simprocAttr,bE,aX,Nat.pow_zero,Nat.div_one];all_goals rfl
  ·intro k hk;have hk:k≤m:=hk;have hb:s / 2 ^ k<4294967296:=Nat.lt_of_le_of_lt (Nat.div_le_self ..) h1;by_cases bh:k<m
   ·repeat' first|refine aw @Nat.add_zero ?_|fail
    refine .of (.less (l1:=[(5,.int .i64 ((k+1:Nat):Int)),(0,.int .u32 ((s / 2 ^ (k+1):Nat):Int)),(1,.int .i64 (m:Int))]) ?_ ba) ⟨k+1,rfl,rfl,oM,oM⟩;rw[←Q0];have ew:IntKind.u32.wrap (((s / 2 ^ k:Nat):Int).tdiv 2)=((s / 2 ^ k / 2:Nat):Int):=by
     generalize s / 2 ^ k=w at hb ⊢;have e2:((w:Int)).tdiv 2=((w / 2:Nat):Int):=by rw[Int.tdiv_eq_ediv_of_nonneg oM];omega
     rw[e2];simp only[IntKind.wrap,IntKind.signed,IntKind.bits];simp;omega
    simp(maxSteps:=4000000) (disch:=first|exact gd|fail) only[go_sem,simprocAttr,bE,aX,ew];all_goals rfl
   ·have:k=m:=oM;subst this;repeat' first|refine ed ?_|fail
    simp only[hasB,an,MV.bool.injEq];have e2:(((s / 2 ^ k:Nat):Int).tmod 2)=((s / 2 ^ k % 2:Nat):Int):=by generalize s / 2 ^ k=w at hb ⊢;rw[Int.tmod_eq_emod_of_nonneg oM];omega
    refine decide_eq_decide.mpr ?_;rw[e2];generalize s / 2 ^ k % 2=w;omega
end
section
def rQ(op:Int):aA Tryz.prog 130 [.int .i64 op] d9 (fun r _=>r=.int .i64 (parts op)):=by
 refine(mB 11 [.tmp 2] Tryz.func130 ?_);repeat' first|(refine wY ?_ ?_<;>intro h)|refine aw @Tryz.f130.eq_1 ?_|fail
 all_goals simp[parts, *]
def xF(kd n:Int)(s:ByteArray):aA Tryz.prog 129 [.agg [.int .i64 kd,.int .i64 n,.str s]] d9 (fun r _=>r=.bool (fW ⟨kd,n,s⟩)):=by
 refine(mB 41 [.tmp 2] Tryz.func129 ?_);repeat' first|(refine wM ?_;intro nl;intros)|(refine wY ?_ ?_<;>intro h)|refine aw @Tryz.f129.eq_1 ?_|fail
 all_goals simp[fW,ir, *]
 all_goals omega
set_option maxHeartbeats 2000000 in
def Lw (x:ND):aA Tryz.prog 57 [.agg x.c] d9 (fun r _=>r=.bool (gB x)):=by
 refine(mB 86 [.tmp 2] Tryz.func57 ?_);obtain⟨op,n,kd,vn,s⟩:=x;repeat' first|(with_reducible refine aC (xF _ _ _) ?_)|(refine wM ?_;intro nl;intros;rename_i ec)|(refine wY ?_ ?_<;>intro h)|refine aw @Tryz.f57.eq_1 ?_|fail
 all_goals first
  |(simp[gB,ir, *];done)
  |(simp[gB,ir, *];omega)
  |(simp[gB,ir, *];rintro rfl rfl rfl;rename_i h;revert h;simp[fW,ir])
def Db{l:List ND}{n j:Nat}(h:j<l.length):j9 (n+1) (l.drop j)=(j9 (n+parts (l.getD j jd).op) (l.drop (j+1))).map (·+1):=by
 rw[a9 h];have:l.getD j jd=l[j]:=by simp[bp,h]
 rw[this];rfl
def sP(l:List ND)(hl:l.length≤1000000)(t:Bool)(i:Int):aA Tryz.prog 58 [.aj 5 (l.map ND.c) t,.int .i64 i] d9 (fun r _=>r=.int .i64 (jK l i)):=by
 refine(mB 30 [.tmp 4] Tryz.func58 ?_);by_cases hi:i<0
 ·repeat' first|refine aw @Tryz.f58.eq_1 ?_|fail
  simp[jK,hi]
 ·obtain⟨i,rfl⟩:∃k:Nat,i=k:=⟨i.toNat,oM⟩
  repeat' first|refine aw @Tryz.f58.eq_1 ?_|fail
  refine aG (α:=Nat×Nat) (fun a=>⟨30,[(5,.int .i64 (a.2:Int)),(0,.aj 5 (l.map ND.c) t),(1,.int .i64 (a.1:Int))],[]⟩) (fun _=>d9)
   (fun a=>i≤a.1∧a.1≤max i l.length∧a.2≤1+a.1∧j9 1 (l.drop i)=(j9 a.2 (l.drop a.1)).map (·+(a.1-i))) (fun a=>l.length-a.1) (.of (.less ?_ ba) ⟨(i,1),rfl,rfl,?_⟩) ?_
  ·exact wW
  ·simp;omega
  ·rintro⟨j,n⟩ ⟨h1,h2,h3,h4⟩;simp only at h1 h2 h3 h4 ⊢;by_cases hj:j<l.length
   ·rcases Nat.eq_zero_or_pos n with hn|hn
    ·subst hn;repeat' (first|(with_reducible first|(refine wN fun nl ec=>?_;revert ec;(repeat refine wS fun _ _=>?_);intro ec)|refine wD dK ?_|refine wI (fun h=>?_) fun h=>?_|refine wF (fun h=>?_) fun h=>?_|refine wG (fun h=>?_) fun h=>?_|refine wH (fun h=>?_) fun h=>?_|((first|refine cY (fun h=>?_) fun h=>?_|refine cL (fun h=>?_) fun h=>?_)<;>simp only[h]))|simp(maxSteps:=4000000) (disch:=first|decide|assumption|omega|(simp only[wL];omega)) only[go_sem,simprocAttr,cN jd,ND.c])
     simp only[jK,h4,j9,dt,an];rw[if_neg hi];simp only[MV.int.injEq,true_and];omega
    ·obtain⟨m,rfl⟩:∃m,n=m+1:=⟨n-1,oM⟩
     have hp:=lI (l.getD j jd).op;repeat' (first|(with_reducible refine aC (rQ _) ?_)|(with_reducible first|(refine wN fun nl ec=>?_;revert ec;(repeat refine wS fun _ _=>?_);intro ec)|refine wD dK ?_|refine wI (fun h=>?_) fun h=>?_|refine wF (fun h=>?_) fun h=>?_|refine wG (fun h=>?_) fun h=>?_|refine wH (fun h=>?_) fun h=>?_|((first|refine cY (fun h=>?_) fun h=>?_|refine cL (fun h=>?_) fun h=>?_)<;>simp only[h]))|simp(maxSteps:=4000000) (disch:=first|decide|assumption|omega|(simp only[wL];omega)) only[go_sem,simprocAttr,cN jd,ND.c])
     refine .of (.less (l1:=[(5,.int .i64 ((m+parts (l.getD j jd).op:Nat):Int)),(0,.aj 5 (l.map ND.c) t),(1,.int .i64 ((j+1:Nat):Int))]) ?_ ba) ⟨(j+1,m+parts (l.getD j jd).op),rfl,rfl,⟨by simp only;omega,by simp only;omega,by simp only;omega,?_⟩,by simp only;omega⟩
     ·simp(maxSteps:=4000000) (disch:=first|decide|assumption|omega|(simp only[wL];omega)) only[go_sem,simprocAttr,bE,aX];all_goals omega
     ·rw[h4,Db hj];simp only[Option.map_map]
      congr 1
      funext k;simp only[Function.comp];omega
   ·have hd:l.drop j=[]:=ay oM;rw[hd] at h4;rcases Nat.eq_zero_or_pos n with hn|hn
    ·subst hn;repeat' (first|(with_reducible first|(refine wN fun nl ec=>?_;revert ec;(repeat refine wS fun _ _=>?_);intro ec)|refine wD dK ?_|refine wI (fun h=>?_) fun h=>?_|refine wF (fun h=>?_) fun h=>?_|refine wG (fun h=>?_) fun h=>?_|refine wH (fun h=>?_) fun h=>?_|((first|refine cY (fun h=>?_) fun h=>?_|refine cL (fun h=>?_) fun h=>?_)<;>simp only[h]))|simp(maxSteps:=4000000) (disch:=first|decide|assumption|omega|(simp only[wL];omega)) only[go_sem,simprocAttr,cN jd,ND.c])
     simp only[jK,h4,j9,dt,an];rw[if_neg hi];simp only[MV.int.injEq,true_and];omega
    ·obtain⟨m,rfl⟩:∃m,n=m+1:=⟨n-1,oM⟩
     repeat' (first|(with_reducible first|(refine wN fun nl ec=>?_;revert ec;(repeat refine wS fun _ _=>?_);intro ec)|refine wD dK ?_|refine wI (fun h=>?_) fun h=>?_|refine wF (fun h=>?_) fun h=>?_|refine wG (fun h=>?_) fun h=>?_|refine wH (fun h=>?_) fun h=>?_|((first|refine cY (fun h=>?_) fun h=>?_|refine cL (fun h=>?_) fun h=>?_)<;>simp only[h]))|simp(maxSteps:=4000000) (disch:=first|decide|assumption|omega|(simp only[wL];omega)) only[go_sem,simprocAttr,cN jd,ND.c])
     simp only[jK,h4,j9,Option.map_none,an];rw[if_neg hi]
end
structure YS where
 w:World
 wr:Nat→Prop
 sn:Addr→Option Value
structure mL (S:YS) (w:World):Prop where
 same:∀k,S.wr k→w.heap[k]?=S.w.heap[k]?
 lt:∀k,S.wr k→k<S.w.heap.size
 pn:∀k,S.wr k→∀x,S.w.heap[k]?≠some (df x)
 sn:∀a v,S.sn a=some v→w.cell? a=some v
 size:S.w.heap.size≤w.heap.size
 os:w.os=S.w.os
 tape:w.tape=S.w.tape
 output:w.output=S.w.output
 drawn:ki S.w≤ki w
structure xy (Φ:bd) (σ:St) (S:YS) (w:World):Prop where
 agree:mL S w
 own:∀k,S.wr k→¬aV Φ σ k
 rf:∀a v,S.sn a=some v→¬aV Φ σ a.block
 snap:∀a v,Φ.snap a=some v→¬S.wr a.block
def xy.step{Φ Φ':bd}{σ af:St}{S:YS}{w w':World}(h:xy Φ σ S w)(hs:Step Φ σ w Φ' af w'):xy Φ' af S w':=by
 have bh:∀k,S.wr k→k<w.heap.size:=fun k hk=>dc (h.agree.lt k hk) h.agree.size;have iq:∀a v,S.sn a=some v→a.block<w.heap.size:=fun a v q=>ak w a (h.agree.sn a v q);refine⟨⟨fun k hk=>(hs.block k (bh k hk) (h.own k hk)).trans (h.agree.same k hk),h.agree.lt,h.agree.pn,fun a v q=>?_,cS h.agree.size hs.size,hs.os.trans h.agree.os,hs.tape.trans h.agree.tape,hs.output.trans h.agree.output,cS h.agree.drawn hs.drawn⟩,fun k hk ho=>?_,fun a v q ho=>?_,fun a v hv hk=>?_⟩
 ·rw[World.fF (hs.block _ (iq a v q) (h.rf a v q))];exact h.agree.sn a v q
 ·rcases hs.cz k ho with q|q
  ·exact h.own k hk q
  ·have:=bh k hk;omega
 ·rcases hs.cz _ ho with p|p
  ·exact h.rf a v q p
  ·have:=iq a v q;omega
 ·rcases hs.cl a v hv with q|q|q
  ·exact h.snap a v q hk
  ·have:=bh _ hk;omega
  ·exact h.own _ hk q
structure eL (Φ:bd) (σ:St) (w:World) (S:YS) (Φ':bd) (af:St) (w':World) (S':YS):Prop where
 le:Φ.le Φ'
 os:w'.os=w.os
 tape:w'.tape=w.tape
 output:w'.output=w.output
 drawn:ki w≤ki w'
 size:w.heap.size≤w'.heap.size
 block:∀k,k<w.heap.size→¬aV Φ σ k→¬S.wr k→w'.heap[k]?=w.heap[k]?
 cl:∀a v,Φ'.snap a=some v→Φ.snap a=some v∨w.heap.size≤a.block∨aV Φ σ a.block
 cz:∀R,aV Φ' af R→aV Φ σ R∨w.heap.size≤R
 wr:∀k,S'.wr k→S.wr k∨w.heap.size≤k
 sn:∀a v,S'.sn a=some v→S.sn a=some v∨S.wr a.block∨w.heap.size≤a.block∨Φ.snap a=some v∨aV Φ σ a.block
def eL.of{Φ Φ':bd}{σ af:St}{w w':World}(S:YS)(hs:Step Φ σ w Φ' af w'):eL Φ σ w S Φ' af w' S :=
 ⟨hs.le,hs.os,hs.tape,hs.output,hs.drawn,hs.size,fun k hk hn _=>hs.block k hk hn,hs.cl,hs.cz,fun k hk=>.inl hk,fun _ _ q=>.inl q⟩
def eL.refl(Φ:bd)(σ:St)(w:World)(S:YS):eL Φ σ w S Φ σ w S:=.of S (.refl Φ σ w)
def eL.trans{Φ ei kh:bd}{σ σ1 eh:St}{w w1 w2:World}{S S1 S2:YS}(h:eL Φ σ w S ei σ1 w1 S1)(k:eL ei σ1 w1 S1 kh eh w2 S2):eL Φ σ w S kh eh w2 S2 where
 le:=h.le.trans k.le
 os:=k.os.trans h.os
 tape:=k.tape.trans h.tape
 output:=k.output.trans h.output
 drawn:=cS h.drawn k.drawn
 size:=cS h.size k.size
 block:=fun i hi hn hw=>(k.block i (dc hi h.size) (fun ho=>(h.cz i ho).elim hn (fun q=>oM)) (fun ho=>(h.wr i ho).elim hw (fun q=>oM))).trans (h.block i hi hn hw)
 cl:=fun a v hv=>by
  rcases k.cl a v hv with q|q|q
  ·exact h.cl a v q
  ·exact .inr (.inl (cS h.size q))
  ·rcases h.cz _ q with q|q
   ·exact .inr (.inr q)
   ·exact .inr (.inl q)
 cz:=fun R hR=>by
  rcases k.cz R hR with q|q
  ·exact h.cz R q
  ·exact .inr (cS h.size q)
 wr:=fun i hi=>by
  rcases k.wr i hi with q|q
  ·exact h.wr i q
  ·exact .inr (cS h.size q)
 sn:=fun a v hv=>by
  rcases k.sn a v hv with q|q|q|q|q
  ·exact h.sn a v q
  ·rcases h.wr _ q with q|q
   ·exact .inr (.inl q)
   ·exact .inr (.inr (.inl q))
  ·exact .inr (.inr (.inl (cS h.size q)))
  ·rcases h.cl a v q with q|q|q
   ·exact .inr (.inr (.inr (.inl q)))
   ·exact .inr (.inr (.inl q))
   ·exact .inr (.inr (.inr (.inr q)))
  ·rcases h.cz _ q with q|q
   ·exact .inr (.inr (.inr (.inr q)))
   ·exact .inr (.inr (.inl q))
def qG(P:Program)(l:Nat)(xs:List (List MV))(Y:Nat→YS→Prop)(Yx:YS→Prop)(Φ0:bd)(σ0:St)(n0:Nat):Prop :=
 ∀(i:Nat) (x:List MV) (S:YS) (w:World) (Ψ:bd) (vs:Array Value),xs[i]?=some x→Y i S→mL S w→n0≤w.heap.size→(∀m,Ψ.obj m=none) →
  (∀a v,Ψ.snap a=some v→w.cell? a=some v∧¬S.wr a.block∧(Φ0.snap a=some v∨n0≤a.block∨aV Φ0 σ0 a.block))→iX Ψ vs x →
  YieldAt ad 0 P l vs w fun e w'=>∃b S',e=.returned (.bool b)∧S'.w=w'∧mL S' w'∧w'.os=w.os∧w'.tape=w.tape∧w'.output=w.output∧ki w≤ki w'∧w.heap.size≤w'.heap.size ∧
   (∀k,k<w.heap.size→¬S.wr k→w'.heap[k]?=w.heap[k]?)∧(∀k,S'.wr k→S.wr k∨w.heap.size≤k) ∧
   (∀a v,S'.sn a=some v→S.sn a=some v∨S.wr a.block∨w.heap.size≤a.block∨Ψ.snap a=some v)∧(if b=true then Y (i+1) S' else Yx S')
def Qj(P:Program)(g:FuncId)(ns:List MV)(σi:St)(xs:List (List MV)):Prop :=
 Enters P g∧∀(l:Nat) (Y:Nat→YS→Prop) (Yx:YS→Prop) (Φ:bd) (w:World) (S:YS) (vs:Array Value),qG P l xs Y Yx Φ σi w.heap.size→Inv Φ w σi→xy Φ σi S w→Y 0 S→iX Φ vs ns →
  Calls P g (#[.func (.yield l) #[] #[]]++vs) w fun e w'=>∃v Φ' af S',e=.returned v∧Inv Φ' w' af∧xy Φ' af S' w'∧eL Φ σi w S Φ' af w' S'∧(Y xs.length S'∨Yx S')
def o8(f:FR):List Tmp→List MV→FR
 |p::ps,x::xs=>o8 (bI f (some p) x) ps xs
 |_,_=>f
def MK(ps:List Tmp):∀(f:FR) (xs:List MV),(o8 f ps xs).d=f.d:=by
 induction ps with
 |nil=>intro f xs;rfl
 |cons p ps ih =>
  intro f xs;cases xs with
  |nil=>rfl
  |cons x xs=>rw[o8,ih,eD]
theorem x6{Φ:bd}:∀(ps:List Tmp) (xs:List MV) (vs:List Value) (tmps:Array Value) (f:FR),dP Φ tmps f→vs.length=xs.length→(∀(i:Nat) m,xs[i]?=some m→Rel Φ (vs.getD i undef) m) →
  dP Φ ((ps.zip vs).foldl (fun t (p:Tmp×Value)=>t.setIfInBounds p.1 p.2) tmps) (o8 f ps xs)
 |[],_,_,_,_,h,_,_=>by simpa[o8] using h
 |_::_,[],[],_,_,h,_,_=>by simpa[o8] using h
 |p::ps,x::xs,v::vs,tmps,f,h,hl,hr=>by
  simp only[List.zip_cons_cons,List.foldl_cons,o8];refine x6 ps xs vs _ _ ?_ (by simpa using hl) (fun i m hm=>by have:=hr (i+1) m (by simpa using hm);simpa using this);have:=cT (a:={ tmps:=tmps,defers:=[] }) h (some p) (hr 0 x rfl);simpa[Act.put] using this
 |_::_,[],_::_,_,_,_,hl,_=>by simp at hl
 |_::_,_::_,[],_,_,_,hl,_=>by simp at hl
def Df{β:Type}(ps:Array Tmp)(vs:Array Value)(g:β→Tmp×Value→β)(b:β):(ps.zip vs).foldl g b=(ps.toList.zip vs.toList).foldl g b:=by rw[←Array.foldl_toList,Array.toList_zip]
def Inv.grow{Φ:bd}{w w':World}{σ:St}(hi:Inv Φ w σ)(h1:w'.os=w.os)(h2:w'.tape=w.tape)(h3:w'.output=w.output)(h4:ki w≤ki w')(h5:w.heap.size≤w'.heap.size)(hb:∀k,k<w.heap.size→w'.heap[k]?=w.heap[k]?) :
  Inv Φ w' σ∧Step Φ σ w Φ σ w' :=
 ⟨⟨fun l o h=>(hi.own l o h).mono (.refl Φ) fun p R hp hR=>by
   obtain⟨p',dw,bh⟩:=(hi.own l o h).place;rw[hp] at dw;cases dw;exact hb R (bh R hR),hi.inj,fun a v h=>by
   rw[World.fF (hb _ (ak w a (hi.snap a v h)))];exact hi.snap a v h,hi.apart,hi.fresh⟩,
  ⟨.refl Φ,h1,h2,h3,h4,h5,fun k hk _=>hb k hk,fun _ _ h=>.inl h,fun l o h=>.inl ⟨o,h⟩,fun _ h=>.inl h⟩⟩
structure uW (Φ0:bd) (σ0:St) (n0:Nat) (Φ:bd) (σ:St):Prop where
 le:Φ0.le Φ
 cl:∀a v,Φ.snap a=some v→Φ0.snap a=some v∨n0≤a.block∨aV Φ0 σ0 a.block
 jc:∀l o,σ l=some o→(∃o',σ0 l=some o')∨Φ0.obj l=none
 cz:∀R,aV Φ σ R→aV Φ0 σ0 R∨n0≤R
def uW.of{Φ Φ':bd}{σ af:St}{w w':World}(h:Step Φ σ w Φ' af w'):uW Φ σ w.heap.size Φ' af:=⟨h.le,h.cl,h.jc,h.cz⟩
def uW.step{Φ0 Φ Φ':bd}{σ0 σ af:St}{n0:Nat}{w w':World}(h:uW Φ0 σ0 n0 Φ σ)(hn:n0≤w.heap.size)(k:Step Φ σ w Φ' af w'):uW Φ0 σ0 n0 Φ' af where
 le:=h.le.trans k.le
 cl:=fun a v hv=>by
  rcases k.cl a v hv with q|q|q
  ·exact h.cl a v q
  ·exact .inr (.inl (cS hn q))
  ·rcases h.cz _ q with q|q
   ·exact .inr (.inr q)
   ·exact .inr (.inl q)
 jc:=fun l o hl=>by
  rcases k.jc l o hl with⟨o',q⟩|q
  ·exact h.jc l o' q
  ·right;cases hl:Φ0.obj l with
   |none=>rfl
   |some p=>have:=h.le.obj l p hl;simp[this] at q
 cz:=fun R hR=>by
  rcases k.cz R hR with q|q
  ·exact h.cz R q
  ·exact .inr (cS hn q)
structure CSt (Φ0:bd) (σ0:St) (n0:Nat) (tmps:Array Value) (fc:FR) (l:Nat) (st:Loop) (σ:St) (S:YS) (Φ:bd):Prop where
 inv:Inv Φ S.w σ
 frame:dP Φ tmps fc
 step:uW Φ0 σ0 n0 Φ σ
 wr:∀k,S.wr k↔(aV Φ σ k∨k=l)
 sn:∀a,S.sn a=Φ.snap a
 su:S.w.heap[l]?=some (.loop st)
 size:n0≤S.w.heap.size
 base:Φ.base≤S.w.heap.size
def Inv.pO{Φ:bd}{w:World}{σ:St}(hi:Inv Φ w σ){l:Nat}{st:Loop}(h:w.heap[l]?=some (.loop st)):¬aV Φ σ l :=
 hi.Bl (fun c t fz e=>by rw[h] at e;cases e) (fun c k e=>by rw[h] at e;cases e) (fun _ _ _ _ e=>by rw[h] at e;cases e)
def CSt.agree{Φ0 Φ:bd}{σ0 σ:St}{n0:Nat}{tmps:Array Value}{fc:FR}{l:Nat}{st:Loop}{S:YS}(h:CSt Φ0 σ0 n0 tmps fc l st σ S Φ):mL S S.w :=
 ⟨fun _ _=>rfl,fun k hk=>by
  rcases (h.wr k).1 hk with q|rfl
  ·obtain⟨l',o,p,h1,h2,h3⟩:=q;obtain⟨p',e,bh⟩:=(h.inv.own l' o h1).place;rw[h2] at e;cases e;exact bh k h3
  ·exact(eb.1 h.su).1,(fun k hk x e=>by
  rcases (h.wr k).1 hk with q|rfl
  ·exact h.inv.mark e q
  ·rw[h.su] at e;cases e),fun a v q=>h.inv.snap a v (by rw[←h.sn a];exact q),c8 _,rfl,rfl,rfl,c8 _⟩
def CSt.at{Φ0 Φ:bd}{σ0 σ:St}{n0:Nat}{tmps:Array Value}{fc:FR}{l:Nat}{st:Loop}{S:YS}(h:CSt Φ0 σ0 n0 tmps fc l st σ S Φ){w:World}(ha:mL S w){Ψ:bd}(ho:∀m,Ψ.obj m=none)
 (hs:∀a v,Ψ.snap a=some v→w.cell? a=some v∧¬S.wr a.block∧(Φ0.snap a=some v∨n0≤a.block∨aV Φ0 σ0 a.block)) :
  ∃Φ',Inv Φ' w σ∧dP Φ' tmps fc∧uW Φ0 σ0 n0 Φ' σ∧(∀k,aV Φ' σ k↔aV Φ σ k)∧(∀a v,Φ'.snap a=some v→S.sn a=some v∨Ψ.snap a=some v)∧(∀v m,Rel Ψ v m→Rel Φ' v m)∧w.heap[l]?=some (.loop st)∧Φ'.base≤w.heap.size:=by
 obtain⟨Φ',we⟩:∃Φ':bd,Φ'={ Φ with snap:=fun a=>match Φ.snap a with|some v=>some v|none=>Ψ.snap a }:=⟨_,rfl⟩
 have hle:Φ.le Φ':=by subst we;exact⟨fun a v q=>by simp[q],fun _ _ q=>q,rfl⟩
 have gj:Φ'.obj=Φ.obj:=by subst we;rfl
 have hb:Φ'.base=Φ.base:=by subst we;rfl
 have cc:∀a v,Φ'.snap a=some v→Φ.snap a=some v∨Ψ.snap a=some v:=fun a v q=>by
  subst we;simp only at q;cases e:Φ.snap a with
  |none=>rw[e] at q;exact .inr q
  |some u=>rw[e] at q;exact .inl q
 have ZP:∀k,aV Φ σ k→w.heap[k]?=S.w.heap[k]?:=fun k hk=>ha.same k ((h.wr k).2 (.inl hk));have gp:∀k,aV Φ' σ k↔aV Φ σ k:=fun k=>by unfold aV;rw[gj]
 refine⟨Φ',⟨fun l' o hl=>(h.inv.own l' o hl).mono hle fun p R h1 h2=>ZP R ⟨l',o,p,hl,h1,h2⟩,fun a b o o' p p' R h1 h2 h3 h4=>?_,fun a v q=>?_,fun l' o p R a v h1 h2 h3 q=>?_,?_⟩,h.frame.mono hle,⟨h.step.le.trans hle,fun a v q=>?_,h.step.jc,fun R hR=>h.step.cz R ((gp R).1 hR)⟩,gp,fun a v q=>?_,fun v m r=>?_,?_,?_⟩
 ·rw[gj] at h3 h4;exact h.inv.inj a b o o' p p' R h1 h2 h3 h4
 ·rcases cc a v q with q|q
  ·exact ha.sn a v (by rw[h.sn a];exact q)
  ·exact(hs a v q).1
 ·rw[gj] at h2;rcases cc a v q with q|q
  ·exact h.inv.apart l' o p R a v h1 h2 h3 q
  ·intro e;exact(hs a v q).2.1 ((h.wr _).2 (.inl ⟨l',o,p,h1,h2,e ▸ h3⟩))
 ·obtain⟨n,hn⟩:=h.inv.fresh.1.1;exact⟨⟨⟨n,fun k hk=>by rw[gj];exact hn k hk⟩,fun k p hk=>h.inv.fresh.1.2 k p (by rw[←gj];exact hk)⟩,fun g i v q=>hle.snap _ _ (h.inv.fresh.2.1 g i v q),h.inv.fresh.2.2.mono hle.snap⟩
 ·rcases cc a v q with q|q
  ·exact h.step.cl a v q
  ·exact(hs a v q).2.2
 ·rcases cc a v q with q|q
  ·exact .inl (by rw[h.sn a];exact q)
  ·exact .inr q
 ·refine r.HG (fun a u q=>?_) (fun l' p q=>by rw[ho l'] at q;cases q);have h1:=(hs a u q).1;subst we;simp only;cases e:Φ.snap a with
  |none=>exact q
  |some u' =>
   have h2:=ha.sn a u' (by rw[h.sn a];exact e);rw[h1] at h2;simpa using h2.symm
 ·rw[ha.same l ((h.wr l).2 (.inr rfl))];exact h.su
 ·rw[hb];exact cS h.base ha.size
def H4(K:FR→St→Prop):MQ
 |.normal,f,σ=>K f σ
 |_,_,_=>False
def uJ(Q:MQ)(fc:FR)(nxt:St→Prop):MQ
 |.normal,f,σ=>Gh f σ fun _ σ1=>nxt σ1
 |.ret,f,σ=>Gh f σ fun _ σ1=>Q .ret fc σ1
 |.exit id,f,σ=>Gh f σ fun _ σ1=>Q (.exit id) fc σ1
 |_,_,_=>False
def Tn{P:Program}{Φ0:bd}{σ0:St}{n0:Nat}{tmps:Array Value}{fc:FR}{l:Nat}{fn:FuncId}{ps:Array Tmp}{assign body:Code}{Q:MQ}{nxt:St→Prop}{D:Nat}{σ:St}{S:YS}{Φ:bd}{x:List MV}{w:World}{Ψ:bd}{vs:Array Value}
 (rec:LoopState→Option Code→Loop)(jy:rec=fun st pe=>{ state:=st,pending:=pe,fn,tmps,params:=ps,assign,body,defers:=D })
 (nda:gW assign=true)(ndb:gW body=true)(hx:x.length=ps.size)
 (hr:il P assign (o8 ⟨fc.n,fc.l,[]⟩ ps.toList x) σ (H4 fun f1 σ1=>il P body f1 σ1 (uJ Q fc nxt)))
 (h:CSt Φ0 σ0 n0 tmps fc l (rec .ready none) σ S Φ)(ha:mL S w)(Zh:n0≤w.heap.size)(ho:∀m,Ψ.obj m=none)
 (hs:∀a v,Ψ.snap a=some v→w.cell? a=some v∧¬S.wr a.block∧(Φ0.snap a=some v∨n0≤a.block∨aV Φ0 σ0 a.block))(hv:iX Ψ vs x) :
  YieldAt ad 0 P l vs w fun e w'=>∃b S',e=.returned (.bool b)∧S'.w=w'∧mL S' w'∧w'.os=w.os∧w'.tape=w.tape∧w'.output=w.output∧ki w≤ki w'∧w.heap.size≤w'.heap.size ∧
   (∀k,k<w.heap.size→¬S.wr k→w'.heap[k]?=w.heap[k]?)∧(∀k,S'.wr k→S.wr k∨w.heap.size≤k) ∧
   (∀a v,S'.sn a=some v→S.sn a=some v∨S.wr a.block∨w.heap.size≤a.block∨Ψ.snap a=some v) ∧
   (if b=true then ∃σ1 ei,nxt σ1∧CSt Φ0 σ0 n0 tmps fc l (rec .ready none) σ1 S' ei else ∃c σ1 ei,((c=.ret∧Q .ret fc σ1)∨∃id,c=.exit id∧Q (.exit id) fc σ1)∧CSt Φ0 σ0 n0 tmps fc l (rec .done (some c)) σ1 S' ei):=by
 obtain⟨jg,i1,fr1,c1,o1,s1,r1,l1,b1⟩:=h.at ha ho hs;have hl:l<w.heap.size:=(eb.1 l1).1;have hwl:S.wr l:=(h.wr l).2 (.inr rfl);have hy:=run_yield (P:=P) (args:=vs) l1 (by rw[jy];exact hv.1.trans hx);rw[jy] at hy;refine⟨fn,_,assign,body,hy,roundIn_of_wpIn trivial ?_⟩;have kj:dP jg ((ps.zip vs).foldl (fun t (p:Tmp×Value)=>t.setIfInBounds p.1 p.2) tmps) (o8 ⟨fc.n,fc.l,[]⟩ ps.toList x):=by rw[Df];refine x6 ps.toList x vs.toList tmps ⟨fc.n,fc.l,[]⟩ fr1 (by simpa using hv.1) fun i m hm=>?_;have:=r1 _ _ (hv.2 i m hm);simpa[ee,ao] using this
 refine wpIn_mono (hr (ad.inRound l) (.inr ⟨l,rfl,nda⟩) jg w { tmps:=_,defers:=[] } i1 kj (by rw[MK];exact⟨rfl,b1⟩)) ?_;rintro e ix fj ⟨f2,eh,kh,d2,fr2,i2,kc,q⟩;cases e with
 |normal =>
  have ec:¬aV jg σ l:=i1.pO l1;have uf:fj.heap[l]?=some (.loop (rec .ready none)):=(kc.block l hl ec).trans l1;refine⟨_,run_beginRound uf (by rw[jy]),?_⟩;obtain⟨gz,uh⟩:∃gz,fj.putObj l (.loop { rec .ready none with state:=.busy })=gz:=⟨_,rfl⟩
  rw[uh];have i2':Inv kh gz eh:=by rw[←uh];exact i2.putObj _ uf (fun _ _ _ e=>by cases e) (fun _ _ e=>by cases e)
  have sz2:gz.heap.size=fj.heap.size:=by rw[←uh,ah]
  have ll2:gz.heap[l]?=some (.loop { rec .ready none with state:=.busy }):=by rw[←uh];exact am (eb.1 uf).1
  have d2':eF kh gz ix.defers f2.d:=d2.mono (.refl _) oM fun D' hD=>by
   rw[←uh,ag]
   ·exact hD
   ·rintro rfl;rw[uf] at hD;cases hD
  have q:il P body f2 eh (uJ Q fc nxt):=q;refine wpIn_mono (q (ad.inRound l) (.inr ⟨l,rfl,ndb⟩) kh gz ix i2' fr2 d2') ?_;rintro e a₃ fe ⟨f3,sx,wi,d3,fr3,i3,ri,q3⟩;have hnl2:¬aV kh eh l:=i2'.pO ll2;have hl3:fe.heap[l]?=some (.loop { rec .ready none with state:=.busy }):=(ri.block l (eb.1 ll2).1 hnl2).trans ll2
  -- what a round comes to,whichever way it is left
  have fin:∀(jump:Option Code) (st:Loop) (po:St) (K:FR→St→Prop),st=rec (if jump.isNone then .ready else .done) jump→Gh f3 sx K →
    ∃po f4 nn,K f4 po∧(Instr.endRound l jump).run P fe=.ok (.bool jump.isNone) (fe.putObj l (.loop st)) ∧
     (∃S':YS,S'.w=fe.putObj l (.loop st)∧mL S' (fe.putObj l (.loop st))∧(fe.putObj l (.loop st)).os=w.os∧(fe.putObj l (.loop st)).tape=w.tape∧(fe.putObj l (.loop st)).output=w.output∧ki w≤ki (fe.putObj l (.loop st))∧w.heap.size≤(fe.putObj l (.loop st)).heap.size ∧
      (∀k,k<w.heap.size→¬S.wr k→(fe.putObj l (.loop st)).heap[k]?=w.heap[k]?)∧(∀k,S'.wr k→S.wr k∨w.heap.size≤k) ∧
      (∀a v,S'.sn a=some v→S.sn a=some v∨S.wr a.block∨w.heap.size≤a.block∨Ψ.snap a=some v)∧CSt Φ0 σ0 n0 tmps fc l st po S' nn):=by
   intro jump st _ K dg hg;obtain⟨f4,po,nn,-,k4,i4,fr4,st4⟩:=hg wi fe a₃.tmps i3 fr3;have dy:=run_endRound (P:=P) jump hl3;have xe:({ ({ rec .ready none with state:=.busy }:Loop) with state:=if jump.isNone then .ready else .done,pending:=jump }:Loop)=st:=by rw[dg,jy]
   rw[xe] at dy;refine⟨po,f4,nn,k4,dy,?_⟩;obtain⟨ke,ly⟩:∃ke,fe.putObj l (.loop st)=ke:=⟨_,rfl⟩
   rw[ly];have sz4:ke.heap.size=fe.heap.size:=by rw[←ly,ah]
   have i4':Inv nn ke po:=by rw[←ly];exact i4.putObj _ hl3 (fun _ _ _ e=>by cases e) (fun _ _ e=>by cases e)
   have cs:uW Φ0 σ0 n0 nn po:=((c1.step Zh kc).step (w:=gz) (by have:=kc.size;omega) ri).step (w:=fe) (by have:=kc.size;have:=ri.size;omega) st4;have dq:w.heap.size≤fe.heap.size:=by have:=kc.size;have:=ri.size;omega
   have oth:∀k,k≠l→ke.heap[k]?=fe.heap[k]?:=fun k hk=>by rw[←ly];exact ag hk
   have oth2:∀k,k≠l→gz.heap[k]?=fj.heap[k]?:=fun k hk=>by rw[←uh];exact ag hk
   have ow:∀k,aV nn po k→S.wr k∨w.heap.size≤k:=fun k hk=>by
    rcases st4.cz k hk with q|q
    ·rcases ri.cz k q with q|q
     ·rcases kc.cz k q with q|q
      ·exact .inl ((h.wr k).2 (.inl ((o1 k).1 q)))
      ·exact .inr q
     ·have:=kc.size;exact .inr oM
    ·exact .inr oM
   have hcst:CSt Φ0 σ0 n0 tmps fc l st po ⟨ke,fun k=>aV nn po k∨k=l,nn.snap⟩ nn :=
    ⟨i4',fr1.mono ((kc.le.trans ri.le).trans st4.le),cs,fun _=>Iff.rfl,fun _=>rfl,by simp only;rw[←ly];exact am (eb.1 hl3).1,by simp only;omega,by
     simp only;rw[st4.le.base,ri.le.base,kc.le.base];omega⟩
   refine⟨⟨ke,fun k=>aV nn po k∨k=l,nn.snap⟩,rfl,hcst.agree,?_,?_,?_,?_,oM,fun k hk hw=>?_,fun k hk=>?_,fun a v hv=>?_,hcst⟩
   ·have e1:ke.os=fe.os:=by rw[←ly];rfl
    have e2:gz.os=fj.os:=by rw[←uh];rfl
    rw[e1,ri.os,e2,kc.os]
   ·have e1:ke.tape=fe.tape:=by rw[←ly];rfl
    have e2:gz.tape=fj.tape:=by rw[←uh];rfl
    rw[e1,ri.tape,e2,kc.tape]
   ·have e1:ke.output=fe.output:=by rw[←ly];rfl
    have e2:gz.output=fj.output:=by rw[←uh];rfl
    rw[e1,ri.output,e2,kc.output]
   ·have e1:ki ke=ki fe:=by rw[←ly];rfl
    have e2:ki gz=ki fj:=by rw[←uh];rfl
    have:=kc.drawn;have:=ri.drawn;omega
   ·have mz:k≠l:=fun e=>hw (e ▸ hwl);have lx:¬aV jg σ k:=fun q=>hw ((h.wr k).2 (.inl ((o1 k).1 q)));have hno2:¬aV kh eh k:=fun q=>(kc.cz k q).elim lx (fun q=>oM);rw[oth k mz,ri.block k (by have:=kc.size;omega) hno2,oth2 k mz,kc.block k hk lx]
   ·rcases hk with q|rfl
    ·exact ow k q
    ·exact .inl hwl
   ·have hv:nn.snap a=some v:=hv;have ow3:∀k,aV wi sx k→S.wr k∨w.heap.size≤k:=fun k hk=>by
     rcases ri.cz k hk with q|q
     ·rcases kc.cz k q with q|q
      ·exact .inl ((h.wr k).2 (.inl ((o1 k).1 q)))
      ·exact .inr q
     ·have:=kc.size;exact .inr oM
    have ow2:∀k,aV kh eh k→S.wr k∨w.heap.size≤k:=fun k hk=>by
     rcases kc.cz k hk with q|q
     ·exact .inl ((h.wr k).2 (.inl ((o1 k).1 q)))
     ·exact .inr q
    have tw:S.wr a.block∨w.heap.size≤a.block→S.sn a=some v∨S.wr a.block∨w.heap.size≤a.block∨Ψ.snap a=some v:=fun q=>q.elim (fun q=>.inr (.inl q)) (fun q=>.inr (.inr (.inl q)));rcases st4.cl a v hv with q|q|q
    ·rcases ri.cl a v q with q|q|q
     ·rcases kc.cl a v q with q|q|q
      ·rcases s1 a v q with q|q
       ·exact .inl q
       ·exact .inr (.inr (.inr q))
      ·exact tw (.inr q)
      ·exact tw (.inl ((h.wr _).2 (.inl ((o1 _).1 q))))
     ·have:=kc.size;exact tw (.inr oM)
     ·exact tw (ow2 _ q)
    ·exact tw (.inr oM)
    ·exact tw (ow3 _ q)
  cases e with
  |normal =>
   obtain⟨po,f4,nn,k4,dy,S',hS1,Zq,Zr,Zs,Zt,Zu,ye,wm,yf,nw,lf⟩:=fin none (rec .ready none) sx _ rfl q3;exact⟨_,_,dy,true,S',rfl,hS1,Zq,Zr,Zs,Zt,Zu,ye,wm,yf,nw,po,nn,k4,lf⟩
  |ret =>
   obtain⟨po,f4,nn,k4,dy,S',hS1,Zq,Zr,Zs,Zt,Zu,ye,wm,yf,nw,lf⟩:=fin (some .ret) (rec .done (some .ret)) sx _ rfl q3;exact⟨_,_,dy,false,S',rfl,hS1,Zq,Zr,Zs,Zt,Zu,ye,wm,yf,nw,.ret,po,nn,.inl ⟨rfl,k4⟩,lf⟩
  |exit id =>
   obtain⟨po,f4,nn,k4,dy,S',hS1,Zq,Zr,Zs,Zt,Zu,ye,wm,yf,nw,lf⟩:=fin (some (.exit id)) (rec .done (some (.exit id))) sx _ rfl q3;exact⟨_,_,dy,false,S',rfl,hS1,Zq,Zr,Zs,Zt,Zu,ye,wm,yf,nw,.exit id,po,nn,.inr ⟨id,rfl,k4⟩,lf⟩
  |goto l=>exact q3.elim
  |panic c=>exact q3.elim
  |outgrown=>exact q3.elim
 |exit id=>exact q.elim
 |goto l=>exact q.elim
 |ret=>exact q.elim
 |panic c=>exact q.elim
 |outgrown=>exact q.elim
def St.lF(σ τ:St):(σ.minus τ).le σ:=fun l o h=>(cM h).2
def Ct{P:Program}{g:Operand}{ps:Array Tmp}{assign body:Code}{f:FR}{σ:St}{Q:MQ}{gf:FuncId}{ns:List MV}(hg:aH f g=.fn (.func gf) [] ns){σi:St}(hle:σi.le σ){xs:List (List MV)}
 (vj:Qj P gf ns σi xs)(hx:∀x,x∈xs→x.length=ps.size)(nda:gW assign=true)(ndb:gW body=true){α:Type}(fc:FR)(hd0:fc.d=f.d)(S:Nat→α→St)(p:Nat→α→Prop)
 (h0:Gh f (σ.minus σi) fun f1 σ1=>f1=fc∧∃a,σ1=S 0 a∧p 0 a)
 (round:∀i x a,xs[i]?=some x→p i a→il P assign (o8 ⟨fc.n,fc.l,[]⟩ ps.toList x) (S i a) (H4 fun f1 σ1=>il P body f1 σ1 (uJ Q fc fun eh=>∃b,eh=S (i+1) b∧p (i+1) b)))
 (done:∀a,p xs.length a→Q .normal fc (S xs.length a)):il P (.rangeFunc g ps assign body) f σ Q:=by
 intro F hF Φ w a hi hr hd;have ud:F=ad:=by
  rcases hF with h|⟨l,_,h⟩
  ·exact h
  ·cases h
 subst ud;obtain⟨f1,σ1,ei,-,⟨rfl,a0,rfl,p0⟩,i1,r1,st1⟩:=h0 Φ w a.tmps (hi.less (St.lF σ σi)) hr;have hv:=aL hr g;rw[hg] at hv;obtain⟨first,cap,he,ZA,dv⟩:=hv.pM;have hfe:first=#[]:=by have:=ZA.1;exact el (by simpa using this)
 subst hfe;obtain⟨fnn,mm,nz,vd⟩:=vj.1;have eg:∀(args:Array Value) (w:World),(callFunc gf args).run P w=.ok (.enter gf args) w:=fun args w=>by simp only[callFunc,d8,run_program,mm,vd,nz,Result.andThen_ok,ab,if_false,d7]
 refine wpIn_rangeFunc fun fn _=>?_;obtain⟨rec,jy⟩:∃rec:LoopState→Option Code→Loop,rec=fun st pe=>{ state:=st,pending:=pe,fn,tmps:=a.tmps,params:=ps,assign,body,defers:=w.heap.size }:=⟨_,rfl⟩
 obtain⟨W1,rp⟩:∃W1,(w.alloc (.deferred (some []))).alloc (.loop (rec .ready none))=W1:=⟨_,rfl⟩
 have sz1:W1.heap.size=w.heap.size+2:=by rw[←rp,al,al]
 have old:∀k,k<w.heap.size→W1.heap[k]?=w.heap[k]?:=fun k hk=>by rw[←rp];show((w.heap.push _).push _)[k]?=_;rw[em,if_neg (by simp;omega),em,if_neg oM]
 have hL:W1.heap[w.heap.size+1]?=some (.loop (rec .ready none)):=by rw[←rp];have:=World.alloc_heap_new (w.alloc (.deferred (some []))) (.loop (rec .ready none));rwa [al] at this
 have hD:W1.heap[w.heap.size]?=some (df (some [])):=by rw[←rp];show((w.heap.push _).push _)[w.heap.size]?=_;rw[em,if_neg ax,em,if_pos rfl]
 have eos:W1.os=w.os:=by rw[←rp];rfl
 have eta:W1.tape=w.tape:=by rw[←rp];rfl
 have eou:W1.output=w.output:=by rw[←rp];rfl
 have edr:ki W1=ki w:=by rw[←rp];rfl
 have gr:∀{Φ:bd} {σ:St},Inv Φ w σ→Inv Φ W1 σ∧Step Φ σ w Φ σ W1:=fun h=>h.grow eos eta eou oM oM old;have yo:∀k,aV ei (S 0 a0) k→aV Φ (σ.minus σi) k:=fun k hk=>by
  rcases st1.cz k hk with q|q
  ·exact q
  ·exfalso;obtain⟨l,o,p,h1,h2,h3⟩:=hk;obtain⟨p',e,bh⟩:=(i1.own l o h1).place;rw[h2] at e;cases e;have:=bh k h3;omega
 have ma:∀{τ:St},τ.le σ→∀k,aV Φ τ k→aV Φ σ k:=fun hτ k hk=>hk.less hτ;have um:∀k,aV Φ (σ.minus σi) k→¬aV Φ σi k:=fun k ⟨l,o,p,h1,h2,h3⟩ ⟨l',o',p',h4,h5,h6⟩=>by have e:=hi.inj l l' o o' p p' k (cM h1).2 (hle l' o' h4) h2 h5 h3 h6;subst e;have:=(cM h1).1;rw[h4] at this;cases this
 have hb:=hd.base;obtain⟨S0,hS0⟩:∃S0:YS,S0=⟨W1,fun k=>aV ei (S 0 a0) k∨k=w.heap.size+1,ei.snap⟩:=⟨_,rfl⟩
 have c0:uW Φ σ w.heap.size ei (S 0 a0):=⟨st1.le,fun b v q=>(st1.cl b v q).imp_right (fun q=>q.imp_right (ma (St.lF _ _) _)),fun l o q=>by
  rcases st1.jc l o q with⟨o',h⟩|h
  ·exact .inl ⟨o',(cM h).2⟩
  ·exact .inr h,fun R hR=>.inl (ma (St.lF _ _) _ (yo R hR))⟩
 have cst0:CSt Φ σ w.heap.size a.tmps f1 (w.heap.size+1) (rec .ready none) (S 0 a0) S0 ei:=by subst hS0;exact⟨(gr i1).1,r1,c0,fun _=>Iff.rfl,fun _=>rfl,hL,by simp only;omega,by simp only;rw[st1.le.base];omega⟩
 have apt0:xy Φ σi S0 W1:=by
  have wq:=cst0.agree;subst hS0;refine⟨wq,fun k hk=>?_,fun b v q'=>?_,fun b v q hk=>?_⟩
  ·rcases hk with hk|rfl
   ·exact um k (yo k hk)
   ·exact(gr (hi.less hle)).1.pO hL
  ·rintro⟨l,o,p,h1,h2,h3⟩;rcases st1.cl b v q' with q|q|q
   ·exact hi.apart l o p b.block b v (hle l o h1) h2 h3 q rfl
   ·have bh:=ak w b (i1.snap b v q');omega
   ·exact um _ q ⟨l,o,p,h1,h2,h3⟩
  ·have sc:=ak w b (hi.snap b v q);rcases hk with hk|hk
   ·obtain⟨l,o,p,h1,h2,h3⟩:=yo _ hk;exact hi.apart l o p b.block b v (cM h1).2 h2 h3 q rfl
   ·omega
 refine⟨w.heap.size+1,[{ target:=.collected w.heap.size,args:=#[] }],W1,{ target:=.fn (.func gf) cap,args:=#[.func (.yield (w.heap.size+1)) #[] #[]] },W1,gf,
  #[.func (.yield (w.heap.size+1)) #[] #[]]++cap,W1,?_,?_,fun _ _=>trivial,?_,(fun q=>by cases q),?_⟩
 ·rw[←rp,jy];exact run_enterLoop_outer _ _ _ _ _
 ·simp only[resolve,he];simp[go_sem]
 ·simp[invoke,go_sem,eg]
 ·refine callsIn_wide.2 ((vj.2 (w.heap.size+1)
   (fun i Sx=>∃b jg,p i b∧CSt Φ σ w.heap.size a.tmps f1 (w.heap.size+1) (rec .ready none) (S i b) Sx jg)
   (fun Sx=>∃c px jg,((c=.ret∧Q .ret f1 px)∨∃id,c=.exit id∧Q (.exit id) f1 px)∧CSt Φ σ w.heap.size a.tmps f1 (w.heap.size+1) (rec .done (some c)) px Sx jg)
   Φ W1 S0 cap ?_ (gr (hi.less hle)).1 apt0 ⟨a0,ei,p0,cst0⟩ dv).mono ?_)
  ·rintro i x Sx W Ψ vs hix ⟨b,jg,pb,cs⟩ wq dq ho hs hvs;have vm:=hx x (au hix);have:=Tn (P:=P) rec jy nda ndb vm (round i x b hix pb) cs wq oM ho (fun u v q=>⟨(hs u v q).1,(hs u v q).2.1,(hs u v q).2.2.imp_right fun q=>q.imp (fun q=>oM) (ma hle _)⟩) hvs;obtain⟨fn',t',as',bd',e1,e2⟩:=this;refine⟨fn',t',as',bd',e1,e2.mono ?_⟩;rintro e w' ⟨bb,S',q1,q2,q3,q4,q5,q6,q7,q8,q9,q10,q11,q12⟩;refine⟨bb,S',q1,q2,q3,q4,q5,q6,q7,q8,q9,q10,q11,?_⟩;cases bb with
   |true =>
    obtain⟨eh,kh,⟨b',rfl,pb'⟩,vz⟩:=q12;exact⟨b',kh,pb',vz⟩
   |false=>exact q12
  ·rintro e w3 ⟨v,Φe,σe,S',rfl,ie,ic,yq,hy⟩
   -- the loop's side behind the iterator
   have fin:∀(st:Loop) (px:St) (jg:bd),CSt Φ σ w.heap.size a.tmps f1 (w.heap.size+1) st px S' jg→st.state≠.busy→∃w4,(Instr.endLoop (w.heap.size+1)).run P w3=.ok st.pending w4 ∧
     Inv jg w4 px∧Step Φ σ w jg px w4∧eF jg w4 ({ target:=.collected w.heap.size,args:=#[] }::a.defers) f1.d:=by
    intro st px jg cs hbusy;have Z6:w3.heap[w.heap.size+1]?=some (.loop st):=(ic.agree.same _ ((cs.wr _).2 (.inr rfl))).trans cs.su;obtain⟨w4,ly⟩:∃w4,w3.putObj (w.heap.size+1) (.loop { st with state:=.exhausted })=w4:=⟨_,rfl⟩
    have dy:=run_endLoop (P:=P) Z6 hbusy;rw[ly] at dy;have sz4:w4.heap.size=w3.heap.size:=by rw[←ly,ah]
    have szz:w.heap.size+2≤w3.heap.size:=by have:=yq.size;omega
    have i3:Inv jg w3 px:=by have ZP:∀k,aV jg px k→w3.heap[k]?=S'.w.heap[k]?:=fun k hk=>ic.agree.same k ((cs.wr k).2 (.inl hk));exact⟨fun l' o hl=>(cs.inv.own l' o hl).mono (.refl _) fun p R h1 h2=>ZP R ⟨l',o,p,hl,h1,h2⟩,cs.inv.inj,fun b u q=>ic.agree.sn b u (by rw[cs.sn b];exact q),cs.inv.apart,cs.inv.fresh⟩
    have i4:Inv jg w4 px:=by rw[←ly];exact i3.putObj _ Z6 (fun _ _ _ e=>by cases e) (fun _ _ e=>by cases e)
    have jh:∀k,k<w.heap.size→¬aV Φ σ k→w4.heap[k]?=w.heap[k]?:=fun k hk hn=>by
     rw[←ly,ag oM,yq.block k oM (fun q=>hn (ma hle k q)) (fun q=>?_),old k hk];subst hS0;rcases q with q|q
     ·exact hn (ma (St.lF _ _) k (yo k q))
     ·omega
    have hmark:w4.heap[w.heap.size]?=some (df (some [])):=by
     rw[←ly,ag oM,yq.block _ oM ((gr (hi.less hle)).1.mark hD) (fun q=>?_),hD];subst hS0;rcases q with q|q
     ·exact(gr i1).1.mark hD q
     ·omega
    have zv:Step Φ σ w jg px w4 :=
     ⟨cs.step.le,by rw[←ly];exact yq.os.trans eos,by rw[←ly];exact yq.tape.trans eta,by rw[←ly];exact yq.output.trans eou,by
      have e:ki w4=ki w3:=by rw[←ly];rfl
      have:=yq.drawn;omega,oM,jh,cs.step.cl,cs.step.jc,cs.step.cz⟩
    refine⟨w4,dy,i4,zv,.inl ⟨w.heap.size,rfl,by rw[cs.step.le.base];exact hb,hmark,fun y hy e=>?_,hd0 ▸ hd.step hi zv⟩⟩
    -- the mark is a new one
    have:∀(ds:List Deferred) (d:List (FuncId×List MV)),eF Φ w ds d→∀y,y∈ds→y.target≠.collected w.heap.size:=by
     intro ds
     induction ds with
     |nil=>intro d _ y hy;cases hy
     |cons z ds ih =>
      intro d h y hy;rcases h with⟨D,k1,k2,k3,k4,k5⟩|⟨g,ms,r,cp,k1,k2,k3,k4⟩
      ·rcases bi.1 hy with rfl|hy
       ·rw[k1];intro e;cases e;have:=(eb.1 k3).1;omega
       ·exact ih d k5 y hy
      ·rcases bi.1 hy with rfl|hy
       ·rw[k2];intro e;cases e
       ·exact ih r k4 y hy
    exact this a.defers f.d hd y hy e
   rcases hy with⟨b,jg,pb,cs⟩|⟨c,px,jg,hc,cs⟩
   ·obtain⟨w4,dy,i4,s4,d4⟩:=fin _ _ _ cs (by rw[jy];simp);refine⟨none,w4,by rw[dy,jy],f1,_,jg,d4,cs.frame,i4,s4,done b pb⟩
   ·obtain⟨w4,dy,i4,s4,d4⟩:=fin _ _ _ cs (by rw[jy];simp);refine⟨some c,w4,by rw[dy,jy],?_⟩;rcases hc with⟨rfl,q⟩|⟨id,rfl,q⟩
    ·exact wpIn_ret ⟨f1,_,jg,d4,cs.frame,i4,s4,q⟩
    ·exact wpIn_exit ⟨f1,_,jg,d4,cs.frame,i4,s4,q⟩
inductive kA:MV→Prop where
 |flat {m:MV} (h:Flat m):kA m
 |aj {e:Nat} {xs:List (List MV)} {t:Bool} (h:∀x,x∈xs→∀m,m∈x→kA m):kA (.aj e xs t)
 |cg {cs:List MV} (h:∀m,m∈cs→kA m):kA (.cg cs)
 |agg {cs:List MV} (h:∀m,m∈cs→kA m):kA (.agg cs)
def kA.rel{Φ Φ':bd}(hs:∀a v,Φ.snap a=some v→Φ'.snap a=some v){m:MV}(h:kA m):∀{v:Value},Rel Φ v m→Rel Φ' v m:=by
 induction h with
 |flat h=>intro v r;exact h.rel r
 |aj h ih =>
  intro v r;cases r with
  |nj=>exact .nj _ _
  |qa a _ cap _ ht hm=>exact .qa a _ cap _ ht hm
  |aj hl h0 dv hm ht hx vs hc hr =>
   exact .aj hl h0 dv hm ht hx vs (fun i x j m a b=>⟨(hc i x j m a b).1,hs _ _ (hc i x j m a b).2⟩) fun i x j m a b=>ih x (au a) m (au b) (hr i x j m a b)
 |cg h ih =>
  intro v r;cases r with
  |cg vs hc hr=>exact .cg vs (fun j m hm=>⟨(hc j m hm).1,hs _ _ (hc j m hm).2⟩) fun j m hm=>ih m (au hm) (hr j m hm)
 |agg h ih =>
  intro v r;cases r with
  |agg h1 h2 h3=>exact .agg h1 h2 fun i m hm=>ih m (au hm) (h3 i m hm)
structure YC where
 l:Nat
 xs:List (List MV)
 Y:Nat→YS→Prop
 Yx:YS→Prop
 Φ0:bd
 σ0:St
 n0:Nat
def YC.st(C:YC):Option Nat→YS→Prop
 |some i,S=>C.Y i S
 |none,S=>C.Yx S
structure kC (C:YC) (Φ:bd) (σ:St) (w:World) (S:YS) (t:Option Nat):Prop where
 inv:Inv Φ w σ
 ic:xy Φ σ S w
 cl:∀a v,Φ.snap a=some v→C.Φ0.snap a=some v∨C.n0≤a.block∨aV C.Φ0 C.σ0 a.block
 cz:∀R,aV Φ σ R→aV C.Φ0 C.σ0 R∨C.n0≤R
 size:C.n0≤w.heap.size
 st:C.st t S
abbrev YQ:=Exit→FR→St→Option Nat→Prop
def Dw(C:YC)(Φ:bd)(σ:St)(w:World)(S:YS)(Q:YQ):Exit→Act→World→Prop:=fun e a' w' =>
 ∃f' af t' Φ' S',kC C Φ' af w' S' t'∧dP Φ' a'.tmps f'∧eF Φ' w' a'.defers f'.d∧eL Φ σ w S Φ' af w' S'∧Q e f' af t'
def zx(P:Program)(C:YC)(c:Code)(f:FR)(σ:St)(t:Option Nat)(Q:YQ):Prop :=
 ∀F,mi F c→∀Φ w a S,kC C Φ σ w S t→dP Φ a.tmps f→eF Φ w a.defers f.d→c.wpIn F 0 P (Dw C Φ σ w S Q) a w
section rules
variable {P:Program} {C:YC} {f:FR} {σ:St} {t:Option Nat} {Q:YQ}
def A2{Φ ei:bd}{σ σ1:St}{w0 w1:World}{S S1:YS}(h:eL Φ σ w0 S ei σ1 w1 S1){e:Exit}{a:Act}{w:World}(k:Dw C ei σ1 w1 S1 Q e a w):Dw C Φ σ w0 S Q e a w :=
 let ⟨f',af,t',Φ',S',h1,h2,h3,h4,h5⟩:=k
 ⟨f',af,t',Φ',S',h1,h2,h3,h.trans h4,h5⟩
def kC.go{Φ Φ':bd}{σ af:St}{w w':World}{S:YS}(h:kC C Φ σ w S t)(i:Inv Φ' w' af)(s:Step Φ σ w Φ' af w'):kC C Φ' af w' S t :=
 ⟨i,h.ic.step s,fun a v q=>by
  rcases s.cl a v q with q|q|q
  ·exact h.cl a v q
  ·exact .inr (.inl (cS h.size q))
  ·rcases h.cz _ q with q|q
   ·exact .inr (.inr q)
   ·exact .inr (.inl q),fun R hR=>by
  rcases s.cz R hR with q|q
  ·exact h.cz R q
  ·exact .inr (cS h.size q),cS h.size s.size,h.st⟩
def Xm{c:Code}(h:il P c f σ fun e f' af=>Q e f' af t):zx P C c f σ t Q :=
 fun F hF Φ w a S hi hr hd=>wpIn_mono (h F hF Φ w a hi.inv hr hd) fun _ _ _ ⟨f',af,Φ',x1,x2,x3,x4,q⟩=>⟨f',af,t,Φ',S,hi.go x3 x4,x2,x1,.of S x4,q⟩
def Ji(next:FR→St→Option Nat→Prop)(Q:YQ):YQ
 |.normal,f,σ,t=>next f σ t
 |e,f,σ,t=>Q e f σ t
def j8{x y:Code}(h:zx P C x f σ t (Ji (fun f' af t'=>zx P C y f' af t' Q) Q)):zx P C (.seq x y) f σ t Q:=by
 intro F hF Φ w a S hi hr hd;refine wpIn_seq (wpIn_mono (h F hF.seq1 Φ w a S hi hr hd) fun e a' w' ⟨f',af,t',Φ',S',h1,h2,h3,h4,q⟩=>?_);cases e with
 |normal=>exact wpIn_mono (q F hF.W5 Φ' w' a' S' h1 h2 h3) fun _ _ _ hq=>A2 h4 hq
 |_=>exact⟨f',af,t',Φ',S',h1,h2,h3,h4,q⟩
def xV(id:Nat)(Q:YQ):YQ
 |.exit ZQ,f,σ,t=>if ZQ=id then Q .normal f σ t else Q (.exit ZQ) f σ t
 |e,f,σ,t=>Q e f σ t
def sU{id:Nat}{c:Code}(h:zx P C c f σ t (xV id Q)):zx P C (.block id c) f σ t Q:=by
 intro F hF Φ w a S hi hr hd;refine wpIn_block (wpIn_mono (h F hF.block Φ w a S hi hr hd) fun e a' w' ⟨f',af,t',Φ',S',h1,h2,h3,h4,q⟩=>?_);cases e with
 |exit ZQ =>
  simp only[Exit.inBlock];simp only[xV] at q;split
  ·rw[if_pos bc] at q;exact⟨f',af,t',Φ',S',h1,h2,h3,h4,q⟩
  ·rw[if_neg bc] at q;exact⟨f',af,t',Φ',S',h1,h2,h3,h4,q⟩
 |_=>exact⟨f',af,t',Φ',S',h1,h2,h3,h4,q⟩
def Xl{c:Code}(h:Gh f σ fun f1 σ1=>zx P C c f1 σ1 t Q):zx P C c f σ t Q:=by intro F hF Φ w a S hi hr hd;obtain⟨f1,σ1,ei,hf,k1,i1,r1,s1⟩:=h Φ w a.tmps hi.inv hr;exact wpIn_mono (k1 F hF ei w a S (hi.go i1 s1) r1 (hf ▸ hd.step hi.inv s1)) fun _ _ _ hq=>A2 (.of S s1) hq
def Jt{α:Type}{c:Code}(Fr:α→FR)(Sr:α→St)(T:α→Option Nat)(p:α→Prop)(μ:α→Nat)(h0:Gh f σ fun f1 σ1=>∃a,f1=Fr a∧σ1=Sr a∧t=T a∧p a)
 (round:∀a,p a→zx P C c (Fr a) (Sr a) (T a) (Ji (fun f' af t'=>Gh f' af fun f1 σ1=>∃b,f1=Fr b∧σ1=Sr b∧t'=T b∧p b∧μ b<μ a) Q)):zx P C (.loop c) f σ t Q:=by
 refine Xl (fun Φ w vs hi hr=>?_);obtain⟨f1,σ1,ei,hf,⟨a0,e1,e2,e3,p0⟩,i1,r1,s1⟩:=h0 Φ w vs hi hr;subst e1;subst e2;subst e3;refine⟨_,_,ei,hf,?_,i1,r1,s1⟩;clear h0 hi hr s1 i1 r1 hf;intro Fe hF Φ w a S hi hr hd b k cs hro hb gu;have key:∀n x Φ w a S,μ x=n→p x→kC C Φ (Sr x) w S (T x)→dP Φ a.tmps (Fr x)→eF Φ w a.defers (Fr x).d →
   ∃e a' w',Dw C Φ (Sr x) w S Q e a' w'∧ArrivesIn (Machine.fenced P Fe) P (lone (b.atR a (.code c::.inLoop c::k)) cs w) b k cs e a' w':=by
  intro n
  induction n using Nat.strongRecOn with
  |_ n ih =>
   intro x Φ w a S hn hI hi hr hd;obtain⟨e,ix,fj,hq,ek⟩:=round x hI Fe hF.loop Φ w a S hi hr hd b (.inLoop c::k) cs hro hb gu;cases e with
   |normal =>
    obtain⟨f',af,t',Φ',S',y1,y2,y3,y4,g2⟩:=hq;obtain⟨f2,eh,kh,g0,⟨x2,e1,e2,e3,hI2,bh⟩,i2,r2,s2⟩:=g2 Φ' fj ix.tmps y1.inv y2;subst e1;subst e2;subst e3;obtain⟨e₂,a₂,gz,hq₂,yg⟩:=ih (μ x2) (hn ▸ bh) x2 kh fj ix S' rfl hI2 (y1.go i2 s2) r2 (g0 ▸ y3.step y1.inv s2);exact⟨e₂,a₂,gz,A2 (y4.trans (.of S' s2)) hq₂,.of_steps (StepsIn.trans ek (.one (fenced_calm hb gu rfl) stepR_inLoop)) yg⟩
   |exit id=>exact⟨_,ix,fj,hq,.pass (x:=.inLoop c) rfl (fun _ _=>.inl ax) ek⟩
   |goto l=>exact⟨_,ix,fj,hq,.pass (x:=.inLoop c) rfl (fun _ _=>.inl ax) ek⟩
   |ret=>exact⟨_,ix,fj,hq,.pass (x:=.inLoop c) rfl (fun _ _=>.inl ax) ek⟩
   |panic ch=>exact⟨_,ix,fj,hq,.pass (x:=.inLoop c) rfl (fun _ _=>.inl ax) ek⟩
   |outgrown=>exact⟨_,ix,fj,hq,.pass (x:=.inLoop c) rfl (fun _ _=>.inl ax) ek⟩
 obtain⟨e,a',w',hq,ek⟩:=key _ a0 Φ w a S rfl p0 hi hr hd;exact⟨e,a',w',hq,.of_steps (.one (fenced_calm hb gu rfl) stepR_loop) ek⟩
def HL{ops:Array Oper}{K:FR→St→Prop}{F:Fence}{Qm:Exit→Act→World→Prop}{rest:List Oper}:∀(l:List Oper),(F=ad∨∃l0,F=ad.inRound l0)→(∀o,o∈l→∀c,o.op≠.defer c)→∀(f:FR) (σ:St) (Φ:bd) (w:World) (a:Act),
  eC P ops K l f σ→Inv Φ w σ→dP Φ a.tmps f→eF Φ w a.defers f.d →
  (∀f' af Φ' w' a',K f' af→Inv Φ' w' af→dP Φ' a'.tmps f'→eF Φ' w' a'.defers f'.d→Step Φ σ w Φ' af w'→wpListIn F 0 P ops Qm rest a' w')→wpListIn F 0 P ops Qm (l++rest) a w:=by
 intro l hF;have mm:∀g,F.fn g:=fun g=>by rcases hF with rfl|⟨l,rfl⟩<;>trivial
 induction l with
 |nil=>intro _ f σ Φ w a h hi hr hd hk;exact hk f σ Φ w a h hi hr hd (.refl _ _ _)
 |cons o r ih =>
  intro hdf f σ Φ w a h hi hr hd hk;have uu:∀c,o.op≠.defer c:=hdf o ax;have ih:=ih fun o ho=>hdf o (by simp[ho]);have yd:F=ad∨∃l0,F=ad.inRound l0∧∀c,o.op≠.defer c:=hF.imp id fun⟨l0,e⟩=>⟨l0,e,uu⟩
  simp only[eC] at h;rw[az];unfold wpListIn;rcases cQ h hr with⟨hw,hy⟩|⟨hw,hn⟩
  ·rw[if_pos hw];refine fK yd (lG uu hy Φ w a _ _ hi hr fun v mv af Φ' w' r1 i1 s1 ZD=>?_);exact ih _ _ Φ' w' (a.put o.dst v) ZD i1 (cT (hr.mono s1.le) o.dst r1) (by rw[bT,eD];exact hd.step hi s1) fun f' af kh w2 a2 k1 k2 k3 k4 k5=>hk f' af kh w2 a2 k1 k2 k3 k4 (s1.trans k5)
  ·rw[if_neg (by simp[hw])];exact⟨fun f _=>mm f,ih _ _ Φ w (a.put o.dst undef) hn hi (cT hr o.dst gL) (by rw[bT,eD];exact hd) hk⟩
def tJ{F:Fence}(hF:F=ad∨∃l,F=ad.inRound l){n:Nat}{l:Nat}{fn:FuncId}{tmps:Array Value}{assign body:Code}{w:World}{R:Ending→World→Prop}(h:RoundIn ad n P l fn tmps assign body w R):RoundIn F n P l fn tmps assign body w R:=by
 rcases hF with rfl|⟨l0,rfl⟩
 ·exact h
 ·exact h
def LU{id:Nat}{ops:Array Oper}(pre:List Oper)(y:Oper)(post:List Oper)(ho:ops.toList=pre++y::post)(mo:∀o,o∈pre→∀c,o.op≠.defer c)(hpost:∀o,o∈post→∀c,o.op≠.defer c)
 {o:Operand}{args:Array Operand}{ts:Array TypeId}(hy:y.op=.call ⟨.value o,args,ts⟩)(hg:y.guard=none){i:Nat}(ht:t=some i){x:List MV}(hx:C.xs[i]?=some x)(lx:∀m,m∈x→kA m)
 (jz:qG P C.l C.xs C.Y C.Yx C.Φ0 C.σ0 C.n0)
 (h:eC P ops (fun f1 σ1=>aH f1 o=.fn (.yield C.l) [] []∧args.toList.map (aH f1)=x∧eC P ops (fun f2 eh=>Q .normal f2 eh (some (i+1))) post (bI f1 y.dst (.bool true)) σ1 ∧
   eC P ops (fun f2 eh=>Q .normal f2 eh none) post (bI f1 y.dst (.bool false)) σ1) pre f σ):zx P C (.region id ops false) f σ t Q:=by
 intro F hF Φ w a S hi hr hd;subst ht;have ud:F=ad∨∃l0,F=ad.inRound l0:=Or.imp (fun q=>q) (fun⟨l0,e,_⟩=>⟨l0,e⟩) hF;have hro:F.room 0:=hF.room 0;refine wpIn_region_list ?_;rw[ho];refine HL pre ud mo f σ Φ w a h hi.inv hr hd fun f1 σ1 ei w1 a1 hk i1 r1 d1 s1=>?_;obtain⟨hv,lq,ht,iw⟩:=hk;have lk:=hi.go i1 s1;unfold wpListIn;rw[if_pos (by unfold d6;rw[hg])];have rv:=aL r1 o;rw[hv] at rv;obtain⟨first,cap,he,h1,h2⟩:=rv.pM;have e1:first=#[]:=el (by simpa using h1.1)
 have e2:cap=#[]:=el (by simpa using h2.1);subst e1 e2;have ou:=nD r1 args;rw[lq] at ou;obtain⟨Ψ,hΨ⟩:∃Ψ:bd,Ψ=⟨ei.snap,fun _=>none,0⟩:=⟨_,rfl⟩
 have ZJ:iX Ψ (args.map a1.eval) x:=⟨ou.1,fun j m hm=>by
  subst hΨ;exact kA.rel (Φ:=ei) (Φ':=⟨ei.snap,fun _=>none,0⟩) (fun _ _ q=>q) (lx m (au hm)) (ou.2 j m hm)⟩
 obtain⟨fn,tmps,assign,body,di,ZK⟩:=jz i x S w1 Ψ (args.map a1.eval) hx lk.st lk.ic.agree lk.size (fun m=>by subst hΨ;rfl) (fun b v q=>by
  subst hΨ;exact⟨i1.snap b v q,lk.ic.snap b v q,lk.cl b v q⟩) ZJ
 have hsem:(y.semAt F.round a1.eval).run P w1=.ok (.round C.l fn tmps assign body) w1:=by rw[Oper.semAt_eq _ _ _ (by rw[hy];intro c e;cases e)];unfold execOp;simp only[hy,resolve,he,Deferred.ofValue,d8,d7,Result.andThen_ok,invoke,Array.empty_append,Array.append_empty];exact di
 refine⟨fun g _=>hF.fn g,?_⟩;rw[hsem];refine⟨(fun q=>by rw[hF.depth] at q;cases q),?_⟩;refine(tJ ud ZK).mono ?_;rintro e w2 ⟨b,S',rfl,hS1,Zq,Zr,Zs,Zt,Zu,ye,wm,yf,nw,lf⟩
 -- our own side is as it was
 have ow:∀k,aV ei σ1 k→w2.heap[k]?=w1.heap[k]?:=fun k hk=>by refine wm k ?_ fun q=>lk.ic.own k q hk;obtain⟨l,ob,p,q1,q2,q3⟩:=hk;obtain⟨p',e,bh⟩:=(i1.own l ob q1).place;rw[q2] at e;cases e;exact bh k q3
 have i2:Inv ei w2 σ1:=⟨fun l ob hl=>(i1.own l ob hl).mono (.refl _) fun p R q1 q2=>ow R ⟨l,ob,p,hl,q1,q2⟩,i1.inj,fun c v q=>by
   have hb:=ak w1 c (i1.snap c v q);rw[World.fF (wm c.block hb (lk.ic.snap c v q))];exact i1.snap c v q,i1.apart,i1.fresh⟩
 have apt2:xy ei σ1 S' w2:=by
  have lt1:∀k,aV ei σ1 k→k<w1.heap.size:=fun k ⟨l,ob,p,q1,q2,q3⟩=>by obtain⟨p',e,bh⟩:=(i1.own l ob q1).place;rw[q2] at e;cases e;exact bh k q3
  refine⟨Zq,fun k hk ho=>?_,fun c v q ho=>?_,fun c v q hk=>?_⟩
  ·rcases yf k hk with q|q
   ·exact lk.ic.own k q ho
   ·have:=lt1 k ho;omega
  ·rcases nw c v q with q|q|q|q
   ·exact lk.ic.rf c v q ho
   ·exact lk.ic.own _ q ho
   ·have:=lt1 _ ho;omega
   ·subst hΨ;obtain⟨l,ob,p,q1,q2,q3⟩:=ho;exact i1.apart l ob p c.block c v q1 q2 q3 q rfl
  ·rcases yf _ hk with p|p
   ·exact lk.ic.snap c v q p
   ·have:=ak w1 c (i1.snap c v q);omega
 have kc:eL ei σ1 w1 S ei σ1 w2 S':=⟨.refl _,Zr,Zs,Zt,Zu,ye,fun k hk _ hw=>wm k hk hw,fun c v q=>.inl q,fun R q=>.inl q,yf,fun c v q=>by
  subst hΨ;rcases nw c v q with q|q|q|q
  ·exact .inl q
  ·exact .inr (.inl q)
  ·exact .inr (.inr (.inl q))
  ·exact .inr (.inr (.inr (.inl q)))⟩
 have d2:eF ei w2 a1.defers f1.d:=d1.mono (.refl _) ye fun D hD=>by rw[wm D (eb.1 hD).1 (fun q=>lk.ic.agree.pn D q _ ((lk.ic.agree.same D q).symm.trans hD))];exact hD
 have go:∀(b:Bool) (t':Option Nat),C.st t' S'→eC P ops (fun f2 eh=>Q .normal f2 eh t') post (bI f1 y.dst (.bool b)) σ1→wpListIn F 0 P ops (Dw C Φ σ w S Q) post (a1.put y.dst (.bool b)) w2:=by
  intro b t' dg hm;have hyi:kC C ei σ1 w2 S' t':=⟨i2,apt2,lk.cl,lk.cz,cS lk.size ye,dg⟩
  have:=HL (rest:=[]) (Qm:=Dw C Φ σ w S Q) post ud hpost (bI f1 y.dst (.bool b)) σ1 ei w2 (a1.put y.dst (.bool b)) hm i2 (cT r1 y.dst (.bool b)) (by rw[bT,eD];exact d2) fun f2 eh kh w3 a3 k1 k2 k3 k4 k5=>by unfold wpListIn;exact⟨f2,eh,t',kh,S',hyi.go k2 k5,k3,k4,((eL.of S s1).trans kc).trans (.of S' k5),k1⟩
  rwa [ce] at this
 cases b with
 |true=>exact go true (some (i+1)) (by rw[if_pos rfl] at lf;exact lf) ht
 |false=>exact go false none (by rw[if_neg br] at lf;exact lf) iw
end rules
def xy.putObj{Φ:bd}{σ:St}{S:YS}{w:World}(h:xy Φ σ S w){D:Nat}{x:Option (List Deferred)}(o':Obj)(hD:w.heap[D]?=some (df x)):xy Φ σ S (w.putObj D o'):=by have fg:∀k,S.wr k→k≠D:=fun k hk e=>h.agree.pn k hk x (by rw[←h.agree.same k hk,e];exact hD);refine⟨⟨fun k hk=>(ag (fg k hk)).trans (h.agree.same k hk),h.agree.lt,h.agree.pn,fun a v q=>?_,by rw[ah];exact h.agree.size,h.agree.os,h.agree.tape,h.agree.output,h.agree.drawn⟩,h.own,h.rf,h.snap⟩;have hc:=h.agree.sn a v q;rw[←hc];refine World.fF (ag fun e=>?_);rw[World.cell?,e,hD] at hc;simp at hc
def MA{P:Program}{fn:Func}{tmps:Array Value}{C:YC}{t:Option Nat}(tq:fn.results.toList=[]){Φ0:bd}{σ0:St}{w0:World}{S0:YS}(h0:Φ0.base=w0.heap.size){R:Ending→World→Prop}(hR:∀v Φ' w' af S',kC C Φ' af w' S' t→eL Φ0 σ0 w0 S0 Φ' af w' S'→R (.returned v) w') :
  ∀(ds:List Deferred) (Φ:bd) (w:World) (σ:St) (S:YS),eF Φ w ds []→kC C Φ σ w S t→eL Φ0 σ0 w0 S0 Φ σ w S→kQ P fn tmps R ds w:=by
 intro ds
 induction ds with
 |nil =>
  intro Φ w σ S _ hi hs;refine⟨.tuple #[],?_,hR _ Φ w σ S hi hs⟩;rw[pW];have:fn.results=#[]:=Array.toList_eq_nil_iff.1 tq;simp only[this];first|rfl|simp[d8,d7]
 |cons x ds ih =>
  intro Φ w σ S hd hi hs;rcases hd with⟨D,h1,h2,h3,h4,h5⟩|⟨g,ms,r,cap,h,_⟩
  ·refine .inl ⟨D,_,h1,run_takeDeferred h3,?_⟩;have hDb:w0.heap.size≤D:=by rw[←h0,←hs.le.base];exact h2
   have i':=hi.inv.putObj (.deferred none) h3 (fun _ _ _ e=>by cases e) (fun _ _ e=>by cases e);have s':eL Φ0 σ0 w0 S0 Φ σ (w.putObj D (.deferred none)) S :=
    ⟨hs.le,hs.os,hs.tape,hs.output,hs.drawn,by rw[ah];exact hs.size,fun k hk hn hw=>(ag oM).trans (hs.block k hk hn hw),hs.cl,hs.cz,hs.wr,hs.sn⟩
   refine ih Φ _ σ S ?_ ⟨i',hi.ic.putObj _ h3,hi.cl,hi.cz,by rw[ah];exact hi.size,hi.st⟩ s';have:∀(xs:List Deferred) (d:List (FuncId×List MV)),(∀y,y∈xs→y.target≠.collected D)→eF Φ w xs d→eF Φ (w.putObj D (.deferred none)) xs d:=by
    intro xs
    induction xs with
    |nil=>intro d _ h;exact⟨h.1,by rw[ah];exact h.2⟩
    |cons y xs ihx =>
     intro d hy h;rcases h with⟨D',k1,k2,k3,k4,k5⟩|⟨g,ms,r,cap,k1,k2,k3,k4⟩
     ·refine .inl ⟨D',k1,k2,?_,k4,ihx d (fun z hz=>hy z (by simp[hz])) k5⟩;rw[ag]
      ·exact k3
      ·intro e;exact hy y ax (by rw[k1,e])
     ·exact .inr ⟨g,ms,r,cap,k1,k2,k3,ihx r (fun z hz=>hy z (by simp[hz])) k4⟩
   exact this ds [] h4 h5
  ·cases h
def W3(n:Nat):YQ
 |.normal,f,_,t=>f.d=[]∧(t=some n∨t=none)
 |.ret,f,_,t=>f.d=[]∧(t=some n∨t=none)
 |_,_,_,_=>False
def qG.bA{P:Program}{l:Nat}{xs:List (List MV)}{Y:Nat→YS→Prop}{Yx:YS→Prop}{Φ:bd}{σ:St}{n0:Nat}(h:qG P l xs Y Yx Φ σ n0)(n:Nat):qG P l xs Y Yx (Φ.bA n) σ n0 :=
 fun i x S w' Ψ vs h1 h2 h3 h4 h5 h6 h7=>h i x S w' Ψ vs h1 h2 h3 h4 h5 h6 h7
def xy.bA{Φ:bd}{σ:St}{S:YS}{w:World}(h:xy Φ σ S w)(n:Nat):xy (Φ.bA n) σ S w:=⟨h.agree,h.own,h.rf,h.snap⟩
def eL.bA{Φ Φ':bd}{σ af:St}{w w':World}{S S':YS}{n:Nat}(h:eL (Φ.bA n) σ w S Φ' af w' S'):eL Φ σ w S (Φ'.bA Φ.base) af w' S' :=
 ⟨⟨h.le.snap,h.le.obj,rfl⟩,h.os,h.tape,h.output,h.drawn,h.size,h.block,h.cl,h.cz,h.wr,h.sn⟩
def Qj.gY{P:Program}{g:FuncId}{fn:Func}{c:Code}{ns:List MV}{σi:St}{xs:List (List MV)}(n:Nat)(hf:P.funcs[g]?=some fn)(hb:fn.body=some c)(hn:(fn.name == "runtime.NumGoroutine")=false)
 (ZH:max fn.ntmps (ns.length+1)=n)(tq:fn.results.toList=[])
 (h:∀C:YC,C.xs=xs→qG P C.l C.xs C.Y C.Yx C.Φ0 C.σ0 C.n0→zx P C c ⟨n,jD 0 (.fn (.yield C.l) [] []::ns),[]⟩ σi (some 0) (W3 xs.length)):Qj P g ns σi xs:=by
 refine⟨⟨fn,hf,by simp[hb],hn⟩,fun l Y Yx Φ w S vs jz hi ha h0 hr=>?_⟩;obtain⟨C,hC⟩:∃C:YC,C=⟨l,xs,Y,Yx,Φ.bA w.heap.size,σi,w.heap.size⟩:=⟨_,rfl⟩
 have lq:iX (Φ.bA w.heap.size) (#[Value.func (.yield l) #[] #[]]++vs) (.fn (.yield l) [] []::ns):=by
  refine⟨by simp[hr.1];omega,fun i m hm=>?_⟩;cases i with
  |zero =>
   simp only[ap,d0] at hm;subst hm;have e:(#[Value.func (.yield l) #[] #[]]++vs).getD 0 undef=Value.func (.yield l) #[] #[]:=by simp[ee,er]
   rw[e];exact wR _ (.func (.yield l) #[] #[])
  |succ i =>
   have:=(hr.2 i m (by simpa using hm)).bA w.heap.size;have e:(#[Value.func (.yield l) #[] #[]]++vs).getD (i+1) undef=vs.getD i undef:=by simp[ee,er]
   rw[e];exact this
 have kj:=x0 (fn:=fn) lq;rw[bg,ZH] at kj;have nz:=h C (by rw[hC]) (by rw[hC];exact jz.bA _);have dg:kC C (Φ.bA w.heap.size) σi w S (some 0):=by subst hC;exact⟨hi.bA _,ha.bA _,fun a v q=>.inl q,fun R q=>.inl q,c8 _,h0⟩
 have hl:C.l=l:=by rw[hC]
 rw[hl] at nz;refine(pF (R:=fun e w'=>∃v Φ' af S',e=.returned v∧(kC C Φ' af w' S' (some xs.length)∨kC C Φ' af w' S' none)∧eL (Φ.bA w.heap.size) σi w S Φ' af w' S') hf hb (wp_mono (wpIn_wide.1 (nz _ .wide (Φ.bA w.heap.size) w { tmps:=_,defers:=[] } S dg kj ⟨rfl,c8 _⟩)) ?_)).mono ?_
 ·rintro e a' w' ⟨f',af,t',Φ',S',q1,q2,q3,q4,q5⟩;have fin:(t'=some xs.length∨t'=none)→f'.d=[]→kQ P fn a'.tmps (fun e w'=>∃v Φ' af S',e=.returned v∧(kC C Φ' af w' S' (some xs.length)∨kC C Φ' af w' S' none)∧eL (Φ.bA w.heap.size) σi w S Φ' af w' S') a'.defers w':=by
   intro ht hd;rw[hd] at q3;rcases ht with rfl|rfl
   ·exact MA (P:=P) (fn:=fn) (tmps:=a'.tmps) tq (Φ0:=Φ.bA w.heap.size) (w0:=w) rfl (fun v ZZ w'' ub S'' q qs=>⟨v,ZZ,ub,S'',rfl,.inl q,qs⟩) a'.defers Φ' w' af S' q3 q1 q4
   ·exact MA (P:=P) (fn:=fn) (tmps:=a'.tmps) tq (Φ0:=Φ.bA w.heap.size) (w0:=w) rfl (fun v ZZ w'' ub S'' q qs=>⟨v,ZZ,ub,S'',rfl,.inr q,qs⟩) a'.defers Φ' w' af S' q3 q1 q4
  cases e with
  |normal=>exact⟨.inl rfl,fin q5.2 q5.1⟩
  |ret=>exact⟨.inr rfl,fin q5.2 q5.1⟩
  |_=>exact q5.elim
 ·rintro e w' ⟨v,Φ',af,S',rfl,q,qs⟩;subst hC;rcases q with q|q
  ·exact⟨v,Φ'.bA Φ.base,af,S',rfl,q.inv.bA _,q.ic.bA _,qs.bA,.inl q.st⟩
  ·exact⟨v,Φ'.bA Φ.base,af,S',rfl,q.inv.bA _,q.ic.bA _,qs.bA,.inr q.st⟩
structure C2 (Φ0:bd) (σ0:St) (n0:Nat) (Φ:bd) (σ:St):Prop where
 le:Φ0.le Φ
 cl:∀a v,Φ.snap a=some v→Φ0.snap a=some v∨n0≤a.block∨aV Φ0 σ0 a.block
 cz:∀R,aV Φ σ R→aV Φ0 σ0 R∨n0≤R
structure B4 (C:YC) (Φ0:bd) (σ0:St) (n0:Nat) (So0:YS) (tmps:Array Value) (fc:FR) (l:Nat) (st:Loop) (σ:St) (S:YS) (Φ:bd) (So:YS) (t:Option Nat):Prop where
 inv:kC C Φ σ S.w So t
 frame:dP Φ tmps fc
 step:C2 Φ0 σ0 n0 Φ σ
 wr:∀k,S.wr k↔(aV Φ σ k∨k=l∨So.wr k)
 sn:∀a,S.sn a=(match Φ.snap a with|some v=>some v|none=>So.sn a)
 su:S.w.heap[l]?=some (.loop st)
 size:n0≤S.w.heap.size
 base:Φ.base≤S.w.heap.size
 owr:∀k,So.wr k→So0.wr k∨n0≤k
 osn:∀a v,So.sn a=some v→So0.sn a=some v∨So0.wr a.block∨n0≤a.block∨Φ0.snap a=some v∨aV Φ0 σ0 a.block
section
variable {C:YC} {Φ0 Φ:bd} {σ0 σ:St} {n0:Nat} {So0:YS} {tmps:Array Value} {fc:FR} {l:Nat} {st:Loop} {S:YS} {So:YS} {t:Option Nat}
def B4.M3(h:B4 C Φ0 σ0 n0 So0 tmps fc l st σ S Φ So t){a:Addr}{v:Value}(q:Φ.snap a=some v):S.sn a=some v:=by rw[h.sn a,q]
def B4.X4(h:B4 C Φ0 σ0 n0 So0 tmps fc l st σ S Φ So t){a:Addr}{v:Value}(q:So.sn a=some v):S.sn a=some v:=by
 rw[h.sn a];cases e:Φ.snap a with
 |none=>exact q
 |some u =>
  have h1:=h.inv.inv.snap a u e;have h2:=h.inv.ic.agree.sn a v q;rw[h1] at h2;simpa using h2
def B4.Tz(h:B4 C Φ0 σ0 n0 So0 tmps fc l st σ S Φ So t){a:Addr}{v:Value}(q:S.sn a=some v):Φ.snap a=some v∨So.sn a=some v:=by
 rw[h.sn a] at q;cases e:Φ.snap a with
 |none=>rw[e] at q;exact .inr q
 |some u=>rw[e] at q;exact .inl q
def B4.agree(h:B4 C Φ0 σ0 n0 So0 tmps fc l st σ S Φ So t):mL S S.w :=
 ⟨fun _ _=>rfl,fun k hk=>by
  rcases (h.wr k).1 hk with q|rfl|q
  ·obtain⟨l',o,p,h1,h2,h3⟩:=q;obtain⟨p',e,bh⟩:=(h.inv.inv.own l' o h1).place;rw[h2] at e;cases e;exact bh k h3
  ·exact(eb.1 h.su).1
  ·exact dc (h.inv.ic.agree.lt k q) h.inv.ic.agree.size,(fun k hk x e=>by
  rcases (h.wr k).1 hk with q|rfl|q
  ·exact h.inv.inv.mark e q
  ·rw[h.su] at e;cases e
  ·exact h.inv.ic.agree.pn k q x ((h.inv.ic.agree.same k q).symm.trans e)),fun a v q=>by
  rcases h.Tz q with q|q
  ·exact h.inv.inv.snap a v q
  ·exact h.inv.ic.agree.sn a v q,c8 _,rfl,rfl,rfl,c8 _⟩
def B4.at(h:B4 C Φ0 σ0 n0 So0 tmps fc l st σ S Φ So t)(k1:∀a v,Φ0.snap a=some v→C.Φ0.snap a=some v∨C.n0≤a.block∨aV C.Φ0 C.σ0 a.block)(k2:∀R,aV Φ0 σ0 R→aV C.Φ0 C.σ0 R∨C.n0≤R)(k3:C.n0≤n0)
 {w:World}(ha:mL S w){Ψ:bd}(ho:∀m,Ψ.obj m=none)
 (hs:∀a v,Ψ.snap a=some v→w.cell? a=some v∧¬S.wr a.block∧(Φ0.snap a=some v∨n0≤a.block∨aV Φ0 σ0 a.block)) :
  ∃Φ',kC C Φ' σ w So t∧dP Φ' tmps fc∧C2 Φ0 σ0 n0 Φ' σ∧(∀k,aV Φ' σ k↔aV Φ σ k)∧(∀a v,Φ'.snap a=some v→Φ.snap a=some v∨Ψ.snap a=some v)∧(∀v m,Rel Ψ v m→Rel Φ' v m)∧w.heap[l]?=some (.loop st)∧Φ'.base≤w.heap.size:=by
 obtain⟨Φ',we⟩:∃Φ':bd,Φ'={ Φ with snap:=fun a=>match Φ.snap a with|some v=>some v|none=>Ψ.snap a }:=⟨_,rfl⟩
 have hle:Φ.le Φ':=by subst we;exact⟨fun a v q=>by simp[q],fun _ _ q=>q,rfl⟩
 have gj:Φ'.obj=Φ.obj:=by subst we;rfl
 have hb:Φ'.base=Φ.base:=by subst we;rfl
 have cc:∀a v,Φ'.snap a=some v→Φ.snap a=some v∨Ψ.snap a=some v:=fun a v q=>by
  subst we;simp only at q;cases e:Φ.snap a with
  |none=>rw[e] at q;exact .inr q
  |some u=>rw[e] at q;exact .inl q
 have ZP:∀k,aV Φ σ k→w.heap[k]?=S.w.heap[k]?:=fun k hk=>ha.same k ((h.wr k).2 (.inl hk));have gp:∀k,aV Φ' σ k↔aV Φ σ k:=fun k=>by unfold aV;rw[gj]
 have hinv:Inv Φ' w σ:=by
  refine⟨fun l' o hl=>(h.inv.inv.own l' o hl).mono hle fun p R h1 h2=>ZP R ⟨l',o,p,hl,h1,h2⟩,fun a b o o' p p' R h1 h2 h3 h4=>?_,fun a v q=>?_,fun l' o p R a v h1 h2 h3 q=>?_,?_⟩
  ·rw[gj] at h3 h4;exact h.inv.inv.inj a b o o' p p' R h1 h2 h3 h4
  ·rcases cc a v q with q|q
   ·exact ha.sn a v (h.M3 q)
   ·exact(hs a v q).1
  ·rw[gj] at h2;rcases cc a v q with q|q
   ·exact h.inv.inv.apart l' o p R a v h1 h2 h3 q
   ·intro e;exact(hs a v q).2.1 ((h.wr _).2 (.inl ⟨l',o,p,h1,h2,e ▸ h3⟩))
  ·obtain⟨n,hn⟩:=h.inv.inv.fresh.1.1;exact⟨⟨⟨n,fun k hk=>by rw[gj];exact hn k hk⟩,fun k p hk=>h.inv.inv.fresh.1.2 k p (by rw[←gj];exact hk)⟩,fun g i v q=>hle.snap _ _ (h.inv.inv.fresh.2.1 g i v q),h.inv.inv.fresh.2.2.mono hle.snap⟩
 have wq:=h.inv.ic.agree;have hapt:xy Φ' σ So w:=by
  refine⟨⟨fun k hk=>(ha.same k ((h.wr k).2 (.inr (.inr hk)))).trans (wq.same k hk),wq.lt,wq.pn,fun a v q=>ha.sn a v (h.X4 q),cS wq.size ha.size,ha.os.trans wq.os,ha.tape.trans wq.tape,ha.output.trans wq.output,cS wq.drawn ha.drawn⟩,fun k hk q=>h.inv.ic.own k hk ((gp k).1 q),fun a v q ho=>h.inv.ic.rf a v q ((gp _).1 ho),fun a v q hk=>?_⟩;rcases cc a v q with q|q
  ·exact h.inv.ic.snap a v q hk
  ·exact(hs a v q).2.1 ((h.wr _).2 (.inr (.inr hk)))
 refine⟨Φ',⟨hinv,hapt,fun a v q=>?_,fun R hR=>h.inv.cz R ((gp R).1 hR),cS h.inv.size ha.size,h.inv.st⟩,h.frame.mono hle,⟨h.step.le.trans hle,fun a v q=>?_,fun R hR=>h.step.cz R ((gp R).1 hR)⟩,gp,cc,fun v m r=>?_,?_,?_⟩
 ·rcases cc a v q with q|q
  ·exact h.inv.cl a v q
  ·rcases (hs a v q).2.2 with q|q|q
   ·exact k1 a v q
   ·exact .inr (.inl (cS k3 q))
   ·rcases k2 _ q with q|q
    ·exact .inr (.inr q)
    ·exact .inr (.inl q)
 ·rcases cc a v q with q|q
  ·exact h.step.cl a v q
  ·exact(hs a v q).2.2
 ·refine r.HG (fun a u q=>?_) (fun l' p q=>by rw[ho l'] at q;cases q);have h1:=(hs a u q).1;subst we;simp only;cases e:Φ.snap a with
  |none=>exact q
  |some u' =>
   have h2:=ha.sn a u' (h.M3 e);rw[h1] at h2;simpa using h2.symm
 ·rw[ha.same l ((h.wr l).2 (.inr (.inl rfl)))];exact h.su
 ·rw[hb];exact cS h.base ha.size
end
def C2.step{Φ0 Φ Φ':bd}{σ0 σ af:St}{n0:Nat}{w w':World}{S S':YS}(h:C2 Φ0 σ0 n0 Φ σ)(hn:n0≤w.heap.size)(k:eL Φ σ w S Φ' af w' S'):C2 Φ0 σ0 n0 Φ' af where
 le:=h.le.trans k.le
 cl:=fun a v hv=>by
  rcases k.cl a v hv with q|q|q
  ·exact h.cl a v q
  ·exact .inr (.inl (cS hn q))
  ·rcases h.cz _ q with q|q
   ·exact .inr (.inr q)
   ·exact .inr (.inl q)
 cz:=fun R hR=>by
  rcases k.cz R hR with q|q
  ·exact h.cz R q
  ·exact .inr (cS hn q)
def kC.putObj{C:YC}{Φ:bd}{σ:St}{w:World}{S:YS}{t:Option Nat}(h:kC C Φ σ w S t){l:Nat}{r:Loop}(o':Obj)(hl:w.heap[l]?=some (.loop r))(hw:¬S.wr l):kC C Φ σ (w.putObj l o') S t:=by have fg:∀k,S.wr k→k≠l:=fun k hk e=>hw (e ▸ hk);refine⟨h.inv.putObj _ hl (fun _ _ _ e=>by cases e) (fun _ _ e=>by cases e),⟨⟨fun k hk=>(ag (fg k hk)).trans (h.ic.agree.same k hk),h.ic.agree.lt,h.ic.agree.pn,fun a v q=>?_,by rw[ah];exact h.ic.agree.size,h.ic.agree.os,h.ic.agree.tape,h.ic.agree.output,h.ic.agree.drawn⟩,h.ic.own,h.ic.rf,h.ic.snap⟩,h.cl,h.cz,by rw[ah];exact h.size,h.st⟩;have hc:=h.ic.agree.sn a v q;rw[←hc];refine World.fF (ag fun e=>?_);rw[World.cell?,e,hl] at hc;simp at hc
section
variable {P:Program} {C:YC} {f:FR} {σ:St} {t:Option Nat} {Q:YQ} {q:MQ} {c:Code}
def cA(h:R (eE P (@dk Code (nat_lit 0) (@_root_.id (OfNat Code (nat_lit 0)) (dl c))) f σ q)):il P c f σ q:=nW c f σ q h
def nJ(h:R (eE P (@dk Code (nat_lit 0) (@_root_.id (OfNat Code (nat_lit 0)) (dl c))) f σ (fun e f' af=>Q e f' af t))):zx P C c f σ t Q:=Xm (nW c f σ _ h)
def F5{k:FR→St→Option Nat→Prop}:R (Ji k Q .normal f σ t)=R (k f σ t):=congrArg R rfl
def Qb{k:FR→St→Option Nat→Prop}:R (Ji k Q .ret f σ t)=R (Q .ret f σ t):=congrArg R rfl
def LN{k:FR→St→Option Nat→Prop}{id:Nat}:R (Ji k Q (.exit id) f σ t)=R (Q (.exit id) f σ t):=congrArg R rfl
def B9{id:Nat}:R (xV id Q .normal f σ t)=R (Q .normal f σ t):=congrArg R rfl
def JD{id:Nat}:R (xV id Q .ret f σ t)=R (Q .ret f σ t):=congrArg R rfl
def Gr{id:Nat}:R (xV id Q (.exit id) f σ t)=R (Q .normal f σ t):=congrArg R (by simp[xV])
def E5{k:FR→St→Prop}:R (H4 k .normal f σ)=R (k f σ):=congrArg R rfl
def CS{fc:FR}{n:St→Prop}:R (uJ q fc n .normal f σ)=R (Gh f σ fun _ σ1=>n σ1):=congrArg R rfl
def IN{n:Nat}:R (W3 n .normal f σ t)=R (f.d=[]∧(t=some n∨t=none)):=congrArg R rfl
def Tb{n:Nat}:R (W3 n .ret f σ t)=R (f.d=[]∧(t=some n∨t=none)):=congrArg R rfl
def vW(l:List Oper):Bool:=l.all fun o=>match o.op with|.defer _=>false|_=>true
def mZ{l:List Oper}(h:vW l=true):∀o,o∈l→∀c,o.op≠.defer c:=fun o ho c e=>by have:=aI.1 h o ho;rw[e] at this;cases this
def Qh{id:Nat}{ops:Array Oper}(pre:List Oper)(y:Oper)(post:List Oper){o:Operand}{args:Array Operand}{ts:Array TypeId}{i:Nat}{x:List MV}(ho:ops.toList=pre++y::post)(hd:(vW pre&&vW post)=true)
 (hy:y.op=.call ⟨.value o,args,ts⟩)(hg:y.guard=none)(ht:t=some i)(hx:C.xs[i]?=some x)(lx:∀m,m∈x→kA m)(jz:qG P C.l C.xs C.Y C.Yx C.Φ0 C.σ0 C.n0)
 (h:R (eC P (@dk (Array Oper) (nat_lit 0) (@_root_.id (OfNat (Array Oper) (nat_lit 0)) (dl ops))) (fun f1 σ1=>aH f1 o=.fn (.yield C.l) [] []∧args.toList.map (aH f1)=x ∧
   eC P (@dk (Array Oper) (nat_lit 0) (@_root_.id (OfNat (Array Oper) (nat_lit 0)) (dl ops))) (fun f2 eh=>Q .normal f2 eh (some (i+1))) (@dk (List Oper) (nat_lit 0) (@_root_.id (OfNat (List Oper) (nat_lit 0)) (dl post))) (bI f1 y.dst (.bool true)) σ1 ∧
   eC P (@dk (Array Oper) (nat_lit 0) (@_root_.id (OfNat (Array Oper) (nat_lit 0)) (dl ops))) (fun f2 eh=>Q .normal f2 eh none) (@dk (List Oper) (nat_lit 0) (@_root_.id (OfNat (List Oper) (nat_lit 0)) (dl post))) (bI f1 y.dst (.bool false)) σ1)
   (@dk (List Oper) (nat_lit 0) (@_root_.id (OfNat (List Oper) (nat_lit 0)) (dl pre))) f σ)):zx P C (.region id ops false) f σ t Q:=by
 have hd:=Bool.and_eq_true_iff.1 hd;exact LU pre y post ho (mZ hd.1) (mZ hd.2) hy hg ht hx lx jz h
end
attribute [go_sem ↓] F5 Qb LN B9 JD Gr E5 CS IN Tb
section
variable {P:Program} {f:FR} {σ:St} {Q:MQ} {id:Nat} {a b l:List Oper} {x:Oper} {dr:Bool}
def XI:cv (x::a) b=x::cv a b:=rfl
def YK:cv ([]:List Oper) b=b:=rfl
end
attribute [go_sem] XI YK
def hU{P:Program}{g:FuncId}{ms:List MV}{σ:St}{o:aY}{u:Nat→MV}{k:MV→St→Prop}(h:aA P g ms d9 fun v af=>∃l,v=u l∧af=d9.set l o)(hk:∀l,σ l=none→R (cD (u l) (σ.set l o) k)):R (dR P g ms σ k) :=
 bU h (St.none_le σ) fun v af hv hf=>by
  obtain⟨l,rfl,rfl⟩:=hv;rw[mY,bS,dS];refine hk l ?_;rcases hf l o cj with h|⟨o',h⟩
  ·exact h
  ·simp[d9] at h
def rN(a b:Int):aA Tryz.prog 303 [.int .i64 a,.int .i64 b] d9 (fun r _=>r=.int .i64 (pS (cmpL [a] [b]))):=by
 refine(mB 11 [.tmp 4] Tryz.func303 ?_);repeat' first|(refine wY ?_ ?_<;>intro h)|refine aw @Tryz.f303.eq_1 ?_|fail
 all_goals simp[cmpL,pS, *]
def BJ(a b:VA)(ha:a.s.size≤1000000)(hb:b.s.size≤1000000):aA Tryz.prog 276 [.agg a.c,.agg b.c] d9 (fun r _=>r=.int .i64 (pS (cmpL a.key b.key))):=by
 refine(mB 67 [.tmp 4] Tryz.func276 ?_);repeat' first|(with_reducible refine aC (rN _ _) ?_)|(refine wM ?_;intro nl;intros;rename_i ec)|(refine wY ?_ ?_<;>intro h)|refine aw @Tryz.f276.eq_1 ?_|fail
 ·rw[show cmpL a.key b.key=cmpL [a.kd] [b.kd] from vD h]
 ·have h1:=ac.1 ‹¬¬a.kd=b.kd›;have:cmpL a.key b.key=cmpL [a.n] [b.n]:=by rw[VA.key,VA.key,h1,mG,vD h]
  rw[this]
 ·have h1:=ac.1 ‹¬¬a.kd=b.kd›;have h2:=ac.1 ‹¬¬a.n=b.n›;have hk:cmpL a.key b.key=cmpL (bk a.s) (bk b.s):=by rw[VA.key,VA.key,h1,mG,h2,mG];rfl
  rw[hk];rename_i pa hpa _ _ _;refine aG (α:=Nat) (fun i=>⟨67,[(5,.int .i64 (i:Int)),(3,.ptr nl 0 0),(2,.ptr pa 0 0)],[]⟩) (fun _=>(d9.set pa (.row 54 3 [a.c])).set nl (.row 54 3 [b.c]))
   (fun i=>i≤a.s.size∧i≤b.s.size∧cmpL (bk a.s) (bk b.s)=cmpL ((bk a.s).drop i) ((bk b.s).drop i)) (fun i=>a.s.size-i) (.of (.less ?_ ba) ⟨0,rfl,rfl,ax⟩) ?_
  ·exact wW
  ·rintro i ⟨h3,h4,h5⟩;by_cases hi:i<a.s.size∧i<b.s.size
   ·obtain⟨lk,hi2⟩:=hi;rw[Ai lk,Ai hi2] at h5;have hc1:((a.s.toList.getD i 0).toNat:Int)≤255:=by have:=(a.s.toList.getD i 0).toNat_lt;omega
    have hc2:((b.s.toList.getD i 0).toNat:Int)≤255:=by have:=(b.s.toList.getD i 0).toNat_lt;omega
    have hc3:0≤((a.s.toList.getD i 0).toNat:Int):=oM;have hc4:0≤((b.s.toList.getD i 0).toNat:Int):=oM;obtain⟨ca,hca⟩:∃c:Int,((a.s.toList.getD i 0).toNat:Int)=c:=⟨_,rfl⟩
    obtain⟨cb,hcb⟩:∃c:Int,((b.s.toList.getD i 0).toNat:Int)=c:=⟨_,rfl⟩
    rw[hca] at h5 hc1 hc3;rw[hcb] at h5 hc2 hc4;by_cases hcc:ca=cb
    ·rw[hcc,mG] at h5;repeat' first|refine wV ?_|refine bu @hca @hcb ?_|fail
     refine .of (.less (l1:=[(5,.int .i64 ((i+1:Nat):Int)),(3,.ptr nl 0 0),(2,.ptr pa 0 0)]) ?_ ba) ⟨i+1,rfl,rfl,⟨oM,oM,h5⟩,oM⟩;simp(maxSteps:=4000000) (disch:=first|exact gd|fail) only[go_sem,simprocAttr,bE,aX];all_goals omega
    ·repeat' first|(with_reducible refine aJ mixed dK (fun g ms=>if g=303 then some ⟨[],fun v=>v=.int .i64 (pS (cmpL [ca] [cb])),none⟩ else none) ?_)|(with_reducible refine aF rfl (rN _ _) ?_)|refine bu @hca @hcb ?_|fail
     rw[h5,vD (x:=(bk a.s).drop (i+1)) (y:=(bk b.s).drop (i+1)) hcc]
   ·have key:cmpL (bk a.s) (bk b.s)=cmpL [(a.s.size:Int)] [(b.s.size:Int)]:=by
     rw[h5];by_cases h6:i<a.s.size
     ·have h7:i=b.s.size:=oM;rw[Ai h6,qJ (s:=b.s) (n:=i) oM];simp only[cmpL];rw[if_neg oM,if_pos oM]
     ·have h7:i=a.s.size:=oM;rw[qJ (s:=a.s) (n:=i) oM];by_cases h8:i<b.s.size
      ·rw[Ai h8];simp only[cmpL];rw[if_pos oM]
      ·rw[qJ (s:=b.s) (n:=i) oM];simp only[cmpL];rw[if_neg oM,if_neg oM]
    repeat' first|(with_reducible refine aC (rN _ _) ?_)|(refine wY ?_ ?_<;>intro h)|refine ed ?_|fail
    all_goals rw[key]
def jA(op:Int):aA Tryz.prog 204 [.int .i64 op] d9 (fun r _=>r=.int .i64 (parts op)):=by
 refine(mB 9 [.tmp 2] Tryz.func204 ?_);repeat' first|(refine wY ?_ ?_<;>intro h)|refine aw @Tryz.f204.eq_1 ?_|fail
 all_goals simp[parts, *]
def z8(kd n:Int)(s:ByteArray):aA Tryz.prog 211 [.agg [.int .i64 kd,.int .i64 n,.str s]] d9 (fun r _=>r=.bool (fW ⟨kd,n,s⟩)):=by
 refine(mB 36 [.tmp 2] Tryz.func211 ?_);repeat' first|(refine wM ?_;intro nl;intros)|(refine wY ?_ ?_<;>intro h)|refine aw @Tryz.f211.eq_1 ?_|fail
 all_goals first
  |(simp[fW,ir, *];done)
  |(simp[fW,ir, *];omega)
def nY(a:Int):aA Tryz.prog 299 [.int .i64 a] d9 (fun r _=>r=.bool false):=by refine(mB 6 [.tmp 2] Tryz.func299 ?_);repeat' first|refine bu @Tryz.f299.eq_1 @iL.{1} ?_|exact fk @Tryz.f299.eq_1 @iL.{1}|fail
def HW(a:ByteArray):aA Tryz.prog 330 [.str a] d9 (fun r _=>r=.bool false):=by refine(mB 6 [.tmp 2] Tryz.func330 ?_);repeat' first|refine bu @Tryz.f330.eq_1 @iL.{1} ?_|exact fk @Tryz.f330.eq_1 @iL.{1}|fail
def qM(a b:Int):aA Tryz.prog 268 [.int .i64 a,.int .i64 b] d9 (fun r _=>r=.int .i64 (pS (cmpL [a] [b]))):=by
 refine(mB 20 [.tmp 4] Tryz.func268 ?_);repeat' first|(with_reducible refine aC (nY _) ?_)|(refine wY ?_ ?_<;>intro h)|refine aw @Tryz.f268.eq_1 ?_|fail
 all_goals simp[cmpL,pS, *]
def qN(a b:ByteArray):aA Tryz.prog 318 [.str a,.str b] d9 (fun r _=>r=.int .i64 (pS (cmpL (bk a) (bk b)))):=by
 refine(mB 20 [.tmp 4] Tryz.func318 ?_);have hb:=sX a.toList b.toList;change _=decide (cmpL (bk a) (bk b)=.lt) at hb;repeat' first|(with_reducible refine aC (HW _) ?_)|(refine wY ?_ ?_<;>intro h)|refine aw @Tryz.f318.eq_1 ?_|fail
 ·rw[hb] at h;simp only[decide_eq_true_eq] at h;rw[h];rfl
 ·rename_i h0;rw[hb] at h0;simp only[decide_eq_false_iff_not] at h0;simp only[Bool.not_eq_true',Bool.or_eq_false_iff,decide_eq_false_iff_not] at h;have h1:cmpL (bk a) (bk b)≠.eq:=fun e=>h.2 (bytes_inj (cmpL_eq.1 e));cases e:cmpL (bk a) (bk b)
  ·exact absurd e h0
  ·exact absurd e h1
  ·rfl
 ·rename_i h0;simp only[h0,Bool.false_or,Bool.not_eq_false',decide_eq_true_eq] at h;rw[h,xY];rfl
theorem Uh{l:List ND}{i:Int}(h:¬(i<0∨(l.length:Int)≤i)):jK l i=match j9 1 (l.drop i.toNat) with
  |none=>-1
  |some k=>i+k:=by unfold jK;rw[if_neg oM]<;>cases j9 1 (l.drop i.toNat)<;>rfl
def DT(l:List ND)(hl:l.length≤1000000)(t:Bool)(i:Int):aA Tryz.prog 196 [.aj 5 (l.map ND.c) t,.int .i64 i] d9 (fun r _=>r=.int .i64 (jK l i)):=by
 refine(mB 38 [.tmp 4] Tryz.func196 ?_);by_cases hi:i<0∨(l.length:Int)≤i
 ·have he:jK l i = -1:=by
   unfold jK;by_cases h0:i<0
   ·rw[if_pos h0]
   ·rw[if_neg h0,ay oM];rfl
  rw[he];repeat' first|(refine wY ?_ ?_<;>intro h)|refine aw @Tryz.f196.eq_1 ?_|exact ev @Tryz.f196.eq_1|fail
 ·obtain⟨m,hm⟩:∃m,l.drop i.toNat=m:=⟨_,rfl⟩
  have bn:l.length-i.toNat=m.length:=by rw[←hm];simp
  have hm0:m.length≤1000000:=oM;have hb:i+m.length≤1000000:=oM;have h0:0≤i:=oM;rw[Uh hi,hm];repeat' first|refine fx @Tryz.f196.eq_1 @hm @bn ?_|fail
  refine aG (α:=Nat×Nat) (fun a=>⟨38,[(20,.int .i64 (a.1:Int)),(19,.int .i64 (m.length:Int)),(18,.aj 5 (m.map ND.c) t),(5,.int .i64 (a.2:Int)),(1,.int .i64 i)],[]⟩) (fun _=>d9)
   (fun a=>a.1≤m.length∧1≤a.2∧a.2≤1+a.1∧j9 1 m=(j9 a.2 (m.drop a.1)).map (·+a.1)) (fun a=>m.length-a.1) (.of (.less ?_ ba) ⟨(0,1),rfl,rfl,ax⟩) ?_
  ·simp(maxSteps:=4000000) (disch:=first|decide|assumption|omega|(simp only[wL];omega)) only[go_sem,simprocAttr,bE,aX];all_goals omega
  ·rintro⟨k,n⟩ ⟨h1,h2,h3,h4⟩;simp only at h1 h2 h3 h4 ⊢;obtain⟨q,rfl⟩:∃q,n=q+1:=⟨n-1,oM⟩
   by_cases hk:k<m.length
   ·have hp:=lI (m.getD k jd).op;rw[Db hk] at h4;obtain⟨pp,hpp⟩:∃pp:Nat,parts (m.getD k jd).op=pp:=⟨_,rfl⟩
    rw[hpp] at h4 hp;by_cases hz:q+pp=0
    ·rw[hz] at h4;have hq:q=0:=oM;have hpz:pp=0:=oM;subst hq;rw[hpz] at hpp;repeat' (first|(with_reducible refine aC (jA _) ?_)|(with_reducible first|(refine wN fun nl ec=>?_;revert ec;(repeat refine wS fun _ _=>?_);intro ec)|refine wD dK ?_|refine wI (fun h=>?_) fun h=>?_|refine wF (fun h=>?_) fun h=>?_|refine wG (fun h=>?_) fun h=>?_|refine wH (fun h=>?_) fun h=>?_|((first|refine cY (fun h=>?_) fun h=>?_|refine cL (fun h=>?_) fun h=>?_)<;>simp only[h]))|simp(maxSteps:=4000000) (disch:=first|decide|assumption|omega|(simp only[wL];omega)) only[go_sem,simprocAttr,cN jd,hpp])
     rw[h4];simp only[j9,dt,MV.int.injEq,true_and];have e1:((0+1+k:Nat):Int)=(k:Int)+1:=oM;rw[e1,Int.add_assoc]
    ·repeat' (first|(with_reducible refine aC (jA _) ?_)|(with_reducible first|(refine wN fun nl ec=>?_;revert ec;(repeat refine wS fun _ _=>?_);intro ec)|refine wD dK ?_|refine wI (fun h=>?_) fun h=>?_|refine wF (fun h=>?_) fun h=>?_|refine wG (fun h=>?_) fun h=>?_|refine wH (fun h=>?_) fun h=>?_|((first|refine cY (fun h=>?_) fun h=>?_|refine cL (fun h=>?_) fun h=>?_)<;>simp only[h]))|simp(maxSteps:=4000000) (disch:=first|decide|assumption|omega|(simp only[wL];omega)) only[go_sem,simprocAttr,cN jd,hpp])
     refine .of (.less (l1:=[(20,.int .i64 ((k+1:Nat):Int)),(19,.int .i64 (m.length:Int)),(18,.aj 5 (m.map ND.c) t),(5,.int .i64 ((q+pp:Nat):Int)),(1,.int .i64 i)]) ?_ bt) ⟨(k+1,q+pp),rfl,rfl,⟨by simp only;omega,by simp only;omega,by simp only;omega,?_⟩,by simp only;omega⟩
     ·simp(maxSteps:=4000000) (disch:=first|decide|assumption|omega|(simp only[wL];omega)) only[go_sem,simprocAttr,bE,aX];all_goals omega
     ·rw[h4];simp only[Option.map_map]
      congr 1
      funext k;simp only[Function.comp];omega
   ·rw[ay oM] at h4;rw[h4];repeat' (first|(with_reducible first|(refine wN fun nl ec=>?_;revert ec;(repeat refine wS fun _ _=>?_);intro ec)|refine wD dK ?_|refine wI (fun h=>?_) fun h=>?_|refine wF (fun h=>?_) fun h=>?_|refine wG (fun h=>?_) fun h=>?_|refine wH (fun h=>?_) fun h=>?_|((first|refine cY (fun h=>?_) fun h=>?_|refine cL (fun h=>?_) fun h=>?_)<;>simp only[h]))|simp(maxSteps:=4000000) (disch:=first|decide|assumption|omega|(simp only[wL];omega)) only[go_sem,simprocAttr,cN jd])
    rfl
def J5(p:ND→Bool)(g:FuncId)(l:List ND)(hl:l.length≤1000000)(t:Bool)(hg:∀x,x∈l→aA Tryz.prog g [.agg x.c] d9 (fun r _=>r=.bool (p x))) :
  aA Tryz.prog 245 [.aj 5 (l.map ND.c) t,.fn (.func g) [] []] d9 (fun r _=>r=.int .i64 (if l.any p then(l.findIdx p:Int) else -1)):=by
 refine(mB 19 [.tmp 4] Tryz.func245 ?_);repeat' first|refine aw @Tryz.f245.eq_1 ?_|fail
 refine aG (α:=Nat) (fun k=>⟨19,[(8,.int .i64 (k:Int)),(7,.int .i64 (l.length:Int)),(6,.aj 5 (l.map ND.c) t),(0,.aj 5 (l.map ND.c) t),(1,.fn (.func g) [] [])],[]⟩) (fun _=>d9)
  (fun k=>k≤l.length∧(l.take k).any p=false) (fun k=>l.length-k) (.of (.less ?_ ba) ⟨0,rfl,rfl,ax⟩) ?_
 ·exact wW
 ·rintro k ⟨h1,h2⟩;by_cases hk:k<l.length
  ·have hgk:=hg _ (mR jd hk);cases hp:p (l.getD k jd)
   ·rw[hp] at hgk;repeat' (first|(with_reducible refine aC hgk ?_)|(with_reducible first|(refine wN fun nl ec=>?_;revert ec;(repeat refine wS fun _ _=>?_);intro ec)|refine wD dK ?_|refine wI (fun h=>?_) fun h=>?_|refine wF (fun h=>?_) fun h=>?_|refine wG (fun h=>?_) fun h=>?_|refine wH (fun h=>?_) fun h=>?_|((first|refine cY (fun h=>?_) fun h=>?_|refine cL (fun h=>?_) fun h=>?_)<;>simp only[h]))|simp(maxSteps:=4000000) (disch:=first|decide|assumption|omega|(simp only[wL];omega)) only[go_sem,simprocAttr,cN jd])
    refine .of (.less (l1:=[(8,.int .i64 ((k+1:Nat):Int)),(7,.int .i64 (l.length:Int)),(6,.aj 5 (l.map ND.c) t),(0,.aj 5 (l.map ND.c) t),(1,.fn (.func g) [] [])]) ?_ ba) ⟨k+1,rfl,rfl,⟨oM,?_⟩,oM⟩
    ·simp(maxSteps:=4000000) (disch:=first|decide|assumption|omega|(simp only[wL];omega)) only[go_sem,simprocAttr,bE,aX];all_goals omega
    ·rw[B7 hk,h2,←cU jd hk,hp];rfl
   ·rw[hp] at hgk;have hany:l.any p=true:=List.any_eq_true.2 ⟨_,mR jd hk,hp⟩;have hf:l.findIdx p=k:=by rw[List.findIdx_eq hk];refine⟨by rw[←cU jd hk];exact hp,fun j hj=>?_⟩;have:=List.any_eq_false.1 h2 l[j] (by rw[List.mem_take_iff_getElem];exact⟨j,oM,rfl⟩);simpa using this
    rw[hany,hf];repeat' (first|(with_reducible refine aC hgk ?_)|(with_reducible first|(refine wN fun nl ec=>?_;revert ec;(repeat refine wS fun _ _=>?_);intro ec)|refine wD dK ?_|refine wI (fun h=>?_) fun h=>?_|refine wF (fun h=>?_) fun h=>?_|refine wG (fun h=>?_) fun h=>?_|refine wH (fun h=>?_) fun h=>?_|((first|refine cY (fun h=>?_) fun h=>?_|refine cL (fun h=>?_) fun h=>?_)<;>simp only[h]))|simp(maxSteps:=4000000) (disch:=first|decide|assumption|omega|(simp only[wL];omega)) only[go_sem,simprocAttr,cN jd])
  ·have:k=l.length:=oM;subst this;rw[List.take_length] at h2;rw[h2];repeat' (first|(with_reducible first|(refine wN fun nl ec=>?_;revert ec;(repeat refine wS fun _ _=>?_);intro ec)|refine wD dK ?_|refine wI (fun h=>?_) fun h=>?_|refine wF (fun h=>?_) fun h=>?_|refine wG (fun h=>?_) fun h=>?_|refine wH (fun h=>?_) fun h=>?_|((first|refine cY (fun h=>?_) fun h=>?_|refine cL (fun h=>?_) fun h=>?_)<;>simp only[h]))|simp(maxSteps:=4000000) (disch:=first|decide|assumption|omega|(simp only[wL];omega)) only[go_sem,simprocAttr,cN jd])
def Ce(p:ND→Bool)(g:FuncId)(l:List ND)(hl:l.length≤1000000)(t:Bool)(hg:∀x,x∈l→aA Tryz.prog g [.agg x.c] d9 (fun r _=>r=.bool (p x))) :
  aA Tryz.prog 197 [.aj 5 (l.map ND.c) t,.fn (.func g) [] []] d9 (fun r _=>r=.bool (l.any p)):=by
 refine(mB 9 [.tmp 4] Tryz.func197 ?_);have hi:=J5 p g l hl t hg;cases hany:l.any p
 ·rw[hany] at hi;simp only[ab,if_false] at hi;repeat' first|(with_reducible refine aC hi ?_)|refine aw @Tryz.f197.eq_1 ?_|exact ev @Tryz.f197.eq_1|fail
 ·rw[hany] at hi;simp only[if_true] at hi;repeat' first|(with_reducible refine aC hi ?_)|refine aw @Tryz.f197.eq_1 ?_|fail
  simp
def C0(a b:VA):aA Tryz.prog 295 [.agg a.c,.agg b.c] d9 (fun r _=>r=.int .i64 (pS (cmpL a.key b.key))):=by
 refine(mB 28 [.tmp 4] Tryz.func295 ?_);by_cases h1:a.kd=b.kd
 ·have e1:cmpL a.key b.key=cmpL (a.n::bk a.s) (b.n::bk b.s):=by rw[VA.key,VA.key,h1,mG];rfl
  have c1:pS (cmpL [a.kd] [b.kd])=0:=by rw[h1,xY];rfl
  by_cases h2:a.n=b.n
  ·have e2:cmpL a.key b.key=cmpL (bk a.s) (bk b.s):=by rw[e1,h2,mG]
   have c2:pS (cmpL [a.n] [b.n])=0:=by rw[h2,xY];rfl
   rw[e2];repeat' first|(with_reducible refine aC (qM _ _) ?_)|(with_reducible refine aC (qN _ _) ?_)|(refine wM ?_;intro nl;intros)|refine fx @Tryz.f295.eq_1 @c1 @c2 ?_|exact tk @Tryz.f295.eq_1 @c1 @c2|fail
  ·have e2:cmpL a.key b.key=cmpL [a.n] [b.n]:=by rw[e1,vD h2]
   have c2:pS (cmpL [a.n] [b.n])≠0:=fun h=>h2 (by have:=cmpL_eq.1 (DN.1 h);simpa using this);rw[e2];repeat' first|(with_reducible refine aC (qM _ _) ?_)|(with_reducible refine aC (qN _ _) ?_)|(refine wM ?_;intro nl;intros)|refine bu @Tryz.f295.eq_1 @c1 ?_|exact fk @Tryz.f295.eq_1 @c1|fail
 ·have e1:cmpL a.key b.key=cmpL [a.kd] [b.kd]:=by rw[VA.key,VA.key,vD h1]
  have c1:pS (cmpL [a.kd] [b.kd])≠0:=fun h=>h1 (by have:=cmpL_eq.1 (DN.1 h);simpa using this);rw[e1];repeat' first|(with_reducible refine aC (qM _ _) ?_)|(with_reducible refine aC (qN _ _) ?_)|(refine wM ?_;intro nl;intros)|refine aw @Tryz.f295.eq_1 ?_|exact ev @Tryz.f295.eq_1|fail
def T.kz(av:ND→Bool):T→Bool
 |.leaf x=>if x.op=1 then true else if x.op=2 then false else av x
 |.one x a=>!a.kz av
 |.two x a b=>if x.op=11 then a.kz av&&b.kz av else a.kz av || b.kz av
def wd(g:Nat→Bool):Nat→Nat
 |0=>0
 |n+1=>wd g n ||| (if g n=true then 2 ^ n else 0)
def tw(f:Nat→Bool)(i:Nat):Nat:=wd (fun j=>f (64*i+j)) 64
