/- Parts of the proof, joined; conditions: those that its theorems name. -/
import Derived.Test.YtppdgejjmhdjhaaGreatDoorMac
import Derived.Test.YtppdgejjmhdjhaaGreatDoorMad
import Derived.RangeFuncIn
import Derived.RangeFuncSeq
set_option linter.unusedVariables false
set_option linter.unusedSimpArgs false
set_option maxHeartbeats 4000000
namespace Go.Proofs.YtppdgejjmhdjhaaGreatDoor
section
structure RD where
 l:BL
 e:Int
 deriving DecidableEq
structure F8 where
 l:List VA
 h:l.length=8
 deriving DecidableEq
abbrev F8.c(f:F8):List MV:=(f.l.map VA.c).flatten
def F8.get(f:F8)(i:Nat):VA:=f.l.getD i va0
def F8.set(f:F8)(i:Nat)(v:VA):F8:=⟨f.l.set i v,by rw[List.length_set,f.h]⟩
def f80:F8:=⟨List.replicate 8 va0,rfl⟩
abbrev bl(s:ByteArray):BL:=s.data.toList
abbrev bit(m i:Nat):Bool:=m.testBit i
structure PA where
 mask:UInt32
 lab:UInt32
 f:F8
 deriving DecidableEq
def pa0:PA:=⟨0,0,f80⟩
structure CA where
 id:Int
 ver:Int
 lab:UInt32
 f:F8
 deriving DecidableEq
def ca0:CA:=⟨0,0,0,f80⟩
def pR:Int:=1073741824
def nE(c:CA):Bool:=decide (1≤c.id∧c.id<pR∧1≤c.ver∧c.ver≤big∧c.lab.toNat<65536)&&c.f.l.all fF
def bP(p:PA):Int :=
 if p.mask.toNat=0∨511<p.mask.toNat then 11
 else if 65536≤p.lab.toNat∨p.lab.toNat≠0∧bit p.mask.toNat 8=false then 1
 else if (List.range 8).all (fun i=>fF (p.f.get i)&&(decide ((p.f.get i).kd=0) || bit p.mask.toNat i))=true then 0 else 1
structure ED where
 kd:Int
 id:Int
 gr:Int
 p:PA
 deriving DecidableEq
def edG(k:Int):Bool:=decide (k=4∨k=5∨k=6∨k=7)
def edI(k:Int):Bool:=decide (k=2∨k=3∨k=6∨k=7)
def edP(k:Int):Bool:=decide (k=1∨k=2)
def gE(e:ED):Int :=
 if e.kd<1∨7<e.kd then 1
 else if edG e.kd=false∧e.gr≠0∨edI e.kd=false∧e.id≠0∨edP e.kd=false∧e.p≠pa0 then 1
 else if e.gr<0∨16≤e.gr∨edI e.kd=true∧(e.id<1∨pR≤e.id) then 1
 else if edP e.kd=true then bP e.p else 0
structure TO where
 dev:Int
 ep:Int
 sq:Int
 cu:Int
 deriving DecidableEq
abbrev TO.c(t:TO):List MV:=[.int .i64 t.dev,.int .i64 t.ep,.int .i64 t.sq,.int .i64 t.cu]
def shut:List Nat→List Nat
 | []=>[]
 | [0]=>[]
 | 0::k::s=>shut ((k - 1)::s)
 | (n+1)::s=>(n+1)::s
termination_by s=>s.length
def dp:Nat→List Nat→List ND→Nat
 | d,_,[]=>d
 | d,s,x::l=>dp (max d (s.length+1)) (shut (parts x.op::s)) l
def jA(l:List ND):Nat:=if l=[]∨lH l 0≠l.length then 0 else dp 0 [] l
def cD(l:List ND):Int :=
 if 31<l.length then 4 else if l=[]∨lH l 0≠l.length∨l.all eH=false then 1 else if 8<jA l then 5 else 0
structure RE where
 kd:Int
 dev:Int
 req:Int
 code:Int
 id:Int
 ver:Int
 sq:Int
 ep:Int
 fl:List ND
 mask:UInt32
 deriving DecidableEq
structure IT where
 kd:Int
 c:CA
 deriving DecidableEq
structure PG where
 code:Int
 reset:Bool
 fr:TO
 to:TO
 items:List IT
 deriving DecidableEq
structure CM where
 kd:Int
 e:ED
 dev:Int
 req:Int
 id:Int
 base:Int
 Ij:Int
 p:PA
 fl:List ND
 mask:UInt32
 deriving DecidableEq
structure MS where
 kd:Int
 size:Int
 cmd:CM
 tok:TO
 rep:RE
 page:PG
 code:Int
 deriving DecidableEq
end

section
structure Sk {α:Type} (f:RD→α × RD):Prop where
 stk:∀r,r.e≠0→(f r).2=r
 sfx:∀r,(f r).2.l <:+ r.l
structure Rt {α:Type} (f:RD→α × RD) (ok:α→Prop) (w:α→BL):Prop where
 fwd:∀x l,ok x→f ⟨w x++l,0⟩=(x,⟨l,0⟩)
 bck:∀r,(f r).2.e=0→r.e=0∧ok (f r).1∧r.l=w (f r).1++(f r).2.l
section
variable {α:Type} {d:α} {y:α × RD}
end
theorem HI(v:VA):fF v=true↔(v.kd=0∧v=va0)∨(v.kd=1∧0≤v.n∧v.n≤big∧v.s=⟨#[]⟩)∨(v.kd=2∧v.n=0∧v.s.size≤24):=by
 unfold fF big
 by_cases h0:v.kd=0
 ·simp[h0]
 ·by_cases h1:v.kd=1
  ·simp[h1]
  ·by_cases h2:v.kd=2
   ·simp[h2]
   ·simp[h0,h1,h2]
end

section
class Sfx (bs:BL) (r:RD):Prop where
 h:r.l <:+ bs
instance {bs:BL} {c:Prop} [Decidable c] {r s:RD} [h:Sfx bs r] [k:Sfx bs s]:Sfx bs (if c then r else s):=by
 split
 ·exact h
 ·exact k
theorem Sfx.len{bs:BL}{r:RD}(h:Sfx bs r):r.l.length≤bs.length:=h.h.length_le
theorem Sfx.drop{bs:BL}{r:RD}(h:Sfx bs r):bs.drop (bs.length - r.l.length)=r.l:=by
 obtain⟨a,e⟩:=h.h
 rw[←e]
 simp
theorem kS{P:Program}{g:FuncId}{ms:List MV}{σ:St}{l:Nat}{o o':aO}{r:MV}{k:MV→St→Prop}(hs:σ l=some o)(h:aA P g ms (St.none.set l o) fun v σ'=>v=r∧σ'=St.none.set l o')(hk:R (bF r (σ.set l o') k)):R (cN P g ms σ k):=by
 refine bM h (St.aC (St.none_le _) hs) ?_
 rintro v σ' ⟨rfl,rfl⟩ -
 have e:(St.none.set l o').over (σ.minus (St.none.set l o))=σ.set l o':=by
  funext j
  by_cases h:j=l
  ·subst h;simp[St.over,St.set]
  ·simp[St.over,St.set,St.minus,h,St.none]
 rw[e]
 exact hk
def J6(l:List (Nat × MV))(e k:Nat):List (Nat × MV)→Prop
 | []=>True
 | p::r=>(bI l p.1=p.2∨(p.2=.vec e k 0 0∧(bI l p.1=.aZ∨bI l p.1=.lst e [] true)))∧J6 l e k r
theorem zP{l:List (Nat × MV)}{e k:Nat}:∀{l1:List (Nat × MV)},J6 l e k l1→∀p,p∈l1→bI l p.1=p.2∨(p.2=.vec e k 0 0∧(bI l p.1=.aZ∨bI l p.1=.lst e [] true))
 | [],_,p,hp=>absurd hp (List.not_mem_nil)
 | q::r,h,p,hp=>by
  rcases List.mem_cons.1 hp with rfl|hp
  ·exact h.1
  ·exact zP h.2 p hp
theorem Gh.BJ{n:Nat}{l:List (Nat × MV)}{d:List (FuncId × List MV)}{σ:St}{K:FR→St→Prop}(t:TypeId)(e:Nat)(l1:Nat→List (Nat × MV))(h1:∀k,J6 l e k (l1 k))
 (h:∀k,σ k=none→Gh ⟨n,l1 k,d⟩ (σ.set k (.row t e [])) K):Gh ⟨n,l,d⟩ σ K:=Gh.row t e l1 (fun k=>zP (h1 k)) h
theorem aA.obj{P:Program}{g:FuncId}{ms:List MV}{σ:St}{X:MV}{l:Nat}{o:aO}(h:aA P g ms σ fun v σ'=>v=X∧σ' l=some o):aA P g ms σ fun v σ'=>v=X∧σ'=St.none.set l o :=
 h.less fun v σ' k=>⟨St.none.set l o,St.aC (St.none_le _) k.2,k.1,rfl⟩
end

section
def val:BL→Nat
 | []=>0
 | c::l=>c.toNat % 128+128 * val l
end

section
def hasB(s:Nat)(n:Int):Bool:=decide (0≤n∧n≤31∧s / 2 ^ n.toNat % 2=1)
end

section
structure YS where
 w:World
 wr:Nat→Prop
 sn:Addr→Option Value
structure jQ (S:YS) (w:World):Prop where
 same:∀k,S.wr k→w.heap[k]?=S.w.heap[k]?
 lt:∀k,S.wr k→k<S.w.heap.size
 nomark:∀k,S.wr k→∀x,S.w.heap[k]?≠some (Obj.deferred x)
 sn:∀a v,S.sn a=some v→w.cell? a=some v
 size:S.w.heap.size≤w.heap.size
 os:w.os=S.w.os
 tape:w.tape=S.w.tape
 output:w.output=S.w.output
 drawn:drw S.w≤drw w
structure Apt (Φ:Phi) (σ:St) (S:YS) (w:World):Prop where
 agree:jQ S w
 own:∀k,S.wr k→¬aN Φ σ k
 snown:∀a v,S.sn a=some v→¬aN Φ σ a.block
 snap:∀a v,Φ.snap a=some v→¬S.wr a.block
theorem Apt.step{Φ Φ':Phi}{σ σ':St}{S:YS}{w w':World}(h:Apt Φ σ S w)(hs:Step Φ σ w Φ' σ' w'):Apt Φ' σ' S w':=by
 have hlt:∀k,S.wr k→k<w.heap.size:=fun k hk=>Nat.lt_of_lt_of_le (h.agree.lt k hk) h.agree.size
 have hsl:∀a v,S.sn a=some v→a.block<w.heap.size:=fun a v q=>World.block_lt_of_cell? w a (h.agree.sn a v q)
 refine⟨⟨fun k hk=>(hs.block k (hlt k hk) (h.own k hk)).trans (h.agree.same k hk),h.agree.lt,h.agree.nomark,fun a v q=>?_,Nat.le_trans h.agree.size hs.size,hs.os.trans h.agree.os,hs.tape.trans h.agree.tape,hs.output.trans h.agree.output,Nat.le_trans h.agree.drawn hs.drawn⟩,fun k hk ho=>?_,fun a v q ho=>?_,fun a v hv hk=>?_⟩
 ·rw[World.dK (hs.block _ (hsl a v q) (h.snown a v q))]
  exact h.agree.sn a v q
 ·rcases hs.ownd k ho with q|q
  ·exact h.own k hk q
  ·have:=hlt k hk;omega
 ·rcases hs.ownd _ ho with p|p
  ·exact h.snown a v q p
  ·have:=hsl a v q;omega
 ·rcases hs.snapn a v hv with q|q|q
  ·exact h.snap a v q hk
  ·have:=hlt _ hk;omega
  ·exact h.own _ hk q
structure cH (Φ:Phi) (σ:St) (w:World) (S:YS) (Φ':Phi) (σ':St) (w':World) (S':YS):Prop where
 le:Φ.le Φ'
 os:w'.os=w.os
 tape:w'.tape=w.tape
 output:w'.output=w.output
 drawn:drw w≤drw w'
 size:w.heap.size≤w'.heap.size
 block:∀k,k<w.heap.size→¬aN Φ σ k→¬S.wr k→w'.heap[k]?=w.heap[k]?
 snapn:∀a v,Φ'.snap a=some v→Φ.snap a=some v∨w.heap.size≤a.block∨aN Φ σ a.block
 ownd:∀R,aN Φ' σ' R→aN Φ σ R∨w.heap.size≤R
 wr:∀k,S'.wr k→S.wr k∨w.heap.size≤k
 sn:∀a v,S'.sn a=some v→S.sn a=some v∨S.wr a.block∨w.heap.size≤a.block∨Φ.snap a=some v∨aN Φ σ a.block
theorem cH.of{Φ Φ':Phi}{σ σ':St}{w w':World}(S:YS)(hs:Step Φ σ w Φ' σ' w'):cH Φ σ w S Φ' σ' w' S :=
 ⟨hs.le,hs.os,hs.tape,hs.output,hs.drawn,hs.size,fun k hk hn _=>hs.block k hk hn,hs.snapn,hs.ownd,fun k hk=>.inl hk,fun _ _ q=>.inl q⟩
theorem cH.refl(Φ:Phi)(σ:St)(w:World)(S:YS):cH Φ σ w S Φ σ w S:=.of S (.refl Φ σ w)
theorem cH.trans{Φ Φ1 Φ2:Phi}{σ σ1 σ2:St}{w w1 w2:World}{S S1 S2:YS}(h:cH Φ σ w S Φ1 σ1 w1 S1)(k:cH Φ1 σ1 w1 S1 Φ2 σ2 w2 S2):cH Φ σ w S Φ2 σ2 w2 S2 where
 le:=h.le.trans k.le
 os:=k.os.trans h.os
 tape:=k.tape.trans h.tape
 output:=k.output.trans h.output
 drawn:=Nat.le_trans h.drawn k.drawn
 size:=Nat.le_trans h.size k.size
 block:=fun i hi hn hw=>(k.block i (Nat.lt_of_lt_of_le hi h.size) (fun ho=>(h.ownd i ho).elim hn (fun q=>by omega)) (fun ho=>(h.wr i ho).elim hw (fun q=>by omega))).trans (h.block i hi hn hw)
 snapn:=fun a v hv=>by
  rcases k.snapn a v hv with q|q|q
  ·exact h.snapn a v q
  ·exact .inr (.inl (Nat.le_trans h.size q))
  ·rcases h.ownd _ q with q|q
   ·exact .inr (.inr q)
   ·exact .inr (.inl q)
 ownd:=fun R hR=>by
  rcases k.ownd R hR with q|q
  ·exact h.ownd R q
  ·exact .inr (Nat.le_trans h.size q)
 wr:=fun i hi=>by
  rcases k.wr i hi with q|q
  ·exact h.wr i q
  ·exact .inr (Nat.le_trans h.size q)
 sn:=fun a v hv=>by
  rcases k.sn a v hv with q|q|q|q|q
  ·exact h.sn a v q
  ·rcases h.wr _ q with q|q
   ·exact .inr (.inl q)
   ·exact .inr (.inr (.inl q))
  ·exact .inr (.inr (.inl (Nat.le_trans h.size q)))
  ·rcases h.snapn a v q with q|q|q
   ·exact .inr (.inr (.inr (.inl q)))
   ·exact .inr (.inr (.inl q))
   ·exact .inr (.inr (.inr (.inr q)))
  ·rcases h.ownd _ q with q|q
   ·exact .inr (.inr (.inr (.inr q)))
   ·exact .inr (.inr (.inl q))
def mA(P:Program)(l:Nat)(xs:List (List MV))(Y:Nat→YS→Prop)(Yx:YS→Prop)(Φ0:Phi)(σ0:St)(n0:Nat):Prop :=
 ∀(i:Nat) (x:List MV) (S:YS) (w:World) (Ψ:Phi) (vs:Array Value),xs[i]?=some x→Y i S→jQ S w→n0≤w.heap.size→(∀m,Ψ.obj m=none) →
  (∀a v,Ψ.snap a=some v→w.cell? a=some v∧¬S.wr a.block∧(Φ0.snap a=some v∨n0≤a.block∨aN Φ0 σ0 a.block))→eI Ψ vs x →
  YieldAt Fence.wide 0 P l vs w fun e w'=>∃b S',e=.returned (.bool b)∧S'.w=w'∧jQ S' w'∧w'.os=w.os∧w'.tape=w.tape∧w'.output=w.output∧drw w≤drw w'∧w.heap.size≤w'.heap.size ∧
   (∀k,k<w.heap.size→¬S.wr k→w'.heap[k]?=w.heap[k]?)∧(∀k,S'.wr k→S.wr k∨w.heap.size≤k) ∧
   (∀a v,S'.sn a=some v→S.sn a=some v∨S.wr a.block∨w.heap.size≤a.block∨Ψ.snap a=some v)∧(if b=true then Y (i+1) S' else Yx S')
def E8(P:Program)(g:FuncId)(ns:List MV)(σi:St)(xs:List (List MV)):Prop :=
 Enters P g∧∀(l:Nat) (Y:Nat→YS→Prop) (Yx:YS→Prop) (Φ:Phi) (w:World) (S:YS) (vs:Array Value),mA P l xs Y Yx Φ σi w.heap.size→Inv Φ w σi→Apt Φ σi S w→Y 0 S→eI Φ vs ns →
  Calls P g (#[.func (.yield l) #[] #[]]++vs) w fun e w'=>∃v Φ' σ' S',e=.returned v∧Inv Φ' w' σ'∧Apt Φ' σ' S' w'∧cH Φ σi w S Φ' σ' w' S'∧(Y xs.length S'∨Yx S')
def lA(f:FR):List Tmp→List MV→FR
 | p::ps,x::xs=>lA (aU f (some p) x) ps xs
 | _,_=>f
theorem IQ(ps:List Tmp):∀(f:FR) (xs:List MV),(lA f ps xs).d=f.d:=by
 induction ps with
 | nil=>intro f xs;rfl
 | cons p ps ih =>
  intro f xs
  cases xs with
  | nil=>rfl
  | cons x xs=>rw[lA,ih,cX]
theorem sU{Φ:Phi}:∀(ps:List Tmp) (xs:List MV) (vs:List Value) (tmps:Array Value) (f:FR),bS Φ tmps f→vs.length=xs.length→(∀(i:Nat) m,xs[i]?=some m→Rel Φ (vs.getD i undef) m) →
  bS Φ ((ps.zip vs).foldl (fun t (p:Tmp × Value)=>t.setIfInBounds p.1 p.2) tmps) (lA f ps xs)
 | [],_,_,_,_,h,_,_=>by simpa[lA] using h
 | _::_,[],[],_,_,h,_,_=>by simpa[lA] using h
 | p::ps,x::xs,v::vs,tmps,f,h,hl,hr=>by
  simp only[List.zip_cons_cons,List.foldl_cons,lA]
  refine sU ps xs vs _ _ ?_ (by simpa using hl) (fun i m hm=>by have:=hr (i+1) m (by simpa using hm);simpa using this)
  have:=bV (a:={ tmps:=tmps,defers:=[] }) h (some p) (hr 0 x rfl)
  simpa[Act.put] using this
 | _::_,[],_::_,_,_,_,hl,_=>by simp at hl
 | _::_,_::_,[],_,_,_,hl,_=>by simp at hl
theorem Dg{β:Type}(ps:Array Tmp)(vs:Array Value)(g:β→Tmp × Value→β)(b:β):(ps.zip vs).foldl g b=(ps.toList.zip vs.toList).foldl g b:=by
 rw[←Array.foldl_toList,Array.toList_zip]
end
end Go.Proofs.YtppdgejjmhdjhaaGreatDoor
