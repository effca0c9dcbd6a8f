/- Parts of the proof, joined; conditions: those that its theorems name. -/
import Derived.Test.YtaojijkdamfbnaaGreatDoorMec
set_option linter.unusedVariables false
set_option linter.unusedSimpArgs false
set_option maxHeartbeats 4000000
namespace Go.Proofs.YtaojijkdamfbnaaGreatDoor
section
structure RD where
 l:BL
 e:Int
 deriving DecidableEq
structure F8 where
 l:List VA
 h:l.length=8
 deriving DecidableEq
abbrev F8.c(f:F8):List MV:=(f.l.map VA.c).flatten
def F8.get(f:F8)(i:Nat):VA:=f.l.getD i va0
def F8.set(f:F8)(i:Nat)(v:VA):F8:=⟨f.l.set i v,by rw[List.length_set,f.h]⟩
def f80:F8:=⟨List.replicate 8 va0,rfl⟩
abbrev bl(s:ByteArray):BL:=s.data.toList
abbrev bit(m i:Nat):Bool:=m.testBit i
structure PA where
 mask:UInt32
 lab:UInt32
 f:F8
 deriving DecidableEq
def pa0:PA:=⟨0,0,f80⟩
structure CA where
 id:Int
 ver:Int
 lab:UInt32
 f:F8
 deriving DecidableEq
def ca0:CA:=⟨0,0,0,f80⟩
def gC:Int:=1073741824
def dO(c:CA):Bool:=decide (1≤c.id∧c.id<gC∧1≤c.ver∧c.ver≤big∧c.lab.toNat<65536)&&c.f.l.all dY
def dJ(p:PA):Int :=
 if p.mask.toNat=0∨511<p.mask.toNat then 11
 else if 65536≤p.lab.toNat∨p.lab.toNat≠0∧bit p.mask.toNat 8=false then 1
 else if (List.range 8).all (fun i=>dY (p.f.get i)&&(decide ((p.f.get i).kd=0) || bit p.mask.toNat i))=true then 0 else 1
structure ED where
 kd:Int
 id:Int
 gr:Int
 p:PA
 deriving DecidableEq
def edG(k:Int):Bool:=decide (k=4∨k=5∨k=6∨k=7)
def edI(k:Int):Bool:=decide (k=2∨k=3∨k=6∨k=7)
def edP(k:Int):Bool:=decide (k=1∨k=2)
def fX(e:ED):Int :=
 if e.kd<1∨7<e.kd then 1
 else if edG e.kd=false∧e.gr≠0∨edI e.kd=false∧e.id≠0∨edP e.kd=false∧e.p≠pa0 then 1
 else if e.gr<0∨16≤e.gr∨edI e.kd=true∧(e.id<1∨gC≤e.id) then 1
 else if edP e.kd=true then dJ e.p else 0
structure TO where
 dev:Int
 ep:Int
 sq:Int
 cu:Int
 deriving DecidableEq
abbrev TO.c(t:TO):List MV:=[.int .i64 t.dev,.int .i64 t.ep,.int .i64 t.sq,.int .i64 t.cu]
def shut:List Nat→List Nat
 | []=>[]
 | [0]=>[]
 | 0::k::s=>shut ((k - 1)::s)
 | (n+1)::s=>(n+1)::s
termination_by s=>s.length
def dp:Nat→List Nat→List ND→Nat
 | d,_,[]=>d
 | d,s,x::l=>dp (max d (s.length+1)) (shut (parts x.op::s)) l
def fW(l:List ND):Nat:=if l=[]∨fT l 0≠l.length then 0 else dp 0 [] l
def cA(l:List ND):Int :=
 if 31<l.length then 4 else if l=[]∨fT l 0≠l.length∨l.all eD=false then 1 else if 8<fW l then 5 else 0
structure RE where
 kd:Int
 dev:Int
 req:Int
 code:Int
 id:Int
 ver:Int
 sq:Int
 ep:Int
 fl:List ND
 mask:UInt32
 deriving DecidableEq
structure IT where
 kd:Int
 c:CA
 deriving DecidableEq
structure PG where
 code:Int
 reset:Bool
 fr:TO
 to:TO
 items:List IT
 deriving DecidableEq
structure CM where
 kd:Int
 e:ED
 dev:Int
 req:Int
 id:Int
 base:Int
 Lo:Int
 p:PA
 fl:List ND
 mask:UInt32
 deriving DecidableEq
structure MS where
 kd:Int
 size:Int
 cmd:CM
 tok:TO
 rep:RE
 page:PG
 code:Int
 deriving DecidableEq
end

section
structure Sk {α:Type} (f:RD→α × RD):Prop where
 stk:∀r,r.e≠0→(f r).2=r
 sfx:∀r,(f r).2.l <:+ r.l
structure Rt {α:Type} (f:RD→α × RD) (ok:α→Prop) (w:α→BL):Prop where
 fwd:∀x l,ok x→f ⟨w x++l,0⟩=(x,⟨l,0⟩)
 bck:∀r,(f r).2.e=0→r.e=0∧ok (f r).1∧r.l=w (f r).1++(f r).2.l
section
variable {α:Type} {d:α} {y:α × RD}
end
theorem KO(v:VA):dY v=true↔(v.kd=0∧v=va0)∨(v.kd=1∧0≤v.n∧v.n≤big∧v.s=⟨#[]⟩)∨(v.kd=2∧v.n=0∧v.s.size≤24):=by
 unfold dY big
 by_cases h0:v.kd=0
 ·simp[h0]
 ·by_cases h1:v.kd=1
  ·simp[h1]
  ·by_cases h2:v.kd=2
   ·simp[h2]
   ·simp[h0,h1,h2]
end

section
theorem F8.ext{f g:F8}(h:∀i,i<8→f.get i=g.get i):f=g:=by
 obtain⟨a,ha⟩:=f
 obtain⟨b,hb⟩:=g
 have:a=b:=by
  apply List.ext_getElem (by omega)
  intro i h1 h2
  have:=h i (by omega)
  simpa[F8.get,List.getD,h1,h2] using this
 subst this;rfl
theorem F8.Lh(f:F8)(i j:Nat)(v:VA)(hi:i<8):(f.set i v).get j=if i=j then v else f.get j:=by
 have:=f.h
 simp only[F8.get,F8.set,List.getD_eq_getElem?_getD,List.getElem?_set]
 split
 ·rename_i e
  subst e
  rw[if_pos (by omega)];rfl
 ·rfl
theorem F8.EZ(f:F8)(p:VA→Bool):f.l.all p=true↔∀i,i<8→p (f.get i)=true:=by
 rw[List.all_eq_true]
 constructor
 ·intro h i hi
  refine h _ ?_
  have:i<f.l.length:=by rw[f.h];exact hi
  rw[F8.get,List.getD_eq_getElem?_getD,List.getElem?_eq_getElem this]
  exact List.getElem_mem _
 ·intro h x hx
  obtain⟨i,hi,rfl⟩:=List.mem_iff_getElem.1 hx
  have:=h i (by rw[←f.h];exact hi)
  rwa [F8.get,List.getD_eq_getElem?_getD,List.getElem?_eq_getElem hi] at this
theorem My{v:VA}(h:dY v=true)(h0:v.kd=0):v=va0:=by
 rcases (KO v).1 h with⟨_,h⟩|⟨h,_⟩|⟨h,_⟩
 ·exact h
 ·omega
 ·omega
theorem Mu{n:Int}(h0:0≤n)(h:n≤4294967295):((UInt32.ofNat n.toNat).toNat:Int)=n:=by
 rw[UInt32.toNat_ofNat',Nat.mod_eq_of_lt (by omega)];omega
end

section
theorem Sk.cond{α:Type}{f:RD→α × RD}(h:Sk f)(d:α)(b:Bool):Sk (fun r=>if b=true then f r else(d,r)):=⟨fun r hr=>by
 cases b
 ·rfl
 ·simpa using h.stk r hr,fun r=>by
 cases b
 ·exact List.suffix_refl _
 ·simpa using h.sfx r⟩
theorem Rt.cond{α:Type}{f:RD→α × RD}{ok:α→Prop}{w:α→BL}(h:Rt f ok w)(d:α)(b:Bool):Rt (fun r=>if b=true then f r else(d,r)) (fun x=>if b=true then ok x else x=d) (fun x=>if b=true then w x else[]) where
 fwd x l hx:=by
  cases b
  ·simp only[Bool.false_eq_true,if_false,List.nil_append] at hx ⊢;rw[hx]
  ·simp only[if_true] at hx ⊢;exact h.fwd x l hx
 bck r hr:=by
  cases b
  ·exact⟨by simpa using hr,by simp,by simp⟩
  ·simp only[if_true] at hr ⊢;exact h.bck r hr
end
end Go.Proofs.YtaojijkdamfbnaaGreatDoor
