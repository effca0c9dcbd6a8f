/- Parts of the proof, joined; conditions: those that its theorems name. -/
import Derived.Test.YtppdgejjmhdjhaaGreatDoorMak
import Derived.Test.YtppdgejjmhdjhaaGreatDoorMal
set_option linter.unusedVariables false
set_option linter.unusedSimpArgs false
set_option maxHeartbeats 4000000
namespace Go.Proofs.YtppdgejjmhdjhaaGreatDoor
section
def T.sem(av:ND→Bool):T→Bool
 | .leaf x=>if x.op=1 then true else if x.op=2 then false else av x
 | .one x a=>!a.sem av
 | .two x a b=>if x.op=11 then a.sem av&&b.sem av else a.sem av || b.sem av
end

section
def wd(g:Nat→Bool):Nat→Nat
 | 0=>0
 | n+1=>wd g n ||| (if g n=true then 2 ^ n else 0)
def tw(f:Nat→Bool)(i:Nat):Nat:=wd (fun j=>f (64 * i+j)) 64
end

section
def nd(op:Int):ND:=⟨op,0,va0⟩
end

section
theorem EG{op:Int}(h:parts op=2):op=11∨op=12:=by
 unfold parts at h
 split at h
 ·omega
 ·split at h
  ·assumption
  ·omega
theorem EF{op:Int}(h:parts op=1):op=10:=by
 unfold parts at h
 split at h
 ·assumption
 ·split at h<;>omega
def Good(t:T):Prop:=t.ok∧∀x,x∈t.fl→eH x=true
theorem xB{x:ND}{a:T}:Good (.one x a)↔parts x.op=1∧eH x=true∧Good a:=by
 simp only[Good,T.ok,T.fl,List.mem_cons]
 exact⟨fun h=>⟨h.1.1,h.2 x (.inl rfl),h.1.2,fun y hy=>h.2 y (.inr hy)⟩,fun h=>⟨⟨h.1,h.2.2.1⟩,fun y hy=>hy.elim (fun e=>e ▸ h.2.1) (h.2.2.2 y)⟩⟩
theorem xC{x:ND}{a b:T}:Good (.two x a b)↔parts x.op=2∧eH x=true∧Good a∧Good b:=by
 simp only[Good,T.ok,T.fl,List.mem_cons,List.mem_append]
 exact⟨fun h=>⟨h.1.1,h.2 x (.inl rfl),⟨h.1.2.1,fun y hy=>h.2 y (.inr (.inl hy))⟩,h.1.2.2,fun y hy=>h.2 y (.inr (.inr hy))⟩,
  fun h=>⟨⟨h.1,h.2.2.1.1,h.2.2.2.1⟩,fun y hy=>hy.elim (fun e=>e ▸ h.2.1) fun hy=>hy.elim (h.2.2.1.2 y) (h.2.2.2.2 y)⟩⟩
end

section
open Go.Shelf
theorem rS:∀W:World,W.ShapedOpen Tryz.prog→∀g,g∈GI→∃m,W.cell? ⟨g,0,none⟩=some (.int .i64 m):=fun W h g hg=>by
 simp only[GI,List.mem_cons,List.not_mem_nil,or_false] at hg
 subst hg
 exact mG.s1_3 W h
theorem nV(s sub:ByteArray)(hs:s.size≤1000000):aA Tryz.prog 296 [.str s,.str sub] St.none fun r _=>r=.bool (Lib.contains s.data.toList sub.data.toList):=by
 refine⟨⟨_,Tryz.func296,rfl,rfl⟩,fun Φ w vs hi hr=>?_⟩
 obtain⟨m,hm⟩:=hi.fresh.2.2 (e8.g 1) (by simp[GI,e8])
 have e0:=(hr.2 0 _ rfl).dH
 have e1:=(hr.2 1 _ rfl).dH
 have hv:vs=#[.string s,.string sub]:=by
  have h1:=hr.1
  apply Array.ext
  ·simpa using h1
  ·intro i h3 h4
   match i,h3 with
   | 0,h3=>simpa[Array.getD_eq_getD_getElem?,Array.getElem?_eq_getElem h3] using e0
   | 1,h3=>simpa[Array.getD_eq_getD_getElem?,Array.getElem?_eq_getElem h3] using e1
   | i+2,_=>simp at h4;omega
 subst hv
 refine(Any.strings_Contains { mG with } s sub m w (by omega) (hi.snap _ _ hm)).mono ?_
 rintro e' w' ⟨rfl,rfl⟩
 exact⟨_,_,_,Φ,rfl,.bool _,hi,.refl _ _ _,rfl⟩
end

section
structure DE where
 id:Int
 ver:Int
 sq:Int
 deriving DecidableEq
abbrev DE.c(d:DE):List MV:=[.int .i64 d.id,.int .i64 d.ver,.int .i64 d.sq]
abbrev iA(n:Int):List MV:=[.int .i64 n]
structure GR where
 no:Int
 mem:List Int
 deriving DecidableEq
abbrev GR.c(g:GR):List MV:=[.int .i64 g.no,.lst 1 (g.mem.map iA) false]
structure BK where
 sq:Int
 nx:Int
 cards:List CA
 dead:List DE
 gr:List GR
 deriving DecidableEq
abbrev BK.c(b:BK):List MV:=[.int .i64 b.sq,.int .i64 b.nx,.lst 27 (b.cards.map CA.c) false,.lst 3 (b.dead.map DE.c) false,.lst 2 (b.gr.map GR.c) false]
structure TU where
 sq:Int
 id:Int
 old:Int
 new:Int
 card:CA
 deriving DecidableEq
abbrev TU.c(t:TU):List MV:=.int .i64 t.sq::.int .i64 t.id::.int .i64 t.old::.int .i64 t.new::t.card.c
structure SU where
 dev:Int
 ep:Int
 fl:List ND
 mask:UInt32
 floor:Int
 mem:List Int
 log:List TU
 deriving DecidableEq
abbrev SU.c(s:SU):List MV:=[.int .i64 s.dev,.int .i64 s.ep,.lst 5 (s.fl.map ND.c) false,.int .u32 (s.mask.toNat:Int),.int .i64 s.floor,.lst 1 (s.mem.map iA) false,.lst 31 (s.log.map TU.c) false]
structure RW where
 last:Int
 ep:Int
 ans:RE
 deriving DecidableEq
abbrev RW.c(r:RW):List MV:=.int .i64 r.last::.int .i64 r.ep::r.ans.c
structure SA where
 bk:BK
 subs:List SU
 rows:List RW
 deriving DecidableEq
abbrev SA.c(s:SA):List MV:=s.bk.c++[.lst 7 (s.subs.map SU.c) false,.lst 12 (s.rows.map RW.c) false]
end

section
def oT(c:Int):Int:=if 65≤c∧c≤90 then c+32 else c
theorem AU{c:Int}(h0:0≤c)(h1:c≤255):0≤oT c∧oT c≤255:=by unfold oT;split<;>omega
def fch(s:ByteArray)(i:Nat):List (List MV):=[[.int .u8 (oT ((s.toList.getD i 0).toNat:Int))]]
def sS(s:ByteArray):Nat→ByteArray
 | 0=>⟨#[]⟩
 | i+1=>sS s i++bytesOf (fch s i)
def eV(s:ByteArray):ByteArray:=sS s s.size
theorem tS(x:List MV):(bytesOf [x]).size=1:=rfl
theorem pN(s:ByteArray):∀i,(sS s i).size=i
 | 0=>rfl
 | i+1=>by rw[sS,ByteArray.size_append,pN s i,fch,tS]
def j8(a b:VA):Bool:=decide (a.kd=b.kd)&&(decide (a.kd=1) || decide (a.kd=2))&&decide (nQ (cmpL a.key b.key)<0)
def qK(A B:ByteArray):Bool:=(List.range (A.size+1 - B.size)).any fun i=>decide (A.extract i (i+B.size)=B)
def lJ(a b:VA):Bool:=decide (a.kd=2)&&decide (b.kd=2)&&qK (eV a.s) (eV b.s)
theorem AH(s:ByteArray):(eV s).size=s.size:=pN s s.size
end
end Go.Proofs.YtppdgejjmhdjhaaGreatDoor
