/- Parts of the proof, joined; conditions: those that its theorems name. -/
import Derived.Test.YtaojijkdamfbnaaGreatDoorMdh
set_option linter.unusedVariables false
set_option linter.unusedSimpArgs false
set_option maxHeartbeats 4000000
namespace Go.Proofs.YtaojijkdamfbnaaGreatDoor
section
inductive Lz (e:Nat) (xs:List (List MV)):MV→Prop where
 | lst (t:Bool):Lz e xs (.lst e xs t)
 | nil (h:xs=[]):Lz e xs .bC
theorem Lz.cell{e:Nat}{xs:List (List MV)}{m:MV}(h:Lz e xs m):m.aL=true:=by cases h<;>rfl
theorem Lz.cells{e:Nat}{xs:List (List MV)}{m:MV}(h:Lz e xs m):m.cells=[m]:=by cases h<;>rfl
theorem Lz.NZ{e:Nat}{xs:List (List MV)}{m:MV}(h:Lz e xs m):lJ m (.lst e xs false):=by
 cases h with
 | lst t=>cases t with
  | false=>exact .same _
  | true=>exact .tight _ _
 | nil h=>subst h;exact .nil _ _
abbrev CM.k(c:CM)(f:MV):List MV:=.int .i64 c.kd::.int .i64 c.e.kd::.int .i64 c.e.id::.int .i64 c.e.gr::.int .u32 (c.e.p.mask.toNat:Int)::.int .u32 (c.e.p.lab.toNat:Int)::(fc c.e.p.f ++
 .int .i64 c.dev::.int .i64 c.req::.int .i64 c.id::.int .i64 c.base::.int .i64 c.KI::.int .u32 (c.p.mask.toNat:Int)::.int .u32 (c.p.lab.toNat:Int)::(fc c.p.f++[f,.int .u32 (c.mask.toNat:Int)]))
abbrev RE.k(a:RE)(f:MV):List MV:=[.int .i64 a.kd,.int .i64 a.dev,.int .i64 a.req,.int .i64 a.code,.int .i64 a.id,.int .i64 a.ver,.int .i64 a.sq,.int .i64 a.ep,f,.int .u32 (a.mask.toNat:Int)]
abbrev PG.k(p:PG)(i:MV):List MV:=[.int .i64 p.code,.bool p.reset,.int .i64 p.fr.dev,.int .i64 p.fr.ep,.int .i64 p.fr.sq,.int .i64 p.fr.cu,.int .i64 p.to.dev,.int .i64 p.to.ep,.int .i64 p.to.sq,.int .i64 p.to.cu,i]
abbrev MS.k(m:MS)(f g i:MV):List MV:=.int .i64 m.kd::.int .i64 m.size::.int .i64 m.cmd.kd::.int .i64 m.cmd.e.kd::.int .i64 m.cmd.e.id::.int .i64 m.cmd.e.gr::.int .u32 (m.cmd.e.p.mask.toNat:Int)::.int .u32 (m.cmd.e.p.lab.toNat:Int)::(fc m.cmd.e.p.f ++
 .int .i64 m.cmd.dev::.int .i64 m.cmd.req::.int .i64 m.cmd.id::.int .i64 m.cmd.base::.int .i64 m.cmd.KI::.int .u32 (m.cmd.p.mask.toNat:Int)::.int .u32 (m.cmd.p.lab.toNat:Int)::(fc m.cmd.p.f++f::.int .u32 (m.cmd.mask.toNat:Int) ::
 .int .i64 m.tok.dev::.int .i64 m.tok.ep::.int .i64 m.tok.sq::.int .i64 m.tok.cu ::
 .int .i64 m.rep.kd::.int .i64 m.rep.dev::.int .i64 m.rep.req::.int .i64 m.rep.code::.int .i64 m.rep.id::.int .i64 m.rep.ver::.int .i64 m.rep.sq::.int .i64 m.rep.ep::g::.int .u32 (m.rep.mask.toNat:Int) ::
 .int .i64 m.page.code::.bool m.page.reset::.int .i64 m.page.fr.dev::.int .i64 m.page.fr.ep::.int .i64 m.page.fr.sq::.int .i64 m.page.fr.cu::.int .i64 m.page.to.dev::.int .i64 m.page.to.ep::.int .i64 m.page.to.sq::.int .i64 m.page.to.cu::i ::
 [.int .i64 m.code]))
end

section
abbrev RE.c(a:RE):List MV:=a.k (.lst 5 (a.fl.map ND.c) false)
abbrev IT.ks(l:List IT):List (List MV):=l.map fun x=>.int .i64 x.kd::.int .i64 x.c.id::.int .i64 x.c.ver::.int .u32 (x.c.lab.toNat:Int)::fc x.c.f
abbrev PG.c(p:PG):List MV:=p.k (.lst 28 (IT.ks p.items) false)
abbrev CM.c(c:CM):List MV:=c.k (.lst 5 (c.fl.map ND.c) false)
def fT(σ:St):List MV→List MV→Prop
 | [],[]=>True
 | m::ms,m'::ms'=>View σ m m'∧fT σ ms ms'
 | _,_=>False
theorem fT.same{σ:St}:∀ms:List MV,fT σ ms ms
 | []=>trivial
 | m::ms=>⟨.same m,fT.same ms⟩
theorem fT.app{σ:St}:∀{a b c d:List MV},fT σ a b→fT σ c d→fT σ (a++c) (b++d)
 | [],[],_,_,_,h=>h
 | _::_,_::_,_,_,h,k=>⟨h.1,fT.app h.2 k⟩
theorem fT.len{σ:St}:∀{a b:List MV},fT σ a b→a.length=b.length
 | [],[],_=>rfl
 | _::_,_::_,h=>congrArg (·+1) (fT.len h.2)
theorem fT.at{σ:St}:∀{a b:List MV},fT σ a b→∀(i:Nat) (m m':MV),a[i]?=some m→b[i]?=some m'→View σ m m'
 | _::_,_::_,h,0,m,m',h1,h2=>by simp at h1 h2;subst h1 h2;exact h.1
 | _::_,_::_,h,i+1,m,m',h1,h2=>by simp at h1 h2;exact h.2.at i m m' h1 h2
theorem View.bC{σ:St}{e:Nat}{xs:List (List MV)}(h:xs=[]):View σ .bC (.lst e xs false):=by subst h;exact .nil e false
theorem CQ{f:F8}{r:List MV}:(fc f++r).all MV.aL=r.all MV.aL:=by rw[List.all_append,cA,Bool.true_and]
theorem AA{f:F8}{a b:List MV}:(fc f++a)++b=fc f++(a++b):=List.append_assoc _ _ _
theorem NX:((UInt32.toNat 0:Nat):Int)=0:=rfl
theorem RE.cell(a:RE):a.c.all MV.aL=true:=rfl
theorem PG.cell(a:PG):a.c.all MV.aL=true:=rfl
theorem CM.cell(c:CM):c.c.all MV.aL=true:=by
 simp only[CM.c,CM.k,List.all_cons,List.all_append,cA];rfl
end
end Go.Proofs.YtaojijkdamfbnaaGreatDoor
