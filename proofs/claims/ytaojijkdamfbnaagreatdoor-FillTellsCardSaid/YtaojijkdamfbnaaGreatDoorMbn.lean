/- Parts of the proof, joined; conditions: those that its theorems name. -/
import Derived.Test.YtaojijkdamfbnaaGreatDoorMbi
import Derived.Test.YtaojijkdamfbnaaGreatDoorMbk
set_option linter.unusedVariables false
set_option linter.unusedSimpArgs false
set_option maxHeartbeats 4000000
namespace Go.Proofs.YtaojijkdamfbnaaGreatDoor
section
def nd(op:Int):ND:=⟨op,0,va0⟩
def T.root:T→ND
 | .leaf x=>x
 | .one x _=>x
 | .two x _ _=>x
def T.kids:T→List T
 | .leaf _=>[]
 | .one _ a=>[a]
 | .two _ a b=>[a,b]
theorem T.EB(t:T):t.fl=t.root::(t.kids.map T.fl).flatten:=by cases t<;>simp[T.fl,T.kids,T.root]
theorem T.EZ{t:T}(h:t.ok):t.kids.length=parts t.root.op∧∀k,k∈t.kids→k.ok:=by
 cases t with
 | leaf x=>simp only[T.ok] at h;simp[T.kids,T.root,h]
 | one x a=>simp only[T.ok] at h;simp[T.kids,T.root,h.1,h.2]
 | two x a b=>simp only[T.ok] at h;simp[T.kids,T.root,h.1,h.2.1,h.2.2]
theorem yC:∀(t u:T) (r s:List ND),t.ok→u.ok→t.fl++r=u.fl++s→t=u∧r=s
 | .leaf x,.leaf y,r,s,ht,hu,h=>by simp only[T.fl,List.cons_append,List.nil_append,List.cons.injEq] at h;exact⟨by rw[h.1],h.2⟩
 | .leaf x,.one y b,r,s,ht,hu,h=>by simp only[T.fl,List.cons_append,List.cons.injEq] at h;simp only[T.ok] at ht hu;rw[h.1] at ht;omega
 | .leaf x,.two y b c,r,s,ht,hu,h=>by simp only[T.fl,List.cons_append,List.cons.injEq] at h;simp only[T.ok] at ht hu;rw[h.1] at ht;omega
 | .one x a,.leaf y,r,s,ht,hu,h=>by simp only[T.fl,List.cons_append,List.cons.injEq] at h;simp only[T.ok] at ht hu;rw[h.1] at ht;omega
 | .one x a,.one y b,r,s,ht,hu,h=>by
  simp only[T.fl,List.cons_append,List.cons.injEq] at h
  obtain⟨e1,e2⟩:=yC a b r s ht.2 hu.2 h.2
  exact⟨by rw[h.1,e1],e2⟩
 | .one x a,.two y b c,r,s,ht,hu,h=>by simp only[T.fl,List.cons_append,List.cons.injEq] at h;simp only[T.ok] at ht hu;rw[h.1] at ht;omega
 | .two x a a',.leaf y,r,s,ht,hu,h=>by simp only[T.fl,List.cons_append,List.cons.injEq] at h;simp only[T.ok] at ht hu;rw[h.1] at ht;omega
 | .two x a a',.one y b,r,s,ht,hu,h=>by simp only[T.fl,List.cons_append,List.cons.injEq] at h;simp only[T.ok] at ht hu;rw[h.1] at ht;omega
 | .two x a a',.two y b b',r,s,ht,hu,h=>by
  simp only[T.fl,List.cons_append,List.cons.injEq,List.append_assoc] at h
  obtain⟨e1,e2⟩:=yC a b _ _ ht.2.1 hu.2.1 h.2
  obtain⟨e3,e4⟩:=yC a' b' r s ht.2.2 hu.2.2 e2
  exact⟨by rw[h.1,e1,e3],e4⟩
theorem Np{t u:T}(ht:t.ok)(hu:u.ok)(h:t.fl=u.fl):t=u:=(yC t u [] [] ht hu (by rw[h])).1
end

section
theorem xM{op:Int}(h:parts op=2):op=11∨op=12:=by
 unfold parts at h
 split at h
 ·omega
 ·split at h
  ·assumption
  ·omega
theorem xL{op:Int}(h:parts op=1):op=10:=by
 unfold parts at h
 split at h
 ·assumption
 ·split at h<;>omega
def Good(t:T):Prop:=t.ok∧∀x,x∈t.fl→eE x=true
theorem sS{x:ND}{a:T}:Good (.one x a)↔parts x.op=1∧eE x=true∧Good a:=by
 simp only[Good,T.ok,T.fl,List.mem_cons]
 exact⟨fun h=>⟨h.1.1,h.2 x (.inl rfl),h.1.2,fun y hy=>h.2 y (.inr hy)⟩,fun h=>⟨⟨h.1,h.2.2.1⟩,fun y hy=>hy.elim (fun e=>e ▸ h.2.1) (h.2.2.2 y)⟩⟩
theorem sT{x:ND}{a b:T}:Good (.two x a b)↔parts x.op=2∧eE x=true∧Good a∧Good b:=by
 simp only[Good,T.ok,T.fl,List.mem_cons,List.mem_append]
 exact⟨fun h=>⟨h.1.1,h.2 x (.inl rfl),⟨h.1.2.1,fun y hy=>h.2 y (.inr (.inl hy))⟩,h.1.2.2,fun y hy=>h.2 y (.inr (.inr hy))⟩,
  fun h=>⟨⟨h.1,h.2.2.1.1,h.2.2.2.1⟩,fun y hy=>hy.elim (fun e=>e ▸ h.2.1) fun hy=>hy.elim (h.2.2.1.2 y) (h.2.2.2.2 y)⟩⟩
end

section
structure DE where
 id:Int
 ver:Int
 sq:Int
 deriving DecidableEq
abbrev DE.c(d:DE):List MV:=[.int .i64 d.id,.int .i64 d.ver,.int .i64 d.sq]
abbrev aW(n:Int):List MV:=[.int .i64 n]
structure GR where
 no:Int
 mem:List Int
 deriving DecidableEq
abbrev GR.c(g:GR):List MV:=[.int .i64 g.no,.lst 1 (g.mem.map aW) false]
structure BK where
 sq:Int
 nx:Int
 cards:List CA
 dead:List DE
 gr:List GR
 deriving DecidableEq
abbrev BK.c(b:BK):List MV:=[.int .i64 b.sq,.int .i64 b.nx,.lst 27 (b.cards.map CA.c) false,.lst 3 (b.dead.map DE.c) false,.lst 2 (b.gr.map GR.c) false]
structure TU where
 sq:Int
 id:Int
 old:Int
 new:Int
 card:CA
 deriving DecidableEq
abbrev TU.c(t:TU):List MV:=.int .i64 t.sq::.int .i64 t.id::.int .i64 t.old::.int .i64 t.new::t.card.c
structure SU where
 dev:Int
 ep:Int
 fl:List ND
 mask:UInt32
 floor:Int
 mem:List Int
 log:List TU
 deriving DecidableEq
abbrev SU.c(s:SU):List MV:=[.int .i64 s.dev,.int .i64 s.ep,.lst 5 (s.fl.map ND.c) false,.int .u32 (s.mask.toNat:Int),.int .i64 s.floor,.lst 1 (s.mem.map aW) false,.lst 31 (s.log.map TU.c) false]
structure RW where
 last:Int
 ep:Int
 ans:RE
 deriving DecidableEq
abbrev RW.c(r:RW):List MV:=.int .i64 r.last::.int .i64 r.ep::r.ans.c
structure SA where
 bk:BK
 subs:List SU
 rows:List RW
 deriving DecidableEq
abbrev SA.c(s:SA):List MV:=s.bk.c++[.lst 7 (s.subs.map SU.c) false,.lst 12 (s.rows.map RW.c) false]
end

section
theorem oN{v:VA}(h:dZ v=true):v.s.size≤1000000:=by
 unfold dZ at h
 split at h
 ·simp only[decide_eq_true_eq] at h
  rw[h];decide
 ·split at h
  ·simp only[decide_eq_true_eq] at h
   rw[h.2.2];decide
  ·split at h
   ·simp only[decide_eq_true_eq] at h
    omega
   ·cases h
theorem xJ{x:ND}(h:eE x=true):x.v.s.size≤1000000:=by
 have h0:va0.s.size≤1000000:=by decide
 unfold eE at h
 split at h
 ·simp only[decide_eq_true_eq] at h;rw[h.2];exact h0
 ·split at h
  ·simp only[decide_eq_true_eq] at h;rw[h.2.2];exact h0
  ·split at h
   ·simp only[decide_eq_true_eq] at h;rw[h.2.2];exact h0
   ·split at h
    ·simp only[decide_eq_true_eq] at h;exact oN h.2.2.1
    ·split at h
     ·simp only[decide_eq_true_eq] at h;exact oN h.2.2.1
     ·cases h
end
end Go.Proofs.YtaojijkdamfbnaaGreatDoor
