/- Parts of the proof, joined; conditions: those that its theorems name. -/
import Derived.Test.YtaojijkdamfbnaaGreatDoorMfi
import Derived.Test.YtaojijkdamfbnaaGreatDoorMfk
import Derived.Shelf.Strings.Shaped
import Derived.Test.YtaojijkdamfbnaaGreatDoorRows
set_option linter.unusedVariables false
set_option linter.unusedSimpArgs false
set_option maxHeartbeats 4000000
namespace Go.Proofs.YtaojijkdamfbnaaGreatDoor
section
open Go.Shelf
def gQ:Go.Shelf.Ren:=⟨fun|144=>197|143=>215|219=>228|217=>240|225=>241|224=>242|267=>243|266=>249|314=>250|n=>n,fun|9=>9|4=>4|3=>3|5=>5|46=>177|146=>263|51=>28|n=>n,fun|1=>1|n=>n⟩
theorem o4:Go.Proofs.LaysM.n144 Tryz.prog gQ:={
  mixed:=by kernel_rfl
  f143:=Tryz.func215.trans (congrArg some (by kernel_rfl))
  f144:=Tryz.func197.trans (congrArg some (by kernel_rfl))
  f217:=Tryz.func240.trans (congrArg some (by kernel_rfl))
  f219:=Tryz.func228.trans (congrArg some (by kernel_rfl))
  f224:=Tryz.func242.trans (congrArg some (by kernel_rfl))
  f225:=Tryz.func241.trans (congrArg some (by kernel_rfl))
  f266:=Tryz.func249.trans (congrArg some (by kernel_rfl))
  f267:=Tryz.func243.trans (congrArg some (by kernel_rfl))
  f314:=Tryz.func250.trans (congrArg some (by kernel_rfl))
  t3:=Tryz.underlying3
  a3:=Tryz.isAgg3
  z3:=Tryz.sizeOf3
  v3:=Tryz.zeroValue3
  t4:=Tryz.underlying4
  a4:=Tryz.isAgg4
  z4:=Tryz.sizeOf4
  v4:=Tryz.zeroValue4
  t5:=Tryz.underlying5
  a5:=Tryz.isAgg5
  z5:=Tryz.sizeOf5
  v5:=Tryz.zeroValue5
  t9:=Tryz.underlying9
  a9:=Tryz.isAgg9
  z9:=Tryz.sizeOf9
  v9:=Tryz.zeroValue9
  t46:=Tryz.underlying177
  a46:=Tryz.isAgg177
  z46:=Tryz.sizeOf177
  v46:=Tryz.zeroValue177
  t51:=Tryz.underlying28
  a51:=Tryz.isAgg28
  z51:=Tryz.sizeOf28
  v51:=Tryz.zeroValue28
  t146:=Tryz.underlying263
  a146:=Tryz.isAgg263
  z146:=Tryz.sizeOf263
  v146:=Tryz.zeroValue263
  g1:=by kernel_rfl
  i3:=by kernel_rfl
  i4:=by kernel_rfl
  i5:=by kernel_rfl
  i9:=by kernel_rfl
  i46:=by kernel_rfl
  i51:=by kernel_rfl
  i146:=by kernel_rfl
  m1:=by kernel_rfl
  s1_3:=fun w h=>Go.Proofs.cell_of_shapedOpen_int (zero:=#[.int .i64 0]) (t:=3) h (of_decide_eq_true (by kernel_rfl)) (by kernel_rfl) rfl (by kernel_rfl) (by kernel_rfl) Tryz.underlying3 }
end

section
open Go.Shelf
theorem vB:∀W:World,W.ShapedOpen Tryz.prog→∀g,g∈GI→∃m,W.cell? ⟨g,0,none⟩=some (.int .i64 m):=fun W h g hg=>by
 simp only[GI,List.mem_cons,List.not_mem_nil,or_false] at hg
 subst hg
 exact o4.s1_3 W h
theorem qP(s sub:ByteArray)(hs:s.size≤1000000):aA Tryz.prog 197 [.str s,.str sub] St.none fun r _=>r=.bool (Lib.contains s.data.toList sub.data.toList):=by
 refine⟨⟨_,Tryz.func197,rfl,rfl⟩,fun Φ w vs hi hr=>?_⟩
 obtain⟨m,hm⟩:=hi.fresh.2.2 (gQ.g 1) (by simp[GI,gQ])
 have e0:=(hr.2 0 _ rfl).eI
 have e1:=(hr.2 1 _ rfl).eI
 have hv:vs=#[.string s,.string sub]:=by
  have h1:=hr.1
  apply Array.ext
  ·simpa using h1
  ·intro i h3 h4
   match i,h3 with
   | 0,h3=>simpa[Array.getD_eq_getD_getElem?,Array.getElem?_eq_getElem h3] using e0
   | 1,h3=>simpa[Array.getD_eq_getD_getElem?,Array.getElem?_eq_getElem h3] using e1
   | i+2,_=>simp at h4;omega
 subst hv
 refine(Any.strings_Contains { o4 with } s sub m w (by omega) (hi.snap _ _ hm)).mono ?_
 rintro e' w' ⟨rfl,rfl⟩
 exact⟨_,_,_,Φ,rfl,.bool _,hi,.refl _ _ _,rfl⟩
end

section
structure DE where
 id:Int
 ver:Int
 sq:Int
 deriving DecidableEq
abbrev DE.c(d:DE):List MV:=[.int .i64 d.id,.int .i64 d.ver,.int .i64 d.sq]
abbrev aJ(n:Int):List MV:=[.int .i64 n]
structure GR where
 no:Int
 mem:List Int
 deriving DecidableEq
abbrev GR.c(g:GR):List MV:=[.int .i64 g.no,.lst 1 (g.mem.map aJ) false]
structure BK where
 sq:Int
 nx:Int
 cards:List CA
 dead:List DE
 gr:List GR
 deriving DecidableEq
abbrev BK.c(b:BK):List MV:=[.int .i64 b.sq,.int .i64 b.nx,.lst 27 (b.cards.map CA.c) false,.lst 3 (b.dead.map DE.c) false,.lst 2 (b.gr.map GR.c) false]
structure TU where
 sq:Int
 id:Int
 old:Int
 new:Int
 card:CA
 deriving DecidableEq
abbrev TU.c(t:TU):List MV:=.int .i64 t.sq::.int .i64 t.id::.int .i64 t.old::.int .i64 t.new::t.card.c
structure SU where
 dev:Int
 ep:Int
 fl:List ND
 mask:UInt32
 floor:Int
 mem:List Int
 log:List TU
 deriving DecidableEq
abbrev SU.c(s:SU):List MV:=[.int .i64 s.dev,.int .i64 s.ep,.lst 5 (s.fl.map ND.c) false,.int .u32 (s.mask.toNat:Int),.int .i64 s.floor,.lst 1 (s.mem.map aJ) false,.lst 31 (s.log.map TU.c) false]
structure RW where
 last:Int
 ep:Int
 ans:RE
 deriving DecidableEq
abbrev RW.c(r:RW):List MV:=.int .i64 r.last::.int .i64 r.ep::r.ans.c
structure SA where
 bk:BK
 subs:List SU
 rows:List RW
 deriving DecidableEq
abbrev SA.c(s:SA):List MV:=s.bk.c++[.lst 7 (s.subs.map SU.c) false,.lst 12 (s.rows.map RW.c) false]
end

section
theorem oP{v:VA}(h:dU v=true):v.s.size≤1000000:=by
 unfold dU at h
 split at h
 ·simp only[decide_eq_true_eq] at h
  rw[h];decide
 ·split at h
  ·simp only[decide_eq_true_eq] at h
   rw[h.2.2];decide
  ·split at h
   ·simp only[decide_eq_true_eq] at h
    omega
   ·cases h
theorem Hc{x:ND}(h:eH x=true):x.v.s.size≤1000000:=by
 have h0:va0.s.size≤1000000:=by decide
 unfold eH at h
 split at h
 ·simp only[decide_eq_true_eq] at h;rw[h.2];exact h0
 ·split at h
  ·simp only[decide_eq_true_eq] at h;rw[h.2.2];exact h0
  ·split at h
   ·simp only[decide_eq_true_eq] at h;rw[h.2.2];exact h0
   ·split at h
    ·simp only[decide_eq_true_eq] at h;exact oP h.2.2.1
    ·split at h
     ·simp only[decide_eq_true_eq] at h;exact oP h.2.2.1
     ·cases h
end
end Go.Proofs.YtaojijkdamfbnaaGreatDoor
