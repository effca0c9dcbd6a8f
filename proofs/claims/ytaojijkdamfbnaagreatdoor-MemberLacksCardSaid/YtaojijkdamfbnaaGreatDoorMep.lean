/- Parts of the proof, joined; conditions: those that its theorems name. -/
import Derived.Test.YtaojijkdamfbnaaGreatDoorMem
import Derived.Test.YtaojijkdamfbnaaGreatDoorMeo
import Derived.Lib.IndexMore
set_option linter.unusedVariables false
set_option linter.unusedSimpArgs false
set_option maxHeartbeats 4000000
namespace Go.Proofs.YtaojijkdamfbnaaGreatDoor
section
open Go.Shelf
theorem vW:∀W:World,W.ShapedOpen Tryz.prog→∀g,g∈GI→∃m,W.cell? ⟨g,0,none⟩=some (.int .i64 m):=fun W h g hg=>by
 simp only[GI,List.mem_cons,List.not_mem_nil,or_false] at hg
 subst hg
 exact pH.s1_3 W h
theorem qY(s sub:ByteArray)(hs:s.size≤1000000):aA Tryz.prog 197 [.str s,.str sub] St.none fun r _=>r=.bool (Lib.contains s.data.toList sub.data.toList):=by
 refine⟨⟨_,Tryz.func197,rfl,rfl⟩,fun Φ w vs hi hr=>?_⟩
 obtain⟨m,hm⟩:=hi.fresh.2.2 (gU.g 1) (by simp[GI,gU])
 have e0:=(hr.2 0 _ rfl).eK
 have e1:=(hr.2 1 _ rfl).eK
 have hv:vs=#[.string s,.string sub]:=by
  have h1:=hr.1
  apply Array.ext
  ·simpa using h1
  ·intro i h3 h4
   match i,h3 with
   | 0,h3=>simpa[Array.getD_eq_getD_getElem?,Array.getElem?_eq_getElem h3] using e0
   | 1,h3=>simpa[Array.getD_eq_getD_getElem?,Array.getElem?_eq_getElem h3] using e1
   | i+2,_=>simp at h4;omega
 subst hv
 refine(Any.strings_Contains { pH with } s sub m w (by omega) (hi.snap _ _ hm)).mono ?_
 rintro e' w' ⟨rfl,rfl⟩
 exact⟨_,_,_,Φ,rfl,.bool _,hi,.refl _ _ _,rfl⟩
end

section
structure DE where
 id:Int
 ver:Int
 sq:Int
 deriving DecidableEq
abbrev DE.c(d:DE):List MV:=[.int .i64 d.id,.int .i64 d.ver,.int .i64 d.sq]
abbrev aL(n:Int):List MV:=[.int .i64 n]
structure GR where
 no:Int
 mem:List Int
 deriving DecidableEq
abbrev GR.c(g:GR):List MV:=[.int .i64 g.no,.lst 1 (g.mem.map aL) false]
structure BK where
 sq:Int
 nx:Int
 cards:List CA
 dead:List DE
 gr:List GR
 deriving DecidableEq
abbrev BK.c(b:BK):List MV:=[.int .i64 b.sq,.int .i64 b.nx,.lst 27 (b.cards.map CA.c) false,.lst 3 (b.dead.map DE.c) false,.lst 2 (b.gr.map GR.c) false]
structure TU where
 sq:Int
 id:Int
 old:Int
 new:Int
 card:CA
 deriving DecidableEq
abbrev TU.c(t:TU):List MV:=.int .i64 t.sq::.int .i64 t.id::.int .i64 t.old::.int .i64 t.new::t.card.c
structure SU where
 dev:Int
 ep:Int
 fl:List ND
 mask:UInt32
 floor:Int
 mem:List Int
 log:List TU
 deriving DecidableEq
abbrev SU.c(s:SU):List MV:=[.int .i64 s.dev,.int .i64 s.ep,.lst 5 (s.fl.map ND.c) false,.int .u32 (s.mask.toNat:Int),.int .i64 s.floor,.lst 1 (s.mem.map aL) false,.lst 31 (s.log.map TU.c) false]
structure RW where
 last:Int
 ep:Int
 ans:RE
 deriving DecidableEq
abbrev RW.c(r:RW):List MV:=.int .i64 r.last::.int .i64 r.ep::r.ans.c
structure SA where
 bk:BK
 subs:List SU
 rows:List RW
 deriving DecidableEq
abbrev SA.c(s:SA):List MV:=s.bk.c++[.lst 7 (s.subs.map SU.c) false,.lst 12 (s.rows.map RW.c) false]
end

section
def lQ(c:Int):Int:=if 65≤c∧c≤90 then c+32 else c
theorem tN{c:Int}(h0:0≤c)(h1:c≤255):0≤lQ c∧lQ c≤255:=by unfold lQ;split<;>omega
theorem HU(c:Int)(h0:0≤c)(h1:c≤255):aA Tryz.prog 200 [.int .u8 c] St.none (fun r _=>r=.int .u8 (lQ c)):=by
 refine(aA.body 12 [.tmp 2] Tryz.func200 rfl rfl rfl rfl ?_)
 by_cases h2:65≤c
 ·by_cases h3:c≤90
  ·rw[show lQ c=c+32 from if_pos ⟨h2,h3⟩]
   repeat' (first|(with_reducible first|(refine wT ?_;refine wN fun _ hnl=>?_;revert hnl;(repeat refine wS fun _ _=>?_);intro hnl)|refine wD (by decide +kernel) ?_|refine wI (fun h=>?_) fun h=>?_|refine wF (fun h=>?_) fun h=>?_|refine wG (fun h=>?_) fun h=>?_|refine wH (fun h=>?_) fun h=>?_|((first|refine aF (fun h=>?_) fun h=>?_|refine aD (fun h=>?_) fun h=>?_)<;>simp only[h]))|simp(maxSteps:=4000000) (disch:=first|exact ddL|fail) only[go_sem,simprocAttr,Tryz.f200])
  ·rw[show lQ c=c from if_neg fun h=>h3 h.2]
   repeat' (first|(with_reducible first|(refine wT ?_;refine wN fun _ hnl=>?_;revert hnl;(repeat refine wS fun _ _=>?_);intro hnl)|refine wD (by decide +kernel) ?_|refine wI (fun h=>?_) fun h=>?_|refine wF (fun h=>?_) fun h=>?_|refine wG (fun h=>?_) fun h=>?_|refine wH (fun h=>?_) fun h=>?_|((first|refine aF (fun h=>?_) fun h=>?_|refine aD (fun h=>?_) fun h=>?_)<;>simp only[h]))|simp(maxSteps:=4000000) (disch:=first|exact ddL|fail) only[go_sem,simprocAttr,Tryz.f200])
 ·rw[show lQ c=c from if_neg fun h=>h2 h.1]
  repeat' (first|(with_reducible first|(refine wT ?_;refine wN fun _ hnl=>?_;revert hnl;(repeat refine wS fun _ _=>?_);intro hnl)|refine wD (by decide +kernel) ?_|refine wI (fun h=>?_) fun h=>?_|refine wF (fun h=>?_) fun h=>?_|refine wG (fun h=>?_) fun h=>?_|refine wH (fun h=>?_) fun h=>?_|((first|refine aF (fun h=>?_) fun h=>?_|refine aD (fun h=>?_) fun h=>?_)<;>simp only[h]))|simp(maxSteps:=4000000) (disch:=first|exact ddL|fail) only[go_sem,simprocAttr,Tryz.f200])
def fch(s:ByteArray)(i:Nat):List (List MV):=[[.int .u8 (lQ ((s.toList.getD i 0).toNat:Int))]]
def pD(s:ByteArray):Nat→ByteArray
 | 0=>⟨#[]⟩
 | i+1=>pD s i++bytesOf (fch s i)
def dR(s:ByteArray):ByteArray:=pD s s.size
theorem pA(x:List MV):(bytesOf [x]).size=1:=rfl
theorem oH(s:ByteArray):∀i,(pD s i).size=i
 | 0=>rfl
 | i+1=>by rw[pD,ByteArray.size_append,oH s i,fch,pA]
set_option maxHeartbeats 1000000 in
theorem uV (s:ByteArray) (h:s.size≤1000000):aA Tryz.prog 177 [.str s] St.none (fun r _=>r=.str (dR s)):=by
 refine(aA.body 20 [.tmp 2] Tryz.func177 rfl rfl rfl rfl ?_)
 repeat' (first|(with_reducible first|(refine wT ?_;refine wN fun _ hnl=>?_;revert hnl;(repeat refine wS fun _ _=>?_);intro hnl)|refine wD (by decide +kernel) ?_|refine wI (fun h=>?_) fun h=>?_|refine wF (fun h=>?_) fun h=>?_|refine wG (fun h=>?_) fun h=>?_|refine wH (fun h=>?_) fun h=>?_|((first|refine aF (fun h=>?_) fun h=>?_|refine aD (fun h=>?_) fun h=>?_)<;>simp only[h]))|simp(maxSteps:=4000000) (disch:=first|exact ddL|fail) only[go_sem,simprocAttr,Tryz.f177])
 refine aH (α:=Nat) (fun i=>⟨20,[(4,.int .i64 (i:Int)),(3,.str (pD s i)),(0,.str s)],[]⟩)
  (fun _=>St.none) (fun i=>i≤s.size) (fun i=>s.size - i) (.of (.less ?_ (St.le_refl _)) ⟨0,rfl,rfl,Nat.zero_le _⟩) ?_
 ·simp(maxSteps:=4000000) (disch:=first|exact ddL|fail) only[go_sem,simprocAttr,aC,aB]
  all_goals repeat' first|rfl|exact .same _|refine⟨?_,?_⟩
 ·intro i hi
  have hi:i≤s.size:=hi
  by_cases hlt:i<s.size
  ·have hsz:=oH s i
   have hc0:0≤((s.toList.getD i 0).toNat:Int):=by omega
   have hc1:((s.toList.getD i 0).toNat:Int)≤255:=by have:=(s.toList.getD i 0).toNat_lt;omega
   have hlo:=HU _ hc0 hc1
   obtain⟨hr0,hr1⟩:=tN hc0 hc1
   have hf:pD s (i+1)=pD s i++bytesOf (fch s i):=rfl
   have hfc:fch s i=[[.int .u8 (lQ ((s.toList.getD i 0).toNat:Int))]]:=rfl
   have hone:=pA [.int .u8 (lQ ((s.toList.getD i 0).toNat:Int))]
   rw[hfc] at hf
   obtain⟨c,hc⟩:∃c:Int,((s.toList.getD i 0).toNat:Int)=c:=⟨_,rfl⟩
   rw[hc] at hlo hr0 hr1 hf hone hc0 hc1
   repeat' (first|(with_reducible refine aM hlo ?_)|(with_reducible first|(refine wT ?_;refine wN fun _ hnl=>?_;revert hnl;(repeat refine wS fun _ _=>?_);intro hnl)|refine wD (by decide +kernel) ?_|refine wI (fun h=>?_) fun h=>?_|refine wF (fun h=>?_) fun h=>?_|refine wG (fun h=>?_) fun h=>?_|refine wH (fun h=>?_) fun h=>?_|((first|refine aF (fun h=>?_) fun h=>?_|refine aD (fun h=>?_) fun h=>?_)<;>simp only[h]))|simp(maxSteps:=4000000) (disch:=first|exact ddL|fail) only[go_sem,simprocAttr,hc,hsz,hone,isByte])
   refine .of (.less ?_ (St.none_le _)) ⟨i+1,rfl,rfl,by omega,by omega⟩
   rw[hf]
   simp(maxSteps:=4000000) (disch:=first|exact ddL|fail) only[go_sem,simprocAttr,aC,aB]
   all_goals rfl
  ·have hie:i=s.size:=by omega
   subst hie
   repeat' (first|(with_reducible first|(refine wT ?_;refine wN fun _ hnl=>?_;revert hnl;(repeat refine wS fun _ _=>?_);intro hnl)|refine wD (by decide +kernel) ?_|refine wI (fun h=>?_) fun h=>?_|refine wF (fun h=>?_) fun h=>?_|refine wG (fun h=>?_) fun h=>?_|refine wH (fun h=>?_) fun h=>?_|((first|refine aF (fun h=>?_) fun h=>?_|refine aD (fun h=>?_) fun h=>?_)<;>simp only[h]))|simp(maxSteps:=4000000) (disch:=first|exact ddL|fail) only[go_sem,simprocAttr])
   rfl
def gQ(a b:VA):Bool:=decide (a.kd=b.kd)&&(decide (a.kd=1) || decide (a.kd=2))&&decide (lD (cmpL a.key b.key)<0)
set_option maxHeartbeats 1000000 in
theorem rS (a b:VA) (ha:a.s.size≤1000000) (hb:b.s.size≤1000000):aA Tryz.prog 135 [.agg a.c,.agg b.c] St.none (fun r _=>r=.bool (gQ a b)):=by
 refine(aA.body 26 [.tmp 4] Tryz.func135 rfl rfl rfl rfl ?_)
 have h1:=u4 a b ha hb
 have hd:gQ a b=(decide (a.kd=b.kd)&&(decide (a.kd=1) || decide (a.kd=2))&&decide (lD (cmpL a.key b.key)<0)):=rfl
 generalize lD (cmpL a.key b.key)=o at h1 hd
 generalize gQ a b=out at hd ⊢
 by_cases e1:a.kd=b.kd
 ·by_cases e2:a.kd=1
  ·rw[decide_eq_true e1,decide_eq_true e2,Bool.true_or,Bool.true_and,Bool.true_and] at hd
   subst hd
   repeat' (first|(with_reducible first|refine up h1 ?_)|(with_reducible first|(refine wT ?_;refine wN fun _ hnl=>?_;revert hnl;(repeat refine wS fun _ _=>?_);intro hnl)|refine wD (by decide +kernel) ?_|refine wI (fun h=>?_) fun h=>?_|refine wF (fun h=>?_) fun h=>?_|refine wG (fun h=>?_) fun h=>?_|refine wH (fun h=>?_) fun h=>?_|((first|refine aF (fun h=>?_) fun h=>?_|refine aD (fun h=>?_) fun h=>?_)<;>simp only[h]))|simp(maxSteps:=4000000) (disch:=first|exact ddL|fail) only[go_sem,simprocAttr,Tryz.f135])
  ·by_cases e3:a.kd=2
   ·rw[decide_eq_true e1,decide_eq_true e3,Bool.or_true,Bool.true_and,Bool.true_and] at hd
    subst hd
    repeat' (first|(with_reducible first|refine up h1 ?_)|(with_reducible first|(refine wT ?_;refine wN fun _ hnl=>?_;revert hnl;(repeat refine wS fun _ _=>?_);intro hnl)|refine wD (by decide +kernel) ?_|refine wI (fun h=>?_) fun h=>?_|refine wF (fun h=>?_) fun h=>?_|refine wG (fun h=>?_) fun h=>?_|refine wH (fun h=>?_) fun h=>?_|((first|refine aF (fun h=>?_) fun h=>?_|refine aD (fun h=>?_) fun h=>?_)<;>simp only[h]))|simp(maxSteps:=4000000) (disch:=first|exact ddL|fail) only[go_sem,simprocAttr,Tryz.f135])
   ·rw[decide_eq_false e2,decide_eq_false e3,Bool.or_false,Bool.and_false,Bool.false_and] at hd
    subst hd
    repeat' (first|(with_reducible first|refine up h1 ?_)|(with_reducible first|(refine wT ?_;refine wN fun _ hnl=>?_;revert hnl;(repeat refine wS fun _ _=>?_);intro hnl)|refine wD (by decide +kernel) ?_|refine wI (fun h=>?_) fun h=>?_|refine wF (fun h=>?_) fun h=>?_|refine wG (fun h=>?_) fun h=>?_|refine wH (fun h=>?_) fun h=>?_|((first|refine aF (fun h=>?_) fun h=>?_|refine aD (fun h=>?_) fun h=>?_)<;>simp only[h]))|simp(maxSteps:=4000000) (disch:=first|exact ddL|fail) only[go_sem,simprocAttr,Tryz.f135])
 ·rw[decide_eq_false e1,Bool.false_and,Bool.false_and] at hd
  subst hd
  repeat' (first|(with_reducible first|refine up h1 ?_)|(with_reducible first|(refine wT ?_;refine wN fun _ hnl=>?_;revert hnl;(repeat refine wS fun _ _=>?_);intro hnl)|refine wD (by decide +kernel) ?_|refine wI (fun h=>?_) fun h=>?_|refine wF (fun h=>?_) fun h=>?_|refine wG (fun h=>?_) fun h=>?_|refine wH (fun h=>?_) fun h=>?_|((first|refine aF (fun h=>?_) fun h=>?_|refine aD (fun h=>?_) fun h=>?_)<;>simp only[h]))|simp(maxSteps:=4000000) (disch:=first|exact ddL|fail) only[go_sem,simprocAttr,Tryz.f135])
def n4(A B:ByteArray):Bool:=(List.range (A.size+1 - B.size)).any fun i=>decide (A.extract i (i+B.size)=B)
def iP(a b:VA):Bool:=decide (a.kd=2)&&decide (b.kd=2)&&n4 (dR a.s) (dR b.s)
theorem oG(s:ByteArray):(dR s).size=s.size:=oH s s.size
set_option maxHeartbeats 1000000 in
theorem AA (a b:VA) (ha:a.s.size≤1000000) (hb:b.s.size≤1000000):aA Tryz.prog 136 [.agg a.c,.agg b.c] St.none (fun r _=>r=.bool (iP a b)):=by
 refine(aA.body 40 [.tmp 4] Tryz.func136 rfl rfl rfl rfl ?_)
 have h1:=uV a.s ha
 have h2:=uV b.s hb
 have hd:iP a b=(decide (a.kd=2)&&decide (b.kd=2)&&n4 (dR a.s) (dR b.s)):=rfl
 have s1:=oG a.s
 have s2:=oG b.s
 generalize iP a b=out at hd ⊢
 by_cases e1:a.kd=2
 ·by_cases e2:b.kd=2
  ·rw[decide_eq_true e1,decide_eq_true e2,Bool.true_and,Bool.true_and] at hd
   obtain⟨C,hC⟩:∃C,C=kn [(177,[.str a.s],⟨[],fun v=>v=.str (dR a.s),none⟩),(177,[.str b.s],⟨[],fun v=>v=.str (dR b.s),none⟩)]:=⟨_,rfl⟩
   have f1:C 177 [.str a.s]=some ⟨[],fun v=>v=.str (dR a.s),none⟩:=by rw[hC];exact qL
   have f2:C 177 [.str b.s]=some ⟨[],fun v=>v=.str (dR b.s),none⟩:=by
    rw[hC]
    refine Fq (fun h=>?_) qL
    have h:=h.2
    simp only[List.cons.injEq,MV.str.injEq,and_true] at h
    rw[h]
   clear hC
   generalize dR a.s=A at h1 hd s1 f1
   generalize dR b.s=B at h2 hd s2 f2
   subst hd
   repeat' (first|(with_reducible first|(refine wT ?_;refine wN fun _ hnl=>?_;revert hnl;(repeat refine wS fun _ _=>?_);intro hnl)|refine wD (by decide +kernel) ?_|refine wI (fun h=>?_) fun h=>?_|refine wF (fun h=>?_) fun h=>?_|refine wG (fun h=>?_) fun h=>?_|refine wH (fun h=>?_) fun h=>?_|((first|refine aF (fun h=>?_) fun h=>?_|refine aD (fun h=>?_) fun h=>?_)<;>simp only[h]))|simp(maxSteps:=4000000) (disch:=first|exact ddL|fail) only[go_sem,simprocAttr,Tryz.f136])
   refine aT mixed (by decide +kernel) C ?_
   repeat' (first|(with_reducible refine aP f1 h1 ?_)|(with_reducible refine aP f2 h2 ?_)|(with_reducible first|(refine wT ?_;refine wN fun _ hnl=>?_;revert hnl;(repeat refine wS fun _ _=>?_);intro hnl)|refine wD (by decide +kernel) ?_|refine wI (fun h=>?_) fun h=>?_|refine wF (fun h=>?_) fun h=>?_|refine wG (fun h=>?_) fun h=>?_|refine wH (fun h=>?_) fun h=>?_|((first|refine aF (fun h=>?_) fun h=>?_|refine aD (fun h=>?_) fun h=>?_)<;>simp only[h]))|simp(maxSteps:=4000000) (disch:=first|exact ddL|fail) only[go_sem,simprocAttr])
   refine aH (α:=Nat) (fun i=>⟨40,[(7,.int .i64 (i:Int)),(6,.str B),(5,.str A)],[]⟩)
    (fun _=>St.none) (fun i=>i≤A.size+1∧∀j,j<i→j+B.size≤A.size→A.extract j (j+B.size)≠B) (fun i=>A.size+1 - i) (.of (.less ?_ (St.none_le _)) ⟨0,rfl,rfl,Nat.zero_le _,fun j hj=>absurd hj (by omega)⟩) ?_
   ·simp(maxSteps:=4000000) (disch:=first|exact ddL|fail) only[go_sem,simprocAttr,aC,aB]
    all_goals rfl
   ·rintro i ⟨hi,hq⟩
    by_cases hlt:i+B.size≤A.size
    ·have e1:((i:Int)+(B.size:Int)).toNat=i+B.size:=by omega
     have e2:((i:Int)).toNat=i:=by omega
     repeat' (first|(with_reducible first|(refine wT ?_;refine wN fun _ hnl=>?_;revert hnl;(repeat refine wS fun _ _=>?_);intro hnl)|refine wD (by decide +kernel) ?_|refine wI (fun h=>?_) fun h=>?_|refine wF (fun h=>?_) fun h=>?_|refine wG (fun h=>?_) fun h=>?_|refine wH (fun h=>?_) fun h=>?_|((first|refine aF (fun h=>?_) fun h=>?_|refine aD (fun h=>?_) fun h=>?_)<;>simp only[h]))|simp(maxSteps:=4000000) (disch:=first|exact ddL|fail) only[go_sem,simprocAttr,e1,e2])
     ·refine(List.any_eq_true.2 ⟨i,List.mem_range.2 (by omega),?_⟩).symm
      exact decide_eq_true h
     ·refine .of (.less ?_ (St.none_le _)) ⟨i+1,rfl,rfl,⟨by omega,fun j hj hjl=>?_⟩,by omega⟩
      ·simp(maxSteps:=4000000) (disch:=first|exact ddL|fail) only[go_sem,simprocAttr,aC,aB]
       all_goals rfl
      ·by_cases hji:j=i
       ·subst hji;exact h
       ·exact hq j (by omega) hjl
    ·have hF:n4 A B=false:=by
      rw[n4,List.any_eq_false]
      intro j hj
      rw[List.mem_range] at hj
      have:=hq j (by omega) (by omega)
      simpa using this
     rw[hF]
     repeat' (first|(with_reducible first|(refine wT ?_;refine wN fun _ hnl=>?_;revert hnl;(repeat refine wS fun _ _=>?_);intro hnl)|refine wD (by decide +kernel) ?_|refine wI (fun h=>?_) fun h=>?_|refine wF (fun h=>?_) fun h=>?_|refine wG (fun h=>?_) fun h=>?_|refine wH (fun h=>?_) fun h=>?_|((first|refine aF (fun h=>?_) fun h=>?_|refine aD (fun h=>?_) fun h=>?_)<;>simp only[h]))|simp(maxSteps:=4000000) (disch:=first|exact ddL|fail) only[go_sem,simprocAttr])
  ·rw[decide_eq_false e2,Bool.and_false,Bool.false_and] at hd
   subst hd
   repeat' (first|(with_reducible first|(refine wT ?_;refine wN fun _ hnl=>?_;revert hnl;(repeat refine wS fun _ _=>?_);intro hnl)|refine wD (by decide +kernel) ?_|refine wI (fun h=>?_) fun h=>?_|refine wF (fun h=>?_) fun h=>?_|refine wG (fun h=>?_) fun h=>?_|refine wH (fun h=>?_) fun h=>?_|((first|refine aF (fun h=>?_) fun h=>?_|refine aD (fun h=>?_) fun h=>?_)<;>simp only[h]))|simp(maxSteps:=4000000) (disch:=first|exact ddL|fail) only[go_sem,simprocAttr,Tryz.f136])
 ·rw[decide_eq_false e1,Bool.false_and,Bool.false_and] at hd
  subst hd
  repeat' (first|(with_reducible first|(refine wT ?_;refine wN fun _ hnl=>?_;revert hnl;(repeat refine wS fun _ _=>?_);intro hnl)|refine wD (by decide +kernel) ?_|refine wI (fun h=>?_) fun h=>?_|refine wF (fun h=>?_) fun h=>?_|refine wG (fun h=>?_) fun h=>?_|refine wH (fun h=>?_) fun h=>?_|((first|refine aF (fun h=>?_) fun h=>?_|refine aD (fun h=>?_) fun h=>?_)<;>simp only[h]))|simp(maxSteps:=4000000) (disch:=first|exact ddL|fail) only[go_sem,simprocAttr,Tryz.f136])
end

section
set_option maxRecDepth 100000
set_option maxHeartbeats 4000000
theorem KW(s n:Nat):(s &&& 2 ^ n=0)=(s / 2 ^ n % 2=0):=by
 apply propext
 have h:s &&& 2 ^ n=2 ^ n * (s / 2 ^ n % 2):=by
  refine Nat.eq_of_testBit_eq fun i=>?_
  rw[Nat.testBit_and,Nat.testBit_two_pow]
  by_cases hi:n=i
  ·subst hi
   rcases Nat.mod_two_eq_zero_or_one (s / 2 ^ n) with h|h
   ·rw[h,Nat.mul_zero,Nat.zero_testBit]
    have:s.testBit n=false:=by rw[Nat.testBit_eq_decide_div_mod_eq,h];rfl
    rw[this];rfl
   ·rw[h,Nat.mul_one,Nat.testBit_two_pow_self]
    have:s.testBit n=true:=by rw[Nat.testBit_eq_decide_div_mod_eq,h];rfl
    rw[this];simp
  ·rw[decide_eq_false hi,Bool.and_false]
   rcases Nat.mod_two_eq_zero_or_one (s / 2 ^ n) with h|h
   ·rw[h,Nat.mul_zero,Nat.zero_testBit]
   ·rw[h,Nat.mul_one,Nat.testBit_two_pow_of_ne hi]
 rw[h,Nat.mul_eq_zero]
 have:=Nat.pos_of_ne_zero (n:=2 ^ n) (Nat.ne_of_gt (Nat.two_pow_pos n))
 constructor
 ·rintro(h|h)
  ·omega
  ·exact h
 ·exact .inr
theorem uJ(s n:Nat)(hs:s<4294967296)(hn:n<32):aA Tryz.prog 165 [.int .u32 (s:Int),.int .i64 (n:Int)] St.none (fun r _=>r=.bool (hasB s n)):=by
 refine(aA.body 10 [.tmp 4] Tryz.func165 rfl rfl rfl rfl ?_)
 have h:=yI n hn
 have ha:=AO s (2 ^ n) hs (Nat.pow_lt_pow_right (a:=2) (n:=32) (by decide) hn)
 have hb:=KW s n
 have e:hasB s n=!decide (s &&& 2 ^ n=0):=by
  unfold hasB
  have h2:((n:Int)).toNat=n:=by simp
  have h3:0≤(n:Int)∧(n:Int)≤31:=by omega
  rcases Nat.mod_two_eq_zero_or_one (s / 2 ^ n) with h|h
  ·have h4:s &&& 2 ^ n=0:=by rw[hb];exact h
   simp[h4,h]
  ·have h4:¬(s &&& 2 ^ n=0):=by rw[hb];omega
   simp[h4,h]
   omega
 rw[e]
 generalize s &&& 2 ^ n=x at ha ⊢
 generalize ((2 ^ n:Nat):Int)=y at h ha
 repeat' (first|(with_reducible first|refine up h ?_)|(with_reducible first|(refine wN fun _ hnl=>?_;revert hnl;(repeat refine wS fun _ _=>?_);intro hnl)|refine wE ?_|(refine wK ?_ ?_<;>intro h)|(refine wB ?_ ?_<;>intro h<;>simp only[h]))|simp(maxSteps:=4000000) (disch:=first|exact ddL|fail) only[go_sem,simprocAttr,Tryz.f165,ha])
 all_goals first|(simp;done)|(by_cases hx:x=0<;>simp[hx])
theorem rN(a b:VA):aA Tryz.prog 170 [.agg a.c,.agg b.c] St.none (fun r _=>r=.bool (gQ a b)):=by
 refine aA.cC (aA.body 24 [.tmp 4] Tryz.func170 rfl rfl rfl rfl ?_)
 have h1:=xE a b
 have hd:gQ a b=(decide (a.kd=b.kd)&&(decide (a.kd=1) || decide (a.kd=2))&&decide (lD (cmpL a.key b.key)<0)):=rfl
 generalize lD (cmpL a.key b.key)=o at h1 hd
 generalize gQ a b=out at hd ⊢
 by_cases e1:a.kd=b.kd
 ·by_cases e2:a.kd=1
  ·rw[decide_eq_true e1,decide_eq_true e2,Bool.true_or,Bool.true_and,Bool.true_and] at hd
   subst hd
   repeat' (first|(with_reducible first|refine up h1 ?_)|(with_reducible first|(refine wN fun _ hnl=>?_;revert hnl;(repeat refine wS fun _ _=>?_);intro hnl)|refine wE ?_|(refine wK ?_ ?_<;>intro h)|(refine wB ?_ ?_<;>intro h<;>simp only[h]))|simp(maxSteps:=4000000) (disch:=first|exact ddL|fail) only[go_sem,simprocAttr,Tryz.f170])
   all_goals first|exact⟨_,St.le_refl _,rfl⟩|exact⟨_,St.le_refl _⟩
  ·by_cases e3:a.kd=2
   ·rw[decide_eq_true e1,decide_eq_true e3,Bool.or_true,Bool.true_and,Bool.true_and] at hd
    subst hd
    repeat' (first|(with_reducible first|refine up h1 ?_)|(with_reducible first|(refine wN fun _ hnl=>?_;revert hnl;(repeat refine wS fun _ _=>?_);intro hnl)|refine wE ?_|(refine wK ?_ ?_<;>intro h)|(refine wB ?_ ?_<;>intro h<;>simp only[h]))|simp(maxSteps:=4000000) (disch:=first|exact ddL|fail) only[go_sem,simprocAttr,Tryz.f170])
    all_goals first|exact⟨_,St.le_refl _,rfl⟩|exact⟨_,St.le_refl _⟩
   ·rw[decide_eq_false e2,decide_eq_false e3,Bool.or_false,Bool.and_false,Bool.false_and] at hd
    subst hd
    repeat' (first|(with_reducible first|refine up h1 ?_)|(with_reducible first|(refine wN fun _ hnl=>?_;revert hnl;(repeat refine wS fun _ _=>?_);intro hnl)|refine wE ?_|(refine wK ?_ ?_<;>intro h)|(refine wB ?_ ?_<;>intro h<;>simp only[h]))|simp(maxSteps:=4000000) (disch:=first|exact ddL|fail) only[go_sem,simprocAttr,Tryz.f170])
    all_goals first|exact⟨_,St.le_refl _,rfl⟩|exact⟨_,St.le_refl _⟩
 ·rw[decide_eq_false e1,Bool.false_and,Bool.false_and] at hd
  subst hd
  repeat' (first|(with_reducible first|refine up h1 ?_)|(with_reducible first|(refine wN fun _ hnl=>?_;revert hnl;(repeat refine wS fun _ _=>?_);intro hnl)|refine wE ?_|(refine wK ?_ ?_<;>intro h)|(refine wB ?_ ?_<;>intro h<;>simp only[h]))|simp(maxSteps:=4000000) (disch:=first|exact ddL|fail) only[go_sem,simprocAttr,Tryz.f170])
  all_goals first|exact⟨_,St.le_refl _,rfl⟩|exact⟨_,St.le_refl _⟩
def lL(s:ByteArray)(i:Nat):List (List MV):=(s.toList.take i).map (fun c=>[.int .u8 (lQ (c.toNat:Int))])++(s.toList.drop i).map (fun c=>[.int .u8 (c.toNat:Int)])
theorem q0(s:ByteArray):s.toList.length=s.size:=by
 rw[ByteArray.toList_eq,Array.length_toList]
 rfl
theorem Kn(s:ByteArray){i:Nat}(h:i≤s.size):(lL s i).length=s.size:=by
 have:=q0 s
 simp[lL]
 omega
theorem Mj{s:ByteArray}{i:Nat}(h:i<s.size):(lL s i).getD i []=[.int .u8 ((s.toList.getD i 0).toNat:Int)]:=by
 have hl:i<s.toList.length:=by rw[q0];exact h
 unfold lL
 rw[List.getD_eq_getElem?_getD,List.getElem?_append_right (by simp;omega)]
 simp[Nat.min_eq_left (Nat.le_of_lt hl),List.getElem?_eq_getElem hl,List.getD_eq_getElem?_getD]
theorem Ko{s:ByteArray}{i:Nat}(h:i<s.size):(lL s i).set i [.int .u8 (lQ ((s.toList.getD i 0).toNat:Int))]=lL s (i+1):=by
 have hl:i<s.toList.length:=by rw[q0];exact h
 have e1:s.toList.drop i=s.toList[i]::s.toList.drop (i+1):=List.drop_eq_getElem_cons hl
 have e2:s.toList.take (i+1)=s.toList.take i++[s.toList[i]]:=List.take_succ_eq_append_getElem hl
 unfold lL
 rw[e1,e2,bM 0 hl,List.set_append_right _ _ (by rw[List.length_map,List.length_take];omega)]
 rw[List.map_cons,List.length_map,List.length_take,Nat.min_eq_left (Nat.le_of_lt hl),Nat.sub_self,List.set_cons_zero,List.map_append,List.map_cons,List.map_nil,List.append_assoc]
 rfl
theorem Ku{l:List (List MV)}{i:Nat}(h:i<l.length){x:List MV}(hx:l.getD i []=x):l.set i x=l:=by
 subst hx
 rw[List.getD_eq_getElem?_getD,List.getElem?_eq_getElem h]
 exact List.set_getElem_self h
theorem xO(s:ByteArray):∀i,i≤s.size→pD s i=bytesOf ((s.toList.take i).map (fun c=>[.int .u8 (lQ (c.toNat:Int))]))
 | 0,_=>rfl
 | i+1,h=>by
  have hl:i<s.toList.length:=by rw[q0];omega
  rw[pD,xO s i (by omega),List.take_succ_eq_append_getElem hl,List.map_append,fch,bM 0 hl]
  unfold bytesOf
  exact ByteArray.ext (by rw[ByteArray.data_append];simp)
theorem Gm(s:ByteArray):bytesOf (lL s s.size)=dR s:=by
 rw[dR,xO s s.size (Nat.le_refl _),lL,←q0,List.drop_length,List.map_nil,List.append_nil]
theorem HX(s:ByteArray):(lL s s.size).all isByte=true:=by
 rw[List.all_eq_true]
 intro x hx
 unfold lL at hx
 rw[←q0,List.drop_length,List.map_nil,List.append_nil] at hx
 obtain⟨b,_,rfl⟩:=List.mem_map.1 hx
 have:=tN (c:=(b.toNat:Int)) (by omega) (by have:=b.toNat_lt;omega)
 simp[isByte,this]
theorem uN(s:ByteArray)(h:s.size≤1000000):aA Tryz.prog 198 [.str s] St.none (fun r _=>r=.str (dR s)):=by
 refine aA.cC (aA.body 30 [.tmp 2] Tryz.func198 rfl rfl rfl rfl ?_)
 repeat' (first|(with_reducible first|(refine wT ?_;(first|((fail_if_success (have:=nl1));refine wN fun nl1 hnl=>?_)|refine wN fun _ hnl=>?_);revert hnl;(repeat refine wS fun _ _=>?_);intro hnl)|refine wE ?_|(refine wK ?_ ?_<;>intro h)|(refine wB ?_ ?_<;>intro h<;>simp only[h]))|simp(maxSteps:=4000000) (disch:=first|exact ddL|fail) only[go_sem,simprocAttr,Tryz.f198])
 refine aH (α:=Nat) (fun i=>⟨30,[(10,.int .i64 (i:Int)),(9,.int .i64 (s.size:Int)),(8,.vec 1 nl1 0 s.size),(3,.vec 1 nl1 0 s.size)],[]⟩)
  (fun i=>St.none.set nl1 (.row 5 1 (lL s i))) (fun i=>i≤s.size) (fun i=>s.size - i) ?_ ?_
 ·refine .of (.less ?_ (St.aE (St.none_le _) (by simp[St.set,lL]))) ⟨0,rfl,rfl,Nat.zero_le _⟩
  simp(maxSteps:=4000000) (disch:=first|exact ddL|fail) only[go_sem,simprocAttr,aC,aB]
  all_goals first|rfl|(simp;done)
 ·intro i hi
  have hi:i≤s.size:=hi
  have hrl:=Kn s hi
  by_cases hlt:i<s.size
  ·have hat:=Mj hlt
   have hset:=Ko hlt
   have hc0:0≤((s.toList.getD i 0).toNat:Int):=by omega
   have hc1:((s.toList.getD i 0).toNat:Int)≤255:=by have:=(s.toList.getD i 0).toNat_lt;omega
   obtain⟨c,hc⟩:∃c:Int,((s.toList.getD i 0).toNat:Int)=c:=⟨_,rfl⟩
   rw[hc] at hc0 hc1 hat hset
   have hsame:lQ c=c→(lL s i)=lL s (i+1):=fun e=>by rw[←hset,e,Ku (by rw[hrl];exact hlt) hat]
   by_cases hcc:65≤c∧c≤90
   ·obtain⟨g1,g2⟩:=hcc
    have e:lQ c=c+97 - 65:=by unfold lQ;rw[if_pos ⟨g1,g2⟩];omega
    rw[e] at hset
    repeat' (first|(with_reducible first|(refine wT ?_;(first|((fail_if_success (have:=nl1));refine wN fun nl1 hnl=>?_)|refine wN fun _ hnl=>?_);revert hnl;(repeat refine wS fun _ _=>?_);intro hnl)|refine wE ?_|(refine wK ?_ ?_<;>intro h)|(refine wB ?_ ?_<;>intro h<;>simp only[h]))|simp(maxSteps:=4000000) (disch:=first|exact ddL|fail) only[go_sem,simprocAttr,hat,hrl,g1,g2])
    refine .of (.less ?_ (σ1:=St.none.set nl1 (.row 5 1 (lL s (i+1)))) (by rw[hset];exact St.le_refl _)) ⟨i+1,rfl,rfl,by omega,by omega⟩
    simp(maxSteps:=4000000) (disch:=first|exact ddL|fail) only[go_sem,simprocAttr,aC,aB]
    all_goals first|rfl|(simp;done)
   ·have e:lQ c=c:=by unfold lQ;rw[if_neg hcc]
    have hs':=hsame e
    repeat' (first|(with_reducible first|(refine wT ?_;(first|((fail_if_success (have:=nl1));refine wN fun nl1 hnl=>?_)|refine wN fun _ hnl=>?_);revert hnl;(repeat refine wS fun _ _=>?_);intro hnl)|refine wE ?_|(refine wK ?_ ?_<;>intro h)|(refine wB ?_ ?_<;>intro h<;>simp only[h]))|simp(maxSteps:=4000000) (disch:=first|exact ddL|fail) only[go_sem,simprocAttr,hat,hrl])
    all_goals first
     | (exfalso;omega)
     | refine .of (.less ?_ (σ1:=St.none.set nl1 (.row 5 1 (lL s (i+1)))) (by rw[hs'];exact St.le_refl _)) ⟨i+1,rfl,rfl,by omega,by omega⟩
    all_goals
     simp(maxSteps:=4000000) (disch:=first|exact ddL|fail) only[go_sem,simprocAttr,aC,aB]
     all_goals first|rfl|(simp;done)
  ·have:i=s.size:=by omega
   subst this
   have hfb:=HX s
   have hfs:=Gm s
   have htk:(lL s s.size).take s.size=lL s s.size:=List.take_of_length_le (by rw[hrl];exact Nat.le_refl _)
   repeat' (first|(with_reducible first|(refine wT ?_;(first|((fail_if_success (have:=nl1));refine wN fun nl1 hnl=>?_)|refine wN fun _ hnl=>?_);revert hnl;(repeat refine wS fun _ _=>?_);intro hnl)|refine wE ?_|(refine wK ?_ ?_<;>intro h)|(refine wB ?_ ?_<;>intro h<;>simp only[h]))|simp(maxSteps:=4000000) (disch:=first|exact ddL|fail) only[go_sem,simprocAttr,hrl,hfb,hfs,htk])
   all_goals first|exact⟨_,St.le_refl _,rfl⟩|exact⟨_,St.le_refl _⟩
end

section
set_option maxRecDepth 100000
set_option maxHeartbeats 4000000
def fnG:List (FuncId × (List MV→MV))→b9
 | []=>fun _ _=>none
 | p::r=>fun g ms=>if p.1=g then some ⟨[],fun v=>v=p.2 ms,none⟩ else fnG r g ms
theorem Fh{g:FuncId}{u:List MV→MV}{r:List (FuncId × (List MV→MV))}{ms:List MV}{x:MV}(h:u ms=x):fnG ((g,u)::r) g ms=some ⟨[],fun v=>v=x,none⟩:=by
 subst h
 simp[fnG]
theorem IP{g g':FuncId}{u:List MV→MV}{r:List (FuncId × (List MV→MV))}{ms:List MV}{F:Fact}(hne:(g'==g)=false)(h:fnG r g ms=some F):fnG ((g',u)::r) g ms=some F:=by
 have:g'≠g:=by simpa using hne
 simp[fnG,this,h]
theorem extract_eq(A B:ByteArray)(i:Nat):A.extract i (i+B.size)=B↔(A.data.toList.drop i).take B.size=B.data.toList:=by
 have e:(A.extract i (i+B.size)).data.toList=(A.data.toList.drop i).take B.size:=by
  simp[ByteArray.data_extract,Array.toList_extract,List.extract_eq_take_drop]
 constructor
 ·intro h
  rw[←e,h]
 ·intro h
  rw[←e] at h
  exact ByteArray.ext (Array.toList_inj.1 h)
theorem uI(A B:ByteArray):n4 A B=Go.Lib.contains A.data.toList B.data.toList:=by
 have hla:A.data.toList.length=A.size:=by rw[Array.length_toList];rfl
 have hlb:B.data.toList.length=B.size:=by rw[Array.length_toList];rfl
 have hocc:∀i,Go.Lib.occAt A.data.toList B.data.toList i=true↔(A.data.toList.drop i).take B.size=B.data.toList:=fun i=>by
  unfold Go.Lib.occAt
  rw[List.isPrefixOf_iff_prefix,List.prefix_iff_eq_take,hlb]
  exact eq_comm
 rw[Bool.eq_iff_iff]
 unfold n4 Go.Lib.contains
 rw[List.any_eq_true,decide_eq_true_iff]
 constructor
 ·rintro⟨i,hi,h⟩
  have hi:=List.mem_range.1 hi
  have h:=(extract_eq A B i).1 (of_decide_eq_true h)
  rcases Go.Lib.index_spec A.data.toList B.data.toList with⟨_,h2⟩|⟨j,h1,_⟩
  ·have:=h2 i (by omega)
   rw[(hocc i).2 h] at this
   cases this
  ·omega
 ·intro h
  rcases Go.Lib.index_spec A.data.toList B.data.toList with⟨h1,_⟩|⟨j,h1,h2,h3,_⟩
  ·omega
  ·have h4:=(hocc j).1 h3
   have h5:=congrArg List.length h4
   rw[List.length_take,List.length_drop,hla,hlb] at h5
   refine⟨j,List.mem_range.2 (by omega),decide_eq_true ((extract_eq A B j).2 h4)⟩
theorem Ch(a b:VA)(ha:a.s.size≤1000000)(hb:b.s.size≤1000000):aA Tryz.prog 173 [.agg a.c,.agg b.c] St.none (fun r _=>r=.bool (iP a b)):=by
 refine aA.cC (aA.body 22 [.tmp 4] Tryz.func173 rfl rfl rfl rfl ?_)
 have f1:=uN a.s ha
 have f2:=uN b.s hb
 have hc:=qY (dR a.s) (dR b.s) (by rw[oG];exact ha)
 rw[←uI] at hc
 have hd:iP a b=(decide (a.kd=2)&&decide (b.kd=2)&&n4 (dR a.s) (dR b.s)):=rfl
 obtain⟨C,c1,c2⟩:∃C:b9,(∀s,C 198 [.str s]=some ⟨[],fun v=>v=.str (dR s),none⟩)∧(∀ms,C 197 ms=some ⟨[],fun v=>v=.bool (n4 (dR a.s) (dR b.s)),none⟩) :=
  ⟨fnG [(198,fun ms=>match ms with|[.str s]=>.str (dR s)|_=>.junk),(197,fun _=>.bool (n4 (dR a.s) (dR b.s)))],fun s=>Fh rfl,fun _=>IP rfl (Fh rfl)⟩
 have c1a:=c1 a.s
 have c1b:=c1 b.s
 clear c1
 generalize n4 (dR a.s) (dR b.s)=p at hc hd c2
 generalize iP a b=out at hd ⊢
 by_cases e1:a.kd=2
 ·by_cases e2:b.kd=2
  ·rw[decide_eq_true e1,decide_eq_true e2,Bool.true_and,Bool.true_and] at hd
   subst hd
   repeat' (first|((with_reducible refine aT mixed ?chk C ?_);(case chk=>decide +kernel))|(with_reducible refine aP c1a f1 ?_)|(with_reducible refine aP c1b f2 ?_)|(with_reducible refine aP (c2 _) hc ?_)|(with_reducible first|(refine wN fun _ hnl=>?_;revert hnl;(repeat refine wS fun _ _=>?_);intro hnl)|refine wE ?_|(refine wK ?_ ?_<;>intro h)|(refine wB ?_ ?_<;>intro h<;>simp only[h]))|simp(maxSteps:=4000000) (disch:=first|exact ddL|fail) only[go_sem,simprocAttr,Tryz.f173,e1,e2])
   all_goals first|exact⟨_,St.le_refl _,rfl⟩|exact⟨_,St.le_refl _⟩
  ·rw[decide_eq_false e2,Bool.and_false,Bool.false_and] at hd
   subst hd
   repeat' (first|((with_reducible refine aT mixed ?chk C ?_);(case chk=>decide +kernel))|(with_reducible refine aP c1a f1 ?_)|(with_reducible refine aP c1b f2 ?_)|(with_reducible refine aP (c2 _) hc ?_)|(with_reducible first|(refine wN fun _ hnl=>?_;revert hnl;(repeat refine wS fun _ _=>?_);intro hnl)|refine wE ?_|(refine wK ?_ ?_<;>intro h)|(refine wB ?_ ?_<;>intro h<;>simp only[h]))|simp(maxSteps:=4000000) (disch:=first|exact ddL|fail) only[go_sem,simprocAttr,Tryz.f173,e1,e2])
   all_goals first|exact⟨_,St.le_refl _,rfl⟩|exact⟨_,St.le_refl _⟩
 ·rw[decide_eq_false e1,Bool.false_and,Bool.false_and] at hd
  subst hd
  repeat' (first|((with_reducible refine aT mixed ?chk C ?_);(case chk=>decide +kernel))|(with_reducible refine aP c1a f1 ?_)|(with_reducible refine aP c1b f2 ?_)|(with_reducible refine aP (c2 _) hc ?_)|(with_reducible first|(refine wN fun _ hnl=>?_;revert hnl;(repeat refine wS fun _ _=>?_);intro hnl)|refine wE ?_|(refine wK ?_ ?_<;>intro h)|(refine wB ?_ ?_<;>intro h<;>simp only[h]))|simp(maxSteps:=4000000) (disch:=first|exact ddL|fail) only[go_sem,simprocAttr,Tryz.f173,e1])
  all_goals first|exact⟨_,St.le_refl _,rfl⟩|exact⟨_,St.le_refl _⟩
end

section
theorem L2{x y:ND}(h:x.c=y.c):x=y:=by
 obtain⟨a,b,c,d,e⟩:=x
 obtain⟨a',b',c',d',e'⟩:=y
 simp only[ND.c,List.cons.injEq,MV.int.injEq,MV.str.injEq,true_and,and_true] at h
 obtain⟨rfl,rfl,rfl,rfl,rfl⟩:=h
 rfl
theorem B5:∀{l m:List ND},l.map ND.c=m.map ND.c→l=m
 | [],[],_=>rfl
 | [],_::_,h=>by simp at h
 | _::_,[],h=>by simp at h
 | x::l,y::m,h=>by
  rw[List.map_cons,List.map_cons,List.cons.injEq] at h
  rw[L2 h.1,B5 h.2]
end

section
section
variable {P:Program} {C:b9} {ops:Array Oper}
def gate(ops:Array Oper)(n1:Nat):Bool:=(List.range ops.size).all fun i=>decide (i<n1) || (List.range n1).all fun j=>((nY ops.toList []).getD i 0).testBit j
theorem Fi{n1:Nat}(h:gate ops n1=true){i j:Nat}(hi:i<ops.size)(h1:n1≤i)(hj:j<n1):((nY ops.toList []).getD i 0).testBit j=true:=by
 have:=List.all_eq_true.1 h i (List.mem_range.2 hi)
 rw[Bool.or_eq_true,decide_eq_true_eq] at this
 rcases this with q|q
 ·omega
 ·exact List.all_eq_true.1 q j (List.mem_range.2 hj)
theorem x7{listed:Array Bool}{n i:Nat}(hs:n≤listed.size):left (listed.setIfInBounds i true) n=(left listed n).filter fun j=>j != i:=by
 unfold left
 rw[List.filter_filter]
 refine List.filter_congr fun j hj=>?_
 have hj:j<n:=by simpa using hj
 by_cases h:j=i
 ·subst h;simp[show j<listed.size by omega]
 ·have:(i:Nat)≠j:=fun e=>h e.symm
  simp[h,Array.getElem?_setIfInBounds_ne this]
theorem E0{X:RX}{loc:Nat→Nat→Prop}(hC:lT X loc C)(hchk:nO X ops=true){F:Fence}(hF:F=Fence.wide∨∃l0,F=Fence.wide.inRound l0)(hdef:∀o,o∈ops.toList→∀c,o.op≠.defer c){Qx:Exit→Act→World→Prop}{Φ0:Phi}{σ0:St}{w0:World}(n1:Nat)(hn1:n1≤ops.size)(hg1:gate ops n1=true){K:FR→St→Prop}
 (hfin:∀(fuel:Nat) (listed:Array Bool) (f:FR) (σ:St) (Φ:Phi) (w:World) (a:Act),left listed n1=[]→listed.size=ops.size→(left listed ops.size).length=fuel→p6 ops (fun i=>listed.getD i false=true)→(∀j,n1≤j→j<ops.size→listed.getD j true=false)→Inv Φ w σ→cI Φ a.tmps f→cR Φ w a.defers f.d→DOk X loc f→Step Φ0 σ0 w0 Φ σ w →
   K f σ→wpAnyIn F 0 P .any ops Qx fuel listed a w):∀(fuel:Nat) (listed:Array Bool) (f:FR) (σ:St) (Φ:Phi) (w:World) (a:Act),listed.size=ops.size→(left listed ops.size).length=fuel →
  p6 ops (fun i=>listed.getD i false=true)→(∀j,n1≤j→j<ops.size→listed.getD j true=false)→Inv Φ w σ→cI Φ a.tmps f→cR Φ w a.defers f.d→DOk X loc f→Step Φ0 σ0 w0 Φ σ w →
  gl P C ops (fun f' _ σ'=>∃f'',FEq f' f''∧K f'' σ') (opsOf ops (left listed n1)) f (fun l=>Φ.obj l≠none) σ→wpAnyIn F 0 P .any ops Qx fuel listed a w:=by
 have hKok:KOk (fun f' (_:Nat→Prop) σ'=>∃f'',FEq f' f''∧K f'' σ'):=fun f f' U U' σ hf _ ⟨f'',h1,h2⟩=>⟨f'',hf.symm.trans h1,h2⟩
 have ready_left:∀(listed:Array Bool) i,i∈Region.ready .any ops listed→i∈left listed ops.size:=fun listed i hi=>by
  obtain⟨h0,o,ho,-⟩:=mem_ready.1 hi
  exact mem_left.2 ⟨(Array.getElem?_eq_some_iff.1 ho).1,h0⟩
 have chk1:∀i oi,ops[i]?=some oi→(∀e,e∈oi.after.toList→Region.binds .any e=true→e.on<i)∧∀j oj,j<i→ops[j]?=some oj→((nY ops.toList []).getD i 0).testBit j=true∨vD X ops oj oi=true:=by
  intro i oi hoi
  have hlt:=(Array.getElem?_eq_some_iff.1 hoi).1
  have h:=hchk
  simp only[nO,Bool.and_eq_true] at h
  replace h:=h.2
  simp only[List.all_eq_true,List.mem_range] at h
  have h1:=h i hlt
  rw[hoi] at h1
  simp only[Bool.and_eq_true,List.all_eq_true,Bool.or_eq_true,Bool.not_eq_true',decide_eq_true_eq,List.mem_range] at h1
  refine⟨fun e he hb=>?_,fun j oj hj hoj=>?_⟩
  ·rcases h1.1 e he with q|q
   ·rw[hb] at q;cases q
   ·exact q
  ·have:=h1.2 j hj
   rw[hoj] at this
   simpa using this
 intro fuel
 induction fuel with
 | zero =>
  intro listed f σ Φ w a hsz hl hc hup hi hr hd hD hs h
  have hnil0:left listed ops.size=[]:=List.eq_nil_of_length_eq_zero hl
  have hnil:left listed n1=[]:=by
   rw[List.eq_nil_iff_forall_not_mem]
   intro i hi
   obtain⟨h1,h2⟩:=mem_left.1 hi
   have:i∈left listed ops.size:=mem_left.2 ⟨by omega,h2⟩
   rw[hnil0] at this;cases this
  rw[hnil] at h
  obtain⟨f'',h1,h2⟩:=h
  exact hfin 0 listed f'' σ Φ w a hnil hsz hl hc hup hi ⟨hr.1.trans h1.1,fun t=>by rw[←h1.2.2 t];exact hr.2 t⟩ (h1.2.1 ▸ hd) ⟨fun t ht=>by rw[←h1.2.2 t];exact hD.1 t ht,hD.2.1,fun p hp=>⟨(hD.2.2 p hp).1,fun l i o e=>(hD.2.2 p hp).2 l i o (by rw[h1.2.2];exact e)⟩⟩ hs h2
 | succ fuel ih =>
  intro listed f σ Φ w a hsz hl hc hup hi hr hd hD hs h
  by_cases hnil:left listed n1=[]
  ·rw[hnil] at h
   obtain⟨f'',h1,h2⟩:=h
   exact hfin (fuel+1) listed f'' σ Φ w a hnil hsz hl hc hup hi ⟨hr.1.trans h1.1,fun t=>by rw[←h1.2.2 t];exact hr.2 t⟩ (h1.2.1 ▸ hd) ⟨fun t ht=>by rw[←h1.2.2 t];exact hD.1 t ht,hD.2.1,fun p hp=>⟨(hD.2.2 p hp).1,fun l i o e=>(hD.2.2 p hp).2 l i o (by rw[h1.2.2];exact e)⟩⟩ hs h2
  refine⟨fun hnone=>?_,fun i hrd=>?_⟩
  ·-- the first that is left is ready
   exfalso
   cases hleft:left listed ops.size with
   | nil=>rw[hleft] at hl;cases hl
   | cons i0 r =>
    have h0:i0∈left listed ops.size:=by rw[hleft];simp
    obtain⟨hlt,h0'⟩:=mem_left.1 h0
    have hoi:ops[i0]?=some ops[i0]:=Array.getElem?_eq_getElem hlt
    have:i0∈Region.ready .any ops listed:=mem_ready.2 ⟨h0',_,hoi,fun e he hb=>by
     have hlt':=(chk1 i0 _ hoi).1 e (by simpa using he) hb
     cases hq:listed.getD e.on false with
     | true=>rfl
     | false =>
      exfalso
      have hm:e.on∈left listed ops.size:=mem_left.2 ⟨by omega,by
       have hb2:e.on<listed.size:=by omega
       simpa[hb2] using hq⟩
      have hp:(left listed ops.size).Pairwise (·<·):=List.Pairwise.filter _ List.pairwise_lt_range
      rw[hleft] at hp hm
      have:=(List.pairwise_cons.1 hp).1
      rcases List.mem_cons.1 hm with q|q
      ·omega
      ·have:=this e.on q;omega⟩
    rw[hnone] at this;cases this
  ·obtain⟨h0,o,ho,hpre⟩:=mem_ready.1 hrd
   have hio:i<ops.size:=(Array.getElem?_eq_some_iff.1 ho).1
   have hmask:∀j,((nY ops.toList []).getD i 0).testBit j=true→listed.getD j false=true:=fun j q =>
    oL (L:=fun i=>listed.getD i false=true) ops.toList [] [] rfl (by simpa using hc) (fun i hi j hj=>by simp at hj) i (.inr ⟨o,by simpa using ho,fun e he hb=>hpre e (by simpa using he) hb⟩) j q
   have hin1:i<n1:=by
    refine Classical.byContradiction fun hge=>hnil ?_
    rw[List.eq_nil_iff_forall_not_mem]
    intro j hj
    obtain⟨q1,q2⟩:=mem_left.1 hj
    have:=hmask j (Fi hg1 hio (by omega) q1)
    have hb2:j<listed.size:=by omega
    simp[hb2] at this q2
    rw[this] at q2;cases q2
   have hmem:i∈left listed n1:=mem_left.2 ⟨hin1,h0⟩
   obtain⟨l1,l2,he,hlt,hflt⟩:=oJ hmem
   have hsw:∀x,x∈opsOf ops l1→vD X ops x o=true:=by
    intro x hx
    obtain⟨j,hj,hx⟩:=List.mem_filterMap.1 hx
    rcases (chk1 i o ho).2 j x (hlt j hj) hx with q|q
    ·exfalso
     have:=hmask j q
     have hjl:j∈left listed n1:=by rw[he];simp[hj]
     have hj2:=(mem_left.1 hjl)
     have hb2:j<listed.size:=by omega
     simp[hb2] at this hj2
     simp[this] at hj2
    ·exact q
   have e2:opsOf ops (left listed n1)=opsOf ops l1++o::opsOf ops l2:=by rw[he];simp[opsOf,List.filterMap_append,ho]
   rw[e2] at h
   have hdom:Dom (fun l=>Φ.obj l≠none) σ:=fun l hl q=>hl (hi.eF q)
   have hfin':Fin (fun l=>Φ.obj l≠none):=by
    obtain⟨n,hn⟩:=hi.fresh.1.1
    exact⟨n,fun l hl q=>q (hn l hl)⟩
   have hkall:∀(j:Nat) x,ops[j]?=some x→oI X x=true:=fun j x hx=>by
    have h:=hchk
    simp only[nO,Bool.and_eq_true,List.all_eq_true] at h
    exact h.1 x (by rw[←Array.getElem?_toList] at hx;exact List.mem_of_getElem? hx)
   have hp:=Dt (pull hKok hC (opsOf ops l2) o (opsOf ops l1) f _ σ hdom hfin' hD hsw (fun x hx=>by
    obtain⟨j,hj,hx⟩:=List.mem_filterMap.1 hx
    exact hkall j x hx) h)
   have e3:opsOf ops (left (listed.setIfInBounds i true) n1)=opsOf ops l1++opsOf ops l2:=by rw[x7 (by omega),hflt];simp[opsOf,List.filterMap_append]
   have hlen:(left (listed.setIfInBounds i true) ops.size).length=fuel:=by
    obtain⟨m1,m2,hm,-,hmf⟩:=oJ (ready_left listed i hrd)
    rw[tK hsz,hmf]
    rw[hm] at hl
    simp at hl ⊢;omega
   have hup':∀j,n1≤j→j<ops.size→(listed.setIfInBounds i true).getD j true=false:=fun j h1 h2=>by
    have hne:i≠j:=by omega
    rw[←hup j h1 h2]
    simp[Array.getElem?_setIfInBounds_ne hne]
   have hcl:p6 ops (fun k=>(listed.setIfInBounds i true).getD k false=true):=by
    intro k ok hk hlk e hek hb
    by_cases hki:k=i
    ·subst hki
     rw[ho] at hk;cases hk
     exact getD_set_true (hpre e (by simpa using hek) hb)
    ·have:listed.getD k false=true:=by rw[←hlk,getD_set_ne _ (Ne.symm hki)]
     exact getD_set_true (hc k ok hk this e hek hb)
   have next:∀v mv σ' Φ' w' ,Rel Φ' v mv→Inv Φ' w' σ'→Step Φ σ w Φ' σ' w' →
     (∃U':Nat→Prop,(∀l,U' l→Φ.obj l≠none∨σ' l≠none)∧GV (gfo P C ops f o) mv∧∀U1',(∀l,U' l→U1' l)→gl P C ops (fun f' _ σ'=>∃f'',FEq f' f''∧K f'' σ') (opsOf ops l1++opsOf ops l2) (bB f o.dst mv) U1' σ') →
     wpAnyIn F 0 P .any ops Qx fuel (listed.setIfInBounds i true) (a.put o.dst v) w':=by
    rintro v mv σ' Φ' w' r1 i1 s1 ⟨U',hu,hgv,hk⟩
    refine ih _ (bB f o.dst mv) σ' Φ' w' (a.put o.dst v) (by simpa using hsz) hlen hcl hup' i1 (cJ (hr.mono s1.le) o.dst r1) (by rw[bL,dT];exact hd.step hi s1) (hD.put (hkall i o ho) hgv) (hs.trans s1) ?_
    rw[e3]
    refine hk _ fun l hl=>?_
    rcases hu l hl with q|q
    ·intro hn
     cases hp:Φ.obj l with
     | none=>exact q hp
     | some p=>rw[s1.le.obj l p hp] at hn;cases hn
    ·intro hn;exact q (i1.eF hn)
   unfold wpOpIn
   rw[ho]
   simp only
   have hFo:F=Fence.wide∨∃l0,F=Fence.wide.inRound l0∧∀c,o.op≠.defer c:=hF.imp id fun⟨l0,e⟩=>⟨l0,e,hdef o (by rw[←Array.getElem?_toList] at ho;exact List.mem_of_getElem? ho)⟩
   have hfn:∀g,F.fn g:=fun g=>by rcases hF with rfl|⟨l,rfl⟩<;>trivial
   have run:gs (fun l=>Φ.obj l≠none) σ (gop P C f o.op) (fun v U1 σ1=>GV (gfo P C ops f o) v∧∀U1',(∀l,U1 l→U1' l)→gl P C ops (fun f' _ σ'=>∃f'',FEq f' f''∧K f'' σ') (opsOf ops l1++opsOf ops l2) (bB f o.dst v) U1' σ1) →
     o.wpIn F 0 P a w (wpAnyIn F 0 P .any ops Qx fuel (listed.setIfInBounds i true)) Qx:=by
    intro hg
    refine fR hFo ?_
    refine kK (ML hg) Φ w a _ _ hi hr fun v mv σ' Φ' w' r1 i1 s1 hk=>next v mv σ' Φ' w' r1 i1 s1 (hk fun l h1 h2 q=>?_)
    rcases s1.locs l _ (Option.ne_none_iff_exists'.1 h1).choose_spec with⟨o',ho'⟩|ho'
    ·rw[h2] at ho';cases ho'
    ·exact q ho'
   obtain⟨G,hG⟩:∃G,GV (gfo P C ops f o)=G:=⟨_,rfl⟩
   rw[hG] at hp run next
   unfold gfo at hp
   split at hp
   ·rename_i hg
    have hw:Region.wanted o (yielded ops a.tmps)=true:=by unfold Region.wanted;rw[hg]
    rw[if_pos hw]
    exact run hp
   ·rename_i j want hg
    split at hp
    ·rename_i t ht
     split at hp
     ·rename_i b hb
      have hmg:∀{A B:Prop},(b=want→A)∧(b=(!want)→B)→(Region.wanted o (yielded ops a.tmps)=true∧A)∨(Region.wanted o (yielded ops a.tmps)=false∧B):=fun {A B} h =>
       cG (ops:=ops) (o:=o) (f:=f) (by unfold eS;rw[hg];simp only[ht,hb];exact h) hr
      split at hp
      ·rename_i hbw
       rcases hmg (A:=True) (B:=False) ⟨fun _=>trivial,fun e=>by rw[hbw] at e;cases want<;>cases e⟩ with⟨hw,-⟩|⟨-,hw⟩
       ·rw[if_pos hw];exact run hp
       ·exact hw.elim
      ·rename_i hbw
       rcases hmg (A:=False) (B:=True) ⟨fun e=>hbw e,fun _=>trivial⟩ with⟨-,hw⟩|⟨hw,-⟩
       ·exact hw.elim
       ·rw[if_neg (by simp[hw])]
        obtain⟨-,U',hu,hgv,hk⟩:=lH hp
        exact⟨fun f _=>hfn f,next undef (.tup []) σ Φ w eW hi (.refl _ _ _) ⟨U',hu,hgv,hk⟩⟩
     ·rename_i hb
      rcases cG (ops:=ops) (o:=o) (f:=f) (yes:=False) (no:=True) (by unfold eS;rw[hg];simp only[ht,hb]) hr with⟨-,hw⟩|⟨hw,-⟩
      ·exact hw.elim
      ·rw[if_neg (by simp[hw])]
       obtain⟨-,U',hu,hgv,hk⟩:=lH hp
       exact⟨fun f _=>hfn f,next undef (.tup []) σ Φ w eW hi (.refl _ _ _) ⟨U',hu,hgv,hk⟩⟩
     ·exact(eM hp).elim
    ·exact(eM hp).elim
theorem x6{n m:Nat}(h:m≤n):left (Array.replicate n false) m=List.range m:=by
 unfold left
 refine List.filter_eq_self.2 fun j hj=>?_
 have hj:j<m:=by simpa using hj
 simp[show j<n by omega]
theorem B8:∀(l:List Oper) (n:Nat),n≤l.length→opsOf l.toArray (List.range n)=l.take n:=by
 intro l n hn
 unfold opsOf
 induction n with
 | zero=>simp
 | succ n ih =>
  rw[List.range_succ,List.filterMap_append,ih (by omega),List.take_add_one]
  congr 1
  cases hl:l[n]? with
  | none=>simp[hl]
  | some o=>simp[hl]
theorem Ek(l:List Oper)(n:Nat):∀m,opsOf l.toArray ((List.range' n m))=(l.drop n).take m:=by
 intro m
 induction m generalizing n with
 | zero=>simp[opsOf]
 | succ m ih =>
  have ih:=ih (n+1)
  unfold opsOf at ih ⊢
  simp only[List.getElem?_toArray] at ih ⊢
  rw[List.range'_succ,List.filterMap_cons]
  cases hl:l[n]? with
  | none =>
   have:l.length≤n:=List.getElem?_eq_none_iff.1 hl
   simp only[hl]
   rw[ih,List.drop_eq_nil_of_le (by omega),List.drop_eq_nil_of_le this]
   simp
  | some o =>
   have hn:=(List.getElem?_eq_some_iff.1 hl).1
   have ho:=(List.getElem?_eq_some_iff.1 hl).2
   simp only[hl]
   rw[ih,List.drop_eq_getElem_cons hn,List.take_succ_cons,ho]
theorem left_at{listed:Array Bool}{n n1:Nat}(hs:listed.size=n)(h1:left listed n1=[])(hn:n1≤n)(hup:∀j,n1≤j→j<n→listed.getD j true=false):left listed n=List.range' n1 (n - n1):=by
 have e:List.range n=List.range n1++List.range' n1 (n - n1):=by
  obtain⟨d,rfl⟩:∃d,n=n1+d:=⟨n - n1,by omega⟩
  rw[Nat.add_sub_cancel_left,List.range_add,List.range'_eq_map_range]
 unfold left at h1 ⊢
 rw[e,List.filter_append,h1,List.nil_append]
 refine List.filter_eq_self.2 fun j hj=>?_
 have hj':=List.mem_range'_1.1 hj
 rw[hup j hj'.1 (by omega)]
 rfl
theorem IU{u:fU}(hC:PlU u C){MC:FuncId→List MV→St→(MV→St→Prop)→Prop}(hMC:∀U σ,Dom U σ→∀g ms k,MC g ms σ k→gs U σ (fS P C g ms) fun v _ σ'=>k v σ'){K:FR→St→Prop}{l:List Oper}{f:FR}{σ:St}{Φ:Phi}{w:World}(hi:Inv Φ w σ)(h:cL P MC ops K l f σ):gl P C ops (fun f' _ σ'=>∃f'',FEq f' f''∧K f'' σ') l f (fun l=>Φ.obj l≠none) σ:=by
 refine MI (C:=C) (MC:=MC) hMC (u:=u) hC l f _ σ (fun l hl q=>hl (hi.eF q)) ?_ h
 obtain⟨n,hn⟩:=hi.fresh.1.1
 exact⟨n,fun l hl q=>q (hn l hl)⟩
def NOk(P:Program)(MC:FuncId→List MV→St→(MV→St→Prop)→Prop)(ops:Array Oper)(post:List Oper)(Qx:Exit→Act→World→Prop)(N:Act→World→Prop):Prop :=
 ∀(K2:FR→St→Prop) (f2:FR) (σ2:St) (Φ2:Phi) (w2:World) (a2:Act),Inv Φ2 w2 σ2→cI Φ2 a2.tmps f2→cR Φ2 w2 a2.defers f2.d →
  (∀f3 σ3 Φ3 w3 a3,Inv Φ3 w3 σ3→cI Φ3 a3.tmps f3→cR Φ3 w3 a3.defers f3.d→Step Φ2 σ2 w2 Φ3 σ3 w3→K2 f3 σ3→Qx .normal a3 w3)→cL P MC ops K2 post f2 σ2→N a2 w2
def ET(F:Fence)(P:Program)(ops:Array Oper)(Qx:Exit→Act→World→Prop)(y:Oper)(a:Act)(w:World)(N:Act→World→Prop):Prop :=
 if Region.wanted y (yielded ops a.tmps) then y.wpIn F 0 P a w N Qx else(∀f,y.about P w a.eval=some f→F.fn f)∧N (a.put y.dst undef) w
theorem uT(hm:P.follows .mixedOrders=true)(u:fU)(hCu:PlU u C){MC:FuncId→List MV→St→(MV→St→Prop)→Prop}(hMC:∀U σ,Dom U σ→∀g ms k,MC g ms σ k→gs U σ (fS P C g ms) fun v _ σ'=>k v σ')(pre:List Oper)(y:Oper)(post:List Oper)(ho:ops=(pre++y::post).toArray)(hdef:∀o,o∈ops.toList→∀c,o.op≠.defer c)(hchk:nO ⟨[],[],none,u⟩ ops=true)(hg1:gate ops pre.length=true)(hg2:gate ops (pre.length+1)=true)
 {F:Fence}(hF:F=Fence.wide∨∃l0,F=Fence.wide.inRound l0){Qx:Exit→Act→World→Prop}{id:Nat}{f:FR}{σ:St}{Φ:Phi}{w:World}{a:Act}{K1:FR→St→Prop}(hi:Inv Φ w σ)(hr:cI Φ a.tmps f)(hd:cR Φ w a.defers f.d)
 (hy:∀f1 σ1 Φ1 w1 a1 N,Inv Φ1 w1 σ1→cI Φ1 a1.tmps f1→cR Φ1 w1 a1.defers f1.d→Step Φ σ w Φ1 σ1 w1→K1 f1 σ1→NOk P MC ops post Qx N→ET F P ops Qx y a1 w1 N)
 (h:cL P MC ops K1 pre f σ):(Code.region id ops true).wpIn F 0 P Qx a w:=by
 have hsz:ops.size=pre.length+1+post.length:=by rw[ho];simp;omega
 have hC:lT ⟨[],[],none,u⟩ (fun _ _=>True) C:=⟨hCu,trivial⟩
 have hD0:∀f,DOk ⟨[],[],none,u⟩ (fun _ _=>True) f:=fun f=>⟨fun t ht=>(by cases ht),fun t t' ht=>(by cases ht),fun p hp=>(by cases hp)⟩
 have hi':Inv Φ { w with drawn:=w.drawn+1 } σ:=⟨fun l o hl=>by
  have:=hi.own l o hl
  cases o<;>exact this,hi.inj,hi.snap,hi.apart,hi.fresh⟩
 have hst:Step Φ σ w Φ σ { w with drawn:=w.drawn+1 }:=⟨.refl Φ,rfl,rfl,rfl,iO (Nat.le_succ _),Nat.le_refl _,fun _ _ _=>rfl,fun _ _ h=>.inl h,fun l o h=>.inl ⟨o,h⟩,fun _ h=>.inl h⟩
 have yat:ops[pre.length]?=some y:=by rw[ho];simp
 refine wpIn_region_any hm (E0 (C:=C) (K:=K1) hC hchk hF hdef (Φ0:=Φ) (σ0:=σ) (w0:=w) pre.length (by omega) hg1 ?_ ops.size _ f σ Φ _ a (by simp) ?_ ?_ (fun j _ hj=>by simp[hj]) hi' hr (hd.step hi hst) (hD0 f) hst ?_)
 ·intro fuel listed f1 σ1 Φ1 w1 a1 hnil hls hlen hcl hup i1 r1 d1 _ s1 k1
  have hleft:=left_at hls hnil (by omega) hup
  have hfuel:fuel=post.length+1:=by rw[←hlen,hleft,List.length_range'];omega
  subst hfuel
  have chk1:∀i oi,ops[i]?=some oi→∀e,e∈oi.after.toList→Region.binds .any e=true→e.on<i:=by
   intro i oi hoi e he hb
   have hlt:=(Array.getElem?_eq_some_iff.1 hoi).1
   have h:=hchk
   simp only[nO,Bool.and_eq_true] at h
   replace h:=h.2
   simp only[List.all_eq_true,List.mem_range] at h
   have h1:=h i hlt
   rw[hoi] at h1
   simp only[Bool.and_eq_true,List.all_eq_true,Bool.or_eq_true,Bool.not_eq_true',decide_eq_true_eq,List.mem_range] at h1
   rcases h1.1 e he with q|q
   ·rw[hb] at q;cases q
   ·exact q
  have hlow:∀j,j<pre.length→listed.getD j false=true:=fun j hj=>by
   refine Classical.byContradiction fun hq=>?_
   have hb2:j<listed.size:=by omega
   have:j∈left listed pre.length:=mem_left.2 ⟨hj,by
    cases hb:listed[j]'hb2
    ·simp[hb2,hb]
    ·simp[hb2,hb] at hq⟩
   rw[hnil] at this;cases this
  refine⟨fun hnone=>?_,fun i hrd=>?_⟩
  ·exfalso
   have hb2:pre.length<listed.size:=by omega
   have:pre.length∈Region.ready .any ops listed:=mem_ready.2 ⟨hup _ (Nat.le_refl _) (by omega),y,yat,fun e he hb=>hlow _ (chk1 _ _ yat e (by simpa using he) hb)⟩
   rw[hnone] at this;cases this
  ·obtain⟨h0,o,hoi,hpre⟩:=mem_ready.1 hrd
   have hio:i<ops.size:=(Array.getElem?_eq_some_iff.1 hoi).1
   have hmask:∀j,((nY ops.toList []).getD i 0).testBit j=true→listed.getD j false=true:=fun j q =>
    oL (L:=fun i=>listed.getD i false=true) ops.toList [] [] rfl (by simpa using hcl) (fun i hi j hj=>by simp at hj) i (.inr ⟨o,by simpa using hoi,fun e he hb=>hpre e (by simpa using he) hb⟩) j q
   have hge:pre.length≤i:=by
    refine Classical.byContradiction fun hlt=>?_
    have:=hlow i (by omega)
    have hb2:i<listed.size:=by omega
    simp[hb2] at this h0
    rw[this] at h0;cases h0
   have hle:i≤pre.length:=by
    refine Classical.byContradiction fun hgt=>?_
    have:=hmask pre.length (Fi hg2 hio (by omega) (Nat.lt_succ_self _))
    have q:=hup pre.length (Nat.le_refl _) (by omega)
    have hb2:pre.length<listed.size:=by omega
    simp[hb2] at this q
    rw[this] at q;cases q
   have hii:i=pre.length:=by omega
   subst hii
   rw[yat] at hoi;cases hoi
   unfold wpOpIn
   rw[yat]
   refine hy f1 σ1 Φ1 w1 a1 _ i1 r1 d1 s1 k1 ?_
   intro K2 f2 σ2 Φ2 w2 a2 i2 r2 d2 hfin h2
   have hup2:∀j,pre.length+1≤j→j<ops.size→(listed.setIfInBounds pre.length true).getD j true=false:=fun j h1 h2=>by
    have hne:pre.length≠j:=by omega
    rw[←hup j (by omega) h2]
    simp[Array.getElem?_setIfInBounds_ne hne]
   have hl2:left (listed.setIfInBounds pre.length true) ops.size=List.range' (pre.length+1) post.length:=by
    rw[left_at (n1:=pre.length+1) (by simpa using hls) ?_ (by omega) hup2,hsz]
    ·congr 1;omega
    ·rw[x7 (by omega)]
     rw[List.eq_nil_iff_forall_not_mem]
     intro j hj
     obtain⟨q1,q2⟩:=List.mem_filter.1 hj
     obtain⟨q3,q4⟩:=mem_left.1 q1
     have hjn:j≠pre.length:=by simpa using q2
     have:j∈left listed pre.length:=mem_left.2 ⟨by omega,q4⟩
     rw[hnil] at this;cases this
   refine E0 (C:=C) (K:=K2) hC hchk hF hdef (Φ0:=Φ2) (σ0:=σ2) (w0:=w2) ops.size (Nat.le_refl _) (List.all_eq_true.2 fun i hi=>by simp at hi;simp[hi]) ?_ post.length _ f2 σ2 Φ2 w2 a2 (by simpa using hls) (by rw[hl2,List.length_range']) ?_ (fun j h1 h2=>by omega) i2 r2 d2 (hD0 f2) (.refl _ _ _) ?_
   ·intro fuel listed3 f3 σ3 Φ3 w3 a3 hnil3 hls3 hlen3 _ _ i3 r3 d3 _ s3 k3
    rw[hnil3] at hlen3
    simp at hlen3
    subst hlen3
    refine⟨?_,hfin f3 σ3 Φ3 w3 a3 i3 r3 d3 s3 k3⟩
    rw[List.eq_nil_iff_forall_not_mem]
    intro i hi
    obtain⟨q1,o,q2,-⟩:=mem_ready.1 hi
    have:i∈left listed3 ops.size:=mem_left.2 ⟨(Array.getElem?_eq_some_iff.1 q2).1,q1⟩
    rw[hnil3] at this;cases this
   ·intro k ok hk hlk e hek hb
    by_cases hki:k=pre.length
    ·subst hki
     rw[yat] at hk;cases hk
     exact getD_set_true (hpre e (by simpa using hek) hb)
    ·have:listed.getD k false=true:=by rw[←hlk,getD_set_ne _ (Ne.symm hki)]
     exact getD_set_true (hcl k ok hk this e hek hb)
   ·rw[hl2]
    have e:opsOf ops (List.range' (pre.length+1) post.length)=post:=by
     rw[ho,Ek]
     simp
    rw[e]
    exact IU hCu hMC i2 h2
 ·rw[x6 (Nat.le_refl _)];simp
 ·intro i o ho hl
  simp only[Array.getD_eq_getD_getElem?,Array.getElem?_replicate] at hl
  split at hl<;>simp at hl
 ·rw[x6 (by omega)]
  have e:opsOf ops (List.range pre.length)=pre:=by
   rw[ho,B8 _ _ (by simp)]
   simp
  rw[e]
  exact IU hCu hMC hi h
theorem HD(hm:P.follows .mixedOrders=true)(C:b9)(pre:List Oper)(y:Oper)(post:List Oper)(ho:ops=(pre++y::post).toArray)(hdef:uC (pre++y::post)=true)(hchk:(chk ops&&gate ops pre.length&&gate ops (pre.length+1))=true){id:Nat}{f:FR}{σ:St}{Q:MQ}
 (h:mH P C ops (fun f1 σ1=>eS ops f1 y (iK P f1 σ1 y.dst (fun f' σ'=>mH P C ops (Q .normal) post f' σ') y.op) (mH P C ops (Q .normal) post (bB f1 y.dst (.tup [])) σ1)) pre f σ):mwp P (.region id ops true) f σ Q:=by
 intro F hF Φ w a hi hr hd
 simp only[Bool.and_eq_true] at hchk
 have hF':F=Fence.wide∨∃l0,F=Fence.wide.inRound l0:=Or.imp (fun q=>q) (fun⟨l0,e,_⟩=>⟨l0,e⟩) hF
 have hfn:∀g,F.fn g:=fun g=>by rcases hF' with rfl|⟨l,rfl⟩<;>trivial
 have hdef':∀o,o∈ops.toList→∀c,o.op≠.defer c:=fun o h=>lB hdef o (by rw[ho] at h;simpa using h)
 refine uT (C:=C.pl) (MC:=oM P C) hm .no C.MM.u (fun _ _ hd _ _ _ h=>Fp hd h) pre y post ho hdef' hchk.1.1 hchk.1.2 hchk.2 hF' hi hr hd ?_ h
 intro f1 σ1 Φ1 w1 a1 N i1 r1 d1 s1 k1 hN
 have hyd:∀c,y.op≠.defer c:=hdef' y (by rw[ho];simp)
 have hFo:F=Fence.wide∨∃l0,F=Fence.wide.inRound l0∧∀c,y.op≠.defer c:=hF'.imp (fun q=>q) fun⟨l0,e⟩=>⟨l0,e,hyd⟩
 unfold ET
 rcases cG k1 r1 with⟨hw,hk⟩|⟨hw,hk⟩
 ·rw[if_pos hw]
  refine fR hFo (j6 hyd hk Φ1 w1 a1 _ _ i1 r1 fun v mv σ' Φ' w' r2 i2 s2 hk2=>?_)
  exact hN (Q .normal) _ σ' Φ' w' (a1.put y.dst v) i2 (cJ (r1.mono s2.le) y.dst r2) (by rw[bL,dT];exact d1.step i1 s2) (fun f3 σ3 Φ3 w3 a3 i3 r3 d3 s3 k3=>⟨f3,σ3,Φ3,d3,r3,i3,s1.trans (s2.trans s3),k3⟩) hk2
 ·rw[if_neg (by simp[hw])]
  exact⟨fun f _=>hfn f,hN (Q .normal) _ σ1 Φ1 w1 (a1.put y.dst undef) i1 (cJ r1 y.dst eW) (by rw[bL,dT];exact d1) (fun f3 σ3 Φ3 w3 a3 i3 r3 d3 s3 k3=>⟨f3,σ3,Φ3,d3,r3,i3,s1.trans s3,k3⟩) hk⟩
theorem Ik{C:YC}(hm:P.follows .mixedOrders=true)(L:List FuncId)(D:b9)(hDu:PlU (.these L) D)(pre:List Oper)(y:Oper)(post:List Oper)(ho:ops=(pre++y::post).toArray)(hdef:uC (pre++y::post)=true)(hchk:(nO ⟨[],[],none,.these L⟩ ops&&gate ops pre.length&&gate ops (pre.length+1))=true){id:Nat}{f:FR}{σ:St}{t:Option Nat}{Q:YQ}
 {o:Operand}{args:Array Operand}{ts:Array TypeId}(hy:y.op=.call ⟨.value o,args,ts⟩)(hspec:lV P C.l C.xs C.Y C.Yx C.Φ0 C.σ0 C.n0)
 (h:cL P (eC P D) ops (fun f1 σ1=>eS ops f1 y (∃i x,t=some i∧C.xs[i]?=some x∧(∀m,m∈x→gO m)∧aG f1 o=.fn (.yield C.l) [] []∧args.toList.map (aG f1)=x ∧
    cL P (eC P D) ops (fun f2 σ2=>Q .normal f2 σ2 (some (i+1))) post (bB f1 y.dst (.bool true)) σ1∧cL P (eC P D) ops (fun f2 σ2=>Q .normal f2 σ2 none) post (bB f1 y.dst (.bool false)) σ1)
   (cL P (eC P D) ops (fun f2 σ2=>Q .normal f2 σ2 t) post (bB f1 y.dst (.tup [])) σ1)) pre f σ):ywp P C (.region id ops true) f σ t Q:=by
 intro F hF Φ w a S hi hr hd
 simp only[Bool.and_eq_true] at hchk
 have hF':F=Fence.wide∨∃l0,F=Fence.wide.inRound l0:=Or.imp (fun q=>q) (fun⟨l0,e,_⟩=>⟨l0,e⟩) hF
 have hfn:∀g,F.fn g:=fun g=>by rcases hF' with rfl|⟨l,rfl⟩<;>trivial
 have hdep:=hF.depth
 have hdef':∀o,o∈ops.toList→∀c,o.op≠.defer c:=fun o h=>lB hdef o (by rw[ho] at h;simpa using h)
 refine uT (C:=D) (MC:=eC P D) hm (.these L) hDu (fun _ _ hd _ _ _ h=>Bf hd h) pre y post ho hdef' hchk.1.1 hchk.1.2 hchk.2 hF' hi.inv hr hd ?_ h
 intro f1 σ1 Φ1 w1 a1 N i1 r1 d1 s1 k1 hN
 have hi1:=hi.go i1 s1
 unfold ET
 rcases cG k1 r1 with⟨hw,hk⟩|⟨hw,hk⟩
 ·rw[if_pos hw]
  obtain⟨i,x,rfl,hx,hno,hv,hargs,ht,hfl⟩:=hk
  have rv:=aO r1 o
  rw[hv] at rv
  obtain⟨first,cap,he,h1,h2⟩:=rv.k9
  have e1:first=#[]:=Array.eq_empty_of_size_eq_zero (by simpa using h1.1)
  have e2:cap=#[]:=Array.eq_empty_of_size_eq_zero (by simpa using h2.1)
  subst e1 e2
  have hrels:=jR r1 args
  rw[hargs] at hrels
  obtain⟨Ψ,hΨ⟩:∃Ψ:Phi,Ψ=⟨Φ1.snap,fun _=>none,0⟩:=⟨_,rfl⟩
  have hrels':fI Ψ (args.map a1.eval) x:=⟨hrels.1,fun j m hm=>by
   subst hΨ
   exact gO.rel (Φ:=Φ1) (Φ':=⟨Φ1.snap,fun _=>none,0⟩) (fun _ _ q=>q) (hno m (List.mem_of_getElem? hm)) (hrels.2 j m hm)⟩
  obtain⟨fn,tmps,assign,body,hrun,hround⟩:=hspec i x S w1 Ψ (args.map a1.eval) hx hi1.st hi1.apt.agree hi1.size (fun m=>by subst hΨ;rfl) (fun b v q=>by
   subst hΨ
   exact⟨i1.snap b v q,hi1.apt.snap b v q,hi1.snapn b v q⟩) hrels'
  have hsem:(y.semAt F.round a1.eval).run P w1=.ok (.round C.l fn tmps assign body) w1:=by
   rw[Oper.semAt_eq _ _ _ (by rw[hy];intro c e;cases e)]
   unfold execOp
   simp only[hy,resolve,he,Deferred.ofValue,Sem.run_bind,Sem.run_pure,Result.andThen_ok,invoke,Array.empty_append,Array.append_empty]
   exact hrun
  refine⟨fun g _=>hfn g,?_⟩
  rw[hsem]
  refine⟨(fun q=>by rw[hdep] at q;cases q),?_⟩
  refine(oC hF' hround).mono ?_
  rintro e w2 ⟨b,S',rfl,hS1,hS2,hS3,hS4,hS5,hS6,hS7,hS8,hS9,hS10,hS11⟩
  -- our own side is as it was
  have ow:∀k,aS Φ1 σ1 k→w2.heap[k]?=w1.heap[k]?:=fun k hk=>by
   refine hS8 k ?_ fun q=>hi1.apt.own k q hk
   obtain⟨l,ob,p,q1,q2,q3⟩:=hk
   obtain⟨p',e,hlt⟩:=(i1.own l ob q1).place
   rw[q2] at e;cases e
   exact hlt k q3
  have i2:Inv Φ1 w2 σ1:=⟨fun l ob hl=>(i1.own l ob hl).mono (.refl _) fun p R q1 q2=>ow R ⟨l,ob,p,hl,q1,q2⟩,i1.inj,fun c v q=>by
    have hb:=World.block_lt_of_cell? w1 c (i1.snap c v q)
    rw[World.dL (hS8 c.block hb (hi1.apt.snap c v q))]
    exact i1.snap c v q,i1.apart,i1.fresh⟩
  have apt2:Apt Φ1 σ1 S' w2:=by
   have lt1:∀k,aS Φ1 σ1 k→k<w1.heap.size:=fun k ⟨l,ob,p,q1,q2,q3⟩=>by
    obtain⟨p',e,hlt⟩:=(i1.own l ob q1).place
    rw[q2] at e;cases e
    exact hlt k q3
   refine⟨hS2,fun k hk ho=>?_,fun c v q ho=>?_,fun c v q hk=>?_⟩
   ·rcases hS9 k hk with q|q
    ·exact hi1.apt.own k q ho
    ·have:=lt1 k ho;omega
   ·rcases hS10 c v q with q|q|q|q
    ·exact hi1.apt.snown c v q ho
    ·exact hi1.apt.own _ q ho
    ·have:=lt1 _ ho;omega
    ·subst hΨ
     obtain⟨l,ob,p,q1,q2,q3⟩:=ho
     exact i1.apart l ob p c.block c v q1 q2 q3 q rfl
   ·rcases hS9 _ hk with p|p
    ·exact hi1.apt.snap c v q p
    ·have:=World.block_lt_of_cell? w1 c (i1.snap c v q);omega
  have st2:cT Φ1 σ1 w1 S Φ1 σ1 w2 S':=⟨.refl _,hS3,hS4,hS5,hS6,hS7,fun k hk _ hw=>hS8 k hk hw,fun c v q=>.inl q,fun R q=>.inl q,hS9,fun c v q=>by
   subst hΨ
   rcases hS10 c v q with q|q|q|q
   ·exact .inl q
   ·exact .inr (.inl q)
   ·exact .inr (.inr (.inl q))
   ·exact .inr (.inr (.inr (.inl q)))⟩
  have d2:cR Φ1 w2 a1.defers f1.d:=d1.mono (.refl _) hS7 fun D hD=>by
   rw[hS8 D (Array.getElem?_eq_some_iff.1 hD).1 (fun q=>hi1.apt.agree.nomark D q _ ((hi1.apt.agree.same D q).symm.trans hD))]
   exact hD
  have go:∀(b:Bool) (t':Option Nat),C.st t' S'→cL P (eC P D) ops (fun f2 σ2=>Q .normal f2 σ2 t') post (bB f1 y.dst (.bool b)) σ1→N (a1.put y.dst (.bool b)) w2:=by
   intro b t' hst hm
   have hyi:gR C Φ1 σ1 w2 S' t':=⟨i2,apt2,hi1.snapn,hi1.ownd,Nat.le_trans hi1.size hS7,hst⟩
   exact hN (fun f2 σ2=>Q .normal f2 σ2 t') _ σ1 Φ1 w2 (a1.put y.dst (.bool b)) i2 (cJ r1 y.dst (.bool b)) (by rw[bL,dT];exact d2)
    (fun f3 σ3 Φ3 w3 a3 i3 r3 d3 s3 k3=>⟨f3,σ3,t',Φ3,S',hyi.go i3 s3,r3,d3,((cT.of S s1).trans st2).trans (.of S' s3),k3⟩) hm
  cases b with
  | true=>exact go true (some (i+1)) (by rw[if_pos rfl] at hS11;exact hS11) ht
  | false=>exact go false none (by rw[if_neg (by decide)] at hS11;exact hS11) hfl
 ·rw[if_neg (by simp[hw])]
  exact⟨fun f _=>hfn f,hN (fun f2 σ2=>Q .normal f2 σ2 t) _ σ1 Φ1 w1 (a1.put y.dst undef) i1 (cJ r1 y.dst eW) (by rw[bL,dT];exact d1) (fun f3 σ3 Φ3 w3 a3 i3 r3 d3 s3 k3=>⟨f3,σ3,t,Φ3,S,hi1.go i3 s3,r3,d3,(cT.of S s1).trans (.of S s3),k3⟩) hk⟩
theorem dH{id:Nat}{l:List Oper}{f:FR}{σ:St}{Q:MQ}(hm:P.follows .mixedOrders=true)(C:b9)(pre:List Oper){dst:Option Tmp}{op:Op}{ty:TypeId}{pos:String}{after:Array Edge}(post:List Oper)(ho:l=pre++⟨dst,op,ty,pos,after,none⟩::post)
 (hchk:(uC l&&(chk l.toArray&&gate l.toArray pre.length&&gate l.toArray (pre.length+1)))=true)
 (h:R (mH P C (@OfNat.ofNat (Array Oper) (nat_lit 0) (@_root_.id (OfNat (Array Oper) (nat_lit 0)) (OfNat.mk (l.toArray)))) (fun f1 σ1=>iK P f1 σ1 dst (fun f' σ'=>mH P C (@OfNat.ofNat (Array Oper) (nat_lit 0) (@_root_.id (OfNat (Array Oper) (nat_lit 0)) (OfNat.mk (l.toArray)))) (Q .normal) (@OfNat.ofNat (List Oper) (nat_lit 0) (@_root_.id (OfNat (List Oper) (nat_lit 0)) (OfNat.mk post))) f' σ') op)
   (@OfNat.ofNat (List Oper) (nat_lit 0) (@_root_.id (OfNat (List Oper) (nat_lit 0)) (OfNat.mk pre))) f σ)):R (rH P id (@OfNat.ofNat (List Oper) (nat_lit 0) (@_root_.id (OfNat (List Oper) (nat_lit 0)) (OfNat.mk l))) f σ Q):=by
 rw[Bool.and_eq_true] at hchk
 exact HD hm C pre ⟨dst,op,ty,pos,after,none⟩ post (by rw[←ho]) (by rw[←ho];exact hchk.1) hchk.2 h
end
end

section
section
variable {P:Program} {C:YC} {f:FR} {σ:St} {t:Option Nat} {Q:YQ}
def MD(C:YC)(t:Option Nat)(o:MV)(args:List MV)(A:Nat→Prop)(B:Prop):Prop :=
 ∃i x,t=some i∧C.xs[i]?=some x∧(∀m,m∈x→gO m)∧o=.fn (.yield C.l) [] []∧args=x∧A i∧B
theorem CU{o:MV}{args:List MV}{A:Nat→Prop}{B:Prop}{i:Nat}(ht:t=some i)(hx:C.xs[i]?=some args)(hno:∀m,m∈args→gO m)(ho:o=.fn (.yield C.l) [] [])(hA:R (A i))(hB:R B):R (MD C t o args A B) :=
 ⟨i,args,ht,hx,hno,ho,rfl,hA,hB⟩
theorem EX{id:Nat}{l:List Oper}(hm:P.follows .mixedOrders=true)(L:List FuncId)(D:b9)(hDu:PlU (.these L) D)(pre:List Oper){dst:Option Tmp}{o:Operand}{args:Array Operand}{ts:Array TypeId}{ty:TypeId}{pos:String}{after:Array Edge}{j:Nat}(post:List Oper)
 (ho:l=pre++⟨dst,.call ⟨.value o,args,ts⟩,ty,pos,after,some (j,true)⟩::post)(hchk:(uC l&&(nO ⟨[],[],none,.these L⟩ l.toArray&&gate l.toArray pre.length&&gate l.toArray (pre.length+1)))=true)(hspec:lV P C.l C.xs C.Y C.Yx C.Φ0 C.σ0 C.n0)
 (h:R (cL P (eC P D) (@OfNat.ofNat (Array Oper) (nat_lit 0) (@_root_.id (OfNat (Array Oper) (nat_lit 0)) (OfNat.mk (l.toArray)))) (fun f1 σ1=>bO (E (Dv f1 (kZ (@OfNat.ofNat (List Oper) (nat_lit 0) (@_root_.id (OfNat (List Oper) (nat_lit 0)) (OfNat.mk l))) j))) true
    (MD C t (E (aG f1 o)) (E (args.toList.map (aG f1)))
     (fun i=>cL P (eC P D) (@OfNat.ofNat (Array Oper) (nat_lit 0) (@_root_.id (OfNat (Array Oper) (nat_lit 0)) (OfNat.mk (l.toArray)))) (fun f2 σ2=>Q .normal f2 σ2 (some (i+1))) (@OfNat.ofNat (List Oper) (nat_lit 0) (@_root_.id (OfNat (List Oper) (nat_lit 0)) (OfNat.mk post))) (bB f1 dst (.bool true)) σ1)
     (cL P (eC P D) (@OfNat.ofNat (Array Oper) (nat_lit 0) (@_root_.id (OfNat (Array Oper) (nat_lit 0)) (OfNat.mk (l.toArray)))) (fun f2 σ2=>Q .normal f2 σ2 none) (@OfNat.ofNat (List Oper) (nat_lit 0) (@_root_.id (OfNat (List Oper) (nat_lit 0)) (OfNat.mk post))) (bB f1 dst (.bool false)) σ1))
    (cL P (eC P D) (@OfNat.ofNat (Array Oper) (nat_lit 0) (@_root_.id (OfNat (Array Oper) (nat_lit 0)) (OfNat.mk (l.toArray)))) (fun f2 σ2=>Q .normal f2 σ2 t) (@OfNat.ofNat (List Oper) (nat_lit 0) (@_root_.id (OfNat (List Oper) (nat_lit 0)) (OfNat.mk post))) (bB f1 dst (.tup [])) σ1))
   (@OfNat.ofNat (List Oper) (nat_lit 0) (@_root_.id (OfNat (List Oper) (nat_lit 0)) (OfNat.mk pre))) f σ)):R (ywp P C (.region id l.toArray true) f σ t Q):=by
 rw[Bool.and_eq_true] at hchk
 refine Ik hm L D hDu pre ⟨dst,.call ⟨.value o,args,ts⟩,ty,pos,after,some (j,true)⟩ post (by rw[←ho]) (by rw[←ho];exact hchk.1) hchk.2 rfl hspec ?_
 have e:∀(f1:FR) (A B:Prop),eS l.toArray f1 ⟨dst,.call ⟨.value o,args,ts⟩,ty,pos,after,some (j,true)⟩ A B=bO (Dv f1 (kZ l j)) true A B:=fun f1 A B=>by
  simp only[eS,zG]
  cases kZ l j<;>rfl
 simp only[e]
 exact h
end
end
end Go.Proofs.YtaojijkdamfbnaaGreatDoor
