/- Parts of the proof, joined; conditions: those that its theorems name. -/
import Derived.Test.YtaojijkdamfbnaaGreatDoorMbl
import Derived.Test.YtaojijkdamfbnaaGreatDoorMbo
import Derived.Shelf.Strings.Shaped
import Derived.Test.YtaojijkdamfbnaaGreatDoorRows
import Derived.Conc.MuLone
set_option linter.unusedVariables false
set_option linter.unusedSimpArgs false
set_option maxHeartbeats 4000000
namespace Go.Proofs.YtaojijkdamfbnaaGreatDoor
section
open Go.Shelf
def gW:Go.Shelf.Ren:=⟨fun|144=>197|143=>215|219=>228|217=>240|225=>241|224=>242|267=>243|266=>249|314=>250|n=>n,fun|9=>9|4=>4|3=>3|5=>5|46=>177|146=>263|51=>28|n=>n,fun|1=>1|n=>n⟩
theorem o7:Go.Proofs.LaysM.n144 Tryz.prog gW:={
  mixed:=by kernel_rfl
  f143:=Tryz.func215.trans (congrArg some (by kernel_rfl))
  f144:=Tryz.func197.trans (congrArg some (by kernel_rfl))
  f217:=Tryz.func240.trans (congrArg some (by kernel_rfl))
  f219:=Tryz.func228.trans (congrArg some (by kernel_rfl))
  f224:=Tryz.func242.trans (congrArg some (by kernel_rfl))
  f225:=Tryz.func241.trans (congrArg some (by kernel_rfl))
  f266:=Tryz.func249.trans (congrArg some (by kernel_rfl))
  f267:=Tryz.func243.trans (congrArg some (by kernel_rfl))
  f314:=Tryz.func250.trans (congrArg some (by kernel_rfl))
  t3:=Tryz.underlying3
  a3:=Tryz.isAgg3
  z3:=Tryz.sizeOf3
  v3:=Tryz.zeroValue3
  t4:=Tryz.underlying4
  a4:=Tryz.isAgg4
  z4:=Tryz.sizeOf4
  v4:=Tryz.zeroValue4
  t5:=Tryz.underlying5
  a5:=Tryz.isAgg5
  z5:=Tryz.sizeOf5
  v5:=Tryz.zeroValue5
  t9:=Tryz.underlying9
  a9:=Tryz.isAgg9
  z9:=Tryz.sizeOf9
  v9:=Tryz.zeroValue9
  t46:=Tryz.underlying177
  a46:=Tryz.isAgg177
  z46:=Tryz.sizeOf177
  v46:=Tryz.zeroValue177
  t51:=Tryz.underlying28
  a51:=Tryz.isAgg28
  z51:=Tryz.sizeOf28
  v51:=Tryz.zeroValue28
  t146:=Tryz.underlying263
  a146:=Tryz.isAgg263
  z146:=Tryz.sizeOf263
  v146:=Tryz.zeroValue263
  g1:=by kernel_rfl
  i3:=by kernel_rfl
  i4:=by kernel_rfl
  i5:=by kernel_rfl
  i9:=by kernel_rfl
  i46:=by kernel_rfl
  i51:=by kernel_rfl
  i146:=by kernel_rfl
  m1:=by kernel_rfl
  s1_3:=fun w h=>Go.Proofs.cell_of_shapedOpen_int (zero:=#[.int .i64 0]) (t:=3) h (of_decide_eq_true (by kernel_rfl)) (by kernel_rfl) rfl (by kernel_rfl) (by kernel_rfl) Tryz.underlying3 }
end

section
open Go.Shelf
theorem vB:∀W:World,W.ShapedOpen Tryz.prog→∀g,g∈GI→∃m,W.cell? ⟨g,0,none⟩=some (.int .i64 m):=fun W h g hg=>by
 simp only[GI,List.mem_cons,List.not_mem_nil,or_false] at hg
 subst hg
 exact o7.s1_3 W h
theorem qN(s sub:ByteArray)(hs:s.size≤1000000):aA Tryz.prog 197 [.str s,.str sub] St.none fun r _=>r=.bool (Lib.contains s.data.toList sub.data.toList):=by
 refine⟨⟨_,Tryz.func197,rfl,rfl⟩,fun Φ w vs hi hr=>?_⟩
 obtain⟨m,hm⟩:=hi.fresh.2.2 (gW.g 1) (by simp[GI,gW])
 have e0:=(hr.2 0 _ rfl).eN
 have e1:=(hr.2 1 _ rfl).eN
 have hv:vs=#[.string s,.string sub]:=by
  have h1:=hr.1
  apply Array.ext
  ·simpa using h1
  ·intro i h3 h4
   match i,h3 with
   | 0,h3=>simpa[Array.getD_eq_getD_getElem?,Array.getElem?_eq_getElem h3] using e0
   | 1,h3=>simpa[Array.getD_eq_getD_getElem?,Array.getElem?_eq_getElem h3] using e1
   | i+2,_=>simp at h4;omega
 subst hv
 refine(Any.strings_Contains { o7 with } s sub m w (by omega) (hi.snap _ _ hm)).mono ?_
 rintro e' w' ⟨rfl,rfl⟩
 exact⟨_,_,_,Φ,rfl,.bool _,hi,.refl _ _ _,rfl⟩
end

section
def lM(c:Int):Int:=if 65≤c∧c≤90 then c+32 else c
theorem sZ{c:Int}(h0:0≤c)(h1:c≤255):0≤lM c∧lM c≤255:=by unfold lM;split<;>omega
theorem Hk(c:Int)(h0:0≤c)(h1:c≤255):aA Tryz.prog 200 [.int .u8 c] St.none (fun r _=>r=.int .u8 (lM c)):=by
 refine(aA.body 12 [.tmp 2] Tryz.func200 rfl rfl rfl rfl ?_)
 by_cases h2:65≤c
 ·by_cases h3:c≤90
  ·rw[show lM c=c+32 from if_pos ⟨h2,h3⟩]
   repeat' (first|(with_reducible first|(refine wT ?_;refine wN fun _ hnl=>?_;revert hnl;(repeat refine wS fun _ _=>?_);intro hnl)|refine wD (by decide +kernel) ?_|refine wI (fun h=>?_) fun h=>?_|refine wF (fun h=>?_) fun h=>?_|refine wG (fun h=>?_) fun h=>?_|refine wH (fun h=>?_) fun h=>?_|((first|refine aE (fun h=>?_) fun h=>?_|refine aD (fun h=>?_) fun h=>?_)<;>simp only[h]))|simp(maxSteps:=4000000) (disch:=first|exact ddL|fail) only[go_sem,simprocAttr,Tryz.f200])
  ·rw[show lM c=c from if_neg fun h=>h3 h.2]
   repeat' (first|(with_reducible first|(refine wT ?_;refine wN fun _ hnl=>?_;revert hnl;(repeat refine wS fun _ _=>?_);intro hnl)|refine wD (by decide +kernel) ?_|refine wI (fun h=>?_) fun h=>?_|refine wF (fun h=>?_) fun h=>?_|refine wG (fun h=>?_) fun h=>?_|refine wH (fun h=>?_) fun h=>?_|((first|refine aE (fun h=>?_) fun h=>?_|refine aD (fun h=>?_) fun h=>?_)<;>simp only[h]))|simp(maxSteps:=4000000) (disch:=first|exact ddL|fail) only[go_sem,simprocAttr,Tryz.f200])
 ·rw[show lM c=c from if_neg fun h=>h2 h.1]
  repeat' (first|(with_reducible first|(refine wT ?_;refine wN fun _ hnl=>?_;revert hnl;(repeat refine wS fun _ _=>?_);intro hnl)|refine wD (by decide +kernel) ?_|refine wI (fun h=>?_) fun h=>?_|refine wF (fun h=>?_) fun h=>?_|refine wG (fun h=>?_) fun h=>?_|refine wH (fun h=>?_) fun h=>?_|((first|refine aE (fun h=>?_) fun h=>?_|refine aD (fun h=>?_) fun h=>?_)<;>simp only[h]))|simp(maxSteps:=4000000) (disch:=first|exact ddL|fail) only[go_sem,simprocAttr,Tryz.f200])
def fch(s:ByteArray)(i:Nat):List (List MV):=[[.int .u8 (lM ((s.toList.getD i 0).toNat:Int))]]
def oY(s:ByteArray):Nat→ByteArray
 | 0=>⟨#[]⟩
 | i+1=>oY s i++bytesOf (fch s i)
def dR(s:ByteArray):ByteArray:=oY s s.size
theorem oU(x:List MV):(bytesOf [x]).size=1:=rfl
theorem nX(s:ByteArray):∀i,(oY s i).size=i
 | 0=>rfl
 | i+1=>by rw[oY,ByteArray.size_append,nX s i,fch,oU]
set_option maxHeartbeats 1000000 in
theorem tZ (s:ByteArray) (h:s.size≤1000000):aA Tryz.prog 177 [.str s] St.none (fun r _=>r=.str (dR s)):=by
 refine(aA.body 20 [.tmp 2] Tryz.func177 rfl rfl rfl rfl ?_)
 repeat' (first|(with_reducible first|(refine wT ?_;refine wN fun _ hnl=>?_;revert hnl;(repeat refine wS fun _ _=>?_);intro hnl)|refine wD (by decide +kernel) ?_|refine wI (fun h=>?_) fun h=>?_|refine wF (fun h=>?_) fun h=>?_|refine wG (fun h=>?_) fun h=>?_|refine wH (fun h=>?_) fun h=>?_|((first|refine aE (fun h=>?_) fun h=>?_|refine aD (fun h=>?_) fun h=>?_)<;>simp only[h]))|simp(maxSteps:=4000000) (disch:=first|exact ddL|fail) only[go_sem,simprocAttr,Tryz.f177])
 refine aG (α:=Nat) (fun i=>⟨20,[(4,.int .i64 (i:Int)),(3,.str (oY s i)),(0,.str s)],[]⟩)
  (fun _=>St.none) (fun i=>i≤s.size) (fun i=>s.size - i) (.of (.less ?_ (St.le_refl _)) ⟨0,rfl,rfl,Nat.zero_le _⟩) ?_
 ·simp(maxSteps:=4000000) (disch:=first|exact ddL|fail) only[go_sem,simprocAttr,aC,aB]
  all_goals repeat' first|rfl|exact .same _|refine⟨?_,?_⟩
 ·intro i hi
  have hi:i≤s.size:=hi
  by_cases hlt:i<s.size
  ·have hsz:=nX s i
   have hc0:0≤((s.toList.getD i 0).toNat:Int):=by omega
   have hc1:((s.toList.getD i 0).toNat:Int)≤255:=by have:=(s.toList.getD i 0).toNat_lt;omega
   have hlo:=Hk _ hc0 hc1
   obtain⟨hr0,hr1⟩:=sZ hc0 hc1
   have hf:oY s (i+1)=oY s i++bytesOf (fch s i):=rfl
   have hfc:fch s i=[[.int .u8 (lM ((s.toList.getD i 0).toNat:Int))]]:=rfl
   have hone:=oU [.int .u8 (lM ((s.toList.getD i 0).toNat:Int))]
   rw[hfc] at hf
   obtain⟨c,hc⟩:∃c:Int,((s.toList.getD i 0).toNat:Int)=c:=⟨_,rfl⟩
   rw[hc] at hlo hr0 hr1 hf hone hc0 hc1
   repeat' (first|(with_reducible refine aQ hlo ?_)|(with_reducible first|(refine wT ?_;refine wN fun _ hnl=>?_;revert hnl;(repeat refine wS fun _ _=>?_);intro hnl)|refine wD (by decide +kernel) ?_|refine wI (fun h=>?_) fun h=>?_|refine wF (fun h=>?_) fun h=>?_|refine wG (fun h=>?_) fun h=>?_|refine wH (fun h=>?_) fun h=>?_|((first|refine aE (fun h=>?_) fun h=>?_|refine aD (fun h=>?_) fun h=>?_)<;>simp only[h]))|simp(maxSteps:=4000000) (disch:=first|exact ddL|fail) only[go_sem,simprocAttr,hc,hsz,hone,isByte])
   refine .of (.less ?_ (St.none_le _)) ⟨i+1,rfl,rfl,by omega,by omega⟩
   rw[hf]
   simp(maxSteps:=4000000) (disch:=first|exact ddL|fail) only[go_sem,simprocAttr,aC,aB]
   all_goals rfl
  ·have hie:i=s.size:=by omega
   subst hie
   repeat' (first|(with_reducible first|(refine wT ?_;refine wN fun _ hnl=>?_;revert hnl;(repeat refine wS fun _ _=>?_);intro hnl)|refine wD (by decide +kernel) ?_|refine wI (fun h=>?_) fun h=>?_|refine wF (fun h=>?_) fun h=>?_|refine wG (fun h=>?_) fun h=>?_|refine wH (fun h=>?_) fun h=>?_|((first|refine aE (fun h=>?_) fun h=>?_|refine aD (fun h=>?_) fun h=>?_)<;>simp only[h]))|simp(maxSteps:=4000000) (disch:=first|exact ddL|fail) only[go_sem,simprocAttr])
   rfl
def gQ(a b:VA):Bool:=decide (a.kd=b.kd)&&(decide (a.kd=1) || decide (a.kd=2))&&decide (lA (cmpL a.key b.key)<0)
set_option maxHeartbeats 1000000 in
theorem rH (a b:VA) (ha:a.s.size≤1000000) (hb:b.s.size≤1000000):aA Tryz.prog 135 [.agg a.c,.agg b.c] St.none (fun r _=>r=.bool (gQ a b)):=by
 refine(aA.body 26 [.tmp 4] Tryz.func135 rfl rfl rfl rfl ?_)
 have h1:=uG a b ha hb
 have hd:gQ a b=(decide (a.kd=b.kd)&&(decide (a.kd=1) || decide (a.kd=2))&&decide (lA (cmpL a.key b.key)<0)):=rfl
 generalize lA (cmpL a.key b.key)=o at h1 hd
 generalize gQ a b=out at hd ⊢
 by_cases e1:a.kd=b.kd
 ·by_cases e2:a.kd=1
  ·rw[decide_eq_true e1,decide_eq_true e2,Bool.true_or,Bool.true_and,Bool.true_and] at hd
   subst hd
   repeat' (first|(with_reducible first|refine up h1 ?_)|(with_reducible first|(refine wT ?_;refine wN fun _ hnl=>?_;revert hnl;(repeat refine wS fun _ _=>?_);intro hnl)|refine wD (by decide +kernel) ?_|refine wI (fun h=>?_) fun h=>?_|refine wF (fun h=>?_) fun h=>?_|refine wG (fun h=>?_) fun h=>?_|refine wH (fun h=>?_) fun h=>?_|((first|refine aE (fun h=>?_) fun h=>?_|refine aD (fun h=>?_) fun h=>?_)<;>simp only[h]))|simp(maxSteps:=4000000) (disch:=first|exact ddL|fail) only[go_sem,simprocAttr,Tryz.f135])
  ·by_cases e3:a.kd=2
   ·rw[decide_eq_true e1,decide_eq_true e3,Bool.or_true,Bool.true_and,Bool.true_and] at hd
    subst hd
    repeat' (first|(with_reducible first|refine up h1 ?_)|(with_reducible first|(refine wT ?_;refine wN fun _ hnl=>?_;revert hnl;(repeat refine wS fun _ _=>?_);intro hnl)|refine wD (by decide +kernel) ?_|refine wI (fun h=>?_) fun h=>?_|refine wF (fun h=>?_) fun h=>?_|refine wG (fun h=>?_) fun h=>?_|refine wH (fun h=>?_) fun h=>?_|((first|refine aE (fun h=>?_) fun h=>?_|refine aD (fun h=>?_) fun h=>?_)<;>simp only[h]))|simp(maxSteps:=4000000) (disch:=first|exact ddL|fail) only[go_sem,simprocAttr,Tryz.f135])
   ·rw[decide_eq_false e2,decide_eq_false e3,Bool.or_false,Bool.and_false,Bool.false_and] at hd
    subst hd
    repeat' (first|(with_reducible first|refine up h1 ?_)|(with_reducible first|(refine wT ?_;refine wN fun _ hnl=>?_;revert hnl;(repeat refine wS fun _ _=>?_);intro hnl)|refine wD (by decide +kernel) ?_|refine wI (fun h=>?_) fun h=>?_|refine wF (fun h=>?_) fun h=>?_|refine wG (fun h=>?_) fun h=>?_|refine wH (fun h=>?_) fun h=>?_|((first|refine aE (fun h=>?_) fun h=>?_|refine aD (fun h=>?_) fun h=>?_)<;>simp only[h]))|simp(maxSteps:=4000000) (disch:=first|exact ddL|fail) only[go_sem,simprocAttr,Tryz.f135])
 ·rw[decide_eq_false e1,Bool.false_and,Bool.false_and] at hd
  subst hd
  repeat' (first|(with_reducible first|refine up h1 ?_)|(with_reducible first|(refine wT ?_;refine wN fun _ hnl=>?_;revert hnl;(repeat refine wS fun _ _=>?_);intro hnl)|refine wD (by decide +kernel) ?_|refine wI (fun h=>?_) fun h=>?_|refine wF (fun h=>?_) fun h=>?_|refine wG (fun h=>?_) fun h=>?_|refine wH (fun h=>?_) fun h=>?_|((first|refine aE (fun h=>?_) fun h=>?_|refine aD (fun h=>?_) fun h=>?_)<;>simp only[h]))|simp(maxSteps:=4000000) (disch:=first|exact ddL|fail) only[go_sem,simprocAttr,Tryz.f135])
def nR(A B:ByteArray):Bool:=(List.range (A.size+1 - B.size)).any fun i=>decide (A.extract i (i+B.size)=B)
def iR(a b:VA):Bool:=decide (a.kd=2)&&decide (b.kd=2)&&nR (dR a.s) (dR b.s)
theorem nW(s:ByteArray):(dR s).size=s.size:=nX s s.size
set_option maxHeartbeats 1000000 in
theorem zW (a b:VA) (ha:a.s.size≤1000000) (hb:b.s.size≤1000000):aA Tryz.prog 136 [.agg a.c,.agg b.c] St.none (fun r _=>r=.bool (iR a b)):=by
 refine(aA.body 40 [.tmp 4] Tryz.func136 rfl rfl rfl rfl ?_)
 have h1:=tZ a.s ha
 have h2:=tZ b.s hb
 have hd:iR a b=(decide (a.kd=2)&&decide (b.kd=2)&&nR (dR a.s) (dR b.s)):=rfl
 have s1:=nW a.s
 have s2:=nW b.s
 generalize iR a b=out at hd ⊢
 by_cases e1:a.kd=2
 ·by_cases e2:b.kd=2
  ·rw[decide_eq_true e1,decide_eq_true e2,Bool.true_and,Bool.true_and] at hd
   obtain⟨C,hC⟩:∃C,C=kn [(177,[.str a.s],⟨[],fun v=>v=.str (dR a.s),none⟩),(177,[.str b.s],⟨[],fun v=>v=.str (dR b.s),none⟩)]:=⟨_,rfl⟩
   have f1:C 177 [.str a.s]=some ⟨[],fun v=>v=.str (dR a.s),none⟩:=by rw[hC];exact qC
   have f2:C 177 [.str b.s]=some ⟨[],fun v=>v=.str (dR b.s),none⟩:=by
    rw[hC]
    refine EK (fun h=>?_) qC
    have h:=h.2
    simp only[List.cons.injEq,MV.str.injEq,and_true] at h
    rw[h]
   clear hC
   generalize dR a.s=A at h1 hd s1 f1
   generalize dR b.s=B at h2 hd s2 f2
   subst hd
   repeat' (first|(with_reducible first|(refine wT ?_;refine wN fun _ hnl=>?_;revert hnl;(repeat refine wS fun _ _=>?_);intro hnl)|refine wD (by decide +kernel) ?_|refine wI (fun h=>?_) fun h=>?_|refine wF (fun h=>?_) fun h=>?_|refine wG (fun h=>?_) fun h=>?_|refine wH (fun h=>?_) fun h=>?_|((first|refine aE (fun h=>?_) fun h=>?_|refine aD (fun h=>?_) fun h=>?_)<;>simp only[h]))|simp(maxSteps:=4000000) (disch:=first|exact ddL|fail) only[go_sem,simprocAttr,Tryz.f136])
   refine aS mixed (by decide +kernel) C ?_
   repeat' (first|(with_reducible refine aO f1 h1 ?_)|(with_reducible refine aO f2 h2 ?_)|(with_reducible first|(refine wT ?_;refine wN fun _ hnl=>?_;revert hnl;(repeat refine wS fun _ _=>?_);intro hnl)|refine wD (by decide +kernel) ?_|refine wI (fun h=>?_) fun h=>?_|refine wF (fun h=>?_) fun h=>?_|refine wG (fun h=>?_) fun h=>?_|refine wH (fun h=>?_) fun h=>?_|((first|refine aE (fun h=>?_) fun h=>?_|refine aD (fun h=>?_) fun h=>?_)<;>simp only[h]))|simp(maxSteps:=4000000) (disch:=first|exact ddL|fail) only[go_sem,simprocAttr])
   refine aG (α:=Nat) (fun i=>⟨40,[(7,.int .i64 (i:Int)),(6,.str B),(5,.str A)],[]⟩)
    (fun _=>St.none) (fun i=>i≤A.size+1∧∀j,j<i→j+B.size≤A.size→A.extract j (j+B.size)≠B) (fun i=>A.size+1 - i) (.of (.less ?_ (St.none_le _)) ⟨0,rfl,rfl,Nat.zero_le _,fun j hj=>absurd hj (by omega)⟩) ?_
   ·simp(maxSteps:=4000000) (disch:=first|exact ddL|fail) only[go_sem,simprocAttr,aC,aB]
    all_goals rfl
   ·rintro i ⟨hi,hq⟩
    by_cases hlt:i+B.size≤A.size
    ·have e1:((i:Int)+(B.size:Int)).toNat=i+B.size:=by omega
     have e2:((i:Int)).toNat=i:=by omega
     repeat' (first|(with_reducible first|(refine wT ?_;refine wN fun _ hnl=>?_;revert hnl;(repeat refine wS fun _ _=>?_);intro hnl)|refine wD (by decide +kernel) ?_|refine wI (fun h=>?_) fun h=>?_|refine wF (fun h=>?_) fun h=>?_|refine wG (fun h=>?_) fun h=>?_|refine wH (fun h=>?_) fun h=>?_|((first|refine aE (fun h=>?_) fun h=>?_|refine aD (fun h=>?_) fun h=>?_)<;>simp only[h]))|simp(maxSteps:=4000000) (disch:=first|exact ddL|fail) only[go_sem,simprocAttr,e1,e2])
     ·refine(List.any_eq_true.2 ⟨i,List.mem_range.2 (by omega),?_⟩).symm
      exact decide_eq_true h
     ·refine .of (.less ?_ (St.none_le _)) ⟨i+1,rfl,rfl,⟨by omega,fun j hj hjl=>?_⟩,by omega⟩
      ·simp(maxSteps:=4000000) (disch:=first|exact ddL|fail) only[go_sem,simprocAttr,aC,aB]
       all_goals rfl
      ·by_cases hji:j=i
       ·subst hji;exact h
       ·exact hq j (by omega) hjl
    ·have hF:nR A B=false:=by
      rw[nR,List.any_eq_false]
      intro j hj
      rw[List.mem_range] at hj
      have:=hq j (by omega) (by omega)
      simpa using this
     rw[hF]
     repeat' (first|(with_reducible first|(refine wT ?_;refine wN fun _ hnl=>?_;revert hnl;(repeat refine wS fun _ _=>?_);intro hnl)|refine wD (by decide +kernel) ?_|refine wI (fun h=>?_) fun h=>?_|refine wF (fun h=>?_) fun h=>?_|refine wG (fun h=>?_) fun h=>?_|refine wH (fun h=>?_) fun h=>?_|((first|refine aE (fun h=>?_) fun h=>?_|refine aD (fun h=>?_) fun h=>?_)<;>simp only[h]))|simp(maxSteps:=4000000) (disch:=first|exact ddL|fail) only[go_sem,simprocAttr])
  ·rw[decide_eq_false e2,Bool.and_false,Bool.false_and] at hd
   subst hd
   repeat' (first|(with_reducible first|(refine wT ?_;refine wN fun _ hnl=>?_;revert hnl;(repeat refine wS fun _ _=>?_);intro hnl)|refine wD (by decide +kernel) ?_|refine wI (fun h=>?_) fun h=>?_|refine wF (fun h=>?_) fun h=>?_|refine wG (fun h=>?_) fun h=>?_|refine wH (fun h=>?_) fun h=>?_|((first|refine aE (fun h=>?_) fun h=>?_|refine aD (fun h=>?_) fun h=>?_)<;>simp only[h]))|simp(maxSteps:=4000000) (disch:=first|exact ddL|fail) only[go_sem,simprocAttr,Tryz.f136])
 ·rw[decide_eq_false e1,Bool.false_and,Bool.false_and] at hd
  subst hd
  repeat' (first|(with_reducible first|(refine wT ?_;refine wN fun _ hnl=>?_;revert hnl;(repeat refine wS fun _ _=>?_);intro hnl)|refine wD (by decide +kernel) ?_|refine wI (fun h=>?_) fun h=>?_|refine wF (fun h=>?_) fun h=>?_|refine wG (fun h=>?_) fun h=>?_|refine wH (fun h=>?_) fun h=>?_|((first|refine aE (fun h=>?_) fun h=>?_|refine aD (fun h=>?_) fun h=>?_)<;>simp only[h]))|simp(maxSteps:=4000000) (disch:=first|exact ddL|fail) only[go_sem,simprocAttr,Tryz.f136])
end

section
theorem half(i j:Nat):Int.fdiv ((i:Int)+j) (2 ^ (min 1 64:Nat))=(((i+j) / 2:Nat):Int):=by
 rw[show((2:Int) ^ (min 1 64:Nat))=2 by decide,Int.fdiv_eq_ediv_of_nonneg _ (by omega)]
 omega
end

section
open Go.Conc.Locks
section
variable {P:Program} {L:MuLink}
def Mz(n n':Int)(o:Option aX)(l:Nat)(σ:St)(k:MV→St→Prop):Prop:=match o with
 | some (.row t e [.int .i32 a::rest])=>fF (a=n) (bT (.tup []) (σ.set l (.row t e [.int .i32 n'::rest])) k)
 | _=>False
theorem Dp{n n' a:Int}{l:Nat}{σ:St}{k:MV→St→Prop}{t:TypeId}{e:Nat}{rest:List MV}:R (Mz n n' (some (.row t e [.int .i32 a::rest])) l σ k)=R (fF (E (a=n)) (bT (.tup []) (σ.set l (.row t e [.int .i32 n'::rest])) k)):=rfl
end
attribute [go_sem] Dp
end
end Go.Proofs.YtaojijkdamfbnaaGreatDoor
