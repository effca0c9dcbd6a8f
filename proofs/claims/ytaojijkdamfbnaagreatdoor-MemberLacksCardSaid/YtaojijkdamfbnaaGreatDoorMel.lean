/- Parts of the proof, joined; conditions: those that its theorems name. -/
import Derived.Test.YtaojijkdamfbnaaGreatDoorMei
import Derived.Shelf.Strings.Shaped
import Derived.Test.YtaojijkdamfbnaaGreatDoorRows
import Derived.Shelf.SlIterI.Nil
import Derived.Shelf.SortM.Plain
import Derived.Shelf.SortM.SortNone
set_option linter.unusedVariables false
set_option linter.unusedSimpArgs false
set_option maxHeartbeats 4000000
namespace Go.Proofs.YtaojijkdamfbnaaGreatDoor
section
theorem yH{op:Int}(h:parts op=2):op=11∨op=12:=by
 unfold parts at h
 split at h
 ·omega
 ·split at h
  ·assumption
  ·omega
theorem yG{op:Int}(h:parts op=1):op=10:=by
 unfold parts at h
 split at h
 ·assumption
 ·split at h<;>omega
def Good(t:T):Prop:=t.ok∧∀x,x∈t.fl→eD x=true
theorem tE{x:ND}{a:T}:Good (.one x a)↔parts x.op=1∧eD x=true∧Good a:=by
 simp only[Good,T.ok,T.fl,List.mem_cons]
 exact⟨fun h=>⟨h.1.1,h.2 x (.inl rfl),h.1.2,fun y hy=>h.2 y (.inr hy)⟩,fun h=>⟨⟨h.1,h.2.2.1⟩,fun y hy=>hy.elim (fun e=>e ▸ h.2.1) (h.2.2.2 y)⟩⟩
theorem tF{x:ND}{a b:T}:Good (.two x a b)↔parts x.op=2∧eD x=true∧Good a∧Good b:=by
 simp only[Good,T.ok,T.fl,List.mem_cons,List.mem_append]
 exact⟨fun h=>⟨h.1.1,h.2 x (.inl rfl),⟨h.1.2.1,fun y hy=>h.2 y (.inr (.inl hy))⟩,h.1.2.2,fun y hy=>h.2 y (.inr (.inr hy))⟩,
  fun h=>⟨⟨h.1,h.2.2.1.1,h.2.2.2.1⟩,fun y hy=>hy.elim (fun e=>e ▸ h.2.1) fun hy=>hy.elim (h.2.2.1.2 y) (h.2.2.2.2 y)⟩⟩
end

section
open Go.Shelf
def gU:Go.Shelf.Ren:=⟨fun|144=>197|143=>215|219=>228|217=>240|225=>241|224=>242|267=>243|266=>249|314=>250|n=>n,fun|9=>9|4=>4|3=>3|5=>5|46=>177|146=>263|51=>28|n=>n,fun|1=>1|n=>n⟩
theorem pH:Go.Proofs.LaysM.n144 Tryz.prog gU:={
  mixed:=by kernel_rfl
  f143:=Tryz.func215.trans (congrArg some (by kernel_rfl))
  f144:=Tryz.func197.trans (congrArg some (by kernel_rfl))
  f217:=Tryz.func240.trans (congrArg some (by kernel_rfl))
  f219:=Tryz.func228.trans (congrArg some (by kernel_rfl))
  f224:=Tryz.func242.trans (congrArg some (by kernel_rfl))
  f225:=Tryz.func241.trans (congrArg some (by kernel_rfl))
  f266:=Tryz.func249.trans (congrArg some (by kernel_rfl))
  f267:=Tryz.func243.trans (congrArg some (by kernel_rfl))
  f314:=Tryz.func250.trans (congrArg some (by kernel_rfl))
  t3:=Tryz.underlying3
  a3:=Tryz.isAgg3
  z3:=Tryz.sizeOf3
  v3:=Tryz.zeroValue3
  t4:=Tryz.underlying4
  a4:=Tryz.isAgg4
  z4:=Tryz.sizeOf4
  v4:=Tryz.zeroValue4
  t5:=Tryz.underlying5
  a5:=Tryz.isAgg5
  z5:=Tryz.sizeOf5
  v5:=Tryz.zeroValue5
  t9:=Tryz.underlying9
  a9:=Tryz.isAgg9
  z9:=Tryz.sizeOf9
  v9:=Tryz.zeroValue9
  t46:=Tryz.underlying177
  a46:=Tryz.isAgg177
  z46:=Tryz.sizeOf177
  v46:=Tryz.zeroValue177
  t51:=Tryz.underlying28
  a51:=Tryz.isAgg28
  z51:=Tryz.sizeOf28
  v51:=Tryz.zeroValue28
  t146:=Tryz.underlying263
  a146:=Tryz.isAgg263
  z146:=Tryz.sizeOf263
  v146:=Tryz.zeroValue263
  g1:=by kernel_rfl
  i3:=by kernel_rfl
  i4:=by kernel_rfl
  i5:=by kernel_rfl
  i9:=by kernel_rfl
  i46:=by kernel_rfl
  i51:=by kernel_rfl
  i146:=by kernel_rfl
  m1:=by kernel_rfl
  s1_3:=fun w h=>Go.Proofs.cell_of_shapedOpen_int (zero:=#[.int .i64 0]) (t:=3) h (of_decide_eq_true (by kernel_rfl)) (by kernel_rfl) rfl (by kernel_rfl) (by kernel_rfl) Tryz.underlying3 }
end

section
theorem oY{v:VA}(h:dY v=true):v.s.size≤1000000:=by
 unfold dY at h
 split at h
 ·simp only[decide_eq_true_eq] at h
  rw[h];decide
 ·split at h
  ·simp only[decide_eq_true_eq] at h
   rw[h.2.2];decide
  ·split at h
   ·simp only[decide_eq_true_eq] at h
    omega
   ·cases h
theorem yC{x:ND}(h:eD x=true):x.v.s.size≤1000000:=by
 have h0:va0.s.size≤1000000:=by decide
 unfold eD at h
 split at h
 ·simp only[decide_eq_true_eq] at h;rw[h.2];exact h0
 ·split at h
  ·simp only[decide_eq_true_eq] at h;rw[h.2.2];exact h0
  ·split at h
   ·simp only[decide_eq_true_eq] at h;rw[h.2.2];exact h0
   ·split at h
    ·simp only[decide_eq_true_eq] at h;exact oY h.2.2.1
    ·split at h
     ·simp only[decide_eq_true_eq] at h;exact oY h.2.2.1
     ·cases h
end

section
open Go.Shelf
def nW:Go.Shelf.Ren:=⟨fun|7=>179|10=>202|n=>n,fun|23=>143|26=>3|3=>42|28=>189|0=>0|27=>188|33=>191|4=>4|n=>n,fun|n=>n⟩
theorem GC:Go.Proofs.SlLaysZI.n7 Tryz.prog nW:={
  mixed:=by kernel_rfl
  f7:=⟨Tryz.f179.name,by decide,Tryz.func179.trans (congrArg some (by kernel_rfl))⟩
  f10:=⟨Tryz.f202.name,by decide,Tryz.func202.trans (congrArg some (by kernel_rfl))⟩
  t0:=Tryz.underlying0
  a0:=Tryz.isAgg0
  z0:=Tryz.sizeOf0
  v0:=Tryz.zeroValue0
  t4:=Tryz.underlying4
  a4:=Tryz.isAgg4
  z4:=Tryz.sizeOf4
  v4:=Tryz.zeroValue4
  t23:=Tryz.underlying143
  a23:=Tryz.isAgg143
  z23:=Tryz.sizeOf143
  v23:=Tryz.zeroValue143
  t26:=Tryz.underlying3
  a26:=Tryz.isAgg3
  z26:=Tryz.sizeOf3
  v26:=Tryz.zeroValue3
  t27:=Tryz.underlying188
  a27:=Tryz.isAgg188
  z27:=Tryz.sizeOf188
  v27:=Tryz.zeroValue188
  t28:=Tryz.underlying189
  a28:=Tryz.isAgg189
  z28:=Tryz.sizeOf189
  v28:=Tryz.zeroValue189
  t33:=Tryz.underlying191
  a33:=Tryz.isAgg191
  z33:=Tryz.sizeOf191
  v33:=Tryz.zeroValue191 }
def iQ:Go.Shelf.Ren:=⟨fun|6=>178|8=>139|9=>201|11=>180|13=>217|12=>216|23=>237|24=>238|14=>229|15=>230|16=>231|17=>232|18=>233|19=>234|20=>141|21=>235|22=>236|25=>244|26=>245|27=>246|28=>247|29=>248|30=>183|31=>251|n=>n,fun|26=>3|28=>189|24=>46|0=>0|3=>3|37=>177|48=>28|50=>255|4=>4|40=>249|39=>248|45=>161|5=>5|9=>9|51=>257|55=>261|57=>265|58=>266|33=>191|n=>n,fun|n=>n⟩
theorem Br:Go.Proofs.SlLaysZI.n6 Tryz.prog iQ:={
  mixed:=by kernel_rfl
  f6:=⟨Tryz.f178.name,by decide,Tryz.func178.trans (congrArg some (by kernel_rfl))⟩
  f8:=⟨Tryz.f139.name,by decide,Tryz.func139.trans (congrArg some (by kernel_rfl))⟩
  f11:=⟨Tryz.f180.name,by decide,Tryz.func180.trans (congrArg some (by kernel_rfl))⟩
  t0:=Tryz.underlying0
  a0:=Tryz.isAgg0
  z0:=Tryz.sizeOf0
  v0:=Tryz.zeroValue0
  t24:=Tryz.underlying46
  a24:=Tryz.isAgg46
  z24:=Tryz.sizeOf46
  v24:=Tryz.zeroValue46
  t26:=Tryz.underlying3
  a26:=Tryz.isAgg3
  z26:=Tryz.sizeOf3
  v26:=Tryz.zeroValue3
  t28:=Tryz.underlying189
  a28:=Tryz.isAgg189
  z28:=Tryz.sizeOf189
  v28:=Tryz.zeroValue189
  i26:=by kernel_rfl }
def vX:Go.Shelf.Ren:=⟨fun|5=>201|8=>217|7=>216|19=>237|20=>238|10=>229|11=>230|12=>231|13=>232|14=>233|15=>234|16=>141|17=>235|18=>236|30=>244|31=>245|32=>246|33=>247|34=>248|35=>183|40=>251|n=>n,fun|23=>46|25=>3|3=>3|32=>177|22=>46|0=>0|44=>28|46=>255|4=>4|36=>249|35=>248|41=>161|5=>5|9=>9|53=>257|57=>261|63=>265|64=>266|n=>n,fun|n=>n⟩
theorem xX:Go.Proofs.SlLaysM.n5 Tryz.prog vX:={
  mixed:=by kernel_rfl
  f5:=⟨Tryz.f201.name,by decide,Tryz.func201.trans (congrArg some (by kernel_rfl))⟩
  f7:=⟨Tryz.f216.name,by decide,Tryz.func216.trans (congrArg some (by kernel_rfl))⟩
  f8:=Tryz.func217.trans (congrArg some (by kernel_rfl))
  f10:=⟨Tryz.f229.name,by decide,Tryz.func229.trans (congrArg some (by kernel_rfl))⟩
  f11:=⟨Tryz.f230.name,by decide,Tryz.func230.trans (congrArg some (by kernel_rfl))⟩
  f12:=⟨Tryz.f231.name,by decide,Tryz.func231.trans (congrArg some (by kernel_rfl))⟩
  f13:=⟨Tryz.f232.name,by decide,Tryz.func232.trans (congrArg some (by kernel_rfl))⟩
  f14:=⟨Tryz.f233.name,by decide,Tryz.func233.trans (congrArg some (by kernel_rfl))⟩
  f15:=⟨Tryz.f234.name,by decide,Tryz.func234.trans (congrArg some (by kernel_rfl))⟩
  f16:=⟨Tryz.f141.name,by decide,Tryz.func141.trans (congrArg some (by kernel_rfl))⟩
  f17:=⟨Tryz.f235.name,by decide,Tryz.func235.trans (congrArg some (by kernel_rfl))⟩
  f18:=⟨Tryz.f236.name,by decide,Tryz.func236.trans (congrArg some (by kernel_rfl))⟩
  f19:=Tryz.func237.trans (congrArg some (by kernel_rfl))
  f20:=Tryz.func238.trans (congrArg some (by kernel_rfl))
  f30:=⟨Tryz.f244.name,by decide,Tryz.func244.trans (congrArg some (by kernel_rfl))⟩
  f31:=Tryz.func245.trans (congrArg some (by kernel_rfl))
  f32:=Tryz.func246.trans (congrArg some (by kernel_rfl))
  f33:=⟨Tryz.f247.name,by decide,Tryz.func247.trans (congrArg some (by kernel_rfl))⟩
  f34:=⟨Tryz.f248.name,by decide,Tryz.func248.trans (congrArg some (by kernel_rfl))⟩
  f35:=⟨Tryz.f183.name,by decide,Tryz.func183.trans (congrArg some (by kernel_rfl))⟩
  f40:=⟨Tryz.f251.name,by decide,Tryz.func251.trans (congrArg some (by kernel_rfl))⟩
  t0:=Tryz.underlying0
  a0:=Tryz.isAgg0
  z0:=Tryz.sizeOf0
  v0:=Tryz.zeroValue0
  t3:=Tryz.underlying3
  a3:=Tryz.isAgg3
  z3:=Tryz.sizeOf3
  v3:=Tryz.zeroValue3
  t4:=Tryz.underlying4
  a4:=Tryz.isAgg4
  z4:=Tryz.sizeOf4
  v4:=Tryz.zeroValue4
  t5:=Tryz.underlying5
  a5:=Tryz.isAgg5
  z5:=Tryz.sizeOf5
  v5:=Tryz.zeroValue5
  t9:=Tryz.underlying9
  a9:=Tryz.isAgg9
  z9:=Tryz.sizeOf9
  v9:=Tryz.zeroValue9
  t22:=Tryz.underlying46
  a22:=Tryz.isAgg46
  z22:=Tryz.sizeOf46
  v22:=Tryz.zeroValue46
  t23:=Tryz.underlying46
  a23:=Tryz.isAgg46
  z23:=Tryz.sizeOf46
  v23:=Tryz.zeroValue46
  t25:=Tryz.underlying3
  a25:=Tryz.isAgg3
  z25:=Tryz.sizeOf3
  v25:=Tryz.zeroValue3
  t32:=Tryz.underlying177
  a32:=Tryz.isAgg177
  z32:=Tryz.sizeOf177
  v32:=Tryz.zeroValue177
  t35:=Tryz.underlying248
  a35:=Tryz.isAgg248
  z35:=Tryz.sizeOf248
  v35:=Tryz.zeroValue248
  t36:=Tryz.underlying249
  a36:=Tryz.isAgg249
  z36:=Tryz.sizeOf249
  v36:=Tryz.zeroValue249
  t41:=Tryz.underlying161
  a41:=Tryz.isAgg161
  z41:=Tryz.sizeOf161
  v41:=Tryz.zeroValue161
  t44:=Tryz.underlying28
  a44:=Tryz.isAgg28
  z44:=Tryz.sizeOf28
  v44:=Tryz.zeroValue28
  t46:=Tryz.underlying255
  a46:=Tryz.isAgg255
  z46:=Tryz.sizeOf255
  v46:=Tryz.zeroValue255
  t53:=Tryz.underlying257
  a53:=Tryz.isAgg257
  z53:=Tryz.sizeOf257
  v53:=Tryz.zeroValue257
  t57:=Tryz.underlying261
  a57:=Tryz.isAgg261
  z57:=Tryz.sizeOf261
  v57:=Tryz.zeroValue261
  t63:=Tryz.underlying265
  a63:=Tryz.isAgg265
  z63:=Tryz.sizeOf265
  v63:=Tryz.zeroValue265
  t64:=Tryz.underlying266
  a64:=Tryz.isAgg266
  z64:=Tryz.sizeOf266
  v64:=Tryz.zeroValue266 }
end
end Go.Proofs.YtaojijkdamfbnaaGreatDoor
