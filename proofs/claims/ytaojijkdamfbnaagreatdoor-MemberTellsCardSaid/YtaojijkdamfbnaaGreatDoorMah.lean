/- Parts of the proof, joined; conditions: those that its theorems name. -/
import Derived.Test.YtaojijkdamfbnaaGreatDoorMad
import Derived.Test.YtaojijkdamfbnaaGreatDoorMae
import Derived.Shelf.SlIterI.Nil
import Derived.Shelf.SortM.Plain
import Derived.Shelf.SortM.SortNone
import Derived.Test.YtaojijkdamfbnaaGreatDoorRows
set_option linter.unusedVariables false
set_option linter.unusedSimpArgs false
set_option maxHeartbeats 4000000
namespace Go.Proofs.YtaojijkdamfbnaaGreatDoor
section
def fc(f:F8):List MV:=(f.l.map VA.c).flatten
theorem NN(l:List VA):(l.map VA.c).flatten.length=3 * l.length:=by
 induction l with
 | nil=>rfl
 | cons v l ih=>simp only[List.map_cons,List.flatten_cons,List.length_append,List.length_cons,List.length_nil,ih];omega
theorem sV:∀(l:List VA) (i:Nat),((l.map VA.c).flatten).drop (i * 3)=((l.drop i).map VA.c).flatten
 | _,0=>by simp
 | [],i+1=>by simp
 | v::l,i+1=>by
  have:=sV l i
  rw[show(i+1) * 3=i * 3+3 by omega]
  simp only[List.map_cons,List.flatten_cons,List.cons_append,List.nil_append,List.drop_succ_cons]
  exact this
theorem FU:∀(l:List VA) (i:Nat),((l.map VA.c).flatten).take (i * 3)=((l.take i).map VA.c).flatten
 | _,0=>by simp
 | [],i+1=>by simp
 | v::l,i+1=>by
  have:=FU l i
  rw[show(i+1) * 3=i * 3+3 by omega]
  simp only[List.map_cons,List.flatten_cons,List.cons_append,List.nil_append,List.take_succ_cons]
  rw[this]
theorem Mt(l:List VA):((l.map VA.c).flatten).all MV.aO=true:=by
 induction l with
 | nil=>rfl
 | cons v l ih =>
  simp only[List.map_cons,List.flatten_cons,List.cons_append,List.nil_append,List.all_cons,ih];rfl
theorem bY(f:F8):(fc f).length=24:=by rw[fc,NN,f.h]
theorem cG(f:F8):(fc f).all MV.aO=true:=Mt f.l
theorem Fc{f:F8}{r:List MV}{n:Nat}(h:24≤n):(fc f++r).take n=fc f++r.take (n - 24):=by
 rw[List.take_append,List.take_of_length_le (by rw[bY];exact h),bY]
theorem gE{f:F8}{n:Nat}(h:24≤n):(fc f).take n=fc f:=List.take_of_length_le (by rw[bY];exact h)
theorem E6{f:F8}{r:List MV}{n:Nat}(h:24≤n):(fc f++r).drop n=r.drop (n - 24):=by
 rw[List.drop_append,List.drop_eq_nil_of_le (by rw[bY];exact h),bY,List.nil_append]
theorem A7{f:F8}{n:Nat}(h:24≤n):(fc f).drop n=[]:=List.drop_eq_nil_of_le (by rw[bY];exact h)
theorem Fa{f:F8}{r:List MV}{n:Nat}{d:MV}(h:24≤n):(fc f++r).getD n d=r.getD (n - 24) d:=by
 rw[List.getD_eq_getElem?_getD,List.getElem?_append_right (by rw[bY];exact h),bY,←List.getD_eq_getElem?_getD]
theorem gX{f:F8}{i:Nat}(h:i<8):(fc f).drop (i * 3)=(f.get i).c++(fc f).drop ((i+1) * 3):=by
 have hl:i<f.l.length:=by rw[f.h];exact h
 rw[fc,sV,sV,List.drop_eq_getElem_cons hl,List.map_cons,List.flatten_cons]
 congr 1
 rw[F8.get,bG va0 hl]
theorem nZ{f:F8}{i:Nat}(h:i<8):((fc f).drop (i * 3)).take 3=[.int .i64 (f.get i).kd,.int .i64 (f.get i).n,.str (f.get i).s]:=by
 rw[gX h];rfl
theorem xP{f:F8}{r:List MV}{i:Nat}(h:i<8):((fc f++r).drop (i * 3)).take 3=[.int .i64 (f.get i).kd,.int .i64 (f.get i).n,.str (f.get i).s]:=by
 rw[List.drop_append_of_le_length (by rw[bY];omega),gX h];rfl
theorem qQ{α:Type}{l:List α}{n k:Nat}{d:α}:l.getD (n+k) d=(l.drop n).getD k d:=by
 rw[List.getD_eq_getElem?_getD,List.getD_eq_getElem?_getD,List.getElem?_drop]
theorem E8{f:F8}{i:Nat}{d:MV}(h:i<8):(fc f).getD (i * 3) d=.int .i64 (f.get i).kd:=by
 have:=qQ (l:=fc f) (n:=i * 3) (k:=0) (d:=d)
 rw[Nat.add_zero] at this
 rw[this,gX h];rfl
theorem E9{f:F8}{i:Nat}{d:MV}(h:i<8):(fc f).getD (i * 3+1) d=.int .i64 (f.get i).n:=by
 rw[qQ,gX h];rfl
theorem zB{f:F8}{i:Nat}{d:MV}(h:i<8):(fc f).getD (i * 3+2) d=.str (f.get i).s:=by
 rw[qQ,gX h];rfl
theorem Le{f:F8}{i:Nat}{a b:Int}{s:ByteArray}(h:i<8):laid (fc f) (i * 3) [.int .i64 a,.int .i64 b,.str s]=fc (f.set i ⟨a,b,s⟩):=by
 have hl:i<f.l.length:=by rw[f.h];exact h
 unfold laid
 simp only[List.length_cons,List.length_nil]
 have e:(f.set i ⟨a,b,s⟩).l=f.l.set i ⟨a,b,s⟩:=rfl
 rw[show i * 3+(0+1+1+1)=(i+1) * 3 by omega,fc,fc,FU,sV,e,List.set_eq_take_append_cons_drop,if_pos hl,List.map_append,List.flatten_append,List.map_cons,List.flatten_cons]
 simp only[List.append_assoc]
theorem E7{f:F8}{i:Nat}{v:VA}(h:i<8):(fc f).take (i * 3)++v.c++(fc f).drop (3+i * 3)=fc (f.set i v):=by
 have:=Le (f:=f) (i:=i) (a:=v.kd) (b:=v.n) (s:=v.s) h
 rw[←this,laid,show 3+i * 3=i * 3+3 by omega];rfl
theorem F8.Lh{f:F8}{i:Nat}{v:VA}(h:i<8):(f.set i v).get i=v:=by rw[F8.Li f i i v h,if_pos rfl]
theorem A2{α:Type}{a b:α}{l:List α}{n:Nat}:(a::b::l).drop (2+n)=l.drop n:=by rw[show 2+n=n+1+1 by omega];rfl
theorem lF{α:Type}{a b c:α}{l:List α}{n:Nat}:(a::b::c::l).drop (3+n)=l.drop n:=by rw[show 3+n=n+1+1+1 by omega];rfl
theorem CL{α:Type}{a b:α}{l:List α}{n:Nat}:(a::b::l).take (2+n)=a::b::l.take n:=by rw[show 2+n=n+1+1 by omega];rfl
theorem vG{α:Type}{a b c:α}{l:List α}{n:Nat}:(a::b::c::l).take (3+n)=a::b::c::l.take n:=by rw[show 3+n=n+1+1+1 by omega];rfl
theorem tK{α:Type}{a b c d:α}{l:List α}{n:Nat}:(a::b::c::l).getD (3+n) d=l.getD n d:=by rw[show 3+n=n+1+1+1 by omega];simp
theorem Bb{α:Type}{a b d:α}{l:List α}{n:Nat}:(a::b::l).getD (2+n) d=l.getD n d:=by rw[show 2+n=n+1+1 by omega];simp
theorem Ff{r:List MV}:(MV.int .i64 0::.int .i64 0::.str ⟨#[]⟩::.int .i64 0::.int .i64 0::.str ⟨#[]⟩::.int .i64 0::.int .i64 0::.str ⟨#[]⟩::.int .i64 0::.int .i64 0::.str ⟨#[]⟩ ::
  .int .i64 0::.int .i64 0::.str ⟨#[]⟩::.int .i64 0::.int .i64 0::.str ⟨#[]⟩::.int .i64 0::.int .i64 0::.str ⟨#[]⟩::.int .i64 0::.int .i64 0::.str ⟨#[]⟩::r)=fc f80++r:=rfl
abbrev PA.c(p:PA):List MV:=.int .u32 (p.mask.toNat:Int)::.int .u32 (p.lab.toNat:Int)::fc p.f
abbrev CA.c(c:CA):List MV:=.int .i64 c.id::.int .i64 c.ver::.int .u32 (c.lab.toNat:Int)::fc c.f
abbrev ED.c(e:ED):List MV:=.int .i64 e.kd::.int .i64 e.id::.int .i64 e.gr::.int .u32 (e.p.mask.toNat:Int)::.int .u32 (e.p.lab.toNat:Int)::fc e.p.f
theorem FP{a b:UInt32}:((a.toNat:Int)=(b.toNat:Int))↔a=b:=by
 constructor
 ·intro h;exact UInt32.toNat_inj.1 (by exact_mod_cast h)
 ·intro h;rw[h]
end

section
theorem l6.view{σ:St}{m m':MV}(h:l6 m m'):View σ m m':=by
 cases h with
 | same=>exact .same _
 | junk=>exact .junk _
 | nil e t=>exact .nil e t
 | tight e xs=>exact .tight e xs
theorem bD.nest{n:Nat}{l l1:List (Nat × MV)}{d:List (FuncId × List MV)}{σ:St}{q m:Nat}{t t1:TypeId}{e1:Nat}{pre post ys:List (List MV)}{n1:Nat}(σ2:St)
 (hm:σ m=some (.row t1 e1 ys))(hq:σ q=some (.row t 1 (pre++[.vec e1 m 0 n1]::post)))(hn:n1=ys.length)(h2:σ2.le σ)(h2m:σ2 m=none)(hne:q≠m)
 (hw:∀p,p∈l1→l6 (cC l p.1) p.2):bD ⟨n,l,d⟩ σ ⟨n,l1,d⟩ (σ2.set q (.row t 1 (pre++[.lst e1 ys false]::post))):=by
 subst hn
 have hv:(St.none.set m (.row t1 e1 ys)) m=some (.row t1 e1 ys):=aK _ _ _
 refine bD.tI (St.none.set m (.row t1 e1 ys)) (St.aG (St.none_le _) hm) (fun k o1 hk=>?_) (fun k o hk=>?_) fun p hp=>(hw p hp).view
 ·by_cases h:k=q
  ·subst h
   rw[aK] at hk
   cases hk
   refine⟨_,hq,.inr ⟨t,1,_,_,rfl,rfl,by simp,fun i x x1 hx hx1=>?_⟩⟩
   rcases Nat.lt_trichotomy i pre.length with hi|hi|hi
   ·rw[List.getElem?_append_left hi] at hx hx1
    rw[hx] at hx1;cases hx1
    exact⟨rfl,fun j a b ha hb=>by rw[ha] at hb;cases hb;exact .inl rfl⟩
   ·subst hi
    rw[List.getElem?_append_right (Nat.le_refl _),Nat.sub_self] at hx hx1
    simp only[List.getElem?_cons_zero,Option.some.injEq] at hx hx1
    subst hx;subst hx1
    refine⟨rfl,fun j a b ha hb=>?_⟩
    cases j with
    | zero =>
     simp only[List.getElem?_cons_zero,Option.some.injEq] at ha hb
     subst ha;subst hb
     exact .inr ⟨rfl,.vecAll hv rfl⟩
    | succ j=>simp at ha
   ·rw[List.getElem?_append_right (by omega)] at hx hx1
    obtain⟨j,hj⟩:∃j,i - pre.length=j+1:=⟨i - pre.length - 1,by omega⟩
    rw[hj,List.getElem?_cons_succ] at hx hx1
    rw[hx] at hx1;cases hx1
    exact⟨rfl,fun j a b ha hb=>by rw[ha] at hb;cases hb;exact .inl rfl⟩
  ·rw[aH _ _ _ _ h] at hk
   exact⟨o1,h2 k o1 hk,.inl rfl⟩
 ·by_cases h:k=m
  ·subst h
   by_cases hq':k=q
   ·exact absurd hq'.symm hne
   ·rw[aH _ _ _ _ hq',h2m] at hk;cases hk
  ·exact aH _ _ _ _ h ▸ rfl
theorem aA.pre{P:Program}{g:FuncId}{ms ms':List MV}{σ σ2:St}{Q:MV→St→Prop}(hl:ms.length=ms'.length)(hg:bD ⟨ms.length,iZ 0 ms,[]⟩ σ ⟨ms.length,iZ 0 ms',[]⟩ σ2)(h:aA P g ms' σ2 Q):aA P g ms σ Q:=by
 refine⟨h.1,fun Φ w vs hi hr=>?_⟩
 obtain⟨-,hg⟩:=hg
 obtain⟨Φ1,i1,r1,s1⟩:=hg Φ w vs hi ⟨hr.1,fun t=>by
  simp only[FR.get,nI,Nat.sub_zero,Nat.zero_le,if_true]
  cases hm:ms[t]? with
  | none=>exact .junk _
  | some m=>exact hr.2 t m hm⟩
 refine(h.2 Φ1 w vs i1 ⟨hr.1.trans hl,fun i m hm=>?_⟩).mono ?_
 ·have:=r1.2 i
  simp only[FR.get,nI,Nat.sub_zero,Nat.zero_le,if_true,hm] at this
  exact this
 ·rintro e w' ⟨v,mv,σ',Φ',rfl,q1,q2,q3,hq⟩
  exact⟨v,mv,σ',Φ',rfl,q1,q2,s1.trans q3,hq⟩
theorem yA:∀{ms:List MV} {i:Nat} {p:Nat × MV},p∈iZ i ms→∃j,p.1=i+j∧ms[j]?=some p.2
 | [],_,_,h=>by simp[iZ] at h
 | m::ms,i,p,h=>by
  rw[iZ,List.mem_cons] at h
  rcases h with rfl|h
  ·exact⟨0,rfl,rfl⟩
  ·obtain⟨j,h1,h2⟩:=yA h
   exact⟨j+1,by omega,by simpa using h2⟩
theorem KM{P:Program}{g:FuncId}{ms:List MV}(ms':List MV){σ:St}(σv σ2:St){r:MV}{k:MV→St→Prop}(h:aA P g ms' St.none fun v _=>v=r)(hle:σv.le σ)(h2:σ2.le σ)(hd:∀k o,σ2 k=some o→σv k=none)
 (hl:ms.length=ms'.length)(hv:∀(i:Nat) (m m':MV),ms[i]?=some m→ms'[i]?=some m'→View σv m m')(hk:R (bR r σ2 k)):R (dA P g ms σ k):=by
 refine aA.pre hl (bD.freeze σv hle h2 hd fun p hp=>?_) (aL h hk)
 obtain⟨j,h1,h3⟩:=yA hp
 rw[h1,nI]
 simp only[Nat.zero_add,Nat.zero_le,if_true,Nat.sub_zero]
 have hj:=(List.getElem?_eq_some_iff.1 h3).1
 obtain⟨m,hm⟩:∃m,ms[j]?=some m:=⟨ms[j]'(by omega),by simp⟩
 rw[hm]
 exact hv j m _ hm h3
theorem Ij{P:Program}{g:FuncId}{ms:List MV}(ms':List MV){σ:St}(l:Nat){o:aY}{r:MV}{k:MV→St→Prop}(h:aA P g ms' St.none fun v _=>v=r)(ho:σ l=some o)
 (hl:ms.length=ms'.length)(hv:∀(i:Nat) (m m':MV),ms[i]?=some m→ms'[i]?=some m'→View (St.none.set l o) m m')(hk:R (bR r (σ.del l) k)):R (dA P g ms σ k) :=
 KM ms' (St.none.set l o) (σ.del l) h (St.aG (St.none_le _) ho) (fun j q hq=>by
  simp only[St.del] at hq
  split at hq
  ·cases hq
  ·exact hq) (fun j q hq=>by
  simp only[St.del] at hq
  split at hq
  ·cases hq
  ·exact aH _ _ _ _ (by assumption)) hl hv hk
theorem rJ{σ:St}{a a':MV}(h:View σ a a'):∀(i:Nat) (m m':MV),[a][i]?=some m→[a'][i]?=some m'→View σ m m':=fun i m m' h1 h2=>by
 match i,h1,h2 with
 | 0,h1,h2=>simp only[List.getElem?_cons_zero,Option.some.injEq] at h1 h2;subst h1 h2;exact h
theorem nS{σ:St}{a b a' b':MV}(h:View σ a a')(k:View σ b b'):∀(i:Nat) (m m':MV),[a,b][i]?=some m→[a',b'][i]?=some m'→View σ m m':=fun i m m' h1 h2=>by
 match i,h1,h2 with
 | 0,h1,h2=>simp only[List.getElem?_cons_zero,Option.some.injEq] at h1 h2;subst h1 h2;exact h
 | 1,h1,h2=>simp only[List.getElem?_cons_succ,List.getElem?_cons_zero,Option.some.injEq] at h1 h2;subst h1 h2;exact k
end

section
open Go.Shelf
def n4:Go.Shelf.Ren:=⟨fun|7=>179|10=>202|n=>n,fun|23=>143|26=>3|3=>42|28=>189|0=>0|27=>188|33=>191|4=>4|n=>n,fun|n=>n⟩
theorem GH:Go.Proofs.SlLaysZI.n7 Tryz.prog n4:={
  mixed:=by kernel_rfl
  f7:=⟨Tryz.f179.name,by decide,Tryz.func179.trans (congrArg some (by kernel_rfl))⟩
  f10:=⟨Tryz.f202.name,by decide,Tryz.func202.trans (congrArg some (by kernel_rfl))⟩
  t0:=Tryz.underlying0
  a0:=Tryz.isAgg0
  z0:=Tryz.sizeOf0
  v0:=Tryz.zeroValue0
  t4:=Tryz.underlying4
  a4:=Tryz.isAgg4
  z4:=Tryz.sizeOf4
  v4:=Tryz.zeroValue4
  t23:=Tryz.underlying143
  a23:=Tryz.isAgg143
  z23:=Tryz.sizeOf143
  v23:=Tryz.zeroValue143
  t26:=Tryz.underlying3
  a26:=Tryz.isAgg3
  z26:=Tryz.sizeOf3
  v26:=Tryz.zeroValue3
  t27:=Tryz.underlying188
  a27:=Tryz.isAgg188
  z27:=Tryz.sizeOf188
  v27:=Tryz.zeroValue188
  t28:=Tryz.underlying189
  a28:=Tryz.isAgg189
  z28:=Tryz.sizeOf189
  v28:=Tryz.zeroValue189
  t33:=Tryz.underlying191
  a33:=Tryz.isAgg191
  z33:=Tryz.sizeOf191
  v33:=Tryz.zeroValue191 }
def iX:Go.Shelf.Ren:=⟨fun|6=>178|8=>139|9=>201|11=>180|13=>217|12=>216|23=>237|24=>238|14=>229|15=>230|16=>231|17=>232|18=>233|19=>234|20=>141|21=>235|22=>236|25=>244|26=>245|27=>246|28=>247|29=>248|30=>183|31=>251|n=>n,fun|26=>3|28=>189|24=>46|0=>0|3=>3|37=>177|48=>28|50=>255|4=>4|40=>249|39=>248|45=>161|5=>5|9=>9|51=>257|55=>261|57=>265|58=>266|33=>191|n=>n,fun|n=>n⟩
theorem Bp:Go.Proofs.SlLaysZI.n6 Tryz.prog iX:={
  mixed:=by kernel_rfl
  f6:=⟨Tryz.f178.name,by decide,Tryz.func178.trans (congrArg some (by kernel_rfl))⟩
  f8:=⟨Tryz.f139.name,by decide,Tryz.func139.trans (congrArg some (by kernel_rfl))⟩
  f11:=⟨Tryz.f180.name,by decide,Tryz.func180.trans (congrArg some (by kernel_rfl))⟩
  t0:=Tryz.underlying0
  a0:=Tryz.isAgg0
  z0:=Tryz.sizeOf0
  v0:=Tryz.zeroValue0
  t24:=Tryz.underlying46
  a24:=Tryz.isAgg46
  z24:=Tryz.sizeOf46
  v24:=Tryz.zeroValue46
  t26:=Tryz.underlying3
  a26:=Tryz.isAgg3
  z26:=Tryz.sizeOf3
  v26:=Tryz.zeroValue3
  t28:=Tryz.underlying189
  a28:=Tryz.isAgg189
  z28:=Tryz.sizeOf189
  v28:=Tryz.zeroValue189
  i26:=by kernel_rfl }
def v8:Go.Shelf.Ren:=⟨fun|5=>201|8=>217|7=>216|19=>237|20=>238|10=>229|11=>230|12=>231|13=>232|14=>233|15=>234|16=>141|17=>235|18=>236|30=>244|31=>245|32=>246|33=>247|34=>248|35=>183|40=>251|n=>n,fun|23=>46|25=>3|3=>3|32=>177|22=>46|0=>0|44=>28|46=>255|4=>4|36=>249|35=>248|41=>161|5=>5|9=>9|53=>257|57=>261|63=>265|64=>266|n=>n,fun|n=>n⟩
theorem xY:Go.Proofs.SlLaysM.n5 Tryz.prog v8:={
  mixed:=by kernel_rfl
  f5:=⟨Tryz.f201.name,by decide,Tryz.func201.trans (congrArg some (by kernel_rfl))⟩
  f7:=⟨Tryz.f216.name,by decide,Tryz.func216.trans (congrArg some (by kernel_rfl))⟩
  f8:=Tryz.func217.trans (congrArg some (by kernel_rfl))
  f10:=⟨Tryz.f229.name,by decide,Tryz.func229.trans (congrArg some (by kernel_rfl))⟩
  f11:=⟨Tryz.f230.name,by decide,Tryz.func230.trans (congrArg some (by kernel_rfl))⟩
  f12:=⟨Tryz.f231.name,by decide,Tryz.func231.trans (congrArg some (by kernel_rfl))⟩
  f13:=⟨Tryz.f232.name,by decide,Tryz.func232.trans (congrArg some (by kernel_rfl))⟩
  f14:=⟨Tryz.f233.name,by decide,Tryz.func233.trans (congrArg some (by kernel_rfl))⟩
  f15:=⟨Tryz.f234.name,by decide,Tryz.func234.trans (congrArg some (by kernel_rfl))⟩
  f16:=⟨Tryz.f141.name,by decide,Tryz.func141.trans (congrArg some (by kernel_rfl))⟩
  f17:=⟨Tryz.f235.name,by decide,Tryz.func235.trans (congrArg some (by kernel_rfl))⟩
  f18:=⟨Tryz.f236.name,by decide,Tryz.func236.trans (congrArg some (by kernel_rfl))⟩
  f19:=Tryz.func237.trans (congrArg some (by kernel_rfl))
  f20:=Tryz.func238.trans (congrArg some (by kernel_rfl))
  f30:=⟨Tryz.f244.name,by decide,Tryz.func244.trans (congrArg some (by kernel_rfl))⟩
  f31:=Tryz.func245.trans (congrArg some (by kernel_rfl))
  f32:=Tryz.func246.trans (congrArg some (by kernel_rfl))
  f33:=⟨Tryz.f247.name,by decide,Tryz.func247.trans (congrArg some (by kernel_rfl))⟩
  f34:=⟨Tryz.f248.name,by decide,Tryz.func248.trans (congrArg some (by kernel_rfl))⟩
  f35:=⟨Tryz.f183.name,by decide,Tryz.func183.trans (congrArg some (by kernel_rfl))⟩
  f40:=⟨Tryz.f251.name,by decide,Tryz.func251.trans (congrArg some (by kernel_rfl))⟩
  t0:=Tryz.underlying0
  a0:=Tryz.isAgg0
  z0:=Tryz.sizeOf0
  v0:=Tryz.zeroValue0
  t3:=Tryz.underlying3
  a3:=Tryz.isAgg3
  z3:=Tryz.sizeOf3
  v3:=Tryz.zeroValue3
  t4:=Tryz.underlying4
  a4:=Tryz.isAgg4
  z4:=Tryz.sizeOf4
  v4:=Tryz.zeroValue4
  t5:=Tryz.underlying5
  a5:=Tryz.isAgg5
  z5:=Tryz.sizeOf5
  v5:=Tryz.zeroValue5
  t9:=Tryz.underlying9
  a9:=Tryz.isAgg9
  z9:=Tryz.sizeOf9
  v9:=Tryz.zeroValue9
  t22:=Tryz.underlying46
  a22:=Tryz.isAgg46
  z22:=Tryz.sizeOf46
  v22:=Tryz.zeroValue46
  t23:=Tryz.underlying46
  a23:=Tryz.isAgg46
  z23:=Tryz.sizeOf46
  v23:=Tryz.zeroValue46
  t25:=Tryz.underlying3
  a25:=Tryz.isAgg3
  z25:=Tryz.sizeOf3
  v25:=Tryz.zeroValue3
  t32:=Tryz.underlying177
  a32:=Tryz.isAgg177
  z32:=Tryz.sizeOf177
  v32:=Tryz.zeroValue177
  t35:=Tryz.underlying248
  a35:=Tryz.isAgg248
  z35:=Tryz.sizeOf248
  v35:=Tryz.zeroValue248
  t36:=Tryz.underlying249
  a36:=Tryz.isAgg249
  z36:=Tryz.sizeOf249
  v36:=Tryz.zeroValue249
  t41:=Tryz.underlying161
  a41:=Tryz.isAgg161
  z41:=Tryz.sizeOf161
  v41:=Tryz.zeroValue161
  t44:=Tryz.underlying28
  a44:=Tryz.isAgg28
  z44:=Tryz.sizeOf28
  v44:=Tryz.zeroValue28
  t46:=Tryz.underlying255
  a46:=Tryz.isAgg255
  z46:=Tryz.sizeOf255
  v46:=Tryz.zeroValue255
  t53:=Tryz.underlying257
  a53:=Tryz.isAgg257
  z53:=Tryz.sizeOf257
  v53:=Tryz.zeroValue257
  t57:=Tryz.underlying261
  a57:=Tryz.isAgg261
  z57:=Tryz.sizeOf261
  v57:=Tryz.zeroValue261
  t63:=Tryz.underlying265
  a63:=Tryz.isAgg265
  z63:=Tryz.sizeOf265
  v63:=Tryz.zeroValue265
  t64:=Tryz.underlying266
  a64:=Tryz.isAgg266
  z64:=Tryz.sizeOf266
  v64:=Tryz.zeroValue266 }
end

section
open Go.MapKept Go.RowKit Go.Maps Go.Sort Go.Shelf
open Go.WideElems (Fit rd rg)
def Nf:MV→Int
 | .int _ n=>n
 | _=>0
def gT(es:List (MV × MV)):List Int:=es.map fun p=>Nf p.1
def mV{H:Type}(_:Value):Option (DataW H × List MemPlace):=some (.lit (.bool true),[])
theorem Ma{H:Type}{P:Program}{Φ:Phi}{w:World}{l:Nat}{es:List (MV × MV)}{k:TypeId}(h:dC Φ w l (.mp es))(hk:P.underlying k=some (.int .i64))
 (he:(es.all fun p=>isK .i64 p.1)=true)(hwf:∀n∈gT es,(Lit.int .i64 n).wf=true)(hl:es.length≤maxLen) :
  ∃(p:Place) (b:Nat) (D0:DataW H),Φ.obj l=some p∧p.blk=some b∧w.ownsMap P k mV b es.length D0∧(intKeys D0).Perm (gT es)∧Maps.size D0=es.length:=by
 obtain⟨p,R,c,clock,hp,hR,hh,hs,hst,hrel⟩:=h.Fw
 have key:∀(i:Nat) (e:MapEntry),c.toList[i]?=some e→Go.WideElems.rd (H:=H) P k mV e=some (Lit.int .i64 ((gT es).getD i 0),.lit (.bool true)):=fun i e hi=>by
  have hlt:i<es.length:=by
   have:=(List.getElem?_eq_some_iff.1 hi).1
   rw[←hs];simpa using this
  obtain⟨e',q1,q2,_⟩:=hrel i es[i] (List.getElem?_eq_getElem hlt)
  rw[hi] at q1;cases q1
  have hik:=List.all_eq_true.1 he es[i] (List.getElem_mem hlt)
  obtain⟨n,hn⟩:=zL hik
  rw[hn] at q2
  have hkn:(gT es).getD i 0=n:=by
   simp[gT,List.getD_eq_getElem?_getD,List.getElem?_eq_getElem hlt,hn,Nf]
  have hw:=hwf n (by
   rw[gT,List.mem_map]
   exact⟨es[i],List.getElem_mem hlt,by rw[hn];rfl⟩)
  rw[hkn]
  simp[Go.WideElems.rd,mV,q2.aX,keyOf,mapKey,hk,hw]
 have hF:Fit (H:=H) P k mV c clock:=⟨by rw[hs];exact hl,hst,fun x hx=>by
  obtain⟨i,hi,rfl⟩:=List.mem_iff_getElem.1 hx
  exact⟨_,key i _ (List.getElem?_eq_getElem hi)⟩⟩
 have hmap:(c.toList.map (rg (H:=H) P k mV)).map (fun q=>Go.intOf q.1)=gT es:=by
  refine List.ext_getElem? fun i=>?_
  simp only[List.map_map,List.getElem?_map]
  rcases Nat.lt_or_ge i es.length with hi|hi
  ·have hc:i<c.toList.length:=by simpa[hs] using hi
   rw[List.getElem?_eq_getElem hc]
   have h1:=key i _ (List.getElem?_eq_getElem hc)
   simp only[Option.map_some,Function.comp,Go.WideElems.rg_of h1]
   have h2:i<(gT es).length:=by simpa[gT] using hi
   simp[Go.intOf,List.getD_eq_getElem?_getD,List.getElem?_eq_getElem h2]
  ·rw[List.getElem?_eq_none (by simpa[hs] using hi),List.getElem?_eq_none (by simpa[gT] using hi)]
   rfl
 refine⟨p,R,.map ((c.toList.map (rg P k mV)).foldr DataW.insert []),hp,hR,⟨c,clock,hh,hF,by omega,rfl⟩,?_,?_⟩
 ·show(((c.toList.map (rg P k mV)).foldr DataW.insert []).map fun q=>Go.intOf q.1).Perm _
  rw[←hmap]
  exact(Go.WideShapes.sorted_perm _).map _
 ·show((c.toList.map (rg P k mV)).foldr DataW.insert []).length=_
  rw[length_sorted];simp[hs]
theorem Inv.Mh{Φ:Phi}{w w':World}{σ:St}(hi:Inv Φ w σ)(hi':Inv Φ w' σ)(st:Step Φ σ w Φ σ w')(g:Nat)(hg:w.heap.size≤g) :
  Inv (Φ.o7 w' (fun k=>k=g)) w' σ∧Step Φ σ w (Φ.o7 w' (fun k=>k=g)) σ w':=by
 have hle:=sR Φ w' (fun k=>k=g)
 refine⟨⟨fun l o h=>(hi'.own l o h).mono hle (fun _ _ _ _=>rfl),hi'.inj,fun a v hv=>?_,fun l o p R a v hl hp hR hv=>?_,hi.fresh.1,fun q i v h=>hle.snap _ _ (hi.fresh.2.1 q i v h),hi.fresh.2.2.mono hle.snap⟩,
  ⟨hle,st.os,st.tape,st.output,st.drawn,st.size,st.block,fun a v hv=>?_,st.locs,st.ownd⟩⟩
 ·rcases eP hv with q|⟨_,q⟩
  ·exact hi'.snap a v q
  ·exact q
 ·rcases eP hv with q|⟨q,_⟩
  ·exact hi'.apart l o p R a v hl hp hR q
  ·intro e
   obtain⟨p',hp',hlt⟩:=(hi.own l o hl).place
   rw[show Φ.obj l=some p from hp] at hp'
   cases hp'
   have:=hlt R hR
   have q:R=g:=by rw[←e];exact q
   omega
 ·rcases eP hv with q|⟨q,_⟩
  ·exact .inl q
  ·have q:a.block=g:=q
   exact .inr (.inl (by omega))
theorem CI{P:Program}{ρ ρk:Ren}(L6:SlLaysZI.n6 P ρ)(L10:SlLaysZI.n10 P ρk)(hs:∀m,AnyZI.SortsIn P ρ Fence.wide m)
 (e9:∀args w,(callFunc (ρ.f 9) args).run P w=.ok (.enter (ρ.f 9) args) w)(eg:∀args w,(callFunc (ρk.f 10) args).run P w=.ok (.enter (ρk.f 10) args) w)(hent:Enters P (ρ.f 6))
 {l l2:Nat}{tm:TypeId}{es:List (MV × MV)}(hne:l≠l2)(he:(es.all fun p=>isK .i64 p.1)=true)(hwf:∀n∈gT es,(Lit.int .i64 n).wf=true)(hl:es.length≤1000000) :
  aA P (ρ.f 6) [.fn (.func (ρk.f 10)) [] [.ptr l 0 0]] ((St.none.set l (.row tm 1 [[.mapv l2]])).set l2 (.mp es)) fun r σ' =>
   (∃ns:List Int,ns.Perm (gT es)∧ns.Pairwise (fun a b=>a≤b)∧r=.lst 1 (ns.map fun n=>[.int .i64 n]) false)∧σ'=(St.none.set l (.row tm 1 [[.mapv l2]])).set l2 (.mp es):=by
 obtain⟨σ0,hσ0⟩:∃σ0:St,(St.none.set l (.row tm 1 [[.mapv l2]])).set l2 (.mp es)=σ0:=⟨_,rfl⟩
 have h2:σ0 l2=some (.mp es):=by rw[←hσ0];exact aK _ _ _
 have h1:σ0 l=some (.row tm 1 [[.mapv l2]]):=by rw[←hσ0];simp[St.set,hne]
 rw[hσ0]
 refine⟨hent,fun Φ w vs hi hr=>?_⟩
 obtain⟨first,cap,e0,r1,r2⟩:=(hr.2 0 _ rfl).lL
 have hf0:first=#[]:=by have:=r1.1;simp at this;exact this
 subst hf0
 have hcs:cap.size=1:=r2.1
 obtain⟨p,R,hp,hR,hc⟩:=(r2.2 0 _ rfl).gK
 have hbo:p.bo=0:=hi.fresh.1.2 l p hp
 have hcap:cap=#[.pointer (some ⟨R,0,none⟩)]:=by
  refine Array.ext (by simpa using hcs) fun i q1 q2=>?_
  have hi0:i=0:=by omega
  subst hi0
  have:=hc
  rw[hbo] at this
  simp[Array.getD,q1] at this
  exact this
 have hvs:vs=#[.func (.func (ρk.f 10)) #[] #[.pointer (some ⟨R,0,none⟩)]]:=by
  have hz:=hr.1
  simp at hz
  refine Array.ext (by simpa using hz) fun i q1 q2=>?_
  have hi0:i=0:=by omega
  subst hi0
  have:=e0
  rw[hcap] at this
  simp[Array.getD,q1] at this
  exact this
 subst hvs
 -- the map
 obtain⟨p2,b,D0,hp2,hb2,hown,hperm,hsz⟩:=Ma (H:=Unit) (P:=P) (k:=ρk.t 26) (hi.own l2 _ h2) L10.t26 he hwf (Nat.le_trans hl (by decide))
 -- the box
 obtain⟨p',hp',hpe,hlen,hmax,hx,hmatch⟩:=hi.own l _ h1
 rw[hp] at hp'
 cases hp'
 rw[hR] at hmatch
 obtain⟨c,fz,hheap,_,_,hcell⟩:=hmatch
 obtain⟨_,v,hv,hrel⟩:=hcell 0 _ 0 _ rfl rfl
 obtain⟨p3,R3,hp3,hR3,rfl⟩:=hrel.mL
 rw[hp2] at hp3
 cases hp3
 rw[hb2] at hR3
 cases hR3
 have hRlt:R<w.heap.size:=by
  obtain⟨q,_⟩:=Array.getElem?_eq_some_iff.1 hheap;exact q
 have hcl:w.cell? ⟨R,0,none⟩=some (.map (some b)):=by
  simp only[World.cell?,hheap]
  rw[hbo] at hv
  simpa using hv
 have hseq:=AnyZI.keys_gives (H:=Unit) (ρ:=ρk) L10 Fence.wide 2 trivial rfl (by omega) R b es.length D0 w hRlt hcl hown
 have cS:=AnyZI.sorted_in L6 Fence.wide 5 trivial trivial trivial trivial rfl (by omega) (hs _) e9 (ρk.f 10) _ trivial eg _ (Maps.size D0) (by rw[hsz];exact Nat.le_trans hl (by decide)) (by rw[hsz];omega) w hseq
 refine(callsIn_wide.1 cS).mono ?_
 rintro e w' ⟨v,ss,rfl,hS,hrow,hnil,hb⟩
 obtain⟨i2,s2⟩:=hi.grow (w':=w') hb.os hb.tape hb.output (by simp[drw,DR]) hb.size hb.block
 have hpm:(ss.mergeSort (fun x y=>decide (x≤y))).Perm (gT es):=(List.mergeSort_perm ss _).trans (hS.trans hperm)
 have hpw:(ss.mergeSort (fun x y=>decide (x≤y))).Pairwise (fun a b=>a≤b):=(List.pairwise_mergeSort (le:=fun x y:Int=>decide (x≤y)) (fun a b c=>by simp;omega) (fun a b=>by simp;omega) ss).imp (fun h=>by simpa using h)
 generalize hns:ss.mergeSort (fun x y=>decide (x≤y))=ns at *
 have hnl:ns.length=ss.length:=by rw[←hns];exact List.length_mergeSort ss
 rcases hrow.2 with⟨rfl,hz⟩|⟨g,capn,cur,rfl,hbase,hgb,q1,q2,q3,q4⟩
 ·have hn0:ns=[]:=List.eq_nil_of_length_eq_zero (by omega)
  subst hn0
  exact⟨_,_,σ0,Φ,rfl,.lstn 1 false,i2,s2,⟨[],hpm,hpw,rfl⟩,rfl⟩
 ·obtain⟨i3,s3⟩:=hi.Mh i2 s2 g hbase
  have h0:0<ss.length:=by
   rcases Nat.eq_zero_or_pos ss.length with h|h
   ·have:=hnil.2 (List.eq_nil_of_length_eq_zero h)
    cases this
   ·exact h
  refine⟨_,.lst 1 (ns.map fun n=>[.int .i64 n]) false,σ0,_,rfl,?_,i3,s3,⟨ns,hpm,hpw,rfl⟩,rfl⟩
  have hat:∀i,i<ns.length→w'.cell? ⟨g,i,none⟩=some (.int .i64 (ns.getD i 0)):=fun i hi'=>by
   have e1:(cur.toList.take (ss.length * 1))[i]?=(ns.map encZ)[i]?:=by rw[q4]
   rw[List.getElem?_take,if_pos (by omega),List.getElem?_map,List.getElem?_eq_getElem hi'] at e1
   simp only[World.cell?,hgb]
   simp at e1
   simp[e1,List.getD_eq_getElem?_getD,List.getElem?_eq_getElem hi',encZ]
  have hsn:∀i,i<ns.length→(Φ.o7 w' (fun k=>k=g)).snap ⟨g,i,none⟩=some (.int .i64 (ns.getD i 0)):=fun i hi'=>by
   simp only[Phi.o7]
   split
   ·rename_i u hu
    have:=World.block_lt_of_cell? w _ (hi.snap _ _ hu)
    simp only at this
    omega
   ·simp[hat i hi']
  refine Rel.lst (vs:=fun i _=>.int .i64 (ns.getD i 0)) (by simpa using hnl) h0 q1 q2 (fun h=>by cases h) (fun i x hx=>?_) (fun i x j m hx hm=>?_) (fun i x j m hx hm=>?_)
  all_goals
   rw[List.getElem?_map,Option.map_eq_some_iff] at hx
   obtain⟨n,hn,rfl⟩:=hx
  ·rfl
  ·have hin:=(List.getElem?_eq_some_iff.1 hn).1
   have hj:j=0:=by
    have:=(List.getElem?_eq_some_iff.1 hm).1
    simpa using this
   subst hj
   simp at hm
   subst hm
   exact⟨rfl,by simpa using hsn i hin⟩
  ·have hj:j=0:=by
    have:=(List.getElem?_eq_some_iff.1 hm).1
    simpa using this
   subst hj
   simp at hm
   subst hm
   simp[List.getD_eq_getElem?_getD,hn]
   exact .int _ _
theorem Ny(m:Nat):AnyZI.SortsIn Tryz.prog iX Fence.wide m :=
 ⟨fun blk off cap ss W hH hblk hsz=>callsIn_wide.2 (AnyM.slices_Sort_int xY blk off cap ss W hH hblk hsz),
  fun p cap W=>callsIn_wide.2 (AnyM.slices_Sort_int_none xY p cap W)⟩
theorem AG{l l2:Nat}{es:List (MV × MV)}(hne:l≠l2)(he:(es.all fun p=>isK .i64 p.1)=true)(hwf:∀n∈gT es,(Lit.int .i64 n).wf=true)(hl:es.length≤1000000) :
  aA Tryz.prog 178 [.fn (.func 202) [] [.ptr l 0 0]] ((St.none.set l (.row 143 1 [[.mapv l2]])).set l2 (.mp es)) fun r σ' =>
   (∃ns:List Int,ns.Perm (gT es)∧ns.Pairwise (fun a b=>a≤b)∧r=.lst 1 (ns.map fun n=>[.int .i64 n]) false)∧σ'=(St.none.set l (.row 143 1 [[.mapv l2]])).set l2 (.mp es) :=
 CI (ρ:=iX) (ρk:=n4) Bp { GH with } Ny (enters_of Tryz.func201 (by kernel_rfl) rfl) (enters_of Tryz.func202 (by kernel_rfl) rfl) ⟨_,Tryz.func178,rfl,rfl⟩ hne he hwf hl
end
end Go.Proofs.YtaojijkdamfbnaaGreatDoor
