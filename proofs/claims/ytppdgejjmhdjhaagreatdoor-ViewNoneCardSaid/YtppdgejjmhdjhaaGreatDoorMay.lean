/- Parts of the proof, joined; conditions: those that its theorems name. -/
import Derived.Test.YtppdgejjmhdjhaaGreatDoorMao
import Derived.Test.YtppdgejjmhdjhaaGreatDoorMax
import Derived.OpenShut
import Derived.ChangeSame
import Derived.Carry
import Derived.RowKit
import Derived.JoinedOf
import Derived.JoinedAt
import Derived.Lib.LazyBuf
set_option linter.unusedVariables false
set_option linter.unusedSimpArgs false
set_option maxHeartbeats 4000000
namespace Go.Proofs.YtppdgejjmhdjhaaGreatDoor
section
set_option maxRecDepth 100000
set_option maxHeartbeats 4000000
abbrev Kk(a:Int):Prop:=-9223372036854775808≤a∧a≤9223372036854775807
end

section
open Go.ChangeShapes Go.WideShapes Go.RowKit
def jS(P:Program):List (Nat × TypeId)→Nat→Nat→Bool
 | [],o,n=>o==n
 | (off,ft)::r,o,n=>off==o&&jS P r (o+(td P ft).size) n
def shp(P:Program):Nat→TypeId→Bool
 | 0,_=>false
 | n+1,t=>(td P t).ok&&match (td P t).k with
  | .bool|.int _|.str=>(td P t).size==1
  | .slice e=>(td P t).size==1&&decide (0<(td P e).size)&&(td P e).ok&&shp P n e
  | .struct fs=>jS P fs 0 (td P t).size&&fs.all fun f=>(td P f.2).ok&&shp P n f.2
  | .array m e=>(td P t).size==m * (td P e).size&&(td P e).ok&&shp P n e
  | _=>false
def CT(P:Program):Nat→TypeId→List MV→Prop
 | 0,_,_=>False
 | n+1,t,cs=>match (td P t).k with
  | .bool=>∃b,cs=[.bool b]
  | .int k=>∃v,cs=[.int k v]∧k.min≤v∧v≤k.max
  | .str=>∃s:ByteArray,cs=[.str s]∧s.size≤maxLen
  | .slice e=>∃xs,cs=[.lst (td P e).size xs false]∧xs.length≤maxLen∧∀x,x∈xs→CT P n e x
  | .struct fs=>cs.length=(td P t).size∧∀f,f∈fs→CT P n f.2 ((cs.drop f.1).take (td P f.2).size)
  | .array m e=>cs.length=(td P t).size∧∀i,i<m→CT P n e ((cs.drop (i * (td P e).size)).take (td P e).size)
  | _=>False
def AT(P:Program)(n:Nat)(t:TypeId)(m:MV):Prop:=if (td P t).k.isAgg=true then ∃cs,m=.agg cs∧CT P n t cs else CT P n t [m]
def oV(w:World):Phi:=⟨fun a=>w.cell? a,fun _=>none,0⟩
def JA(w:World):Prop:=(∀g i v,GT g i=some v→w.cell? ⟨g,i,none⟩=some v)∧∀g,g∈GI→∃m,w.cell? ⟨g,0,none⟩=some (.int .i64 m)
theorem Ln(w:World)(hG:JA w):Inv (oV w) w St.none where
 own:=fun l o h=>by simp[St.none] at h
 inj:=fun l l' o o' p p' R h=>by simp[St.none] at h
 snap:=fun a v h=>h
 apart:=fun l o p R a v h=>by simp[St.none] at h
 fresh:=⟨⟨⟨0,fun _ _=>rfl⟩,fun _ _ h=>by cases h⟩,hG⟩
def mY(Φ:Phi)(cs:List Value)(ms:List MV):Prop:=cs.length=ms.length∧∀(i:Nat) v m,cs[i]?=some v→ms[i]?=some m→m.aF=true∧Rel Φ v m
theorem mY.one{Φ:Phi}{v:Value}{m:MV}(hc:m.aF=true)(h:Rel Φ v m):mY Φ [v] [m] :=
 ⟨rfl,fun i v' m' h1 h2=>by
  cases i with
  | zero=>simp at h1 h2;subst h1 h2;exact⟨hc,h⟩
  | succ i=>simp at h1⟩
theorem mY.app{Φ:Phi}{c1 c2:List Value}{m1 m2:List MV}(h1:mY Φ c1 m1)(h2:mY Φ c2 m2):mY Φ (c1++c2) (m1++m2) :=
 ⟨by simp[h1.1,h2.1],fun i v m hv hm=>by
  rw[List.getElem?_append] at hv hm
  rw[h1.1] at hv
  split at hv<;>rename_i hi
  ·rw[if_pos hi] at hm;exact h1.2 i v m hv hm
  ·rw[if_neg hi] at hm;exact h2.2 _ v m hv hm⟩
section
variable {H:Type} {enc:TypeId × Value→H} {P:Program} {w:World} {base:Nat} {spare:Nat→Bool} {held:Bool}
theorem Hw{t:TypeId}(h:(td P t).ok=true):∃i d,P.info? t=some i∧P.underlying t=some d∧(td P t).size=P.cellsOf t∧(td P t).k=mS d:=by
 obtain⟨i,d,h1,h2,h3,h4,h5⟩:=bO h
 exact⟨i,d,h1,h2,by rw[h3];simp[Program.cellsOf,h1],h5⟩
theorem i6{t:TypeId}(h:(td P t).ok=true):P.cellsOf t=(td P t).size:=by
 obtain⟨_,_,_,_,h,_⟩:=Hw h
 exact h.symm
theorem kK{Φ:Phi}{n:Nat}{cs:List Value}{size:Nat}(hlen:cs.length=size):∀(fs:List (Nat × TypeId)) (o:Nat),o≤size→jS P fs o size=true →
  (∀f,f∈fs→∃ms,mY Φ ((cs.drop f.1).take (td P f.2).size) ms∧CT P n f.2 ms)→(∀f,f∈fs→∀ms,CT P n f.2 ms→ms.length=(td P f.2).size) →
  ∃ms,mY Φ (cs.drop o) ms∧∀f,f∈fs→o≤f.1∧CT P n f.2 ((ms.drop (f.1 - o)).take (td P f.2).size)
 | [],o,ho,ht,_,_=>by
  simp only[jS,beq_iff_eq] at ht
  refine⟨[],?_,fun f h=>by cases h⟩
  rw[ht,←hlen,List.drop_length]
  exact⟨rfl,fun i v m h=>by simp at h⟩
 | (off,ft)::r,o,ho,ht,hf,hl=>by
  simp only[jS,Bool.and_eq_true,beq_iff_eq] at ht
  obtain⟨rfl,ht⟩:=ht
  obtain⟨m1,r1,c1⟩:=hf (off,ft) (List.mem_cons_self ..)
  have e1:=hl (off,ft) (List.mem_cons_self ..) m1 c1
  simp only at r1 c1 e1
  have hle:off+(td P ft).size≤size:=by
   have:=r1.1
   simp only[List.length_take,List.length_drop,hlen] at this
   omega
  obtain⟨m2,r2,c2⟩:=kK hlen r (off+(td P ft).size) hle ht (fun f h=>hf f (List.mem_cons_of_mem _ h)) (fun f h=>hl f (List.mem_cons_of_mem _ h))
  refine⟨m1++m2,?_,fun f h=>?_⟩
  ·have:cs.drop off=(cs.drop off).take (td P ft).size++cs.drop (off+(td P ft).size):=by
    rw[←List.drop_drop,List.take_append_drop]
   rw[this]
   exact r1.app r2
  ·rcases List.mem_cons.1 h with rfl|h
   ·refine⟨Nat.le_refl _,?_⟩
    simp only[Nat.sub_self,List.drop_zero]
    rw[List.take_append_of_le_length (by omega),List.take_of_length_le (by omega)]
    exact c1
   ·obtain⟨h1,h2⟩:=c2 f h
    refine⟨by omega,?_⟩
    have:(m1++m2).drop (f.1 - off)=m2.drop (f.1 - (off+(td P ft).size)):=by
     rw[List.drop_append,List.drop_eq_nil_of_le (by omega),List.nil_append]
     congr 1
     omega
    rw[this]
    exact h2
theorem Fp:∀(n:Nat) (t:TypeId) (cs:List MV),shp P n t=true→CT P n t cs→cs.length=(td P t).size
 | 0,_,_,h,_=>by cases h
 | n+1,t,cs,h,hc=>by
  simp only[shp,Bool.and_eq_true] at h
  obtain⟨_,h⟩:=h
  simp only[CT] at hc
  split at hc
  ·rename_i hk;rw[hk] at h;simp only[beq_iff_eq] at h;obtain⟨b,rfl⟩:=hc;exact h.symm
  ·rename_i hk;rw[hk] at h;simp only[beq_iff_eq] at h;obtain⟨b,rfl,_⟩:=hc;exact h.symm
  ·rename_i hk;rw[hk] at h;simp only[beq_iff_eq] at h;obtain⟨b,rfl,_⟩:=hc;exact h.symm
  ·rename_i hk;rw[hk] at h;simp only[Bool.and_eq_true,beq_iff_eq] at h;obtain⟨b,rfl,_⟩:=hc;exact h.1.1.1.symm
  ·exact hc.1
  ·exact hc.1
  ·exact hc.elim
theorem rF:∀(fs:List (Nat × TypeId)) (o m:Nat),jS P fs o m=true→o≤m∧∀f,f∈fs→f.1+(td P f.2).size≤m
 | [],o,m,h=>by
  simp only[jS,beq_iff_eq] at h
  exact⟨by omega,fun f hf=>by cases hf⟩
 | (off,ft)::r,o,m,h=>by
  simp only[jS,Bool.and_eq_true,beq_iff_eq] at h
  obtain⟨rfl,h⟩:=h
  obtain⟨h1,h2⟩:=rF r _ m h
  refine⟨by omega,fun f hf=>?_⟩
  rcases List.mem_cons.1 hf with rfl|hf
  ·exact h1
  ·exact h2 f hf
theorem oQ(e:TypeId):∀(k i:Nat),jS P ((List.range' i k).map fun j=>(j * (td P e).size,e)) (i * (td P e).size) ((i+k) * (td P e).size)=true
 | 0,i=>by simp[jS]
 | k+1,i=>by
  have:=oQ e k (i+1)
  rw[List.range'_succ]
  simp only[List.map_cons,jS,beq_self_eq_true,Bool.true_and]
  rw[show i * (td P e).size+(td P e).size=(i+1) * (td P e).size by rw[Nat.add_mul,Nat.one_mul],show i+(k+1)=i+1+k by omega]
  exact this
theorem iT:∀(n:Nat) (t:TypeId) (fuel:Nat) (cs:List Value) (x:DataW H × List MemPlace),shp P n t=true→cs.length=(td P t).size→DataW.trod enc P w base spare held fuel t cs=some x →
  ∃ms,mY (oV w) cs ms∧CT P n t ms
 | 0,_,_,_,_,h,_,_=>by cases h
 | n+1,t,fuel,cs,x,h,hlen,hx=>by
  simp only[shp,Bool.and_eq_true] at h
  obtain⟨hok,h⟩:=h
  obtain⟨i,d,hi,hd,hsz,hk⟩:=Hw hok
  split at h<;>rename_i hkk
  ·have ht:=mT hkk
   obtain⟨b,rfl,_⟩:=DataW.trod_bool ht hx
   exact⟨[.bool b],.one rfl (.bool b),by simp only[CT,hkk];exact⟨b,rfl⟩⟩
  ·rename_i k
   have ht:=fN hkk
   obtain⟨v,rfl,_,hw⟩:=DataW.trod_int ht hx
   simp only[Lit.wf,Bool.and_eq_true,decide_eq_true_eq] at hw
   exact⟨[.int k v],.one rfl (.int k v),by simp only[CT,hkk];exact⟨v,rfl,hw⟩⟩
  ·have ht:=dZ hkk
   obtain⟨s,rfl,_,hw⟩:=DataW.trod_string ht hx
   exact⟨[.str s],.one rfl (.str s),by simp only[CT,hkk];exact⟨s,rfl,hw⟩⟩
  ·rename_i e
   have ht:=aP hkk
   simp only[Bool.and_eq_true,decide_eq_true_eq] at h
   obtain⟨⟨⟨_,h0⟩,heok⟩,h⟩:=h
   have hce:=i6 heok
   rcases DataW.trod_slice ht hx with⟨rfl,_⟩|⟨a,len,cap,elems,rest,m,_,rfl,_,_,hlc,hcm,hel,hget,_⟩
   ·exact⟨[.lst (td P e).size [] false],.one rfl (.lstn _ _),by simp only[CT,hkk];exact⟨[],rfl,by simp,fun x h=>by cases h⟩⟩
   ·have key:∀i:Nat,∃q:List Value × List MV,i<len→w.cells? base (a.add (i * (td P e).size)) (td P e).size=some q.1∧mY (oV w) q.1 q.2∧CT P n e q.2∧q.2.length=(td P e).size:=by
     intro i
     by_cases hi:i<len
     ·have:=hget i hi
      rw[hce] at this
      obtain⟨y,hy⟩:∃y,elems[i]?=some y:=⟨elems[i]'(by omega),by simp⟩
      rw[hy] at this
      cases hc:w.cells? base (a.add (i * (td P e).size)) (td P e).size with
      | none=>rw[hc] at this;cases this
      | some c =>
       rw[hc] at this
       have hcl:=(World.cells?_some hc).2.1
       obtain⟨ms,r,ct⟩:=iT n e m c y h hcl this
       exact⟨(c,ms),fun _=>⟨rfl,r,ct,by rw[←r.1];exact hcl⟩⟩
     ·exact⟨([],[]),fun h=>absurd h hi⟩
    obtain⟨F,hF⟩:=Classical.axiomOfChoice key
    let xs:=(List.range len).map fun i=>(F i).2
    have hxs:∀(i:Nat) (y:List MV),xs[i]?=some y→i<len∧y=(F i).2:=fun i y hy=>by
     simp only[xs,List.getElem?_map,Option.map_eq_some_iff] at hy
     obtain⟨j,hj,rfl⟩:=hy
     rw[List.getElem?_eq_some_iff] at hj
     obtain⟨h1,h2⟩:=hj
     simp at h1 h2
     subst h2
     exact⟨h1,rfl⟩
    refine⟨[.lst (td P e).size xs false],.one rfl (Rel.uL (by simp[xs]) hlc hcm (fun h=>by cases h) (fun h=>by cases h) (fun hpos=>?_)),?_⟩
    ·obtain⟨hc0,hr0,_,hl0⟩:=hF 0 hpos
     obtain⟨_,hcl,hcell⟩:=World.cells?_some hc0
     have g0:=hcell 0 h0
     obtain⟨c0,hc0'⟩:∃c0,(F 0).1[0]?=some c0:=⟨(F 0).1[0]'(by omega),by simp⟩
     rw[hc0'] at g0
     obtain⟨b,off,spot⟩:=a
     have hspot:spot=none:=by simpa[Addr.add] using World.cell?_spot g0
     subst hspot
     refine⟨b,off,rfl,fun i y hy=>?_,fun i j=>(F i).1.getD j undef,fun i y j m hy hm=>?_⟩
     ·obtain⟨hi,rfl⟩:=hxs i y hy
      exact(hF i hi).2.2.2
     ·obtain⟨hi,rfl⟩:=hxs i y hy
      obtain⟨hc,hr,_,hl⟩:=hF i hi
      obtain⟨_,hcl,hcell⟩:=World.cells?_some hc
      have hj:j<(F i).2.length:=(List.getElem?_eq_some_iff.1 hm).1
      have hj':j<(F i).1.length:=by rw[hcl,←hl];exact hj
      have hv:(F i).1[j]?=some ((F i).1.getD j undef):=by simp[List.getD,hj']
      obtain⟨k1,k2⟩:=hr.2 j _ m hv hm
      refine⟨k1,?_,k2⟩
      have:=hcell j (by omega)
      rw[hv] at this
      simp only[bY] at this
      show w.cell? _=_
      rw[←Nat.add_assoc]
      exact this
    ·simp only[CT,hkk]
     refine⟨xs,rfl,by simp[xs];omega,fun y hy=>?_⟩
     obtain⟨i,hi⟩:=List.mem_iff_getElem?.1 hy
     obtain⟨hil,e⟩:=hxs i y hi
     rw[e]
     exact(hF i hil).2.2.1
  ·rename_i fs
   obtain⟨fa,ht,rfl⟩:=fE hkk
   simp only[Bool.and_eq_true,List.all_eq_true] at h
   obtain⟨htl,hall⟩:=h
   obtain⟨xs,m,_,_,hcl,hxl,hget⟩:=DataW.trod_struct ht hx
   have hfield:∀f,f∈(fa.toList.map fun f=>(f.offset,f.type))→∃ms,mY (oV w) ((cs.drop f.1).take (td P f.2).size) ms∧CT P n f.2 ms:=by
    intro f hf
    have hf0:=hall f hf
    obtain⟨g,hg,rfl⟩:=List.mem_map.1 hf
    obtain⟨i,hi⟩:=List.mem_iff_getElem?.1 hg
    have hi':fa[i]?=some g:=by simpa using hi
    have hil:i<xs.length:=by
     rw[hxl]
     obtain⟨q,_⟩:=Array.getElem?_eq_some_iff.1 hi'
     exact q
    have:=hget i g hi'
    simp only at hf0 ⊢
    rw[i6 hf0.1,List.getElem?_eq_getElem hil] at this
    refine iT n _ m _ _ hf0.2 ?_ this
    have:=(rF _ _ _ htl).2 _ hf
    simp only[List.length_take,List.length_drop,hlen] at this ⊢
    omega
   obtain⟨ms,r,hc⟩:=kK (Φ:=oV w) (n:=n) (P:=P) hlen _ 0 (Nat.zero_le _) htl hfield (fun f hf ms hm=>Fp n _ ms (hall f hf).2 hm)
   refine⟨ms,by simpa using r,?_⟩
   simp only[CT,hkk]
   refine⟨by rw[←hlen];simpa using r.1.symm,fun f hf=>?_⟩
   have:=(hc f hf).2
   simpa using this
  ·rename_i k e
   have ht:=dR hkk
   simp only[Bool.and_eq_true,beq_iff_eq] at h
   obtain⟨⟨hsz2,heok⟩,h⟩:=h
   obtain⟨xs,m,_,_,hcl,hxl,hget⟩:=DataW.trod_array ht hx
   have htl:jS P ((List.range k).map fun j=>(j * (td P e).size,e)) 0 (td P t).size=true:=by
    have:=oQ (P:=P) e k 0
    rw[List.range_eq_range',hsz2]
    simpa using this
   have hfield:∀f,f∈((List.range k).map fun j=>(j * (td P e).size,e))→∃ms,mY (oV w) ((cs.drop f.1).take (td P f.2).size) ms∧CT P n f.2 ms:=by
    intro f hf
    have hle:=(rF _ _ _ htl).2 _ hf
    obtain⟨i,hi,rfl⟩:=List.mem_map.1 hf
    have hik:i<k:=by simpa using hi
    have:=hget i hik
    simp only at hle ⊢
    rw[i6 heok,List.getElem?_eq_getElem (by omega)] at this
    refine iT n _ m _ _ h ?_ this
    simp only[List.length_take,List.length_drop,hlen]
    omega
   obtain⟨ms,r,hc⟩:=kK (Φ:=oV w) (n:=n) (P:=P) hlen _ 0 (Nat.zero_le _) htl hfield (fun f hf ms hm=>by
    obtain⟨i,hi,rfl⟩:=List.mem_map.1 hf
    exact Fp n _ ms h hm)
   refine⟨ms,by simpa using r,?_⟩
   simp only[CT,hkk]
   refine⟨by rw[←hlen];simpa using r.1.symm,fun i hi=>?_⟩
   have:=(hc (i * (td P e).size,e) (List.mem_map.2 ⟨i,by simpa using hi,rfl⟩)).2
   simpa using this
  ·cases h
theorem Ff{n:Nat}{t:TypeId}{v:Value}{d:DataW H}{ps:List MemPlace}{r:Reach}{b0:Nat}(h:shp P n t=true)(hv:Value.okWide P w r b0 t v)(hd:DataW.Trod enc P w base spare held t v d ps) :
  ∃m,Rel (oV w) v m∧AT P n t m:=by
 obtain⟨fuel,hf⟩:=hd
 have hok:(td P t).ok=true:=by
  cases n with
  | zero=>cases h
  | succ n=>simp only[shp,Bool.and_eq_true] at h;exact h.1
 have hcs:=i6 hok
 unfold AT
 have key:(∃cs,v=.agg cs∧cs.size=(td P t).size∧(td P t).k.isAgg=true)∨((td P t).k.isAgg=false∧v.cells=#[v]∧(td P t).size=1):=by
  cases n with
  | zero=>cases h
  | succ n =>
   simp only[shp,Bool.and_eq_true] at h
   obtain⟨_,h⟩:=h
   split at h<;>rename_i hk
   ·obtain⟨b,rfl⟩:=okWide_bool (mT hk) hv
    exact .inr ⟨by rw[hk];rfl,rfl,by simpa using h⟩
   ·obtain⟨b,rfl⟩:=okWide_int (fN hk) hv
    exact .inr ⟨by rw[hk];rfl,rfl,by simpa using h⟩
   ·obtain⟨b,rfl⟩:=okWide_string (dZ hk) hv
    exact .inr ⟨by rw[hk];rfl,rfl,by simpa using h⟩
   ·obtain⟨a,l,c,rfl⟩:=okWide_slice (aP hk) hv
    simp only[Bool.and_eq_true,beq_iff_eq] at h
    exact .inr ⟨by rw[hk];rfl,rfl,h.1.1.1⟩
   ·obtain⟨fa,ht,_⟩:=fE hk
    obtain⟨cs,rfl,hs⟩:=okWide_struct ht hv
    exact .inl ⟨cs,rfl,by rw[hs,hcs],by rw[hk];rfl⟩
   ·have ht:=dR hk
    simp only[Value.okWide,ht] at hv
    obtain⟨cs,rfl,hs,_⟩:=hv
    exact .inl ⟨cs,rfl,by rw[hs,hcs],by rw[hk];rfl⟩
   ·cases h
 rcases key with⟨cs,rfl,hs,ha⟩|⟨ha,hc,hs⟩
 ·simp only[ha,if_true]
  obtain⟨ms,hr,hct⟩:=iT n t fuel _ _ h (by simpa[Value.cells] using hs) hf
  have hr':mY (oV w) cs.toList ms:=by simpa[Value.cells] using hr
  have hl:cs.size=ms.length:=by simpa using hr'.1
  have get:∀(i:Nat) m,ms[i]?=some m→cs.toList[i]?=some (cs.getD i undef):=fun i m hm=>by
   have:i<cs.size:=by rw[hl];exact(List.getElem?_eq_some_iff.1 hm).1
   simp[Array.getD,this]
  exact⟨.agg ms,.agg hl (fun i m hm=>(hr'.2 i _ m (get i m hm) hm).1) (fun i m hm=>(hr'.2 i _ m (get i m hm) hm).2),ms,rfl,hct⟩
 ·simp only[ha,Bool.false_eq_true,if_false]
  obtain⟨ms,hr,hct⟩:=iT n t fuel _ _ h (by rw[hc,hs];rfl) hf
  rw[hc] at hr
  match ms,hr with
  | [m],hr =>
   exact⟨m,(hr.2 0 v m rfl rfl).2,hct⟩
  | [],hr=>exact absurd hr.1 (by simp)
  | _::_::_,hr=>exact absurd hr.1 (by simp)
def ATs(P:Program)(n:Nat):List TypeId→List MV→Prop
 | [],[]=>True
 | t::ts,m::ms=>AT P n t m∧ATs P n ts ms
 | _,_=>False
theorem sL{n:Nat}:∀{ts:List TypeId} {vs:List Value} {ds:List (DataW H)} {ps:List MemPlace},(∀t,t∈ts→shp P n t=true)→(∀(j:Nat) t v,ts[j]?=some t→vs[j]?=some v→Value.okWide P w .any base t v) →
  DataW.TrodAll enc P w 0 spare held ts vs ds ps→∃ms,vs.length=ms.length∧(∀(i:Nat) v m,vs[i]?=some v→ms[i]?=some m→Rel (oV w) v m)∧ATs P n ts ms
 | [],vs,ds,ps,_,_,h=>by
  obtain⟨rfl,_,_⟩:=trodAll_nil h
  exact⟨[],rfl,fun i v m h=>by simp at h,trivial⟩
 | t::ts,vs,ds,ps,hs,hok,h=>by
  obtain⟨v,vs1,d,ds1,a,b,rfl,rfl,rfl,h1,h2⟩:=trodAll_cons h
  obtain⟨m,r,ht⟩:=Ff (hs t (List.mem_cons_self ..)) (hok 0 t v rfl rfl) h1
  obtain⟨ms,e,rs,hts⟩:=sL (fun t h=>hs t (List.mem_cons_of_mem _ h)) (fun j t v p q=>hok (j+1) t v (by simpa using p) (by simpa using q)) h2
  refine⟨m::ms,by simp[e],fun i v' m' p q=>?_,ht,hts⟩
  cases i with
  | zero=>simp at p q;subst p q;exact r
  | succ i=>simp at p q;exact rs i v' m' p q
theorem sM{W W':World}(hl:laidOutB P=true)(hb:∀k,k<W.heap.size→W'.heap[k]?=W.heap[k]?):∀{ts:List TypeId} {vs:List Value} {ds:List (DataW H)} {ps:List MemPlace} {sp:Nat→Bool},
  (∀t,t∈ts→P.readableRec t=true∧t<P.types.size)→DataW.TrodAll enc P W 0 (fun _=>true) true ts vs ds ps→(∀x∈ps,x.block<W.heap.size)→(∀x∈ps,sp x.block=true)→DataW.TrodAll enc P W' 0 sp true ts vs ds ps
 | [],vs,ds,ps,sp,_,h,_,_=>by
  obtain⟨rfl,rfl,rfl⟩:=trodAll_nil h
  exact trodAll_mk0
 | t::ts,vs,ds,ps,sp,hr,h,hlt,hsp=>by
  obtain⟨v,vs1,d,ds1,a,b,rfl,rfl,rfl,h1,h2⟩:=trodAll_cons h
  refine⟨a,b,?_,sM hl hb (fun t h=>hr t (List.mem_cons_of_mem _ h)) h2 (fun x hx=>hlt x (List.mem_append_right _ hx)) (fun x hx=>hsp x (List.mem_append_right _ hx)),rfl⟩
  obtain⟨r1,r2⟩:=hr t (List.mem_cons_self ..)
  refine WideElems.Trod_stays hl r1 r2 h1 (fun x hx=>?_) (fun x hx=>hsp x (List.mem_append_left _ hx))
  have hp:=hlt x (List.mem_append_left _ hx)
  cases x with
  | cell b o=>exact World.cell?_of_block (w:=W) (hb b hp)
  | map b=>exact hb b hp
theorem Ik{W W':World}{may:MemPlace→Prop}(h1:W'.os=W.os)(h2:W'.output=W.output)(hb:∀k,k<W.heap.size→W'.heap[k]?=W.heap[k]?):W.keptBut W' may:=by
 refine⟨h1,h2,fun i hi=>?_⟩
 rw[hb i hi]
 cases W.heap[i]? with
 | none=>rfl
 | some o=>cases o with
  | cells c t fr=>exact⟨rfl,rfl,rfl,fun _ _=>rfl⟩
  | map es clock=>exact .inr ⟨rfl,rfl⟩
  | _=>rfl
theorem Dj{W W':World}(hb:∀k,k<W.heap.size→W'.heap[k]?=W.heap[k]?){a:Addr}(h:a.block<W.heap.size):W'.frozen? a=W.frozen? a:=by
 unfold World.frozen?
 rw[hb _ h]
theorem FJ{f:Func}{s:ChangeSpec}{apart fresh handsOn again:Bool}{W W':World}{args:Array Value}{ds gs:List (DataW H)}{before:List MemPlace}{tb:TypeId}
 (hvars:s.vars=[])(hs:∀(H:Type) (ds:List (DataW H)),ds.length=f.params.size→s.fn H ds={ results:=[.lit (.bool true)],args:=ds })
 (hres:f.resultTypes=#[tb])(htb:P.underlying tb=some .bool)(hl:laidOutB P=true)(hr:∀t,t∈f.params.toList→P.readableRec t=true∧t<P.types.size)
 (hW:DataW.Whole enc P f.params.toList s.vars apart W args.toList ds gs before)(h1:W'.os=W.os)(h2:W'.output=W.output)(hb:∀k,k<W.heap.size→W'.heap[k]?=W.heap[k]?) :
  s.post enc P f apart fresh handsOn again W args (.bool true) W':=by
 have hlt:=hW.lt
 have hW0:=hW
 obtain⟨p,q,hA,hV,hpq,hfz,hnd⟩:=hW
 rw[hvars] at hV
 obtain⟨rfl,rfl⟩:=trodVars_none hV
 rw[List.append_nil] at hpq
 subst hpq
 have hlen:∀{ts:List TypeId} {vs:List Value} {ds:List (DataW H)} {ps:List MemPlace},DataW.TrodAll enc P W 0 (fun _=>true) true ts vs ds ps→ds.length=ts.length:=by
  intro ts
  induction ts with
  | nil=>intro vs ds ps h;obtain⟨_,rfl,_⟩:=trodAll_nil h;rfl
  | cons t ts ih =>
   intro vs ds ps h
   obtain⟨v,vs1,d,ds1,a,b,rfl,rfl,rfl,h1,h2⟩:=trodAll_cons h
   simp[ih h2]
 have hfn:s.fn H (ds++[])={ results:=[.lit (.bool true)],args:=ds }:=by
  rw[List.append_nil]
  exact hs H ds (by rw[hlen hA];simp)
 have hargs:∀sp:Nat→Bool,(∀x∈before,sp x.block=true)→DataW.TrodAll enc P W' 0 sp true f.params.toList args.toList ds before:=fun sp hsp=>sM hl hb hr hA hlt hsp
 have hresl:(Value.bool true).resultList f.resultTypes.size=[.bool true]:=by rw[hres];rfl
 have hrt:∀(b:Nat) (sp:Nat→Bool) (hd:Bool),DataW.TrodAll enc P W' b sp hd f.resultTypes.toList ((Value.bool true).resultList f.resultTypes.size) [.lit (.bool true)] []:=fun b sp hd=>by
  rw[hresl,hres]
  exact trodAll_mk1 (shut_bool htb true)
 refine⟨ds,[],before,[],before,[],hW0,?_,?_,?_,Ik h1 h2 hb,fun _=>⟨?_,[.lit (.bool true)]++ds,[],[]++before,⟨[]++before,[],trodAll_append (hargs _ fun _ _=>rfl) (hrt _ _ _),?_,by simp,fun b off hp=>?_,fun ha=>?_⟩,fun x hx _=>?_⟩⟩
 ·rw[hfn];exact hrt _ _ _
 ·rw[hfn];exact hargs _ fun x hx=>by simpa using hlt x hx
 ·rw[hfn,hvars];rfl
 ·exact ok_one hres rfl (okWide_bool_mk htb true)
 ·rw[hvars];rfl
 ·have hp':MemPlace.cell b off∈before:=by simpa using hp
  rw[Dj hb (a:=⟨b,off,none⟩) (hlt _ hp')]
  exact hfz b off (by simpa using hp')
 ·have:=hnd ha
  simpa using this
 ·simpa using hx
theorem JF{n:Nat}{t:TypeId}{k:IntKind}{cs:List MV}(hk:(td P t).k=.int k)(h:CT P (n+1) t cs):∃v,cs=[.int k v]∧k.min≤v∧v≤k.max:=by
 simp only[CT,hk] at h;exact h
theorem C8{n:Nat}{t:TypeId}{fs:List (Nat × TypeId)}{cs:List MV}(hk:(td P t).k=.struct fs)(h:CT P (n+1) t cs):cs.length=(td P t).size∧∀f,f∈fs→CT P n f.2 ((cs.drop f.1).take (td P f.2).size):=by
 simp only[CT,hk] at h;exact h
theorem JC{n:Nat}{t:TypeId}{m:MV}(hk:(td P t).k.isAgg=true)(h:AT P n t m):∃cs,m=.agg cs∧CT P n t cs:=by
 simpa only[AT,hk,if_true] using h
end
end

section
set_option maxRecDepth 100000
set_option maxHeartbeats 8000000
def gY(f:F8)(L:List Nat):F8:=L.foldl (fun g i=>g.set i (f.get i)) f80
theorem qP(f:F8)(m:Nat):∀k,zE f m k=gY f ((List.range k).filter fun i=>bit m i)
 | 0=>rfl
 | k+1=>by
  rw[zE,qP f m k,List.range_succ,List.filter_append,gY,gY,List.foldl_append]
  by_cases h:bit m k=true
  ·rw[if_pos h];simp[h]
  ·rw[if_neg h];simp[h]
theorem BB(f:F8)(m:Nat):Js f m=gY f (a6 m):=qP f m 8
theorem BA(c:CA)(m:UInt32):aA Tryz.prog 78 [.agg c.c,.int .u32 (m.toNat:Int)] St.none (fun r _=>r=.agg (fT c m).c):=by
 refine aA.dF (aA.body 34 [.cell 4 126] Tryz.func78 rfl rfl rfl rfl ?_)
 have hml:=lS m
 have hfl:=mN m
 have hbl:=nC m.toNat
 obtain⟨ml,hm8⟩:∃b,bit m.toNat 8=b:=⟨_,rfl⟩
 rw[hm8] at hml
 have hlab:(fT c m).c=.int .i64 c.id::.int .i64 c.ver::.int .u32 (((if ml=true then c.lab else 0:UInt32).toNat:Nat):Int)::fc (gY c.f (a6 m.toNat)):=by rw[←hm8,←BB];rfl
 rw[hlab]
 clear hm8 hlab
 obtain⟨lb,hlb⟩:∃lb:UInt32,(if ml=true then c.lab else 0)=lb:=⟨_,rfl⟩
 rw[hlb]
 have hlt:∀i,i∈a6 m.toNat→i<8:=fun i=>pD
 obtain⟨L,hL⟩:∃L,a6 m.toNat=L:=⟨_,rfl⟩
 rw[hL] at hfl hbl hlt ⊢
 have hll:(bZ L).length=L.length:=List.length_map _
 cases ml
 all_goals simp only[Bool.false_eq_true,if_false,if_true] at hlb
 ·subst hlb
  repeat' (first|(with_reducible first|refine up hml ?_|refine up hfl ?_)|(with_reducible first|(refine wT ?_;(first|((fail_if_success (have:=nl1));refine wN fun nl1 hnl=>?_)|((fail_if_success (have:=nl2));refine wN fun nl2 hnl=>?_)|((fail_if_success (have:=nl3));refine wN fun nl3 hnl=>?_)|refine wN fun _ hnl=>?_);revert hnl;(repeat refine wS fun _ _=>?_);intro hnl)|refine wE ?_|(refine wK ?_ ?_<;>intro h)|(refine wB ?_ ?_<;>intro h<;>simp only[h]))|simp(maxSteps:=4000000) (disch:=first|exact ddL|fail) only[go_sem,simprocAttr,Tryz.f78,FXs,hll])
  refine aV (α:=Nat) (fun i=>⟨34,[(21,.int .i64 (i:Int)),(20,.int .i64 (L.length:Int)),(19,.lst 1 (bZ L) false),(5,.ptr nl3 0 0),(4,.ptr nl2 0 0),(2,.ptr nl1 0 0)],[]⟩)
   (fun i=>((St.none.set nl1 (.row 126 27 [c.c])).set nl2 (.row 126 27 [ca0.c])).set nl3 (.row 126 27 [.int .i64 c.id::.int .i64 c.ver::.int .u32 ((0:UInt32).toNat:Int)::fc (gY c.f (L.take i))])) (fun i=>i≤L.length) (fun i=>L.length - i) (.of (.less ?_ (St.le_refl _)) ⟨0,rfl,rfl,Nat.zero_le _⟩) ?_
  ·simp(maxSteps:=4000000) (disch:=first|exact ddL|fail) only[go_sem,simprocAttr,aJ,aG]
   all_goals first|rfl|(simp;done)
  ·intro i hi
   have hi:i≤L.length:=hi
   by_cases hlt':i<L.length
   ·obtain⟨k,hk⟩:=iK L hlt'
    have hat:(bZ L).getD i []=[.int .i64 (k:Int)]:=by rw[List.getD_eq_getElem?_getD,List.getElem?_map,hk];rfl
    have hk8:=hlt k (jG hk)
    have hsucc:gY c.f (L.take (i+1))=(gY c.f (L.take i)).set k (c.f.get k):=by rw[cQ hk,gY,List.foldl_append];rfl
    obtain⟨g,hg⟩:∃g,gY c.f (L.take i)=g:=⟨_,rfl⟩
    rw[hg] at hsucc ⊢
    repeat' (first|(with_reducible first|(refine wT ?_;(first|((fail_if_success (have:=nl1));refine wN fun nl1 hnl=>?_)|((fail_if_success (have:=nl2));refine wN fun nl2 hnl=>?_)|((fail_if_success (have:=nl3));refine wN fun nl3 hnl=>?_)|refine wN fun _ hnl=>?_);revert hnl;(repeat refine wS fun _ _=>?_);intro hnl)|refine wE ?_|(refine wK ?_ ?_<;>intro h)|(refine wB ?_ ?_<;>intro h<;>simp only[h]))|simp(maxSteps:=4000000) (disch:=first|exact ddL|fail) only[go_sem,simprocAttr,FXs,hat,hll])
    all_goals (try (exfalso;omega))
    all_goals
     refine .of (.less ?_ (St.le_refl _)) ⟨i+1,rfl,by rw[hsucc];first|rfl|skip,(by omega:i+1≤L.length),by omega⟩
     simp(maxSteps:=4000000) (disch:=first|exact ddL|fail) only[go_sem,simprocAttr,aJ,aG]
     all_goals first|rfl|(simp;done)
   ·have:i=L.length:=by omega
    subst this
    rw[List.take_length]
    repeat' (first|(with_reducible first|(refine wT ?_;(first|((fail_if_success (have:=nl1));refine wN fun nl1 hnl=>?_)|((fail_if_success (have:=nl2));refine wN fun nl2 hnl=>?_)|((fail_if_success (have:=nl3));refine wN fun nl3 hnl=>?_)|refine wN fun _ hnl=>?_);revert hnl;(repeat refine wS fun _ _=>?_);intro hnl)|refine wE ?_|(refine wK ?_ ?_<;>intro h)|(refine wB ?_ ?_<;>intro h<;>simp only[h]))|simp(maxSteps:=4000000) (disch:=first|exact ddL|fail) only[go_sem,simprocAttr,FXs])
    all_goals first|exact⟨_,St.le_refl _,rfl⟩|exact⟨_,St.le_refl _⟩
 ·subst hlb
  repeat' (first|(with_reducible first|refine up hml ?_|refine up hfl ?_)|(with_reducible first|(refine wT ?_;(first|((fail_if_success (have:=nl1));refine wN fun nl1 hnl=>?_)|((fail_if_success (have:=nl2));refine wN fun nl2 hnl=>?_)|((fail_if_success (have:=nl3));refine wN fun nl3 hnl=>?_)|refine wN fun _ hnl=>?_);revert hnl;(repeat refine wS fun _ _=>?_);intro hnl)|refine wE ?_|(refine wK ?_ ?_<;>intro h)|(refine wB ?_ ?_<;>intro h<;>simp only[h]))|simp(maxSteps:=4000000) (disch:=first|exact ddL|fail) only[go_sem,simprocAttr,Tryz.f78,FXs,hll])
  refine aV (α:=Nat) (fun i=>⟨34,[(21,.int .i64 (i:Int)),(20,.int .i64 (L.length:Int)),(19,.lst 1 (bZ L) false),(5,.ptr nl3 0 0),(4,.ptr nl2 0 0),(2,.ptr nl1 0 0)],[]⟩)
   (fun i=>((St.none.set nl1 (.row 126 27 [c.c])).set nl2 (.row 126 27 [ca0.c])).set nl3 (.row 126 27 [.int .i64 c.id::.int .i64 c.ver::.int .u32 (c.lab.toNat:Int)::fc (gY c.f (L.take i))])) (fun i=>i≤L.length) (fun i=>L.length - i) (.of (.less ?_ (St.le_refl _)) ⟨0,rfl,rfl,Nat.zero_le _⟩) ?_
  ·simp(maxSteps:=4000000) (disch:=first|exact ddL|fail) only[go_sem,simprocAttr,aJ,aG]
   all_goals first|rfl|(simp;done)
  ·intro i hi
   have hi:i≤L.length:=hi
   by_cases hlt':i<L.length
   ·obtain⟨k,hk⟩:=iK L hlt'
    have hat:(bZ L).getD i []=[.int .i64 (k:Int)]:=by rw[List.getD_eq_getElem?_getD,List.getElem?_map,hk];rfl
    have hk8:=hlt k (jG hk)
    have hsucc:gY c.f (L.take (i+1))=(gY c.f (L.take i)).set k (c.f.get k):=by rw[cQ hk,gY,List.foldl_append];rfl
    obtain⟨g,hg⟩:∃g,gY c.f (L.take i)=g:=⟨_,rfl⟩
    rw[hg] at hsucc ⊢
    repeat' (first|(with_reducible first|(refine wT ?_;(first|((fail_if_success (have:=nl1));refine wN fun nl1 hnl=>?_)|((fail_if_success (have:=nl2));refine wN fun nl2 hnl=>?_)|((fail_if_success (have:=nl3));refine wN fun nl3 hnl=>?_)|refine wN fun _ hnl=>?_);revert hnl;(repeat refine wS fun _ _=>?_);intro hnl)|refine wE ?_|(refine wK ?_ ?_<;>intro h)|(refine wB ?_ ?_<;>intro h<;>simp only[h]))|simp(maxSteps:=4000000) (disch:=first|exact ddL|fail) only[go_sem,simprocAttr,FXs,hat,hll])
    all_goals (try (exfalso;omega))
    all_goals
     refine .of (.less ?_ (St.le_refl _)) ⟨i+1,rfl,by rw[hsucc];first|rfl|skip,(by omega:i+1≤L.length),by omega⟩
     simp(maxSteps:=4000000) (disch:=first|exact ddL|fail) only[go_sem,simprocAttr,aJ,aG]
     all_goals first|rfl|(simp;done)
   ·have:i=L.length:=by omega
    subst this
    rw[List.take_length]
    repeat' (first|(with_reducible first|(refine wT ?_;(first|((fail_if_success (have:=nl1));refine wN fun nl1 hnl=>?_)|((fail_if_success (have:=nl2));refine wN fun nl2 hnl=>?_)|((fail_if_success (have:=nl3));refine wN fun nl3 hnl=>?_)|refine wN fun _ hnl=>?_);revert hnl;(repeat refine wS fun _ _=>?_);intro hnl)|refine wE ?_|(refine wK ?_ ?_<;>intro h)|(refine wB ?_ ?_<;>intro h<;>simp only[h]))|simp(maxSteps:=4000000) (disch:=first|exact ddL|fail) only[go_sem,simprocAttr,FXs])
    all_goals first|exact⟨_,St.le_refl _,rfl⟩|exact⟨_,St.le_refl _⟩
end

section
set_option maxRecDepth 100000
set_option maxHeartbeats 8000000
structure LR (l:List TU) (es:List (MV × MV)):Prop where
 k:(es.all fun p=>isK .i64 p.1)=true
 o:Ld es
 g:∀id,dJ id es=(Jq l id).map fun n=>.int .i64 n
 n:es.length≤l.length
end

section
theorem BQ{P:Program}{o:Oper}{f:FR}{σ:St}{k:MV→St→Prop}{t t' el:TypeId}{x:Operand}(ho:o.op=.binOp .eql t x (.const (.slice none 0 0)) t')(ht:(td P t).k=.slice el){e l lo n:Nat}(hx:aB f x=.vec e l lo (n+1))(hk:k (.bool false) σ):sop P o f σ k:=by
 intro Φ w ac K Q' hi hr hK
 have rx:=aD hr x
 rw[hx] at rx
 generalize hv:ac.eval x=vx at rx
 obtain⟨ad,cap,p,rfl,hp,hpe,hcap,hncap,hR⟩:=rx.eP
 rcases hR with⟨R,hb,rfl⟩|h
 ·refine aX (v:=.bool false) (w':=w) ?_ (hK _ (.bool false) _ Φ w (.bool _) hi (.refl _ _ _) hk)
  have hc:ac.eval (.const (.slice none 0 0))=.slice none 0 0:=rfl
  have h1:=Go.run_eql_slice_nil (P:=P) w t el (some ⟨R,p.bo+lo * p.e,none⟩) (n+1) cap (aP ht)
  unfold execOp
  simp only[ho,hv,hc,Sem.run_bind,lI,h1,Sem.run_pure,Result.andThen_ok]
  rfl
 ·omega
end
end Go.Proofs.YtppdgejjmhdjhaaGreatDoor
