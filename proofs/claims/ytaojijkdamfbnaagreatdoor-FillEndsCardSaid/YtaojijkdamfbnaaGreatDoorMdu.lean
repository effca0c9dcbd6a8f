/- Parts of the proof, joined; conditions: those that its theorems name. -/
import Derived.Test.YtaojijkdamfbnaaGreatDoorMdr
import Derived.OpenShut
import Derived.ChangeSame
import Derived.Carry
import Derived.RowKit
import Derived.JoinedOf
import Derived.JoinedAt
import Derived.Lib.IndexMore
set_option linter.unusedVariables false
set_option linter.unusedSimpArgs false
set_option maxHeartbeats 4000000
namespace Go.Proofs.YtaojijkdamfbnaaGreatDoor
section
open Go.ChangeShapes Go.WideShapes Go.RowKit
def lE(P:Program):List (Nat × TypeId)→Nat→Nat→Bool
 | [],o,n=>o==n
 | (off,ft)::r,o,n=>off==o&&lE P r (o+(td P ft).size) n
def shp(P:Program):Nat→TypeId→Bool
 | 0,_=>false
 | n+1,t=>(td P t).ok&&match (td P t).k with
  | .bool|.int _|.str=>(td P t).size==1
  | .slice e=>(td P t).size==1&&decide (0<(td P e).size)&&(td P e).ok&&shp P n e
  | .struct fs=>lE P fs 0 (td P t).size&&fs.all fun f=>(td P f.2).ok&&shp P n f.2
  | .array m e=>(td P t).size==m * (td P e).size&&(td P e).ok&&shp P n e
  | _=>false
def CT(P:Program):Nat→TypeId→List MV→Prop
 | 0,_,_=>False
 | n+1,t,cs=>match (td P t).k with
  | .bool=>∃b,cs=[.bool b]
  | .int k=>∃v,cs=[.int k v]∧k.min≤v∧v≤k.max
  | .str=>∃s:ByteArray,cs=[.str s]∧s.size≤maxLen
  | .slice e=>∃xs,cs=[.lst (td P e).size xs false]∧xs.length≤maxLen∧∀x,x∈xs→CT P n e x
  | .struct fs=>cs.length=(td P t).size∧∀f,f∈fs→CT P n f.2 ((cs.drop f.1).take (td P f.2).size)
  | .array m e=>cs.length=(td P t).size∧∀i,i<m→CT P n e ((cs.drop (i * (td P e).size)).take (td P e).size)
  | _=>False
def AT(P:Program)(n:Nat)(t:TypeId)(m:MV):Prop:=if (td P t).k.isAgg=true then ∃cs,m=.agg cs∧CT P n t cs else CT P n t [m]
def rI(w:World):Phi:=⟨fun a=>w.cell? a,fun _=>none,0⟩
def Md(w:World):Prop:=(∀g i v,GT g i=some v→w.cell? ⟨g,i,none⟩=some v)∧∀g,g∈GI→∃m,w.cell? ⟨g,0,none⟩=some (.int .i64 m)
theorem N8(w:World)(hG:Md w):Inv (rI w) w St.none where
 own:=fun l o h=>by simp[St.none] at h
 inj:=fun l l' o o' p p' R h=>by simp[St.none] at h
 snap:=fun a v h=>h
 apart:=fun l o p R a v h=>by simp[St.none] at h
 fresh:=⟨⟨⟨0,fun _ _=>rfl⟩,fun _ _ h=>by cases h⟩,hG⟩
def pK(Φ:Phi)(cs:List Value)(ms:List MV):Prop:=cs.length=ms.length∧∀(i:Nat) v m,cs[i]?=some v→ms[i]?=some m→m.aL=true∧Rel Φ v m
theorem pK.one{Φ:Phi}{v:Value}{m:MV}(hc:m.aL=true)(h:Rel Φ v m):pK Φ [v] [m] :=
 ⟨rfl,fun i v' m' h1 h2=>by
  cases i with
  | zero=>simp at h1 h2;subst h1 h2;exact⟨hc,h⟩
  | succ i=>simp at h1⟩
theorem pK.app{Φ:Phi}{c1 c2:List Value}{m1 m2:List MV}(h1:pK Φ c1 m1)(h2:pK Φ c2 m2):pK Φ (c1++c2) (m1++m2) :=
 ⟨by simp[h1.1,h2.1],fun i v m hv hm=>by
  rw[List.getElem?_append] at hv hm
  rw[h1.1] at hv
  split at hv<;>rename_i hi
  ·rw[if_pos hi] at hm;exact h1.2 i v m hv hm
  ·rw[if_neg hi] at hm;exact h2.2 _ v m hv hm⟩
section
variable {H:Type} {enc:TypeId × Value→H} {P:Program} {w:World} {base:Nat} {spare:Nat→Bool} {held:Bool}
theorem J2{t:TypeId}(h:(td P t).ok=true):∃i d,P.info? t=some i∧P.underlying t=some d∧(td P t).size=P.cellsOf t∧(td P t).k=pF d:=by
 obtain⟨i,d,h1,h2,h3,h4,h5⟩:=cF h
 exact⟨i,d,h1,h2,by rw[h3];simp[Program.cellsOf,h1],h5⟩
theorem kO{t:TypeId}(h:(td P t).ok=true):P.cellsOf t=(td P t).size:=by
 obtain⟨_,_,_,_,h,_⟩:=J2 h
 exact h.symm
theorem mJ{Φ:Phi}{n:Nat}{cs:List Value}{size:Nat}(hlen:cs.length=size):∀(fs:List (Nat × TypeId)) (o:Nat),o≤size→lE P fs o size=true →
  (∀f,f∈fs→∃ms,pK Φ ((cs.drop f.1).take (td P f.2).size) ms∧CT P n f.2 ms)→(∀f,f∈fs→∀ms,CT P n f.2 ms→ms.length=(td P f.2).size) →
  ∃ms,pK Φ (cs.drop o) ms∧∀f,f∈fs→o≤f.1∧CT P n f.2 ((ms.drop (f.1 - o)).take (td P f.2).size)
 | [],o,ho,ht,_,_=>by
  simp only[lE,beq_iff_eq] at ht
  refine⟨[],?_,fun f h=>by cases h⟩
  rw[ht,←hlen,List.drop_length]
  exact⟨rfl,fun i v m h=>by simp at h⟩
 | (off,ft)::r,o,ho,ht,hf,hl=>by
  simp only[lE,Bool.and_eq_true,beq_iff_eq] at ht
  obtain⟨rfl,ht⟩:=ht
  obtain⟨m1,r1,c1⟩:=hf (off,ft) (List.mem_cons_self ..)
  have e1:=hl (off,ft) (List.mem_cons_self ..) m1 c1
  simp only at r1 c1 e1
  have hle:off+(td P ft).size≤size:=by
   have:=r1.1
   simp only[List.length_take,List.length_drop,hlen] at this
   omega
  obtain⟨m2,r2,c2⟩:=mJ hlen r (off+(td P ft).size) hle ht (fun f h=>hf f (List.mem_cons_of_mem _ h)) (fun f h=>hl f (List.mem_cons_of_mem _ h))
  refine⟨m1++m2,?_,fun f h=>?_⟩
  ·have:cs.drop off=(cs.drop off).take (td P ft).size++cs.drop (off+(td P ft).size):=by
    rw[←List.drop_drop,List.take_append_drop]
   rw[this]
   exact r1.app r2
  ·rcases List.mem_cons.1 h with rfl|h
   ·refine⟨Nat.le_refl _,?_⟩
    simp only[Nat.sub_self,List.drop_zero]
    rw[List.take_append_of_le_length (by omega),List.take_of_length_le (by omega)]
    exact c1
   ·obtain⟨h1,h2⟩:=c2 f h
    refine⟨by omega,?_⟩
    have:(m1++m2).drop (f.1 - off)=m2.drop (f.1 - (off+(td P ft).size)):=by
     rw[List.drop_append,List.drop_eq_nil_of_le (by omega),List.nil_append]
     congr 1
     omega
    rw[this]
    exact h2
theorem H2:∀(n:Nat) (t:TypeId) (cs:List MV),shp P n t=true→CT P n t cs→cs.length=(td P t).size
 | 0,_,_,h,_=>by cases h
 | n+1,t,cs,h,hc=>by
  simp only[shp,Bool.and_eq_true] at h
  obtain⟨_,h⟩:=h
  simp only[CT] at hc
  split at hc
  ·rename_i hk;rw[hk] at h;simp only[beq_iff_eq] at h;obtain⟨b,rfl⟩:=hc;exact h.symm
  ·rename_i hk;rw[hk] at h;simp only[beq_iff_eq] at h;obtain⟨b,rfl,_⟩:=hc;exact h.symm
  ·rename_i hk;rw[hk] at h;simp only[beq_iff_eq] at h;obtain⟨b,rfl,_⟩:=hc;exact h.symm
  ·rename_i hk;rw[hk] at h;simp only[Bool.and_eq_true,beq_iff_eq] at h;obtain⟨b,rfl,_⟩:=hc;exact h.1.1.1.symm
  ·exact hc.1
  ·exact hc.1
  ·exact hc.elim
theorem uP:∀(fs:List (Nat × TypeId)) (o m:Nat),lE P fs o m=true→o≤m∧∀f,f∈fs→f.1+(td P f.2).size≤m
 | [],o,m,h=>by
  simp only[lE,beq_iff_eq] at h
  exact⟨by omega,fun f hf=>by cases hf⟩
 | (off,ft)::r,o,m,h=>by
  simp only[lE,Bool.and_eq_true,beq_iff_eq] at h
  obtain⟨rfl,h⟩:=h
  obtain⟨h1,h2⟩:=uP r _ m h
  refine⟨by omega,fun f hf=>?_⟩
  rcases List.mem_cons.1 hf with rfl|hf
  ·exact h1
  ·exact h2 f hf
theorem rF(e:TypeId):∀(k i:Nat),lE P ((List.range' i k).map fun j=>(j * (td P e).size,e)) (i * (td P e).size) ((i+k) * (td P e).size)=true
 | 0,i=>by simp[lE]
 | k+1,i=>by
  have:=rF e k (i+1)
  rw[List.range'_succ]
  simp only[List.map_cons,lE,beq_self_eq_true,Bool.true_and]
  rw[show i * (td P e).size+(td P e).size=(i+1) * (td P e).size by rw[Nat.add_mul,Nat.one_mul],show i+(k+1)=i+1+k by omega]
  exact this
theorem kI:∀(n:Nat) (t:TypeId) (fuel:Nat) (cs:List Value) (x:DataW H × List MemPlace),shp P n t=true→cs.length=(td P t).size→DataW.trod enc P w base spare held fuel t cs=some x →
  ∃ms,pK (rI w) cs ms∧CT P n t ms
 | 0,_,_,_,_,h,_,_=>by cases h
 | n+1,t,fuel,cs,x,h,hlen,hx=>by
  simp only[shp,Bool.and_eq_true] at h
  obtain⟨hok,h⟩:=h
  obtain⟨i,d,hi,hd,hsz,hk⟩:=J2 hok
  split at h<;>rename_i hkk
  ·have ht:=pG hkk
   obtain⟨b,rfl,_⟩:=DataW.trod_bool ht hx
   exact⟨[.bool b],.one rfl (.bool b),by simp only[CT,hkk];exact⟨b,rfl⟩⟩
  ·rename_i k
   have ht:=jA hkk
   obtain⟨v,rfl,_,hw⟩:=DataW.trod_int ht hx
   simp only[Lit.wf,Bool.and_eq_true,decide_eq_true_eq] at hw
   exact⟨[.int k v],.one rfl (.int k v),by simp only[CT,hkk];exact⟨v,rfl,hw⟩⟩
  ·have ht:=fG hkk
   obtain⟨s,rfl,_,hw⟩:=DataW.trod_string ht hx
   exact⟨[.str s],.one rfl (.str s),by simp only[CT,hkk];exact⟨s,rfl,hw⟩⟩
  ·rename_i e
   have ht:=aZ hkk
   simp only[Bool.and_eq_true,decide_eq_true_eq] at h
   obtain⟨⟨⟨_,h0⟩,heok⟩,h⟩:=h
   have hce:=kO heok
   rcases DataW.trod_slice ht hx with⟨rfl,_⟩|⟨a,len,cap,elems,rest,m,_,rfl,_,_,hlc,hcm,hel,hget,_⟩
   ·exact⟨[.lst (td P e).size [] false],.one rfl (.lstn _ _),by simp only[CT,hkk];exact⟨[],rfl,by simp,fun x h=>by cases h⟩⟩
   ·have key:∀i:Nat,∃q:List Value × List MV,i<len→w.cells? base (a.add (i * (td P e).size)) (td P e).size=some q.1∧pK (rI w) q.1 q.2∧CT P n e q.2∧q.2.length=(td P e).size:=by
     intro i
     by_cases hi:i<len
     ·have:=hget i hi
      rw[hce] at this
      obtain⟨y,hy⟩:∃y,elems[i]?=some y:=⟨elems[i]'(by omega),by simp⟩
      rw[hy] at this
      cases hc:w.cells? base (a.add (i * (td P e).size)) (td P e).size with
      | none=>rw[hc] at this;cases this
      | some c =>
       rw[hc] at this
       have hcl:=(World.cells?_some hc).2.1
       obtain⟨ms,r,ct⟩:=kI n e m c y h hcl this
       exact⟨(c,ms),fun _=>⟨rfl,r,ct,by rw[←r.1];exact hcl⟩⟩
     ·exact⟨([],[]),fun h=>absurd h hi⟩
    obtain⟨F,hF⟩:=Classical.axiomOfChoice key
    let xs:=(List.range len).map fun i=>(F i).2
    have hxs:∀(i:Nat) (y:List MV),xs[i]?=some y→i<len∧y=(F i).2:=fun i y hy=>by
     simp only[xs,List.getElem?_map,Option.map_eq_some_iff] at hy
     obtain⟨j,hj,rfl⟩:=hy
     rw[List.getElem?_eq_some_iff] at hj
     obtain⟨h1,h2⟩:=hj
     simp at h1 h2
     subst h2
     exact⟨h1,rfl⟩
    refine⟨[.lst (td P e).size xs false],.one rfl (Rel.yX (by simp[xs]) hlc hcm (fun h=>by cases h) (fun h=>by cases h) (fun hpos=>?_)),?_⟩
    ·obtain⟨hc0,hr0,_,hl0⟩:=hF 0 hpos
     obtain⟨_,hcl,hcell⟩:=World.cells?_some hc0
     have g0:=hcell 0 h0
     obtain⟨c0,hc0'⟩:∃c0,(F 0).1[0]?=some c0:=⟨(F 0).1[0]'(by omega),by simp⟩
     rw[hc0'] at g0
     obtain⟨b,off,spot⟩:=a
     have hspot:spot=none:=by simpa[Addr.add] using World.cell?_spot g0
     subst hspot
     refine⟨b,off,rfl,fun i y hy=>?_,fun i j=>(F i).1.getD j undef,fun i y j m hy hm=>?_⟩
     ·obtain⟨hi,rfl⟩:=hxs i y hy
      exact(hF i hi).2.2.2
     ·obtain⟨hi,rfl⟩:=hxs i y hy
      obtain⟨hc,hr,_,hl⟩:=hF i hi
      obtain⟨_,hcl,hcell⟩:=World.cells?_some hc
      have hj:j<(F i).2.length:=(List.getElem?_eq_some_iff.1 hm).1
      have hj':j<(F i).1.length:=by rw[hcl,←hl];exact hj
      have hv:(F i).1[j]?=some ((F i).1.getD j undef):=by simp[List.getD,hj']
      obtain⟨k1,k2⟩:=hr.2 j _ m hv hm
      refine⟨k1,?_,k2⟩
      have:=hcell j (by omega)
      rw[hv] at this
      simp only[cV] at this
      show w.cell? _=_
      rw[←Nat.add_assoc]
      exact this
    ·simp only[CT,hkk]
     refine⟨xs,rfl,by simp[xs];omega,fun y hy=>?_⟩
     obtain⟨i,hi⟩:=List.mem_iff_getElem?.1 hy
     obtain⟨hil,e⟩:=hxs i y hi
     rw[e]
     exact(hF i hil).2.2.1
  ·rename_i fs
   obtain⟨fa,ht,rfl⟩:=gZ hkk
   simp only[Bool.and_eq_true,List.all_eq_true] at h
   obtain⟨htl,hall⟩:=h
   obtain⟨xs,m,_,_,hcl,hxl,hget⟩:=DataW.trod_struct ht hx
   have hfield:∀f,f∈(fa.toList.map fun f=>(f.offset,f.type))→∃ms,pK (rI w) ((cs.drop f.1).take (td P f.2).size) ms∧CT P n f.2 ms:=by
    intro f hf
    have hf0:=hall f hf
    obtain⟨g,hg,rfl⟩:=List.mem_map.1 hf
    obtain⟨i,hi⟩:=List.mem_iff_getElem?.1 hg
    have hi':fa[i]?=some g:=by simpa using hi
    have hil:i<xs.length:=by
     rw[hxl]
     obtain⟨q,_⟩:=Array.getElem?_eq_some_iff.1 hi'
     exact q
    have:=hget i g hi'
    simp only at hf0 ⊢
    rw[kO hf0.1,List.getElem?_eq_getElem hil] at this
    refine kI n _ m _ _ hf0.2 ?_ this
    have:=(uP _ _ _ htl).2 _ hf
    simp only[List.length_take,List.length_drop,hlen] at this ⊢
    omega
   obtain⟨ms,r,hc⟩:=mJ (Φ:=rI w) (n:=n) (P:=P) hlen _ 0 (Nat.zero_le _) htl hfield (fun f hf ms hm=>H2 n _ ms (hall f hf).2 hm)
   refine⟨ms,by simpa using r,?_⟩
   simp only[CT,hkk]
   refine⟨by rw[←hlen];simpa using r.1.symm,fun f hf=>?_⟩
   have:=(hc f hf).2
   simpa using this
  ·rename_i k e
   have ht:=eX hkk
   simp only[Bool.and_eq_true,beq_iff_eq] at h
   obtain⟨⟨hsz2,heok⟩,h⟩:=h
   obtain⟨xs,m,_,_,hcl,hxl,hget⟩:=DataW.trod_array ht hx
   have htl:lE P ((List.range k).map fun j=>(j * (td P e).size,e)) 0 (td P t).size=true:=by
    have:=rF (P:=P) e k 0
    rw[List.range_eq_range',hsz2]
    simpa using this
   have hfield:∀f,f∈((List.range k).map fun j=>(j * (td P e).size,e))→∃ms,pK (rI w) ((cs.drop f.1).take (td P f.2).size) ms∧CT P n f.2 ms:=by
    intro f hf
    have hle:=(uP _ _ _ htl).2 _ hf
    obtain⟨i,hi,rfl⟩:=List.mem_map.1 hf
    have hik:i<k:=by simpa using hi
    have:=hget i hik
    simp only at hle ⊢
    rw[kO heok,List.getElem?_eq_getElem (by omega)] at this
    refine kI n _ m _ _ h ?_ this
    simp only[List.length_take,List.length_drop,hlen]
    omega
   obtain⟨ms,r,hc⟩:=mJ (Φ:=rI w) (n:=n) (P:=P) hlen _ 0 (Nat.zero_le _) htl hfield (fun f hf ms hm=>by
    obtain⟨i,hi,rfl⟩:=List.mem_map.1 hf
    exact H2 n _ ms h hm)
   refine⟨ms,by simpa using r,?_⟩
   simp only[CT,hkk]
   refine⟨by rw[←hlen];simpa using r.1.symm,fun i hi=>?_⟩
   have:=(hc (i * (td P e).size,e) (List.mem_map.2 ⟨i,by simpa using hi,rfl⟩)).2
   simpa using this
  ·cases h
theorem HQ{n:Nat}{t:TypeId}{v:Value}{d:DataW H}{ps:List MemPlace}{r:Reach}{b0:Nat}(h:shp P n t=true)(hv:Value.okWide P w r b0 t v)(hd:DataW.Trod enc P w base spare held t v d ps) :
  ∃m,Rel (rI w) v m∧AT P n t m:=by
 obtain⟨fuel,hf⟩:=hd
 have hok:(td P t).ok=true:=by
  cases n with
  | zero=>cases h
  | succ n=>simp only[shp,Bool.and_eq_true] at h;exact h.1
 have hcs:=kO hok
 unfold AT
 have key:(∃cs,v=.agg cs∧cs.size=(td P t).size∧(td P t).k.isAgg=true)∨((td P t).k.isAgg=false∧v.cells=#[v]∧(td P t).size=1):=by
  cases n with
  | zero=>cases h
  | succ n =>
   simp only[shp,Bool.and_eq_true] at h
   obtain⟨_,h⟩:=h
   split at h<;>rename_i hk
   ·obtain⟨b,rfl⟩:=okWide_bool (pG hk) hv
    exact .inr ⟨by rw[hk];rfl,rfl,by simpa using h⟩
   ·obtain⟨b,rfl⟩:=okWide_int (jA hk) hv
    exact .inr ⟨by rw[hk];rfl,rfl,by simpa using h⟩
   ·obtain⟨b,rfl⟩:=okWide_string (fG hk) hv
    exact .inr ⟨by rw[hk];rfl,rfl,by simpa using h⟩
   ·obtain⟨a,l,c,rfl⟩:=okWide_slice (aZ hk) hv
    simp only[Bool.and_eq_true,beq_iff_eq] at h
    exact .inr ⟨by rw[hk];rfl,rfl,h.1.1.1⟩
   ·obtain⟨fa,ht,_⟩:=gZ hk
    obtain⟨cs,rfl,hs⟩:=okWide_struct ht hv
    exact .inl ⟨cs,rfl,by rw[hs,hcs],by rw[hk];rfl⟩
   ·have ht:=eX hk
    simp only[Value.okWide,ht] at hv
    obtain⟨cs,rfl,hs,_⟩:=hv
    exact .inl ⟨cs,rfl,by rw[hs,hcs],by rw[hk];rfl⟩
   ·cases h
 rcases key with⟨cs,rfl,hs,ha⟩|⟨ha,hc,hs⟩
 ·simp only[ha,if_true]
  obtain⟨ms,hr,hct⟩:=kI n t fuel _ _ h (by simpa[Value.cells] using hs) hf
  have hr':pK (rI w) cs.toList ms:=by simpa[Value.cells] using hr
  have hl:cs.size=ms.length:=by simpa using hr'.1
  have get:∀(i:Nat) m,ms[i]?=some m→cs.toList[i]?=some (cs.getD i undef):=fun i m hm=>by
   have:i<cs.size:=by rw[hl];exact(List.getElem?_eq_some_iff.1 hm).1
   simp[Array.getD,this]
  exact⟨.agg ms,.agg hl (fun i m hm=>(hr'.2 i _ m (get i m hm) hm).1) (fun i m hm=>(hr'.2 i _ m (get i m hm) hm).2),ms,rfl,hct⟩
 ·simp only[ha,Bool.false_eq_true,if_false]
  obtain⟨ms,hr,hct⟩:=kI n t fuel _ _ h (by rw[hc,hs];rfl) hf
  rw[hc] at hr
  match ms,hr with
  | [m],hr =>
   exact⟨m,(hr.2 0 v m rfl rfl).2,hct⟩
  | [],hr=>exact absurd hr.1 (by simp)
  | _::_::_,hr=>exact absurd hr.1 (by simp)
def ATs(P:Program)(n:Nat):List TypeId→List MV→Prop
 | [],[]=>True
 | t::ts,m::ms=>AT P n t m∧ATs P n ts ms
 | _,_=>False
theorem v7{n:Nat}:∀{ts:List TypeId} {vs:List Value} {ds:List (DataW H)} {ps:List MemPlace},(∀t,t∈ts→shp P n t=true)→(∀(j:Nat) t v,ts[j]?=some t→vs[j]?=some v→Value.okWide P w .any base t v) →
  DataW.TrodAll enc P w 0 spare held ts vs ds ps→∃ms,vs.length=ms.length∧(∀(i:Nat) v m,vs[i]?=some v→ms[i]?=some m→Rel (rI w) v m)∧ATs P n ts ms
 | [],vs,ds,ps,_,_,h=>by
  obtain⟨rfl,_,_⟩:=trodAll_nil h
  exact⟨[],rfl,fun i v m h=>by simp at h,trivial⟩
 | t::ts,vs,ds,ps,hs,hok,h=>by
  obtain⟨v,vs1,d,ds1,a,b,rfl,rfl,rfl,h1,h2⟩:=trodAll_cons h
  obtain⟨m,r,ht⟩:=HQ (hs t (List.mem_cons_self ..)) (hok 0 t v rfl rfl) h1
  obtain⟨ms,e,rs,hts⟩:=v7 (fun t h=>hs t (List.mem_cons_of_mem _ h)) (fun j t v p q=>hok (j+1) t v (by simpa using p) (by simpa using q)) h2
  refine⟨m::ms,by simp[e],fun i v' m' p q=>?_,ht,hts⟩
  cases i with
  | zero=>simp at p q;subst p q;exact r
  | succ i=>simp at p q;exact rs i v' m' p q
theorem v8{W W':World}(hl:laidOutB P=true)(hb:∀k,k<W.heap.size→W'.heap[k]?=W.heap[k]?):∀{ts:List TypeId} {vs:List Value} {ds:List (DataW H)} {ps:List MemPlace} {sp:Nat→Bool},
  (∀t,t∈ts→P.readableRec t=true∧t<P.types.size)→DataW.TrodAll enc P W 0 (fun _=>true) true ts vs ds ps→(∀x∈ps,x.block<W.heap.size)→(∀x∈ps,sp x.block=true)→DataW.TrodAll enc P W' 0 sp true ts vs ds ps
 | [],vs,ds,ps,sp,_,h,_,_=>by
  obtain⟨rfl,rfl,rfl⟩:=trodAll_nil h
  exact trodAll_mk0
 | t::ts,vs,ds,ps,sp,hr,h,hlt,hsp=>by
  obtain⟨v,vs1,d,ds1,a,b,rfl,rfl,rfl,h1,h2⟩:=trodAll_cons h
  refine⟨a,b,?_,v8 hl hb (fun t h=>hr t (List.mem_cons_of_mem _ h)) h2 (fun x hx=>hlt x (List.mem_append_right _ hx)) (fun x hx=>hsp x (List.mem_append_right _ hx)),rfl⟩
  obtain⟨r1,r2⟩:=hr t (List.mem_cons_self ..)
  refine WideElems.Trod_stays hl r1 r2 h1 (fun x hx=>?_) (fun x hx=>hsp x (List.mem_append_left _ hx))
  have hp:=hlt x (List.mem_append_left _ hx)
  cases x with
  | cell b o=>exact World.cell?_of_block (w:=W) (hb b hp)
  | map b=>exact hb b hp
theorem KJ{W W':World}{may:MemPlace→Prop}(h1:W'.os=W.os)(h2:W'.output=W.output)(hb:∀k,k<W.heap.size→W'.heap[k]?=W.heap[k]?):W.keptBut W' may:=by
 refine⟨h1,h2,fun i hi=>?_⟩
 rw[hb i hi]
 cases W.heap[i]? with
 | none=>rfl
 | some o=>cases o with
  | cells c t fr=>exact⟨rfl,rfl,rfl,fun _ _=>rfl⟩
  | map es clock=>exact .inr ⟨rfl,rfl⟩
  | _=>rfl
theorem FM{W W':World}(hb:∀k,k<W.heap.size→W'.heap[k]?=W.heap[k]?){a:Addr}(h:a.block<W.heap.size):W'.frozen? a=W.frozen? a:=by
 unfold World.frozen?
 rw[hb _ h]
theorem Ir{f:Func}{s:ChangeSpec}{apart fresh handsOn again:Bool}{W W':World}{args:Array Value}{ds gs:List (DataW H)}{before:List MemPlace}{tb:TypeId}
 (hvars:s.vars=[])(hs:∀(H:Type) (ds:List (DataW H)),ds.length=f.params.size→s.fn H ds={ results:=[.lit (.bool true)],args:=ds })
 (hres:f.resultTypes=#[tb])(htb:P.underlying tb=some .bool)(hl:laidOutB P=true)(hr:∀t,t∈f.params.toList→P.readableRec t=true∧t<P.types.size)
 (hW:DataW.Whole enc P f.params.toList s.vars apart W args.toList ds gs before)(h1:W'.os=W.os)(h2:W'.output=W.output)(hb:∀k,k<W.heap.size→W'.heap[k]?=W.heap[k]?) :
  s.post enc P f apart fresh handsOn again W args (.bool true) W':=by
 have hlt:=hW.lt
 have hW0:=hW
 obtain⟨p,q,hA,hV,hpq,hfz,hnd⟩:=hW
 rw[hvars] at hV
 obtain⟨rfl,rfl⟩:=trodVars_none hV
 rw[List.append_nil] at hpq
 subst hpq
 have hlen:∀{ts:List TypeId} {vs:List Value} {ds:List (DataW H)} {ps:List MemPlace},DataW.TrodAll enc P W 0 (fun _=>true) true ts vs ds ps→ds.length=ts.length:=by
  intro ts
  induction ts with
  | nil=>intro vs ds ps h;obtain⟨_,rfl,_⟩:=trodAll_nil h;rfl
  | cons t ts ih =>
   intro vs ds ps h
   obtain⟨v,vs1,d,ds1,a,b,rfl,rfl,rfl,h1,h2⟩:=trodAll_cons h
   simp[ih h2]
 have hfn:s.fn H (ds++[])={ results:=[.lit (.bool true)],args:=ds }:=by
  rw[List.append_nil]
  exact hs H ds (by rw[hlen hA];simp)
 have hargs:∀sp:Nat→Bool,(∀x∈before,sp x.block=true)→DataW.TrodAll enc P W' 0 sp true f.params.toList args.toList ds before:=fun sp hsp=>v8 hl hb hr hA hlt hsp
 have hresl:(Value.bool true).resultList f.resultTypes.size=[.bool true]:=by rw[hres];rfl
 have hrt:∀(b:Nat) (sp:Nat→Bool) (hd:Bool),DataW.TrodAll enc P W' b sp hd f.resultTypes.toList ((Value.bool true).resultList f.resultTypes.size) [.lit (.bool true)] []:=fun b sp hd=>by
  rw[hresl,hres]
  exact trodAll_mk1 (shut_bool htb true)
 refine⟨ds,[],before,[],before,[],hW0,?_,?_,?_,KJ h1 h2 hb,fun _=>⟨?_,[.lit (.bool true)]++ds,[],[]++before,⟨[]++before,[],trodAll_append (hargs _ fun _ _=>rfl) (hrt _ _ _),?_,by simp,fun b off hp=>?_,fun ha=>?_⟩,fun x hx _=>?_⟩⟩
 ·rw[hfn];exact hrt _ _ _
 ·rw[hfn];exact hargs _ fun x hx=>by simpa using hlt x hx
 ·rw[hfn,hvars];rfl
 ·exact ok_one hres rfl (okWide_bool_mk htb true)
 ·rw[hvars];rfl
 ·have hp':MemPlace.cell b off∈before:=by simpa using hp
  rw[FM hb (a:=⟨b,off,none⟩) (hlt _ hp')]
  exact hfz b off (by simpa using hp')
 ·have:=hnd ha
  simpa using this
 ·simpa using hx
theorem CJ{n:Nat}{t:TypeId}{k:IntKind}{cs:List MV}(hk:(td P t).k=.int k)(h:CT P (n+1) t cs):∃v,cs=[.int k v]∧k.min≤v∧v≤k.max:=by
 simp only[CT,hk] at h;exact h
theorem Mh{n:Nat}{t:TypeId}{cs:List MV}(hk:(td P t).k=.str)(h:CT P (n+1) t cs):∃s:ByteArray,cs=[.str s]∧s.size≤maxLen:=by
 simp only[CT,hk] at h;exact h
theorem lS{n:Nat}{t e:TypeId}{cs:List MV}(hk:(td P t).k=.slice e)(h:CT P (n+1) t cs):∃xs,cs=[.lst (td P e).size xs false]∧xs.length≤maxLen∧∀x,x∈xs→CT P n e x:=by
 simp only[CT,hk] at h;exact h
theorem gR{n:Nat}{t:TypeId}{fs:List (Nat × TypeId)}{cs:List MV}(hk:(td P t).k=.struct fs)(h:CT P (n+1) t cs):cs.length=(td P t).size∧∀f,f∈fs→CT P n f.2 ((cs.drop f.1).take (td P f.2).size):=by
 simp only[CT,hk] at h;exact h
theorem H0{n m:Nat}{t e:TypeId}{cs:List MV}(hk:(td P t).k=.array m e)(h:CT P (n+1) t cs):cs.length=(td P t).size∧∀i,i<m→CT P n e ((cs.drop (i * (td P e).size)).take (td P e).size):=by
 simp only[CT,hk] at h;exact h
theorem Km{n:Nat}{t:TypeId}{m:MV}(hk:(td P t).k.isAgg=false)(h:AT P n t m):CT P n t [m]:=by
 simpa only[AT,hk,Bool.false_eq_true,if_false] using h
theorem Mf{n:Nat}{t:TypeId}{m:MV}(hk:(td P t).k.isAgg=true)(h:AT P n t m):∃cs,m=.agg cs∧CT P n t cs:=by
 simpa only[AT,hk,if_true] using h
theorem l3{α:Type}{f:α→List MV}{xs:List (List MV)}(h:∀x,x∈xs→∃a,x=f a):∃l:List α,xs=l.map f:=by
 induction xs with
 | nil=>exact⟨[],rfl⟩
 | cons x xs ih =>
  obtain⟨a,rfl⟩:=h x (List.mem_cons_self ..)
  obtain⟨l,rfl⟩:=ih fun y hy=>h y (List.mem_cons_of_mem _ hy)
  exact⟨a::l,rfl⟩
theorem Kp{a b:MV}(h:[a]=[b]):a=b:=by simpa using h
end
end

section
set_option maxRecDepth 100000
set_option maxHeartbeats 8000000
def FJ(g:FuncId)(v:MV):cC:=fun g' _=>if g'=g then some ⟨[],fun w=>w=v,none⟩ else none
theorem oR{g:FuncId}{v:MV}{ms:List MV}:FJ g v g ms=some ⟨[],fun w=>w=v,none⟩:=by simp[FJ]
instance:Inhabited DE:=⟨⟨0,0,0⟩⟩
def deZ:DE:=⟨0,0,0⟩
theorem BR(a b:List CA)(hl:a.length≤1000000)(ta tb:Bool):aA Tryz.prog 19 [.lst 27 (a.map CA.c) ta,.lst 27 (b.map CA.c) tb] St.none (fun r _=>r=.bool (decide (a=b))):=by
 refine(aA.body 26 [.tmp 4] Tryz.func19 rfl rfl rfl rfl ?_)
 by_cases hlen:a.length=b.length
 ·repeat' (first|(with_reducible first|(refine wN fun _ hnl=>?_;revert hnl;(repeat refine wS fun _ _=>?_);intro hnl)|refine wE ?_|(refine wK ?_ ?_<;>intro h)|(refine wB ?_ ?_<;>intro h<;>simp only[h]))|simp(maxSteps:=4000000) (disch:=first|exact ddL|fail) only[go_sem,simprocAttr,Tryz.f19])
  refine aG (α:=Nat) (fun i=>⟨26,[(5,.int .i64 (i:Int)),(0,.lst 27 (a.map CA.c) ta),(1,.lst 27 (b.map CA.c) tb)],[]⟩) (fun _=>St.none) (fun i=>i≤a.length∧a.take i=b.take i) (fun i=>a.length - i) (.of (.less ?_ (St.le_refl _)) ⟨0,rfl,rfl,Nat.zero_le _,rfl⟩) ?_
  ·simp(maxSteps:=4000000) (disch:=first|exact ddL|fail) only[go_sem,simprocAttr,aC,aB]
   all_goals rfl
  ·rintro i ⟨hi,hq⟩
   by_cases hlt:i<a.length
   ·have hsa:=List.take_succ_eq_append_getElem (l:=a) hlt
    have hib:i<b.length:=by omega
    have hsb:=List.take_succ_eq_append_getElem (l:=b) hib
    rw[←bJ ca0 hlt] at hsa
    rw[←bJ ca0 hib] at hsb
    have hma:=eN ca0 hlt
    have hmb:=eN ca0 hib
    obtain⟨x,hx⟩:∃x,a.getD i ca0=x:=⟨_,rfl⟩
    obtain⟨y,hy⟩:∃y,b.getD i ca0=y:=⟨_,rfl⟩
    rw[hx] at hsa hma
    rw[hy] at hsb hmb
    have hm:=IZ x y
    by_cases he:x=y
    ·rw[decide_eq_true he] at hm
     repeat' (first|(with_reducible first|(refine wN fun _ hnl=>?_;revert hnl;(repeat refine wS fun _ _=>?_);intro hnl)|refine wE ?_|(refine wK ?_ ?_<;>intro h)|(refine wB ?_ ?_<;>intro h<;>simp only[h]))|simp(maxSteps:=4000000) (disch:=first|exact ddL|fail) only[go_sem,simprocAttr,FXs,bE ca0,hx,hy,hm])
     refine .of (.less ?_ (St.le_refl _)) ⟨i+1,rfl,rfl,⟨by omega,by rw[hsa,hsb,hq,he]⟩,by omega⟩
     simp(maxSteps:=4000000) (disch:=first|exact ddL|fail) only[go_sem,simprocAttr,aC,aB]
     all_goals rfl
    ·rw[decide_eq_false he] at hm
     have hne:¬a=b:=fun e=>he (by rw[←hx,←hy,e])
     rw[decide_eq_false hne]
     repeat' (first|(with_reducible first|(refine wN fun _ hnl=>?_;revert hnl;(repeat refine wS fun _ _=>?_);intro hnl)|refine wE ?_|(refine wK ?_ ?_<;>intro h)|(refine wB ?_ ?_<;>intro h<;>simp only[h]))|simp(maxSteps:=4000000) (disch:=first|exact ddL|fail) only[go_sem,simprocAttr,FXs,bE ca0,hx,hy,hm])
     all_goals done
   ·have:i=a.length:=by omega
    subst this
    rw[List.take_length,hlen,List.take_length] at hq
    rw[decide_eq_true hq]
    repeat' (first|(with_reducible first|(refine wN fun _ hnl=>?_;revert hnl;(repeat refine wS fun _ _=>?_);intro hnl)|refine wE ?_|(refine wK ?_ ?_<;>intro h)|(refine wB ?_ ?_<;>intro h<;>simp only[h]))|simp(maxSteps:=4000000) (disch:=first|exact ddL|fail) only[go_sem,simprocAttr])
    all_goals done
 ·rw[decide_eq_false fun e=>hlen (by rw[e])]
  repeat' (first|(with_reducible first|(refine wN fun _ hnl=>?_;revert hnl;(repeat refine wS fun _ _=>?_);intro hnl)|refine wE ?_|(refine wK ?_ ?_<;>intro h)|(refine wB ?_ ?_<;>intro h<;>simp only[h]))|simp(maxSteps:=4000000) (disch:=first|exact ddL|fail) only[go_sem,simprocAttr,Tryz.f19])
  all_goals (first|rfl|(exfalso;omega))
end

section
set_option maxRecDepth 100000
set_option maxHeartbeats 4000000
theorem Kj(s n:Nat):(s &&& 2 ^ n=0)=(s / 2 ^ n % 2=0):=by
 apply propext
 have h:s &&& 2 ^ n=2 ^ n * (s / 2 ^ n % 2):=by
  refine Nat.eq_of_testBit_eq fun i=>?_
  rw[Nat.testBit_and,Nat.testBit_two_pow]
  by_cases hi:n=i
  ·subst hi
   rcases Nat.mod_two_eq_zero_or_one (s / 2 ^ n) with h|h
   ·rw[h,Nat.mul_zero,Nat.zero_testBit]
    have:s.testBit n=false:=by rw[Nat.testBit_eq_decide_div_mod_eq,h];rfl
    rw[this];rfl
   ·rw[h,Nat.mul_one,Nat.testBit_two_pow_self]
    have:s.testBit n=true:=by rw[Nat.testBit_eq_decide_div_mod_eq,h];rfl
    rw[this];simp
  ·rw[decide_eq_false hi,Bool.and_false]
   rcases Nat.mod_two_eq_zero_or_one (s / 2 ^ n) with h|h
   ·rw[h,Nat.mul_zero,Nat.zero_testBit]
   ·rw[h,Nat.mul_one,Nat.testBit_two_pow_of_ne hi]
 rw[h,Nat.mul_eq_zero]
 have:=Nat.pos_of_ne_zero (n:=2 ^ n) (Nat.ne_of_gt (Nat.two_pow_pos n))
 constructor
 ·rintro(h|h)
  ·omega
  ·exact h
 ·exact .inr
theorem tN(s n:Nat)(hs:s<4294967296)(hn:n<32):aA Tryz.prog 165 [.int .u32 (s:Int),.int .i64 (n:Int)] St.none (fun r _=>r=.bool (hasB s n)):=by
 refine(aA.body 10 [.tmp 4] Tryz.func165 rfl rfl rfl rfl ?_)
 have h:=xO n hn
 have ha:=Aj s (2 ^ n) hs (Nat.pow_lt_pow_right (a:=2) (n:=32) (by decide) hn)
 have hb:=Kj s n
 have e:hasB s n=!decide (s &&& 2 ^ n=0):=by
  unfold hasB
  have h2:((n:Int)).toNat=n:=by simp
  have h3:0≤(n:Int)∧(n:Int)≤31:=by omega
  rcases Nat.mod_two_eq_zero_or_one (s / 2 ^ n) with h|h
  ·have h4:s &&& 2 ^ n=0:=by rw[hb];exact h
   simp[h4,h]
  ·have h4:¬(s &&& 2 ^ n=0):=by rw[hb];omega
   simp[h4,h]
   omega
 rw[e]
 generalize s &&& 2 ^ n=x at ha ⊢
 generalize ((2 ^ n:Nat):Int)=y at h ha
 repeat' (first|(with_reducible first|refine up h ?_)|(with_reducible first|(refine wN fun _ hnl=>?_;revert hnl;(repeat refine wS fun _ _=>?_);intro hnl)|refine wE ?_|(refine wK ?_ ?_<;>intro h)|(refine wB ?_ ?_<;>intro h<;>simp only[h]))|simp(maxSteps:=4000000) (disch:=first|exact ddL|fail) only[go_sem,simprocAttr,Tryz.f165,ha])
 all_goals first|(simp;done)|(by_cases hx:x=0<;>simp[hx])
theorem qZ(a b:VA):aA Tryz.prog 170 [.agg a.c,.agg b.c] St.none (fun r _=>r=.bool (gO a b)):=by
 refine aA.cP (aA.body 24 [.tmp 4] Tryz.func170 rfl rfl rfl rfl ?_)
 have h1:=vY a b
 have hd:gO a b=(decide (a.kd=b.kd)&&(decide (a.kd=1) || decide (a.kd=2))&&decide (k6 (cmpL a.key b.key)<0)):=rfl
 generalize k6 (cmpL a.key b.key)=o at h1 hd
 generalize gO a b=out at hd ⊢
 by_cases e1:a.kd=b.kd
 ·by_cases e2:a.kd=1
  ·rw[decide_eq_true e1,decide_eq_true e2,Bool.true_or,Bool.true_and,Bool.true_and] at hd
   subst hd
   repeat' (first|(with_reducible first|refine up h1 ?_)|(with_reducible first|(refine wN fun _ hnl=>?_;revert hnl;(repeat refine wS fun _ _=>?_);intro hnl)|refine wE ?_|(refine wK ?_ ?_<;>intro h)|(refine wB ?_ ?_<;>intro h<;>simp only[h]))|simp(maxSteps:=4000000) (disch:=first|exact ddL|fail) only[go_sem,simprocAttr,Tryz.f170])
   all_goals first|exact⟨_,St.le_refl _,rfl⟩|exact⟨_,St.le_refl _⟩
  ·by_cases e3:a.kd=2
   ·rw[decide_eq_true e1,decide_eq_true e3,Bool.or_true,Bool.true_and,Bool.true_and] at hd
    subst hd
    repeat' (first|(with_reducible first|refine up h1 ?_)|(with_reducible first|(refine wN fun _ hnl=>?_;revert hnl;(repeat refine wS fun _ _=>?_);intro hnl)|refine wE ?_|(refine wK ?_ ?_<;>intro h)|(refine wB ?_ ?_<;>intro h<;>simp only[h]))|simp(maxSteps:=4000000) (disch:=first|exact ddL|fail) only[go_sem,simprocAttr,Tryz.f170])
    all_goals first|exact⟨_,St.le_refl _,rfl⟩|exact⟨_,St.le_refl _⟩
   ·rw[decide_eq_false e2,decide_eq_false e3,Bool.or_false,Bool.and_false,Bool.false_and] at hd
    subst hd
    repeat' (first|(with_reducible first|refine up h1 ?_)|(with_reducible first|(refine wN fun _ hnl=>?_;revert hnl;(repeat refine wS fun _ _=>?_);intro hnl)|refine wE ?_|(refine wK ?_ ?_<;>intro h)|(refine wB ?_ ?_<;>intro h<;>simp only[h]))|simp(maxSteps:=4000000) (disch:=first|exact ddL|fail) only[go_sem,simprocAttr,Tryz.f170])
    all_goals first|exact⟨_,St.le_refl _,rfl⟩|exact⟨_,St.le_refl _⟩
 ·rw[decide_eq_false e1,Bool.false_and,Bool.false_and] at hd
  subst hd
  repeat' (first|(with_reducible first|refine up h1 ?_)|(with_reducible first|(refine wN fun _ hnl=>?_;revert hnl;(repeat refine wS fun _ _=>?_);intro hnl)|refine wE ?_|(refine wK ?_ ?_<;>intro h)|(refine wB ?_ ?_<;>intro h<;>simp only[h]))|simp(maxSteps:=4000000) (disch:=first|exact ddL|fail) only[go_sem,simprocAttr,Tryz.f170])
  all_goals first|exact⟨_,St.le_refl _,rfl⟩|exact⟨_,St.le_refl _⟩
def lB(s:ByteArray)(i:Nat):List (List MV):=(s.toList.take i).map (fun c=>[.int .u8 (lG (c.toNat:Int))])++(s.toList.drop i).map (fun c=>[.int .u8 (c.toNat:Int)])
theorem qK(s:ByteArray):s.toList.length=s.size:=by
 rw[ByteArray.toList_eq,Array.length_toList]
 rfl
theorem JJ(s:ByteArray){i:Nat}(h:i≤s.size):(lB s i).length=s.size:=by
 have:=qK s
 simp[lB]
 omega
theorem Lw{s:ByteArray}{i:Nat}(h:i<s.size):(lB s i).getD i []=[.int .u8 ((s.toList.getD i 0).toNat:Int)]:=by
 have hl:i<s.toList.length:=by rw[qK];exact h
 unfold lB
 rw[List.getD_eq_getElem?_getD,List.getElem?_append_right (by simp;omega)]
 simp[Nat.min_eq_left (Nat.le_of_lt hl),List.getElem?_eq_getElem hl,List.getD_eq_getElem?_getD]
theorem JK{s:ByteArray}{i:Nat}(h:i<s.size):(lB s i).set i [.int .u8 (lG ((s.toList.getD i 0).toNat:Int))]=lB s (i+1):=by
 have hl:i<s.toList.length:=by rw[qK];exact h
 have e1:s.toList.drop i=s.toList[i]::s.toList.drop (i+1):=List.drop_eq_getElem_cons hl
 have e2:s.toList.take (i+1)=s.toList.take i++[s.toList[i]]:=List.take_succ_eq_append_getElem hl
 unfold lB
 rw[e1,e2,bJ 0 hl,List.set_append_right _ _ (by rw[List.length_map,List.length_take];omega)]
 rw[List.map_cons,List.length_map,List.length_take,Nat.min_eq_left (Nat.le_of_lt hl),Nat.sub_self,List.set_cons_zero,List.map_append,List.map_cons,List.map_nil,List.append_assoc]
 rfl
theorem JQ{l:List (List MV)}{i:Nat}(h:i<l.length){x:List MV}(hx:l.getD i []=x):l.set i x=l:=by
 subst hx
 rw[List.getD_eq_getElem?_getD,List.getElem?_eq_getElem h]
 exact List.set_getElem_self h
theorem wR(s:ByteArray):∀i,i≤s.size→oS s i=bytesOf ((s.toList.take i).map (fun c=>[.int .u8 (lG (c.toNat:Int))]))
 | 0,_=>rfl
 | i+1,h=>by
  have hl:i<s.toList.length:=by rw[qK];omega
  rw[oS,wR s i (by omega),List.take_succ_eq_append_getElem hl,List.map_append,fch,bJ 0 hl]
  unfold bytesOf
  exact ByteArray.ext (by rw[ByteArray.data_append];simp)
theorem FK(s:ByteArray):bytesOf (lB s s.size)=dQ s:=by
 rw[dQ,wR s s.size (Nat.le_refl _),lB,←qK,List.drop_length,List.map_nil,List.append_nil]
theorem Hq(s:ByteArray):(lB s s.size).all isByte=true:=by
 rw[List.all_eq_true]
 intro x hx
 unfold lB at hx
 rw[←qK,List.drop_length,List.map_nil,List.append_nil] at hx
 obtain⟨b,_,rfl⟩:=List.mem_map.1 hx
 have:=sW (c:=(b.toNat:Int)) (by omega) (by have:=b.toNat_lt;omega)
 simp[isByte,this]
theorem tO(s:ByteArray)(h:s.size≤1000000):aA Tryz.prog 198 [.str s] St.none (fun r _=>r=.str (dQ s)):=by
 refine aA.cP (aA.body 30 [.tmp 2] Tryz.func198 rfl rfl rfl rfl ?_)
 repeat' (first|(with_reducible first|(refine wT ?_;(first|((fail_if_success (have:=nl1));refine wN fun nl1 hnl=>?_)|refine wN fun _ hnl=>?_);revert hnl;(repeat refine wS fun _ _=>?_);intro hnl)|refine wE ?_|(refine wK ?_ ?_<;>intro h)|(refine wB ?_ ?_<;>intro h<;>simp only[h]))|simp(maxSteps:=4000000) (disch:=first|exact ddL|fail) only[go_sem,simprocAttr,Tryz.f198])
 refine aG (α:=Nat) (fun i=>⟨30,[(10,.int .i64 (i:Int)),(9,.int .i64 (s.size:Int)),(8,.vec 1 nl1 0 s.size),(3,.vec 1 nl1 0 s.size)],[]⟩)
  (fun i=>St.none.set nl1 (.row 5 1 (lB s i))) (fun i=>i≤s.size) (fun i=>s.size - i) ?_ ?_
 ·refine .of (.less ?_ (St.aH (St.none_le _) (by simp[St.set,lB]))) ⟨0,rfl,rfl,Nat.zero_le _⟩
  simp(maxSteps:=4000000) (disch:=first|exact ddL|fail) only[go_sem,simprocAttr,aC,aB]
  all_goals first|rfl|(simp;done)
 ·intro i hi
  have hi:i≤s.size:=hi
  have hrl:=JJ s hi
  by_cases hlt:i<s.size
  ·have hat:=Lw hlt
   have hset:=JK hlt
   have hc0:0≤((s.toList.getD i 0).toNat:Int):=by omega
   have hc1:((s.toList.getD i 0).toNat:Int)≤255:=by have:=(s.toList.getD i 0).toNat_lt;omega
   obtain⟨c,hc⟩:∃c:Int,((s.toList.getD i 0).toNat:Int)=c:=⟨_,rfl⟩
   rw[hc] at hc0 hc1 hat hset
   have hsame:lG c=c→(lB s i)=lB s (i+1):=fun e=>by rw[←hset,e,JQ (by rw[hrl];exact hlt) hat]
   by_cases hcc:65≤c∧c≤90
   ·obtain⟨g1,g2⟩:=hcc
    have e:lG c=c+97 - 65:=by unfold lG;rw[if_pos ⟨g1,g2⟩];omega
    rw[e] at hset
    repeat' (first|(with_reducible first|(refine wT ?_;(first|((fail_if_success (have:=nl1));refine wN fun nl1 hnl=>?_)|refine wN fun _ hnl=>?_);revert hnl;(repeat refine wS fun _ _=>?_);intro hnl)|refine wE ?_|(refine wK ?_ ?_<;>intro h)|(refine wB ?_ ?_<;>intro h<;>simp only[h]))|simp(maxSteps:=4000000) (disch:=first|exact ddL|fail) only[go_sem,simprocAttr,hat,hrl,g1,g2])
    refine .of (.less ?_ (σ1:=St.none.set nl1 (.row 5 1 (lB s (i+1)))) (by rw[hset];exact St.le_refl _)) ⟨i+1,rfl,rfl,by omega,by omega⟩
    simp(maxSteps:=4000000) (disch:=first|exact ddL|fail) only[go_sem,simprocAttr,aC,aB]
    all_goals first|rfl|(simp;done)
   ·have e:lG c=c:=by unfold lG;rw[if_neg hcc]
    have hs':=hsame e
    repeat' (first|(with_reducible first|(refine wT ?_;(first|((fail_if_success (have:=nl1));refine wN fun nl1 hnl=>?_)|refine wN fun _ hnl=>?_);revert hnl;(repeat refine wS fun _ _=>?_);intro hnl)|refine wE ?_|(refine wK ?_ ?_<;>intro h)|(refine wB ?_ ?_<;>intro h<;>simp only[h]))|simp(maxSteps:=4000000) (disch:=first|exact ddL|fail) only[go_sem,simprocAttr,hat,hrl])
    all_goals first
     | (exfalso;omega)
     | refine .of (.less ?_ (σ1:=St.none.set nl1 (.row 5 1 (lB s (i+1)))) (by rw[hs'];exact St.le_refl _)) ⟨i+1,rfl,rfl,by omega,by omega⟩
    all_goals
     simp(maxSteps:=4000000) (disch:=first|exact ddL|fail) only[go_sem,simprocAttr,aC,aB]
     all_goals first|rfl|(simp;done)
  ·have:i=s.size:=by omega
   subst this
   have hfb:=Hq s
   have hfs:=FK s
   have htk:(lB s s.size).take s.size=lB s s.size:=List.take_of_length_le (by rw[hrl];exact Nat.le_refl _)
   repeat' (first|(with_reducible first|(refine wT ?_;(first|((fail_if_success (have:=nl1));refine wN fun nl1 hnl=>?_)|refine wN fun _ hnl=>?_);revert hnl;(repeat refine wS fun _ _=>?_);intro hnl)|refine wE ?_|(refine wK ?_ ?_<;>intro h)|(refine wB ?_ ?_<;>intro h<;>simp only[h]))|simp(maxSteps:=4000000) (disch:=first|exact ddL|fail) only[go_sem,simprocAttr,hrl,hfb,hfs,htk])
   all_goals first|exact⟨_,St.le_refl _,rfl⟩|exact⟨_,St.le_refl _⟩
end

section
set_option maxRecDepth 100000
set_option maxHeartbeats 4000000
def fnG:List (FuncId × (List MV→MV))→cC
 | []=>fun _ _=>none
 | p::r=>fun g ms=>if p.1=g then some ⟨[],fun v=>v=p.2 ms,none⟩ else fnG r g ms
theorem EJ{g:FuncId}{u:List MV→MV}{r:List (FuncId × (List MV→MV))}{ms:List MV}{x:MV}(h:u ms=x):fnG ((g,u)::r) g ms=some ⟨[],fun v=>v=x,none⟩:=by
 subst h
 simp[fnG]
theorem Ia{g g':FuncId}{u:List MV→MV}{r:List (FuncId × (List MV→MV))}{ms:List MV}{F:Fact}(hne:(g'==g)=false)(h:fnG r g ms=some F):fnG ((g',u)::r) g ms=some F:=by
 have:g'≠g:=by simpa using hne
 simp[fnG,this,h]
theorem extract_eq(A B:ByteArray)(i:Nat):A.extract i (i+B.size)=B↔(A.data.toList.drop i).take B.size=B.data.toList:=by
 have e:(A.extract i (i+B.size)).data.toList=(A.data.toList.drop i).take B.size:=by
  simp[ByteArray.data_extract,Array.toList_extract,List.extract_eq_take_drop]
 constructor
 ·intro h
  rw[←e,h]
 ·intro h
  rw[←e] at h
  exact ByteArray.ext (Array.toList_inj.1 h)
theorem tM(A B:ByteArray):nN A B=Go.Lib.contains A.data.toList B.data.toList:=by
 have hla:A.data.toList.length=A.size:=by rw[Array.length_toList];rfl
 have hlb:B.data.toList.length=B.size:=by rw[Array.length_toList];rfl
 have hocc:∀i,Go.Lib.occAt A.data.toList B.data.toList i=true↔(A.data.toList.drop i).take B.size=B.data.toList:=fun i=>by
  unfold Go.Lib.occAt
  rw[List.isPrefixOf_iff_prefix,List.prefix_iff_eq_take,hlb]
  exact eq_comm
 rw[Bool.eq_iff_iff]
 unfold nN Go.Lib.contains
 rw[List.any_eq_true,decide_eq_true_iff]
 constructor
 ·rintro⟨i,hi,h⟩
  have hi:=List.mem_range.1 hi
  have h:=(extract_eq A B i).1 (of_decide_eq_true h)
  rcases Go.Lib.index_spec A.data.toList B.data.toList with⟨_,h2⟩|⟨j,h1,_⟩
  ·have:=h2 i (by omega)
   rw[(hocc i).2 h] at this
   cases this
  ·omega
 ·intro h
  rcases Go.Lib.index_spec A.data.toList B.data.toList with⟨h1,_⟩|⟨j,h1,h2,h3,_⟩
  ·omega
  ·have h4:=(hocc j).1 h3
   have h5:=congrArg List.length h4
   rw[List.length_take,List.length_drop,hla,hlb] at h5
   refine⟨j,List.mem_range.2 (by omega),decide_eq_true ((extract_eq A B j).2 h4)⟩
theorem BH(a b:VA)(ha:a.s.size≤1000000)(hb:b.s.size≤1000000):aA Tryz.prog 173 [.agg a.c,.agg b.c] St.none (fun r _=>r=.bool (iO a b)):=by
 refine aA.cP (aA.body 22 [.tmp 4] Tryz.func173 rfl rfl rfl rfl ?_)
 have f1:=tO a.s ha
 have f2:=tO b.s hb
 have hc:=qI (dQ a.s) (dQ b.s) (by rw[nS];exact ha)
 rw[←tM] at hc
 have hd:iO a b=(decide (a.kd=2)&&decide (b.kd=2)&&nN (dQ a.s) (dQ b.s)):=rfl
 obtain⟨C,c1,c2⟩:∃C:cC,(∀s,C 198 [.str s]=some ⟨[],fun v=>v=.str (dQ s),none⟩)∧(∀ms,C 197 ms=some ⟨[],fun v=>v=.bool (nN (dQ a.s) (dQ b.s)),none⟩) :=
  ⟨fnG [(198,fun ms=>match ms with|[.str s]=>.str (dQ s)|_=>.junk),(197,fun _=>.bool (nN (dQ a.s) (dQ b.s)))],fun s=>EJ rfl,fun _=>Ia rfl (EJ rfl)⟩
 have c1a:=c1 a.s
 have c1b:=c1 b.s
 clear c1
 generalize nN (dQ a.s) (dQ b.s)=p at hc hd c2
 generalize iO a b=out at hd ⊢
 by_cases e1:a.kd=2
 ·by_cases e2:b.kd=2
  ·rw[decide_eq_true e1,decide_eq_true e2,Bool.true_and,Bool.true_and] at hd
   subst hd
   repeat' (first|((with_reducible refine aT mixed ?chk C ?_);(case chk=>decide +kernel))|(with_reducible refine aQ c1a f1 ?_)|(with_reducible refine aQ c1b f2 ?_)|(with_reducible refine aQ (c2 _) hc ?_)|(with_reducible first|(refine wN fun _ hnl=>?_;revert hnl;(repeat refine wS fun _ _=>?_);intro hnl)|refine wE ?_|(refine wK ?_ ?_<;>intro h)|(refine wB ?_ ?_<;>intro h<;>simp only[h]))|simp(maxSteps:=4000000) (disch:=first|exact ddL|fail) only[go_sem,simprocAttr,Tryz.f173,e1,e2])
   all_goals first|exact⟨_,St.le_refl _,rfl⟩|exact⟨_,St.le_refl _⟩
  ·rw[decide_eq_false e2,Bool.and_false,Bool.false_and] at hd
   subst hd
   repeat' (first|((with_reducible refine aT mixed ?chk C ?_);(case chk=>decide +kernel))|(with_reducible refine aQ c1a f1 ?_)|(with_reducible refine aQ c1b f2 ?_)|(with_reducible refine aQ (c2 _) hc ?_)|(with_reducible first|(refine wN fun _ hnl=>?_;revert hnl;(repeat refine wS fun _ _=>?_);intro hnl)|refine wE ?_|(refine wK ?_ ?_<;>intro h)|(refine wB ?_ ?_<;>intro h<;>simp only[h]))|simp(maxSteps:=4000000) (disch:=first|exact ddL|fail) only[go_sem,simprocAttr,Tryz.f173,e1,e2])
   all_goals first|exact⟨_,St.le_refl _,rfl⟩|exact⟨_,St.le_refl _⟩
 ·rw[decide_eq_false e1,Bool.false_and,Bool.false_and] at hd
  subst hd
  repeat' (first|((with_reducible refine aT mixed ?chk C ?_);(case chk=>decide +kernel))|(with_reducible refine aQ c1a f1 ?_)|(with_reducible refine aQ c1b f2 ?_)|(with_reducible refine aQ (c2 _) hc ?_)|(with_reducible first|(refine wN fun _ hnl=>?_;revert hnl;(repeat refine wS fun _ _=>?_);intro hnl)|refine wE ?_|(refine wK ?_ ?_<;>intro h)|(refine wB ?_ ?_<;>intro h<;>simp only[h]))|simp(maxSteps:=4000000) (disch:=first|exact ddL|fail) only[go_sem,simprocAttr,Tryz.f173,e1])
  all_goals first|exact⟨_,St.le_refl _,rfl⟩|exact⟨_,St.le_refl _⟩
end

section
structure CD where
 id:Int
 ver:Int
 lab:Nat
 f:List VA
abbrev fcs(f:List VA):List MV:=(f.map VA.c).flatten
abbrev CD.c(c:CD):List MV:=.int .i64 c.id::.int .i64 c.ver::.int .u32 (c.lab:Int)::fcs c.f
theorem yC:∀f:List VA,(fcs f).length=3 * f.length
 | []=>rfl
 | v::f=>by have:=yC f;simp only[fcs,List.map_cons,List.flatten_cons,List.length_append,List.length_cons,List.length_nil] at this ⊢;omega
theorem AD:∀(f:List VA) (i:Nat),(fcs f).drop (3 * i)=fcs (f.drop i)
 | f,0=>by simp
 | [],i+1=>by simp[fcs]
 | v::f,i+1=>by
  have:=AD f i
  rw[show 3 * (i+1)=3 * i+1+1+1 by omega]
  simp only[fcs,List.map_cons,List.flatten_cons,List.cons_append,List.nil_append,List.drop_succ_cons] at this ⊢
  exact this
theorem Ml{f:List VA}{i:Nat}(h:i<f.length):(fcs f).drop (3 * i)=.int .i64 (f.getD i va0).kd::.int .i64 (f.getD i va0).n::.str (f.getD i va0).s::fcs (f.drop (i+1)):=by
 rw[AD,List.drop_eq_getElem_cons h,bJ va0 h];rfl
theorem wA(c:CD){i:Nat}(h:i<c.f.length):c.c.drop (3+i * 3)=.int .i64 (c.f.getD i va0).kd::.int .i64 (c.f.getD i va0).n::.str (c.f.getD i va0).s::fcs (c.f.drop (i+1)):=by
 rw[show 3+i * 3=3 * i+1+1+1 by omega]
 simp only[CD.c,List.drop_succ_cons]
 exact Ml h
theorem HT(c:CD){i:Nat}(h:i<c.f.length){d:MV}:c.c.getD (3+i * 3) d=.int .i64 (c.f.getD i va0).kd:=by
 have:=wA c h
 rw[List.getD_eq_getElem?_getD,←List.head?_drop,this];rfl
theorem Fs(c:CD){i:Nat}(h:i<c.f.length):(c.c.drop (3+i * 3)).take 3=(c.f.getD i va0).c:=by
 rw[wA c h];rfl
theorem sI:∀f:List VA,(fcs f).all MV.aL=true
 | []=>rfl
 | v::f=>by
  have:=sI f
  simp only[fcs,List.map_cons,List.flatten_cons,List.cons_append,List.nil_append,List.all_cons] at this ⊢
  rw[this];rfl
theorem mQ(c:CD):c.c.all MV.aL=true:=by
 simp only[CD.c,List.all_cons,sI];rfl
theorem oP(c:CD):c.c.length=3+3 * c.f.length:=by simp only[CD.c,List.length_cons,yC];omega
theorem xT{v w:VA}:decide (v.kd=w.kd∧v.n=w.n∧v.s=w.s)=decide (v=w) :=
 decide_eq_decide.2 ⟨fun⟨h1,h2,h3⟩=>by cases v;cases w;simp only at h1 h2 h3;rw[h1,h2,h3],fun h=>by rw[h];exact⟨rfl,rfl,rfl⟩⟩
def bR(c:CD)(g:Nat)(n:ND):Bool :=
 if n.op=1 then true else if n.op=3 then hasB c.lab n.n else if n.op=4 then hasB g n.n
 else if n.op=5 then !decide ((c.f.getD n.n.toNat va0).kd=0)
 else if n.op=6 then decide (c.f.getD n.n.toNat va0=n.v)
 else if n.op=7 then gO (c.f.getD n.n.toNat va0) n.v
 else if n.op=8 then gO n.v (c.f.getD n.n.toNat va0)
 else if n.op=9 then iO (c.f.getD n.n.toNat va0) n.v
 else false
structure CF (c:CD):Prop where
 len:c.f.length=8
 size:∀v,v∈c.f→v.s.size≤1000000
 lab:c.lab<4294967296
set_option maxHeartbeats 4000000 in
theorem D2 (x:ND) (hx:eC x=true) (c:CD) (hc:CF c) (g:Nat) (hg:g<4294967296):aA Tryz.prog 93 [.agg x.c,.agg c.c,.int .u32 (g:Int)] St.none (fun r _=>r=.bool (bR c g x)):=by
 refine(aA.body 73 [.tmp 6] Tryz.func93 rfl rfl rfl rfl ?_)
 have hlen:=oP c
 rw[hc.len] at hlen
 have hlab:=mX c.lab x.n hc.lab
 have hgrp:=mX g x.n hg
 have hcell:=mQ c
 obtain⟨cells,hcells⟩:∃cells,c.c=cells:=⟨_,rfl⟩
 by_cases h5:5≤x.op∧x.op≤9
 ·have hn:0≤x.n∧x.n<8:=by
   have h:=hx
   have e:x.op=5∨x.op=6∨x.op=7∨x.op=8∨x.op=9:=by omega
   rcases e with e|e|e|e|e<;>simp[eC,e] at h<;>omega
  obtain⟨k,hk⟩:∃k:Nat,x.n=k:=⟨x.n.toNat,by omega⟩
  have hk8:k<8:=by omega
  have hkl:k<c.f.length:=by rw[hc.len];omega
  have hget:=HT c hkl (d:=.junk)
  have htake:=Fs c hkl
  have hvm:=eN va0 hkl
  have hvs:=hc.size _ hvm
  have hxs:=xJ hx
  have hle1:=rC (c.f.getD k va0) x.v hvs hxs
  have hle2:=rC x.v (c.f.getD k va0) hxs hvs
  have hho:=zZ (c.f.getD k va0) x.v hvs hxs
  have hlb:bR c g x=(if x.op=5 then !decide ((c.f.getD k va0).kd=0)
   else if x.op=6 then decide (c.f.getD k va0=x.v)
   else if x.op=7 then gO (c.f.getD k va0) x.v
   else if x.op=8 then gO x.v (c.f.getD k va0)
   else iO (c.f.getD k va0) x.v):=by
   unfold bR
   rw[if_neg (by omega),if_neg (by omega),if_neg (by omega),hk]
   simp only[Int.toNat_natCast]
   by_cases e5:x.op=5
   ·rw[if_pos e5,if_pos e5]
   ·rw[if_neg e5,if_neg e5]
    by_cases e6:x.op=6
    ·rw[if_pos e6,if_pos e6]
    ·rw[if_neg e6,if_neg e6]
     by_cases e7:x.op=7
     ·rw[if_pos e7,if_pos e7]
     ·rw[if_neg e7,if_neg e7]
      by_cases e8:x.op=8
      ·rw[if_pos e8,if_pos e8]
      ·rw[if_neg e8,if_neg e8,if_pos (by omega)]
  rw[hlb]
  rw[hcells] at hget htake hlen hcell ⊢
  clear hlab hgrp hlb
  generalize c.f.getD k va0=v at hget htake hvs hle1 hle2 hho ⊢
  have hop:x.op=5∨x.op=6∨x.op=7∨x.op=8∨x.op=9:=by omega
  rcases hop with h|h|h|h|h
  all_goals
   simp(config:={ decide:=true }) only[h,if_true,if_false]
   repeat' (first|(with_reducible first|refine up hle1 ?_|refine up hle2 ?_|refine up hho ?_)|(with_reducible first|(refine wT ?_;refine wN fun _ hnl=>?_;revert hnl;(repeat refine wS fun _ _=>?_);intro hnl)|refine wD (by decide +kernel) ?_|refine wI (fun h=>?_) fun h=>?_|refine wF (fun h=>?_) fun h=>?_|refine wG (fun h=>?_) fun h=>?_|refine wH (fun h=>?_) fun h=>?_|((first|refine aE (fun h=>?_) fun h=>?_|refine aD (fun h=>?_) fun h=>?_)<;>simp only[h]))|simp(maxSteps:=4000000) (disch:=first|decide|assumption|omega|(simp only[wL];omega)) only[go_sem,simprocAttr,Tryz.f93,h,hk,hget,htake,hlen,hcell])
  ·exact xT
  ·refine aT mixed (by decide +kernel) (fun _ _=>some ⟨[],fun r=>r=.bool (gO v x.v),none⟩) ?_
   repeat' (first|(with_reducible refine aQ rfl hle1 ?_)|(with_reducible first|(refine wT ?_;refine wN fun _ hnl=>?_;revert hnl;(repeat refine wS fun _ _=>?_);intro hnl)|refine wD (by decide +kernel) ?_|refine wI (fun h=>?_) fun h=>?_|refine wF (fun h=>?_) fun h=>?_|refine wG (fun h=>?_) fun h=>?_|refine wH (fun h=>?_) fun h=>?_|((first|refine aE (fun h=>?_) fun h=>?_|refine aD (fun h=>?_) fun h=>?_)<;>simp only[h]))|simp(maxSteps:=4000000) (disch:=first|decide|assumption|omega|(simp only[wL];omega)) only[go_sem,simprocAttr,h,hk,hget,htake,hlen,hcell])
  ·refine aT mixed (by decide +kernel) (fun _ _=>some ⟨[],fun r=>r=.bool (gO x.v v),none⟩) ?_
   repeat' (first|(with_reducible refine aQ rfl hle2 ?_)|(with_reducible first|(refine wT ?_;refine wN fun _ hnl=>?_;revert hnl;(repeat refine wS fun _ _=>?_);intro hnl)|refine wD (by decide +kernel) ?_|refine wI (fun h=>?_) fun h=>?_|refine wF (fun h=>?_) fun h=>?_|refine wG (fun h=>?_) fun h=>?_|refine wH (fun h=>?_) fun h=>?_|((first|refine aE (fun h=>?_) fun h=>?_|refine aD (fun h=>?_) fun h=>?_)<;>simp only[h]))|simp(maxSteps:=4000000) (disch:=first|decide|assumption|omega|(simp only[wL];omega)) only[go_sem,simprocAttr,h,hk,hget,htake,hlen,hcell])
  ·refine aT mixed (by decide +kernel) (fun _ _=>some ⟨[],fun r=>r=.bool (iO v x.v),none⟩) ?_
   repeat' (first|(with_reducible refine aQ rfl hho ?_)|(with_reducible first|(refine wT ?_;refine wN fun _ hnl=>?_;revert hnl;(repeat refine wS fun _ _=>?_);intro hnl)|refine wD (by decide +kernel) ?_|refine wI (fun h=>?_) fun h=>?_|refine wF (fun h=>?_) fun h=>?_|refine wG (fun h=>?_) fun h=>?_|refine wH (fun h=>?_) fun h=>?_|((first|refine aE (fun h=>?_) fun h=>?_|refine aD (fun h=>?_) fun h=>?_)<;>simp only[h]))|simp(maxSteps:=4000000) (disch:=first|decide|assumption|omega|(simp only[wL];omega)) only[go_sem,simprocAttr,h,hk,hget,htake,hlen,hcell])
 ·have hlb:bR c g x=(if x.op=1 then true else if x.op=3 then hasB c.lab x.n else if x.op=4 then hasB g x.n else false):=by
   unfold bR
   rw[if_neg (show ¬x.op=5 by omega),if_neg (show ¬x.op=6 by omega),if_neg (show ¬x.op=7 by omega),if_neg (show ¬x.op=8 by omega),if_neg (show ¬x.op=9 by omega)]
  rw[hlb]
  have hff:=sI c.f
  have hfl:=yC c.f
  rw[hc.len] at hfl
  simp only[CD.c]
  generalize fcs c.f=ff at hff hfl ⊢
  have n5:x.op≠5:=by omega
  have n6:x.op≠6:=by omega
  have n7:x.op≠7:=by omega
  have n8:x.op≠8:=by omega
  have n9:x.op≠9:=by omega
  clear hlb hcell hcells hlen h5
  by_cases e1:x.op=1
  ·rw[if_pos e1]
   repeat' (first|(with_reducible first|refine up hlab ?_|refine up hgrp ?_)|(with_reducible first|(refine wT ?_;refine wN fun _ hnl=>?_;revert hnl;(repeat refine wS fun _ _=>?_);intro hnl)|refine wD (by decide +kernel) ?_|refine wI (fun h=>?_) fun h=>?_|refine wF (fun h=>?_) fun h=>?_|refine wG (fun h=>?_) fun h=>?_|refine wH (fun h=>?_) fun h=>?_|((first|refine aE (fun h=>?_) fun h=>?_|refine aD (fun h=>?_) fun h=>?_)<;>simp only[h]))|simp(maxSteps:=4000000) (disch:=first|decide|assumption|omega|(simp only[wL];omega)) only[go_sem,simprocAttr,Tryz.f93,hff,hfl])
  ·rw[if_neg e1]
   by_cases e3:x.op=3
   ·rw[if_pos e3]
    repeat' (first|(with_reducible first|refine up hlab ?_|refine up hgrp ?_)|(with_reducible first|(refine wT ?_;refine wN fun _ hnl=>?_;revert hnl;(repeat refine wS fun _ _=>?_);intro hnl)|refine wD (by decide +kernel) ?_|refine wI (fun h=>?_) fun h=>?_|refine wF (fun h=>?_) fun h=>?_|refine wG (fun h=>?_) fun h=>?_|refine wH (fun h=>?_) fun h=>?_|((first|refine aE (fun h=>?_) fun h=>?_|refine aD (fun h=>?_) fun h=>?_)<;>simp only[h]))|simp(maxSteps:=4000000) (disch:=first|decide|assumption|omega|(simp only[wL];omega)) only[go_sem,simprocAttr,Tryz.f93,hff,hfl])
   ·rw[if_neg e3]
    by_cases e4:x.op=4
    ·rw[if_pos e4]
     repeat' (first|(with_reducible first|refine up hlab ?_|refine up hgrp ?_)|(with_reducible first|(refine wT ?_;refine wN fun _ hnl=>?_;revert hnl;(repeat refine wS fun _ _=>?_);intro hnl)|refine wD (by decide +kernel) ?_|refine wI (fun h=>?_) fun h=>?_|refine wF (fun h=>?_) fun h=>?_|refine wG (fun h=>?_) fun h=>?_|refine wH (fun h=>?_) fun h=>?_|((first|refine aE (fun h=>?_) fun h=>?_|refine aD (fun h=>?_) fun h=>?_)<;>simp only[h]))|simp(maxSteps:=4000000) (disch:=first|decide|assumption|omega|(simp only[wL];omega)) only[go_sem,simprocAttr,Tryz.f93,hff,hfl])
    ·rw[if_neg e4]
     repeat' (first|(with_reducible first|refine up hlab ?_|refine up hgrp ?_)|(with_reducible first|(refine wT ?_;refine wN fun _ hnl=>?_;revert hnl;(repeat refine wS fun _ _=>?_);intro hnl)|refine wD (by decide +kernel) ?_|refine wI (fun h=>?_) fun h=>?_|refine wF (fun h=>?_) fun h=>?_|refine wG (fun h=>?_) fun h=>?_|refine wH (fun h=>?_) fun h=>?_|((first|refine aE (fun h=>?_) fun h=>?_|refine aD (fun h=>?_) fun h=>?_)<;>simp only[h]))|simp(maxSteps:=4000000) (disch:=first|decide|assumption|omega|(simp only[wL];omega)) only[go_sem,simprocAttr,Tryz.f93,hff,hfl])
set_option maxHeartbeats 8000000 in
theorem j0 (c:CD) (hc:CF c) (g:Nat) (hg:g<4294967296):∀(t:T),Good t→t.fl.length≤1000→∀(tt:Bool),
  aA Tryz.prog 50 [.lst 5 (t.fl.map ND.c) tt,.agg c.c,.int .u32 (g:Int)] St.none (fun r _=>r=.bool (t.sem (bR c g)))
 | .leaf x,h,hl,tt=>by
  refine(aA.body 61 [.tmp 6] Tryz.func50 rfl rfl rfl rfl ?_)
  have hk:=lA (.leaf x) h.1 hl tt
  have hp:x.op≠10∧x.op≠11∧x.op≠12:=by
   refine⟨fun e=>?_,fun e=>?_,fun e=>?_⟩<;>(have h:=h.1;simp only[T.ok,e] at h;revert h;decide)
  obtain⟨p1,p2,p3⟩:=hp
  have hlf:=D2 x (h.2 x (by simp[T.fl])) c hc g hg
  have hcell:=mQ c
  have hlen:=oP c
  rw[hc.len] at hlen
  have ht27:List.take 27 c.c=c.c:=List.take_of_length_le (by omega)
  have e:(T.leaf x).sem (bR c g)=bR c g x:=by
   by_cases h1:x.op=1
   ·simp[T.sem,bR,h1]
   ·by_cases h2:x.op=2
    ·simp[T.sem,bR,h2]
    ·simp[T.sem,h1,h2]
  rw[e]
  generalize c.c=cells at hcell hlen ht27 hlf ⊢
  simp only[T.fl,T.kl,T.kids,List.map_cons,List.map_nil] at hk ⊢
  repeat' (first|(with_reducible first|refine up hk ?_|refine up hlf ?_)|(with_reducible first|(refine wT ?_;refine wN fun _ hnl=>?_;revert hnl;(repeat refine wS fun _ _=>?_);intro hnl)|refine wD (by decide +kernel) ?_|refine wI (fun h=>?_) fun h=>?_|refine wF (fun h=>?_) fun h=>?_|refine wG (fun h=>?_) fun h=>?_|refine wH (fun h=>?_) fun h=>?_|((first|refine aE (fun h=>?_) fun h=>?_|refine aD (fun h=>?_) fun h=>?_)<;>simp only[h]))|simp(maxSteps:=4000000) (disch:=first|decide|assumption|omega|(simp only[wL];omega)) only[go_sem,simprocAttr,Tryz.f50,hcell,hlen])
  refine aT mixed (by decide +kernel) (fun _ _=>some ⟨[],fun r=>r=.bool (bR c g x),none⟩) ?_
  repeat' (first|(with_reducible refine aQ rfl hlf ?_)|(with_reducible first|(refine wT ?_;refine wN fun _ hnl=>?_;revert hnl;(repeat refine wS fun _ _=>?_);intro hnl)|refine wD (by decide +kernel) ?_|refine wI (fun h=>?_) fun h=>?_|refine wF (fun h=>?_) fun h=>?_|refine wG (fun h=>?_) fun h=>?_|refine wH (fun h=>?_) fun h=>?_|((first|refine aE (fun h=>?_) fun h=>?_|refine aD (fun h=>?_) fun h=>?_)<;>simp only[h]))|simp(maxSteps:=4000000) (disch:=first|decide|assumption|omega|(simp only[wL];omega)) only[go_sem,simprocAttr,hcell,hlen,ht27])
 | .one x a,h,hl,tt=>by
  refine(aA.body 61 [.tmp 6] Tryz.func50 rfl rfl rfl rfl ?_)
  have hk:=lA (.one x a) h.1 hl tt
  have h1:=xM h.1.1
  have hla:a.fl.length≤1000:=by simp only[T.fl,List.length_cons] at hl;omega
  have ih:=j0 c hc g hg a (sN.1 h).2.2 hla false
  have hcell:=mQ c
  have hlen:=oP c
  rw[hc.len] at hlen
  have ht27:List.take 27 c.c=c.c:=List.take_of_length_le (by omega)
  generalize c.c=cells at hcell hlen ht27 ih ⊢
  simp only[T.fl,T.kl,T.kids,List.map_cons,List.map_nil] at hk ⊢
  repeat' (first|(with_reducible first|refine up hk ?_|refine up ih ?_)|(with_reducible first|(refine wT ?_;refine wN fun _ hnl=>?_;revert hnl;(repeat refine wS fun _ _=>?_);intro hnl)|refine wD (by decide +kernel) ?_|refine wI (fun h=>?_) fun h=>?_|refine wF (fun h=>?_) fun h=>?_|refine wG (fun h=>?_) fun h=>?_|refine wH (fun h=>?_) fun h=>?_|((first|refine aE (fun h=>?_) fun h=>?_|refine aD (fun h=>?_) fun h=>?_)<;>simp only[h]))|simp(maxSteps:=4000000) (disch:=first|decide|assumption|omega|(simp only[wL];omega)) only[go_sem,simprocAttr,Tryz.f50,h1,hcell,hlen])
  refine aT mixed (by decide +kernel) (fun _ _=>some ⟨[],fun r=>r=.bool (a.sem (bR c g)),none⟩) ?_
  repeat' (first|(with_reducible refine aQ rfl ih ?_)|(with_reducible first|(refine wT ?_;refine wN fun _ hnl=>?_;revert hnl;(repeat refine wS fun _ _=>?_);intro hnl)|refine wD (by decide +kernel) ?_|refine wI (fun h=>?_) fun h=>?_|refine wF (fun h=>?_) fun h=>?_|refine wG (fun h=>?_) fun h=>?_|refine wH (fun h=>?_) fun h=>?_|((first|refine aE (fun h=>?_) fun h=>?_|refine aD (fun h=>?_) fun h=>?_)<;>simp only[h]))|simp(maxSteps:=4000000) (disch:=first|decide|assumption|omega|(simp only[wL];omega)) only[go_sem,simprocAttr,hcell,hlen,ht27])
  simp[T.sem]
 | .two x a b,h,hl,tt=>by
  refine(aA.body 61 [.tmp 6] Tryz.func50 rfl rfl rfl rfl ?_)
  have hk:=lA (.two x a b) h.1 hl tt
  obtain⟨q1,_,ga,gb⟩:=sO.1 h
  have hla:a.fl.length≤1000∧b.fl.length≤1000:=by simp only[T.fl,List.length_cons,List.length_append] at hl;omega
  have iha:=j0 c hc g hg a ga hla.1 false
  have ihb:=j0 c hc g hg b gb hla.2 false
  have hs:(T.two x a b).sem (bR c g)=if x.op=11 then a.sem (bR c g)&&b.sem (bR c g) else a.sem (bR c g) || b.sem (bR c g):=by
   by_cases e:x.op=11<;>simp[T.sem,e]
  rw[hs]
  have hcell:=mQ c
  have hlen:=oP c
  rw[hc.len] at hlen
  have ht27:List.take 27 c.c=c.c:=List.take_of_length_le (by omega)
  generalize c.c=cells at hcell hlen ht27 iha ihb ⊢
  obtain⟨C,hC⟩:∃C,C=kn [(50,[.lst 5 (a.fl.map ND.c) false,.agg cells,.int .u32 (g:Int)],⟨[],fun v=>v=.bool (a.sem (bR c g)),none⟩),(50,[.lst 5 (b.fl.map ND.c) false,.agg cells,.int .u32 (g:Int)],⟨[],fun v=>v=.bool (b.sem (bR c g)),none⟩)]:=⟨_,rfl⟩
  have fa:C 50 [.lst 5 (a.fl.map ND.c) false,.agg cells,.int .u32 (g:Int)]=some ⟨[],fun v=>v=.bool (a.sem (bR c g)),none⟩:=by rw[hC];exact p6
  have fb:C 50 [.lst 5 (b.fl.map ND.c) false,.agg cells,.int .u32 (g:Int)]=some ⟨[],fun v=>v=.bool (b.sem (bR c g)),none⟩:=by
   rw[hC]
   refine ER (fun h=>?_) p6
   have h:=h.2
   simp only[List.cons.injEq,MV.lst.injEq,true_and,and_true] at h
   rw[Nl ga.1 gb.1 (Bw h)]
  clear hC hs
  generalize a.sem (bR c g)=sa at iha fa ⊢
  generalize b.sem (bR c g)=sb at ihb fb ⊢
  simp only[T.fl,T.kl,T.kids,List.map_cons,List.map_nil] at hk ⊢
  rcases xN q1 with h1|h1<;>rw[h1]
  ·rw[if_pos rfl]
   cases sa
   all_goals
    repeat' (first|(with_reducible first|refine up hk ?_|refine up iha ?_|refine up ihb ?_)|(with_reducible first|(refine wT ?_;refine wN fun _ hnl=>?_;revert hnl;(repeat refine wS fun _ _=>?_);intro hnl)|refine wD (by decide +kernel) ?_|refine wI (fun h=>?_) fun h=>?_|refine wF (fun h=>?_) fun h=>?_|refine wG (fun h=>?_) fun h=>?_|refine wH (fun h=>?_) fun h=>?_|((first|refine aE (fun h=>?_) fun h=>?_|refine aD (fun h=>?_) fun h=>?_)<;>simp only[h]))|simp(maxSteps:=4000000) (disch:=first|decide|assumption|omega|(simp only[wL];omega)) only[go_sem,simprocAttr,Tryz.f50,h1,hcell,hlen])
    refine aT mixed (by decide +kernel) C ?_
    repeat' (first|(with_reducible refine aQ fa iha ?_)|(with_reducible refine aQ fb ihb ?_)|(with_reducible first|(refine wT ?_;refine wN fun _ hnl=>?_;revert hnl;(repeat refine wS fun _ _=>?_);intro hnl)|refine wD (by decide +kernel) ?_|refine wI (fun h=>?_) fun h=>?_|refine wF (fun h=>?_) fun h=>?_|refine wG (fun h=>?_) fun h=>?_|refine wH (fun h=>?_) fun h=>?_|((first|refine aE (fun h=>?_) fun h=>?_|refine aD (fun h=>?_) fun h=>?_)<;>simp only[h]))|simp(maxSteps:=4000000) (disch:=first|decide|assumption|omega|(simp only[wL];omega)) only[go_sem,simprocAttr,hcell,hlen,ht27])
    all_goals (first|rfl|(cases sb<;>rfl))
  ·rw[if_neg (by decide)]
   cases sa
   all_goals
    repeat' (first|(with_reducible first|refine up hk ?_|refine up iha ?_|refine up ihb ?_)|(with_reducible first|(refine wT ?_;refine wN fun _ hnl=>?_;revert hnl;(repeat refine wS fun _ _=>?_);intro hnl)|refine wD (by decide +kernel) ?_|refine wI (fun h=>?_) fun h=>?_|refine wF (fun h=>?_) fun h=>?_|refine wG (fun h=>?_) fun h=>?_|refine wH (fun h=>?_) fun h=>?_|((first|refine aE (fun h=>?_) fun h=>?_|refine aD (fun h=>?_) fun h=>?_)<;>simp only[h]))|simp(maxSteps:=4000000) (disch:=first|decide|assumption|omega|(simp only[wL];omega)) only[go_sem,simprocAttr,Tryz.f50,h1,hcell,hlen])
    refine aT mixed (by decide +kernel) C ?_
    repeat' (first|(with_reducible refine aQ fa iha ?_)|(with_reducible refine aQ fb ihb ?_)|(with_reducible first|(refine wT ?_;refine wN fun _ hnl=>?_;revert hnl;(repeat refine wS fun _ _=>?_);intro hnl)|refine wD (by decide +kernel) ?_|refine wI (fun h=>?_) fun h=>?_|refine wF (fun h=>?_) fun h=>?_|refine wG (fun h=>?_) fun h=>?_|refine wH (fun h=>?_) fun h=>?_|((first|refine aE (fun h=>?_) fun h=>?_|refine aD (fun h=>?_) fun h=>?_)<;>simp only[h]))|simp(maxSteps:=4000000) (disch:=first|decide|assumption|omega|(simp only[wL];omega)) only[go_sem,simprocAttr,hcell,hlen,ht27])
    all_goals (first|rfl|(cases sb<;>rfl))
end
end Go.Proofs.YtaojijkdamfbnaaGreatDoor
