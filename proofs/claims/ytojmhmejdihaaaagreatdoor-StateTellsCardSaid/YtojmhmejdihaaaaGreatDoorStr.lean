/- Parts of the proof, joined; conditions: those that its theorems name. -/
import Derived.Test.YtojmhmejdihaaaaGreatDoorStq
import Derived.OpenShut
import Derived.ChangeSame
import Derived.Carry
import Derived.RowKit
import Derived.JoinedOf
import Derived.JoinedAt
set_option linter.unusedVariables false
set_option linter.unusedSimpArgs false
set_option maxHeartbeats 4000000
namespace Go.Proofs.YtojmhmejdihaaaaGreatDoor
section
set_option maxRecDepth 100000
set_option maxHeartbeats 4000000
theorem sZ(a b:RE)(hl:a.fl.length≤1000000):aA Tryz.prog 169 [.agg a.c,.agg b.c] St.none (fun r _=>r=.bool (decide (a=b))):=by
 refine aA.bF (aA.body 73 [.tmp 4] Tryz.func169 rfl rfl rfl rfl ?_)
 have hs:=wJ a.fl b.fl hl false false
 obtain⟨bf,hbf⟩:∃x,decide (a.fl=b.fl)=x:=⟨_,rfl⟩
 have hu:=Bs (a:=a.mask) (b:=b.mask)
 obtain⟨res,hres⟩:∃r,decide (a=b)=r:=⟨_,rfl⟩
 have e:Unit→decide (a.kd=b.kd∧a.dev=b.dev∧a.req=b.req∧a.code=b.code∧a.id=b.id∧a.ver=b.ver∧a.sq=b.sq∧a.ep=b.ep∧bf=true∧(a.mask.toNat:Int)=(b.mask.toNat:Int))=res:=fun _=>by
  rw[←hres,←hbf]
  refine decide_eq_decide.mpr ?_
  rw[LF,hu,decide_eq_true_iff]
 rw[hbf] at hs
 rw[hres]
 clear hres hbf hu
 cases bf
 all_goals
  repeat' (first|(with_reducible first|refine up hs ?_)|(with_reducible first|(refine wN fun _ hnl=>?_;revert hnl;(repeat refine wS fun _ _=>?_);intro hnl)|refine wE ?_|(refine wK ?_ ?_<;>intro h)|(refine wB ?_ ?_<;>intro h<;>simp only[h]))|simp(maxSteps:=4000000) (disch:=first|exact ddL|fail) only[go_sem,simprocAttr,Tryz.f169])
 all_goals first|refine⟨_,St.le_refl _,?_⟩|skip
 all_goals rw[←e ()]
 all_goals clear e
 all_goals (first|(simp[*];done)|skip)
end

section
open Go.ChangeShapes Go.WideShapes Go.RowKit
def l8(P:Program):List (Nat × TypeId)→Nat→Nat→Bool
 | [],o,n=>o==n
 | (off,ft)::r,o,n=>off==o&&l8 P r (o+(td P ft).size) n
def shp(P:Program):Nat→TypeId→Bool
 | 0,_=>false
 | n+1,t=>(td P t).ok&&match (td P t).k with
  | .bool|.int _|.str=>(td P t).size==1
  | .slice e=>(td P t).size==1&&decide (0<(td P e).size)&&(td P e).ok&&shp P n e
  | .struct fs=>l8 P fs 0 (td P t).size&&fs.all fun f=>(td P f.2).ok&&shp P n f.2
  | .array m e=>(td P t).size==m * (td P e).size&&(td P e).ok&&shp P n e
  | _=>false
def CT(P:Program):Nat→TypeId→List MV→Prop
 | 0,_,_=>False
 | n+1,t,cs=>match (td P t).k with
  | .bool=>∃b,cs=[.bool b]
  | .int k=>∃v,cs=[.int k v]∧k.min≤v∧v≤k.max
  | .str=>∃s:ByteArray,cs=[.str s]∧s.size≤maxLen
  | .slice e=>∃xs,cs=[.lst (td P e).size xs false]∧xs.length≤maxLen∧∀x,x∈xs→CT P n e x
  | .struct fs=>cs.length=(td P t).size∧∀f,f∈fs→CT P n f.2 ((cs.drop f.1).take (td P f.2).size)
  | .array m e=>cs.length=(td P t).size∧∀i,i<m→CT P n e ((cs.drop (i * (td P e).size)).take (td P e).size)
  | _=>False
def AT(P:Program)(n:Nat)(t:TypeId)(m:MV):Prop:=if (td P t).k.isAgg=true then ∃cs,m=.agg cs∧CT P n t cs else CT P n t [m]
def tI(w:World):Phi:=⟨fun a=>w.cell? a,fun _=>none,0⟩
def Oq(w:World):Prop:=(∀g i v,GT g i=some v→w.cell? ⟨g,i,none⟩=some v)∧∀g,g∈GI→∃m,w.cell? ⟨g,0,none⟩=some (.int .i64 m)
theorem QO(w:World)(hG:Oq w):Inv (tI w) w St.none where
 own:=fun l o h=>by simp[St.none] at h
 inj:=fun l l' o o' p p' R h=>by simp[St.none] at h
 snap:=fun a v h=>h
 apart:=fun l o p R a v h=>by simp[St.none] at h
 fresh:=⟨⟨⟨0,fun _ _=>rfl⟩,fun _ _ h=>by cases h⟩,hG⟩
def rD(Φ:Phi)(cs:List Value)(ms:List MV):Prop:=cs.length=ms.length∧∀(i:Nat) v m,cs[i]?=some v→ms[i]?=some m→m.aP=true∧Rel Φ v m
theorem rD.one{Φ:Phi}{v:Value}{m:MV}(hc:m.aP=true)(h:Rel Φ v m):rD Φ [v] [m] :=
 ⟨rfl,fun i v' m' h1 h2=>by
  cases i with
  | zero=>simp at h1 h2;subst h1 h2;exact⟨hc,h⟩
  | succ i=>simp at h1⟩
theorem rD.app{Φ:Phi}{c1 c2:List Value}{m1 m2:List MV}(h1:rD Φ c1 m1)(h2:rD Φ c2 m2):rD Φ (c1++c2) (m1++m2) :=
 ⟨by simp[h1.1,h2.1],fun i v m hv hm=>by
  rw[List.getElem?_append] at hv hm
  rw[h1.1] at hv
  split at hv<;>rename_i hi
  ·rw[if_pos hi] at hm;exact h1.2 i v m hv hm
  ·rw[if_neg hi] at hm;exact h2.2 _ v m hv hm⟩
section
variable {H:Type} {enc:TypeId × Value→H} {P:Program} {w:World} {base:Nat} {spare:Nat→Bool} {held:Bool}
theorem Mb{t:TypeId}(h:(td P t).ok=true):∃i d,P.info? t=some i∧P.underlying t=some d∧(td P t).size=P.cellsOf t∧(td P t).k=rA d:=by
 obtain⟨i,d,h1,h2,h3,h4,h5⟩:=cK h
 exact⟨i,d,h1,h2,by rw[h3];simp[Program.cellsOf,h1],h5⟩
theorem lK{t:TypeId}(h:(td P t).ok=true):P.cellsOf t=(td P t).size:=by
 obtain⟨_,_,_,_,h,_⟩:=Mb h
 exact h.symm
theorem nJ{Φ:Phi}{n:Nat}{cs:List Value}{size:Nat}(hlen:cs.length=size):∀(fs:List (Nat × TypeId)) (o:Nat),o≤size→l8 P fs o size=true →
  (∀f,f∈fs→∃ms,rD Φ ((cs.drop f.1).take (td P f.2).size) ms∧CT P n f.2 ms)→(∀f,f∈fs→∀ms,CT P n f.2 ms→ms.length=(td P f.2).size) →
  ∃ms,rD Φ (cs.drop o) ms∧∀f,f∈fs→o≤f.1∧CT P n f.2 ((ms.drop (f.1 - o)).take (td P f.2).size)
 | [],o,ho,ht,_,_=>by
  simp only[l8,beq_iff_eq] at ht
  refine⟨[],?_,fun f h=>by cases h⟩
  rw[ht,←hlen,List.drop_length]
  exact⟨rfl,fun i v m h=>by simp at h⟩
 | (off,ft)::r,o,ho,ht,hf,hl=>by
  simp only[l8,Bool.and_eq_true,beq_iff_eq] at ht
  obtain⟨rfl,ht⟩:=ht
  obtain⟨m1,r1,c1⟩:=hf (off,ft) (List.mem_cons_self ..)
  have e1:=hl (off,ft) (List.mem_cons_self ..) m1 c1
  simp only at r1 c1 e1
  have hle:off+(td P ft).size≤size:=by
   have:=r1.1
   simp only[List.length_take,List.length_drop,hlen] at this
   omega
  obtain⟨m2,r2,c2⟩:=nJ hlen r (off+(td P ft).size) hle ht (fun f h=>hf f (List.mem_cons_of_mem _ h)) (fun f h=>hl f (List.mem_cons_of_mem _ h))
  refine⟨m1++m2,?_,fun f h=>?_⟩
  ·have:cs.drop off=(cs.drop off).take (td P ft).size++cs.drop (off+(td P ft).size):=by
    rw[←List.drop_drop,List.take_append_drop]
   rw[this]
   exact r1.app r2
  ·rcases List.mem_cons.1 h with rfl|h
   ·refine⟨Nat.le_refl _,?_⟩
    simp only[Nat.sub_self,List.drop_zero]
    rw[List.take_append_of_le_length (by omega),List.take_of_length_le (by omega)]
    exact c1
   ·obtain⟨h1,h2⟩:=c2 f h
    refine⟨by omega,?_⟩
    have:(m1++m2).drop (f.1 - off)=m2.drop (f.1 - (off+(td P ft).size)):=by
     rw[List.drop_append,List.drop_eq_nil_of_le (by omega),List.nil_append]
     congr 1
     omega
    rw[this]
    exact h2
theorem JX:∀(n:Nat) (t:TypeId) (cs:List MV),shp P n t=true→CT P n t cs→cs.length=(td P t).size
 | 0,_,_,h,_=>by cases h
 | n+1,t,cs,h,hc=>by
  simp only[shp,Bool.and_eq_true] at h
  obtain⟨_,h⟩:=h
  simp only[CT] at hc
  split at hc
  ·rename_i hk;rw[hk] at h;simp only[beq_iff_eq] at h;obtain⟨b,rfl⟩:=hc;exact h.symm
  ·rename_i hk;rw[hk] at h;simp only[beq_iff_eq] at h;obtain⟨b,rfl,_⟩:=hc;exact h.symm
  ·rename_i hk;rw[hk] at h;simp only[beq_iff_eq] at h;obtain⟨b,rfl,_⟩:=hc;exact h.symm
  ·rename_i hk;rw[hk] at h;simp only[Bool.and_eq_true,beq_iff_eq] at h;obtain⟨b,rfl,_⟩:=hc;exact h.1.1.1.symm
  ·exact hc.1
  ·exact hc.1
  ·exact hc.elim
theorem xA:∀(fs:List (Nat × TypeId)) (o m:Nat),l8 P fs o m=true→o≤m∧∀f,f∈fs→f.1+(td P f.2).size≤m
 | [],o,m,h=>by
  simp only[l8,beq_iff_eq] at h
  exact⟨by omega,fun f hf=>by cases hf⟩
 | (off,ft)::r,o,m,h=>by
  simp only[l8,Bool.and_eq_true,beq_iff_eq] at h
  obtain⟨rfl,h⟩:=h
  obtain⟨h1,h2⟩:=xA r _ m h
  refine⟨by omega,fun f hf=>?_⟩
  rcases List.mem_cons.1 hf with rfl|hf
  ·exact h1
  ·exact h2 f hf
theorem tD(e:TypeId):∀(k i:Nat),l8 P ((List.range' i k).map fun j=>(j * (td P e).size,e)) (i * (td P e).size) ((i+k) * (td P e).size)=true
 | 0,i=>by simp[l8]
 | k+1,i=>by
  have:=tD e k (i+1)
  rw[List.range'_succ]
  simp only[List.map_cons,l8,beq_self_eq_true,Bool.true_and]
  rw[show i * (td P e).size+(td P e).size=(i+1) * (td P e).size by rw[Nat.add_mul,Nat.one_mul],show i+(k+1)=i+1+k by omega]
  exact this
theorem lF:∀(n:Nat) (t:TypeId) (fuel:Nat) (cs:List Value) (x:DataW H × List MemPlace),shp P n t=true→cs.length=(td P t).size→DataW.trod enc P w base spare held fuel t cs=some x →
  ∃ms,rD (tI w) cs ms∧CT P n t ms
 | 0,_,_,_,_,h,_,_=>by cases h
 | n+1,t,fuel,cs,x,h,hlen,hx=>by
  simp only[shp,Bool.and_eq_true] at h
  obtain⟨hok,h⟩:=h
  obtain⟨i,d,hi,hd,hsz,hk⟩:=Mb hok
  split at h<;>rename_i hkk
  ·have ht:=rB hkk
   obtain⟨b,rfl,_⟩:=DataW.trod_bool ht hx
   exact⟨[.bool b],.one rfl (.bool b),by simp only[CT,hkk];exact⟨b,rfl⟩⟩
  ·rename_i k
   have ht:=jM hkk
   obtain⟨v,rfl,_,hw⟩:=DataW.trod_int ht hx
   simp only[Lit.wf,Bool.and_eq_true,decide_eq_true_eq] at hw
   exact⟨[.int k v],.one rfl (.int k v),by simp only[CT,hkk];exact⟨v,rfl,hw⟩⟩
  ·have ht:=fW hkk
   obtain⟨s,rfl,_,hw⟩:=DataW.trod_string ht hx
   exact⟨[.str s],.one rfl (.str s),by simp only[CT,hkk];exact⟨s,rfl,hw⟩⟩
  ·rename_i e
   have ht:=bD hkk
   simp only[Bool.and_eq_true,decide_eq_true_eq] at h
   obtain⟨⟨⟨_,h0⟩,heok⟩,h⟩:=h
   have hce:=lK heok
   rcases DataW.trod_slice ht hx with⟨rfl,_⟩|⟨a,len,cap,elems,rest,m,_,rfl,_,_,hlc,hcm,hel,hget,_⟩
   ·exact⟨[.lst (td P e).size [] false],.one rfl (.lstn _ _),by simp only[CT,hkk];exact⟨[],rfl,by simp,fun x h=>by cases h⟩⟩
   ·have key:∀i:Nat,∃q:List Value × List MV,i<len→w.cells? base (a.add (i * (td P e).size)) (td P e).size=some q.1∧rD (tI w) q.1 q.2∧CT P n e q.2∧q.2.length=(td P e).size:=by
     intro i
     by_cases hi:i<len
     ·have:=hget i hi
      rw[hce] at this
      obtain⟨y,hy⟩:∃y,elems[i]?=some y:=⟨elems[i]'(by omega),by simp⟩
      rw[hy] at this
      cases hc:w.cells? base (a.add (i * (td P e).size)) (td P e).size with
      | none=>rw[hc] at this;cases this
      | some c =>
       rw[hc] at this
       have hcl:=(World.cells?_some hc).2.1
       obtain⟨ms,r,ct⟩:=lF n e m c y h hcl this
       exact⟨(c,ms),fun _=>⟨rfl,r,ct,by rw[←r.1];exact hcl⟩⟩
     ·exact⟨([],[]),fun h=>absurd h hi⟩
    obtain⟨F,hF⟩:=Classical.axiomOfChoice key
    let xs:=(List.range len).map fun i=>(F i).2
    have hxs:∀(i:Nat) (y:List MV),xs[i]?=some y→i<len∧y=(F i).2:=fun i y hy=>by
     simp only[xs,List.getElem?_map,Option.map_eq_some_iff] at hy
     obtain⟨j,hj,rfl⟩:=hy
     rw[List.getElem?_eq_some_iff] at hj
     obtain⟨h1,h2⟩:=hj
     simp at h1 h2
     subst h2
     exact⟨h1,rfl⟩
    refine⟨[.lst (td P e).size xs false],.one rfl (Rel.AP (by simp[xs]) hlc hcm (fun h=>by cases h) (fun h=>by cases h) (fun hpos=>?_)),?_⟩
    ·obtain⟨hc0,hr0,_,hl0⟩:=hF 0 hpos
     obtain⟨_,hcl,hcell⟩:=World.cells?_some hc0
     have g0:=hcell 0 h0
     obtain⟨c0,hc0'⟩:∃c0,(F 0).1[0]?=some c0:=⟨(F 0).1[0]'(by omega),by simp⟩
     rw[hc0'] at g0
     obtain⟨b,off,spot⟩:=a
     have hspot:spot=none:=by simpa[Addr.add] using World.cell?_spot g0
     subst hspot
     refine⟨b,off,rfl,fun i y hy=>?_,fun i j=>(F i).1.getD j undef,fun i y j m hy hm=>?_⟩
     ·obtain⟨hi,rfl⟩:=hxs i y hy
      exact(hF i hi).2.2.2
     ·obtain⟨hi,rfl⟩:=hxs i y hy
      obtain⟨hc,hr,_,hl⟩:=hF i hi
      obtain⟨_,hcl,hcell⟩:=World.cells?_some hc
      have hj:j<(F i).2.length:=(List.getElem?_eq_some_iff.1 hm).1
      have hj':j<(F i).1.length:=by rw[hcl,←hl];exact hj
      have hv:(F i).1[j]?=some ((F i).1.getD j undef):=by simp[List.getD,hj']
      obtain⟨k1,k2⟩:=hr.2 j _ m hv hm
      refine⟨k1,?_,k2⟩
      have:=hcell j (by omega)
      rw[hv] at this
      simp only[dE] at this
      show w.cell? _=_
      rw[←Nat.add_assoc]
      exact this
    ·simp only[CT,hkk]
     refine⟨xs,rfl,by simp[xs];omega,fun y hy=>?_⟩
     obtain⟨i,hi⟩:=List.mem_iff_getElem?.1 hy
     obtain⟨hil,e⟩:=hxs i y hi
     rw[e]
     exact(hF i hil).2.2.1
  ·rename_i fs
   obtain⟨fa,ht,rfl⟩:=iG hkk
   simp only[Bool.and_eq_true,List.all_eq_true] at h
   obtain⟨htl,hall⟩:=h
   obtain⟨xs,m,_,_,hcl,hxl,hget⟩:=DataW.trod_struct ht hx
   have hfield:∀f,f∈(fa.toList.map fun f=>(f.offset,f.type))→∃ms,rD (tI w) ((cs.drop f.1).take (td P f.2).size) ms∧CT P n f.2 ms:=by
    intro f hf
    have hf0:=hall f hf
    obtain⟨g,hg,rfl⟩:=List.mem_map.1 hf
    obtain⟨i,hi⟩:=List.mem_iff_getElem?.1 hg
    have hi':fa[i]?=some g:=by simpa using hi
    have hil:i<xs.length:=by
     rw[hxl]
     obtain⟨q,_⟩:=Array.getElem?_eq_some_iff.1 hi'
     exact q
    have:=hget i g hi'
    simp only at hf0 ⊢
    rw[lK hf0.1,List.getElem?_eq_getElem hil] at this
    refine lF n _ m _ _ hf0.2 ?_ this
    have:=(xA _ _ _ htl).2 _ hf
    simp only[List.length_take,List.length_drop,hlen] at this ⊢
    omega
   obtain⟨ms,r,hc⟩:=nJ (Φ:=tI w) (n:=n) (P:=P) hlen _ 0 (Nat.zero_le _) htl hfield (fun f hf ms hm=>JX n _ ms (hall f hf).2 hm)
   refine⟨ms,by simpa using r,?_⟩
   simp only[CT,hkk]
   refine⟨by rw[←hlen];simpa using r.1.symm,fun f hf=>?_⟩
   have:=(hc f hf).2
   simpa using this
  ·rename_i k e
   have ht:=fJ hkk
   simp only[Bool.and_eq_true,beq_iff_eq] at h
   obtain⟨⟨hsz2,heok⟩,h⟩:=h
   obtain⟨xs,m,_,_,hcl,hxl,hget⟩:=DataW.trod_array ht hx
   have htl:l8 P ((List.range k).map fun j=>(j * (td P e).size,e)) 0 (td P t).size=true:=by
    have:=tD (P:=P) e k 0
    rw[List.range_eq_range',hsz2]
    simpa using this
   have hfield:∀f,f∈((List.range k).map fun j=>(j * (td P e).size,e))→∃ms,rD (tI w) ((cs.drop f.1).take (td P f.2).size) ms∧CT P n f.2 ms:=by
    intro f hf
    have hle:=(xA _ _ _ htl).2 _ hf
    obtain⟨i,hi,rfl⟩:=List.mem_map.1 hf
    have hik:i<k:=by simpa using hi
    have:=hget i hik
    simp only at hle ⊢
    rw[lK heok,List.getElem?_eq_getElem (by omega)] at this
    refine lF n _ m _ _ h ?_ this
    simp only[List.length_take,List.length_drop,hlen]
    omega
   obtain⟨ms,r,hc⟩:=nJ (Φ:=tI w) (n:=n) (P:=P) hlen _ 0 (Nat.zero_le _) htl hfield (fun f hf ms hm=>by
    obtain⟨i,hi,rfl⟩:=List.mem_map.1 hf
    exact JX n _ ms h hm)
   refine⟨ms,by simpa using r,?_⟩
   simp only[CT,hkk]
   refine⟨by rw[←hlen];simpa using r.1.symm,fun i hi=>?_⟩
   have:=(hc (i * (td P e).size,e) (List.mem_map.2 ⟨i,by simpa using hi,rfl⟩)).2
   simpa using this
  ·cases h
theorem JJ{n:Nat}{t:TypeId}{v:Value}{d:DataW H}{ps:List MemPlace}{r:Reach}{b0:Nat}(h:shp P n t=true)(hv:Value.okWide P w r b0 t v)(hd:DataW.Trod enc P w base spare held t v d ps) :
  ∃m,Rel (tI w) v m∧AT P n t m:=by
 obtain⟨fuel,hf⟩:=hd
 have hok:(td P t).ok=true:=by
  cases n with
  | zero=>cases h
  | succ n=>simp only[shp,Bool.and_eq_true] at h;exact h.1
 have hcs:=lK hok
 unfold AT
 have key:(∃cs,v=.agg cs∧cs.size=(td P t).size∧(td P t).k.isAgg=true)∨((td P t).k.isAgg=false∧v.cells=#[v]∧(td P t).size=1):=by
  cases n with
  | zero=>cases h
  | succ n =>
   simp only[shp,Bool.and_eq_true] at h
   obtain⟨_,h⟩:=h
   split at h<;>rename_i hk
   ·obtain⟨b,rfl⟩:=okWide_bool (rB hk) hv
    exact .inr ⟨by rw[hk];rfl,rfl,by simpa using h⟩
   ·obtain⟨b,rfl⟩:=okWide_int (jM hk) hv
    exact .inr ⟨by rw[hk];rfl,rfl,by simpa using h⟩
   ·obtain⟨b,rfl⟩:=okWide_string (fW hk) hv
    exact .inr ⟨by rw[hk];rfl,rfl,by simpa using h⟩
   ·obtain⟨a,l,c,rfl⟩:=okWide_slice (bD hk) hv
    simp only[Bool.and_eq_true,beq_iff_eq] at h
    exact .inr ⟨by rw[hk];rfl,rfl,h.1.1.1⟩
   ·obtain⟨fa,ht,_⟩:=iG hk
    obtain⟨cs,rfl,hs⟩:=okWide_struct ht hv
    exact .inl ⟨cs,rfl,by rw[hs,hcs],by rw[hk];rfl⟩
   ·have ht:=fJ hk
    simp only[Value.okWide,ht] at hv
    obtain⟨cs,rfl,hs,_⟩:=hv
    exact .inl ⟨cs,rfl,by rw[hs,hcs],by rw[hk];rfl⟩
   ·cases h
 rcases key with⟨cs,rfl,hs,ha⟩|⟨ha,hc,hs⟩
 ·simp only[ha,if_true]
  obtain⟨ms,hr,hct⟩:=lF n t fuel _ _ h (by simpa[Value.cells] using hs) hf
  have hr':rD (tI w) cs.toList ms:=by simpa[Value.cells] using hr
  have hl:cs.size=ms.length:=by simpa using hr'.1
  have get:∀(i:Nat) m,ms[i]?=some m→cs.toList[i]?=some (cs.getD i undef):=fun i m hm=>by
   have:i<cs.size:=by rw[hl];exact(List.getElem?_eq_some_iff.1 hm).1
   simp[Array.getD,this]
  exact⟨.agg ms,.agg hl (fun i m hm=>(hr'.2 i _ m (get i m hm) hm).1) (fun i m hm=>(hr'.2 i _ m (get i m hm) hm).2),ms,rfl,hct⟩
 ·simp only[ha,Bool.false_eq_true,if_false]
  obtain⟨ms,hr,hct⟩:=lF n t fuel _ _ h (by rw[hc,hs];rfl) hf
  rw[hc] at hr
  match ms,hr with
  | [m],hr =>
   exact⟨m,(hr.2 0 v m rfl rfl).2,hct⟩
  | [],hr=>exact absurd hr.1 (by simp)
  | _::_::_,hr=>exact absurd hr.1 (by simp)
def ATs(P:Program)(n:Nat):List TypeId→List MV→Prop
 | [],[]=>True
 | t::ts,m::ms=>AT P n t m∧ATs P n ts ms
 | _,_=>False
theorem yP{n:Nat}:∀{ts:List TypeId} {vs:List Value} {ds:List (DataW H)} {ps:List MemPlace},(∀t,t∈ts→shp P n t=true)→(∀(j:Nat) t v,ts[j]?=some t→vs[j]?=some v→Value.okWide P w .any base t v) →
  DataW.TrodAll enc P w 0 spare held ts vs ds ps→∃ms,vs.length=ms.length∧(∀(i:Nat) v m,vs[i]?=some v→ms[i]?=some m→Rel (tI w) v m)∧ATs P n ts ms
 | [],vs,ds,ps,_,_,h=>by
  obtain⟨rfl,_,_⟩:=trodAll_nil h
  exact⟨[],rfl,fun i v m h=>by simp at h,trivial⟩
 | t::ts,vs,ds,ps,hs,hok,h=>by
  obtain⟨v,vs1,d,ds1,a,b,rfl,rfl,rfl,h1,h2⟩:=trodAll_cons h
  obtain⟨m,r,ht⟩:=JJ (hs t (List.mem_cons_self ..)) (hok 0 t v rfl rfl) h1
  obtain⟨ms,e,rs,hts⟩:=yP (fun t h=>hs t (List.mem_cons_of_mem _ h)) (fun j t v p q=>hok (j+1) t v (by simpa using p) (by simpa using q)) h2
  refine⟨m::ms,by simp[e],fun i v' m' p q=>?_,ht,hts⟩
  cases i with
  | zero=>simp at p q;subst p q;exact r
  | succ i=>simp at p q;exact rs i v' m' p q
theorem yQ{W W':World}(hl:laidOutB P=true)(hb:∀k,k<W.heap.size→W'.heap[k]?=W.heap[k]?):∀{ts:List TypeId} {vs:List Value} {ds:List (DataW H)} {ps:List MemPlace} {sp:Nat→Bool},
  (∀t,t∈ts→P.readableRec t=true∧t<P.types.size)→DataW.TrodAll enc P W 0 (fun _=>true) true ts vs ds ps→(∀x∈ps,x.block<W.heap.size)→(∀x∈ps,sp x.block=true)→DataW.TrodAll enc P W' 0 sp true ts vs ds ps
 | [],vs,ds,ps,sp,_,h,_,_=>by
  obtain⟨rfl,rfl,rfl⟩:=trodAll_nil h
  exact trodAll_mk0
 | t::ts,vs,ds,ps,sp,hr,h,hlt,hsp=>by
  obtain⟨v,vs1,d,ds1,a,b,rfl,rfl,rfl,h1,h2⟩:=trodAll_cons h
  refine⟨a,b,?_,yQ hl hb (fun t h=>hr t (List.mem_cons_of_mem _ h)) h2 (fun x hx=>hlt x (List.mem_append_right _ hx)) (fun x hx=>hsp x (List.mem_append_right _ hx)),rfl⟩
  obtain⟨r1,r2⟩:=hr t (List.mem_cons_self ..)
  refine WideElems.Trod_stays hl r1 r2 h1 (fun x hx=>?_) (fun x hx=>hsp x (List.mem_append_left _ hx))
  have hp:=hlt x (List.mem_append_left _ hx)
  cases x with
  | cell b o=>exact World.cell?_of_block (w:=W) (hb b hp)
  | map b=>exact hb b hp
theorem MY{W W':World}{may:MemPlace→Prop}(h1:W'.os=W.os)(h2:W'.output=W.output)(hb:∀k,k<W.heap.size→W'.heap[k]?=W.heap[k]?):W.keptBut W' may:=by
 refine⟨h1,h2,fun i hi=>?_⟩
 rw[hb i hi]
 cases W.heap[i]? with
 | none=>rfl
 | some o=>cases o with
  | cells c t fr=>exact⟨rfl,rfl,rfl,fun _ _=>rfl⟩
  | map es clock=>exact .inr ⟨rfl,rfl⟩
  | _=>rfl
theorem Hv{W W':World}(hb:∀k,k<W.heap.size→W'.heap[k]?=W.heap[k]?){a:Addr}(h:a.block<W.heap.size):W'.frozen? a=W.frozen? a:=by
 unfold World.frozen?
 rw[hb _ h]
theorem Kh{f:Func}{s:ChangeSpec}{apart fresh handsOn again:Bool}{W W':World}{args:Array Value}{ds gs:List (DataW H)}{before:List MemPlace}{tb:TypeId}
 (hvars:s.vars=[])(hs:∀(H:Type) (ds:List (DataW H)),ds.length=f.params.size→s.fn H ds={ results:=[.lit (.bool true)],args:=ds })
 (hres:f.resultTypes=#[tb])(htb:P.underlying tb=some .bool)(hl:laidOutB P=true)(hr:∀t,t∈f.params.toList→P.readableRec t=true∧t<P.types.size)
 (hW:DataW.Whole enc P f.params.toList s.vars apart W args.toList ds gs before)(h1:W'.os=W.os)(h2:W'.output=W.output)(hb:∀k,k<W.heap.size→W'.heap[k]?=W.heap[k]?) :
  s.post enc P f apart fresh handsOn again W args (.bool true) W':=by
 have hlt:=hW.lt
 have hW0:=hW
 obtain⟨p,q,hA,hV,hpq,hfz,hnd⟩:=hW
 rw[hvars] at hV
 obtain⟨rfl,rfl⟩:=trodVars_none hV
 rw[List.append_nil] at hpq
 subst hpq
 have hlen:∀{ts:List TypeId} {vs:List Value} {ds:List (DataW H)} {ps:List MemPlace},DataW.TrodAll enc P W 0 (fun _=>true) true ts vs ds ps→ds.length=ts.length:=by
  intro ts
  induction ts with
  | nil=>intro vs ds ps h;obtain⟨_,rfl,_⟩:=trodAll_nil h;rfl
  | cons t ts ih =>
   intro vs ds ps h
   obtain⟨v,vs1,d,ds1,a,b,rfl,rfl,rfl,h1,h2⟩:=trodAll_cons h
   simp[ih h2]
 have hfn:s.fn H (ds++[])={ results:=[.lit (.bool true)],args:=ds }:=by
  rw[List.append_nil]
  exact hs H ds (by rw[hlen hA];simp)
 have hargs:∀sp:Nat→Bool,(∀x∈before,sp x.block=true)→DataW.TrodAll enc P W' 0 sp true f.params.toList args.toList ds before:=fun sp hsp=>yQ hl hb hr hA hlt hsp
 have hresl:(Value.bool true).resultList f.resultTypes.size=[.bool true]:=by rw[hres];rfl
 have hrt:∀(b:Nat) (sp:Nat→Bool) (hd:Bool),DataW.TrodAll enc P W' b sp hd f.resultTypes.toList ((Value.bool true).resultList f.resultTypes.size) [.lit (.bool true)] []:=fun b sp hd=>by
  rw[hresl,hres]
  exact trodAll_mk1 (shut_bool htb true)
 refine⟨ds,[],before,[],before,[],hW0,?_,?_,?_,MY h1 h2 hb,fun _=>⟨?_,[.lit (.bool true)]++ds,[],[]++before,⟨[]++before,[],trodAll_append (hargs _ fun _ _=>rfl) (hrt _ _ _),?_,by simp,fun b off hp=>?_,fun ha=>?_⟩,fun x hx _=>?_⟩⟩
 ·rw[hfn];exact hrt _ _ _
 ·rw[hfn];exact hargs _ fun x hx=>by simpa using hlt x hx
 ·rw[hfn,hvars];rfl
 ·exact ok_one hres rfl (okWide_bool_mk htb true)
 ·rw[hvars];rfl
 ·have hp':MemPlace.cell b off∈before:=by simpa using hp
  rw[Hv hb (a:=⟨b,off,none⟩) (hlt _ hp')]
  exact hfz b off (by simpa using hp')
 ·have:=hnd ha
  simpa using this
 ·simpa using hx
theorem Ak{n:Nat}{t:TypeId}{k:IntKind}{cs:List MV}(hk:(td P t).k=.int k)(h:CT P (n+1) t cs):∃v,cs=[.int k v]∧k.min≤v∧v≤k.max:=by
 simp only[CT,hk] at h;exact h
theorem Oy{n:Nat}{t:TypeId}{cs:List MV}(hk:(td P t).k=.str)(h:CT P (n+1) t cs):∃s:ByteArray,cs=[.str s]∧s.size≤maxLen:=by
 simp only[CT,hk] at h;exact h
theorem iS{n:Nat}{t e:TypeId}{cs:List MV}(hk:(td P t).k=.slice e)(h:CT P (n+1) t cs):∃xs,cs=[.lst (td P e).size xs false]∧xs.length≤maxLen∧∀x,x∈xs→CT P n e x:=by
 simp only[CT,hk] at h;exact h
theorem dZ{n:Nat}{t:TypeId}{fs:List (Nat × TypeId)}{cs:List MV}(hk:(td P t).k=.struct fs)(h:CT P (n+1) t cs):cs.length=(td P t).size∧∀f,f∈fs→CT P n f.2 ((cs.drop f.1).take (td P f.2).size):=by
 simp only[CT,hk] at h;exact h
theorem JW{n m:Nat}{t e:TypeId}{cs:List MV}(hk:(td P t).k=.array m e)(h:CT P (n+1) t cs):cs.length=(td P t).size∧∀i,i<m→CT P n e ((cs.drop (i * (td P e).size)).take (td P e).size):=by
 simp only[CT,hk] at h;exact h
theorem Mz{n:Nat}{t:TypeId}{m:MV}(hk:(td P t).k.isAgg=false)(h:AT P n t m):CT P n t [m]:=by
 simpa only[AT,hk,Bool.false_eq_true,if_false] using h
theorem Ou{n:Nat}{t:TypeId}{m:MV}(hk:(td P t).k.isAgg=true)(h:AT P n t m):∃cs,m=.agg cs∧CT P n t cs:=by
 simpa only[AT,hk,if_true] using h
theorem iU{α:Type}{f:α→List MV}{xs:List (List MV)}(h:∀x,x∈xs→∃a,x=f a):∃l:List α,xs=l.map f:=by
 induction xs with
 | nil=>exact⟨[],rfl⟩
 | cons x xs ih =>
  obtain⟨a,rfl⟩:=h x (List.mem_cons_self ..)
  obtain⟨l,rfl⟩:=ih fun y hy=>h y (List.mem_cons_of_mem _ hy)
  exact⟨a::l,rfl⟩
theorem MD{a b:MV}(h:[a]=[b]):a=b:=by simpa using h
end
end

section
set_option maxRecDepth 100000
set_option maxHeartbeats 8000000
def lO(g:FuncId)(v:MV):bP:=fun g' _=>if g'=g then some ⟨[],fun w=>w=v,none⟩ else none
theorem cM{g:FuncId}{v:MV}{ms:List MV}:lO g v g ms=some ⟨[],fun w=>w=v,none⟩:=by simp[lO]
instance:Inhabited DE:=⟨⟨0,0,0⟩⟩
def deZ:DE:=⟨0,0,0⟩
def grZ:GR:=⟨0,[]⟩
def tuZ:TU:=⟨0,0,0,0,ca0⟩
theorem Oz{a b:DE}:a=b↔a.id=b.id∧a.ver=b.ver∧a.sq=b.sq:=by
 obtain⟨a1,a2,a3⟩:=a
 obtain⟨b1,b2,b3⟩:=b
 simp
theorem J6{a b:GR}:a=b↔a.no=b.no∧a.mem=b.mem:=by
 obtain⟨a1,a2⟩:=a
 obtain⟨b1,b2⟩:=b
 simp
theorem Pk{a b:TU}:a=b↔a.sq=b.sq∧a.id=b.id∧a.old=b.old∧a.new=b.new∧a.card=b.card:=by
 obtain⟨a1,a2,a3,a4,a5⟩:=a
 obtain⟨b1,b2,b3,b4,b5⟩:=b
 simp
theorem L8{a b:SU}:a=b↔a.dev=b.dev∧a.ep=b.ep∧a.fl=b.fl∧a.mask=b.mask∧a.floor=b.floor∧a.mem=b.mem∧a.log=b.log:=by
 obtain⟨a1,a2,a3,a4,a5,a6,a7⟩:=a
 obtain⟨b1,b2,b3,b4,b5,b6,b7⟩:=b
 simp
theorem LP{a b:RW}:a=b↔a.last=b.last∧a.ep=b.ep∧a.ans=b.ans:=by
 obtain⟨a1,a2,a3⟩:=a
 obtain⟨b1,b2,b3⟩:=b
 simp
theorem JN{a b:BK}:a=b↔a.sq=b.sq∧a.nx=b.nx∧a.cards=b.cards∧a.dead=b.dead∧a.gr=b.gr:=by
 obtain⟨a1,a2,a3,a4,a5⟩:=a
 obtain⟨b1,b2,b3,b4,b5⟩:=b
 simp
theorem LQ{a b:SA}:a=b↔a.bk=b.bk∧a.subs=b.subs∧a.rows=b.rows:=by
 obtain⟨a1,a2,a3⟩:=a
 obtain⟨b1,b2,b3⟩:=b
 simp
theorem KO(d:Nat)(a b:DE):hU Tryz.prog (d+2) 166 (.agg a.c) (.agg b.c)=some (decide (a=b)):=by
 have hp:cZ Tryz.prog 166=true:=by decide +kernel
 rw[kL (by rw[Dv]) hp]
 simp only[bW,td3,dH,TK.isAgg,Bool.false_eq_true,if_false,List.getD_cons_zero,List.getD_cons_succ,List.length_cons,List.length_nil,mT NZ]
 simp[Oz,Bool.decide_and]
theorem NM:cZ Tryz.prog 166=true:=by decide +kernel
theorem Ci(a b:DE):cC Tryz.prog 166 .neq (.agg a.c) (.agg b.c)=some (True,.bool (!decide (a=b))):=Ez (KO 4 a b) NM
theorem KP(d:Nat)(a b:TU):hU Tryz.prog (d+5) 212 (.agg a.c) (.agg b.c)=some (decide (a=b)):=by
 have hp:cZ Tryz.prog 212=true:=by decide +kernel
 have hq:=vA d a.card b.card
 rw[kL (by rw[Dw]) hp]
 simp only[bW,FL,td3,dH,TK.isAgg,if_true,Bool.false_eq_true,if_false,List.getD_cons_zero,List.getD_cons_succ,List.length_cons,List.length_nil,List.drop_succ_cons,List.drop_zero,List.take_succ_cons,mK (Nat.le_refl 24),cL,hq,mT NZ]
 simp[Pk,Bool.decide_and]
theorem NN:cZ Tryz.prog 212=true:=by decide +kernel
theorem Cj(a b:TU):cC Tryz.prog 212 .neq (.agg a.c) (.agg b.c)=some (True,.bool (!decide (a=b))):=Ez (KP 1 a b) NN
theorem pG(a b:List Int)(hl:a.length≤1000000)(ta tb:Bool):aA Tryz.prog 31 [.lst 1 (a.map aR) ta,.lst 1 (b.map aR) tb] St.none (fun r _=>r=.bool (decide (a=b))):=by
 refine(aA.body 26 [.tmp 4] Tryz.func31 rfl rfl rfl rfl ?_)
 by_cases hlen:a.length=b.length
 ·repeat' (first|(with_reducible first|(refine wN fun _ hnl=>?_;revert hnl;(repeat refine wS fun _ _=>?_);intro hnl)|refine wE ?_|(refine wK ?_ ?_<;>intro h)|(refine wB ?_ ?_<;>intro h<;>simp only[h]))|simp(maxSteps:=4000000) (disch:=first|decide|assumption|omega|(simp only[wL];omega)) only[go_sem,simprocAttr,Tryz.f31])
  refine aD (α:=Nat) (fun i=>⟨26,[(5,.int .i64 (i:Int)),(0,.lst 1 (a.map aR) ta),(1,.lst 1 (b.map aR) tb)],[]⟩) (fun _=>St.none) (fun i=>i≤a.length∧a.take i=b.take i) (fun i=>a.length - i) (.of (.less ?_ (St.le_refl _)) ⟨0,rfl,rfl,Nat.zero_le _,rfl⟩) ?_
  ·simp(maxSteps:=4000000) (disch:=first|decide|assumption|omega|(simp only[wL];omega)) only[go_sem,simprocAttr,aC,aB]
   all_goals rfl
  ·rintro i ⟨hi,hq⟩
   by_cases hlt:i<a.length
   ·have hsa:=List.take_succ_eq_append_getElem (l:=a) hlt
    have hib:i<b.length:=by omega
    have hsb:=List.take_succ_eq_append_getElem (l:=b) hib
    rw[←aZ 0 hlt] at hsa
    rw[←aZ 0 hib] at hsb
    have hma:=bK 0 hlt
    have hmb:=bK 0 hib
    obtain⟨x,hx⟩:∃x,a.getD i 0=x:=⟨_,rfl⟩
    obtain⟨y,hy⟩:∃y,b.getD i 0=y:=⟨_,rfl⟩
    rw[hx] at hsa hma
    rw[hy] at hsb hmb

    by_cases he:x=y
    ·have hyy:=he
     repeat' (first|(with_reducible first|(refine wN fun _ hnl=>?_;revert hnl;(repeat refine wS fun _ _=>?_);intro hnl)|refine wE ?_|(refine wK ?_ ?_<;>intro h)|(refine wB ?_ ?_<;>intro h<;>simp only[h]))|simp(maxSteps:=4000000) (disch:=first|decide|assumption|omega|(simp only[wL];omega)) only[go_sem,simprocAttr,aU (0:Int),aR,hx,hy,he])
     refine .of (.less ?_ (St.le_refl _)) ⟨i+1,rfl,rfl,⟨by omega,by rw[hsa,hsb,hq,he]⟩,by omega⟩
     simp(maxSteps:=4000000) (disch:=first|decide|assumption|omega|(simp only[wL];omega)) only[go_sem,simprocAttr,aC,aB]
     all_goals rfl
    ·have hyy:=he
     have hne:¬a=b:=fun e=>he (by rw[←hx,←hy,e])
     rw[decide_eq_false hne]
     repeat' (first|(with_reducible first|(refine wN fun _ hnl=>?_;revert hnl;(repeat refine wS fun _ _=>?_);intro hnl)|refine wE ?_|(refine wK ?_ ?_<;>intro h)|(refine wB ?_ ?_<;>intro h<;>simp only[h]))|simp(maxSteps:=4000000) (disch:=first|decide|assumption|omega|(simp only[wL];omega)) only[go_sem,simprocAttr,aU (0:Int),aR,hx,hy,he])
     all_goals done
   ·have:i=a.length:=by omega
    subst this
    rw[List.take_length,hlen,List.take_length] at hq
    rw[decide_eq_true hq]
    repeat' (first|(with_reducible first|(refine wN fun _ hnl=>?_;revert hnl;(repeat refine wS fun _ _=>?_);intro hnl)|refine wE ?_|(refine wK ?_ ?_<;>intro h)|(refine wB ?_ ?_<;>intro h<;>simp only[h]))|simp(maxSteps:=4000000) (disch:=first|decide|assumption|omega|(simp only[wL];omega)) only[go_sem,simprocAttr])
    all_goals done
 ·rw[decide_eq_false fun e=>hlen (by rw[e])]
  repeat' (first|(with_reducible first|(refine wN fun _ hnl=>?_;revert hnl;(repeat refine wS fun _ _=>?_);intro hnl)|refine wE ?_|(refine wK ?_ ?_<;>intro h)|(refine wB ?_ ?_<;>intro h<;>simp only[h]))|simp(maxSteps:=4000000) (disch:=first|decide|assumption|omega|(simp only[wL];omega)) only[go_sem,simprocAttr,Tryz.f31])
  all_goals (first|rfl|(exfalso;omega))
theorem sT(a b:List CA)(hl:a.length≤1000000)(ta tb:Bool):aA Tryz.prog 20 [.lst 27 (a.map CA.c) ta,.lst 27 (b.map CA.c) tb] St.none (fun r _=>r=.bool (decide (a=b))):=by
 refine(aA.body 26 [.tmp 4] Tryz.func20 rfl rfl rfl rfl ?_)
 by_cases hlen:a.length=b.length
 ·repeat' (first|(with_reducible first|(refine wN fun _ hnl=>?_;revert hnl;(repeat refine wS fun _ _=>?_);intro hnl)|refine wE ?_|(refine wK ?_ ?_<;>intro h)|(refine wB ?_ ?_<;>intro h<;>simp only[h]))|simp(maxSteps:=4000000) (disch:=first|decide|assumption|omega|(simp only[wL];omega)) only[go_sem,simprocAttr,Tryz.f20])
  refine aD (α:=Nat) (fun i=>⟨26,[(5,.int .i64 (i:Int)),(0,.lst 27 (a.map CA.c) ta),(1,.lst 27 (b.map CA.c) tb)],[]⟩) (fun _=>St.none) (fun i=>i≤a.length∧a.take i=b.take i) (fun i=>a.length - i) (.of (.less ?_ (St.le_refl _)) ⟨0,rfl,rfl,Nat.zero_le _,rfl⟩) ?_
  ·simp(maxSteps:=4000000) (disch:=first|decide|assumption|omega|(simp only[wL];omega)) only[go_sem,simprocAttr,aC,aB]
   all_goals rfl
  ·rintro i ⟨hi,hq⟩
   by_cases hlt:i<a.length
   ·have hsa:=List.take_succ_eq_append_getElem (l:=a) hlt
    have hib:i<b.length:=by omega
    have hsb:=List.take_succ_eq_append_getElem (l:=b) hib
    rw[←aZ ca0 hlt] at hsa
    rw[←aZ ca0 hib] at hsb
    have hma:=bK ca0 hlt
    have hmb:=bK ca0 hib
    obtain⟨x,hx⟩:∃x,a.getD i ca0=x:=⟨_,rfl⟩
    obtain⟨y,hy⟩:∃y,b.getD i ca0=y:=⟨_,rfl⟩
    rw[hx] at hsa hma
    rw[hy] at hsb hmb
    have hm:=u4 x y
    by_cases he:x=y
    ·rw[decide_eq_true he] at hm
     repeat' (first|(with_reducible first|(refine wN fun _ hnl=>?_;revert hnl;(repeat refine wS fun _ _=>?_);intro hnl)|refine wE ?_|(refine wK ?_ ?_<;>intro h)|(refine wB ?_ ?_<;>intro h<;>simp only[h]))|simp(maxSteps:=4000000) (disch:=first|decide|assumption|omega|(simp only[wL];omega)) only[go_sem,simprocAttr,FXs,aU ca0,hx,hy,hm])
     refine .of (.less ?_ (St.le_refl _)) ⟨i+1,rfl,rfl,⟨by omega,by rw[hsa,hsb,hq,he]⟩,by omega⟩
     simp(maxSteps:=4000000) (disch:=first|decide|assumption|omega|(simp only[wL];omega)) only[go_sem,simprocAttr,aC,aB]
     all_goals rfl
    ·rw[decide_eq_false he] at hm
     have hne:¬a=b:=fun e=>he (by rw[←hx,←hy,e])
     rw[decide_eq_false hne]
     repeat' (first|(with_reducible first|(refine wN fun _ hnl=>?_;revert hnl;(repeat refine wS fun _ _=>?_);intro hnl)|refine wE ?_|(refine wK ?_ ?_<;>intro h)|(refine wB ?_ ?_<;>intro h<;>simp only[h]))|simp(maxSteps:=4000000) (disch:=first|decide|assumption|omega|(simp only[wL];omega)) only[go_sem,simprocAttr,FXs,aU ca0,hx,hy,hm])
     all_goals done
   ·have:i=a.length:=by omega
    subst this
    rw[List.take_length,hlen,List.take_length] at hq
    rw[decide_eq_true hq]
    repeat' (first|(with_reducible first|(refine wN fun _ hnl=>?_;revert hnl;(repeat refine wS fun _ _=>?_);intro hnl)|refine wE ?_|(refine wK ?_ ?_<;>intro h)|(refine wB ?_ ?_<;>intro h<;>simp only[h]))|simp(maxSteps:=4000000) (disch:=first|decide|assumption|omega|(simp only[wL];omega)) only[go_sem,simprocAttr])
    all_goals done
 ·rw[decide_eq_false fun e=>hlen (by rw[e])]
  repeat' (first|(with_reducible first|(refine wN fun _ hnl=>?_;revert hnl;(repeat refine wS fun _ _=>?_);intro hnl)|refine wE ?_|(refine wK ?_ ?_<;>intro h)|(refine wB ?_ ?_<;>intro h<;>simp only[h]))|simp(maxSteps:=4000000) (disch:=first|decide|assumption|omega|(simp only[wL];omega)) only[go_sem,simprocAttr,Tryz.f20])
  all_goals (first|rfl|(exfalso;omega))
theorem Fw(a b:List DE)(hl:a.length≤1000000)(ta tb:Bool):aA Tryz.prog 178 [.lst 3 (a.map DE.c) ta,.lst 3 (b.map DE.c) tb] St.none (fun r _=>r=.bool (decide (a=b))):=by
 refine(aA.body 26 [.tmp 4] Tryz.func178 rfl rfl rfl rfl ?_)
 by_cases hlen:a.length=b.length
 ·repeat' (first|(with_reducible first|(refine wN fun _ hnl=>?_;revert hnl;(repeat refine wS fun _ _=>?_);intro hnl)|refine wE ?_|(refine wK ?_ ?_<;>intro h)|(refine wB ?_ ?_<;>intro h<;>simp only[h]))|simp(maxSteps:=4000000) (disch:=first|decide|assumption|omega|(simp only[wL];omega)) only[go_sem,simprocAttr,Tryz.f178])
  refine aD (α:=Nat) (fun i=>⟨26,[(5,.int .i64 (i:Int)),(0,.lst 3 (a.map DE.c) ta),(1,.lst 3 (b.map DE.c) tb)],[]⟩) (fun _=>St.none) (fun i=>i≤a.length∧a.take i=b.take i) (fun i=>a.length - i) (.of (.less ?_ (St.le_refl _)) ⟨0,rfl,rfl,Nat.zero_le _,rfl⟩) ?_
  ·simp(maxSteps:=4000000) (disch:=first|decide|assumption|omega|(simp only[wL];omega)) only[go_sem,simprocAttr,aC,aB]
   all_goals rfl
  ·rintro i ⟨hi,hq⟩
   by_cases hlt:i<a.length
   ·have hsa:=List.take_succ_eq_append_getElem (l:=a) hlt
    have hib:i<b.length:=by omega
    have hsb:=List.take_succ_eq_append_getElem (l:=b) hib
    rw[←aZ deZ hlt] at hsa
    rw[←aZ deZ hib] at hsb
    have hma:=bK deZ hlt
    have hmb:=bK deZ hib
    obtain⟨x,hx⟩:∃x,a.getD i deZ=x:=⟨_,rfl⟩
    obtain⟨y,hy⟩:∃y,b.getD i deZ=y:=⟨_,rfl⟩
    rw[hx] at hsa hma
    rw[hy] at hsb hmb
    have hm:=Ci x y
    by_cases he:x=y
    ·rw[decide_eq_true he] at hm
     repeat' (first|(with_reducible first|(refine wN fun _ hnl=>?_;revert hnl;(repeat refine wS fun _ _=>?_);intro hnl)|refine wE ?_|(refine wK ?_ ?_<;>intro h)|(refine wB ?_ ?_<;>intro h<;>simp only[h]))|simp(maxSteps:=4000000) (disch:=first|decide|assumption|omega|(simp only[wL];omega)) only[go_sem,simprocAttr,aU deZ,hx,hy,hm])
     refine .of (.less ?_ (St.le_refl _)) ⟨i+1,rfl,rfl,⟨by omega,by rw[hsa,hsb,hq,he]⟩,by omega⟩
     simp(maxSteps:=4000000) (disch:=first|decide|assumption|omega|(simp only[wL];omega)) only[go_sem,simprocAttr,aC,aB]
     all_goals rfl
    ·rw[decide_eq_false he] at hm
     have hne:¬a=b:=fun e=>he (by rw[←hx,←hy,e])
     rw[decide_eq_false hne]
     repeat' (first|(with_reducible first|(refine wN fun _ hnl=>?_;revert hnl;(repeat refine wS fun _ _=>?_);intro hnl)|refine wE ?_|(refine wK ?_ ?_<;>intro h)|(refine wB ?_ ?_<;>intro h<;>simp only[h]))|simp(maxSteps:=4000000) (disch:=first|decide|assumption|omega|(simp only[wL];omega)) only[go_sem,simprocAttr,aU deZ,hx,hy,hm])
     all_goals done
   ·have:i=a.length:=by omega
    subst this
    rw[List.take_length,hlen,List.take_length] at hq
    rw[decide_eq_true hq]
    repeat' (first|(with_reducible first|(refine wN fun _ hnl=>?_;revert hnl;(repeat refine wS fun _ _=>?_);intro hnl)|refine wE ?_|(refine wK ?_ ?_<;>intro h)|(refine wB ?_ ?_<;>intro h<;>simp only[h]))|simp(maxSteps:=4000000) (disch:=first|decide|assumption|omega|(simp only[wL];omega)) only[go_sem,simprocAttr])
    all_goals done
 ·rw[decide_eq_false fun e=>hlen (by rw[e])]
  repeat' (first|(with_reducible first|(refine wN fun _ hnl=>?_;revert hnl;(repeat refine wS fun _ _=>?_);intro hnl)|refine wE ?_|(refine wK ?_ ?_<;>intro h)|(refine wB ?_ ?_<;>intro h<;>simp only[h]))|simp(maxSteps:=4000000) (disch:=first|decide|assumption|omega|(simp only[wL];omega)) only[go_sem,simprocAttr,Tryz.f178])
  all_goals (first|rfl|(exfalso;omega))
theorem Di(a b:List TU)(hl:a.length≤1000000)(ta tb:Bool):aA Tryz.prog 151 [.lst 31 (a.map TU.c) ta,.lst 31 (b.map TU.c) tb] St.none (fun r _=>r=.bool (decide (a=b))):=by
 refine(aA.body 26 [.tmp 4] Tryz.func151 rfl rfl rfl rfl ?_)
 by_cases hlen:a.length=b.length
 ·repeat' (first|(with_reducible first|(refine wN fun _ hnl=>?_;revert hnl;(repeat refine wS fun _ _=>?_);intro hnl)|refine wE ?_|(refine wK ?_ ?_<;>intro h)|(refine wB ?_ ?_<;>intro h<;>simp only[h]))|simp(maxSteps:=4000000) (disch:=first|decide|assumption|omega|(simp only[wL];omega)) only[go_sem,simprocAttr,Tryz.f151])
  refine aD (α:=Nat) (fun i=>⟨26,[(5,.int .i64 (i:Int)),(0,.lst 31 (a.map TU.c) ta),(1,.lst 31 (b.map TU.c) tb)],[]⟩) (fun _=>St.none) (fun i=>i≤a.length∧a.take i=b.take i) (fun i=>a.length - i) (.of (.less ?_ (St.le_refl _)) ⟨0,rfl,rfl,Nat.zero_le _,rfl⟩) ?_
  ·simp(maxSteps:=4000000) (disch:=first|decide|assumption|omega|(simp only[wL];omega)) only[go_sem,simprocAttr,aC,aB]
   all_goals rfl
  ·rintro i ⟨hi,hq⟩
   by_cases hlt:i<a.length
   ·have hsa:=List.take_succ_eq_append_getElem (l:=a) hlt
    have hib:i<b.length:=by omega
    have hsb:=List.take_succ_eq_append_getElem (l:=b) hib
    rw[←aZ tuZ hlt] at hsa
    rw[←aZ tuZ hib] at hsb
    have hma:=bK tuZ hlt
    have hmb:=bK tuZ hib
    obtain⟨x,hx⟩:∃x,a.getD i tuZ=x:=⟨_,rfl⟩
    obtain⟨y,hy⟩:∃y,b.getD i tuZ=y:=⟨_,rfl⟩
    rw[hx] at hsa hma
    rw[hy] at hsb hmb
    have hm:=Cj x y
    by_cases he:x=y
    ·rw[decide_eq_true he] at hm
     repeat' (first|(with_reducible first|(refine wN fun _ hnl=>?_;revert hnl;(repeat refine wS fun _ _=>?_);intro hnl)|refine wE ?_|(refine wK ?_ ?_<;>intro h)|(refine wB ?_ ?_<;>intro h<;>simp only[h]))|simp(maxSteps:=4000000) (disch:=first|decide|assumption|omega|(simp only[wL];omega)) only[go_sem,simprocAttr,FXs,aU tuZ,hx,hy,hm])
     refine .of (.less ?_ (St.le_refl _)) ⟨i+1,rfl,rfl,⟨by omega,by rw[hsa,hsb,hq,he]⟩,by omega⟩
     simp(maxSteps:=4000000) (disch:=first|decide|assumption|omega|(simp only[wL];omega)) only[go_sem,simprocAttr,aC,aB]
     all_goals rfl
    ·rw[decide_eq_false he] at hm
     have hne:¬a=b:=fun e=>he (by rw[←hx,←hy,e])
     rw[decide_eq_false hne]
     repeat' (first|(with_reducible first|(refine wN fun _ hnl=>?_;revert hnl;(repeat refine wS fun _ _=>?_);intro hnl)|refine wE ?_|(refine wK ?_ ?_<;>intro h)|(refine wB ?_ ?_<;>intro h<;>simp only[h]))|simp(maxSteps:=4000000) (disch:=first|decide|assumption|omega|(simp only[wL];omega)) only[go_sem,simprocAttr,FXs,aU tuZ,hx,hy,hm])
     all_goals done
   ·have:i=a.length:=by omega
    subst this
    rw[List.take_length,hlen,List.take_length] at hq
    rw[decide_eq_true hq]
    repeat' (first|(with_reducible first|(refine wN fun _ hnl=>?_;revert hnl;(repeat refine wS fun _ _=>?_);intro hnl)|refine wE ?_|(refine wK ?_ ?_<;>intro h)|(refine wB ?_ ?_<;>intro h<;>simp only[h]))|simp(maxSteps:=4000000) (disch:=first|decide|assumption|omega|(simp only[wL];omega)) only[go_sem,simprocAttr])
    all_goals done
 ·rw[decide_eq_false fun e=>hlen (by rw[e])]
  repeat' (first|(with_reducible first|(refine wN fun _ hnl=>?_;revert hnl;(repeat refine wS fun _ _=>?_);intro hnl)|refine wE ?_|(refine wK ?_ ?_<;>intro h)|(refine wB ?_ ?_<;>intro h<;>simp only[h]))|simp(maxSteps:=4000000) (disch:=first|decide|assumption|omega|(simp only[wL];omega)) only[go_sem,simprocAttr,Tryz.f151])
  all_goals (first|rfl|(exfalso;omega))
theorem Bc(a b:List GR)(hl:a.length≤1000000)(hb:∀g,g∈a→g.mem.length≤1000000)(ta tb:Bool):aA Tryz.prog 179 [.lst 2 (a.map GR.c) ta,.lst 2 (b.map GR.c) tb] St.none (fun r _=>r=.bool (decide (a=b))):=by
 refine(aA.body 42 [.tmp 4] Tryz.func179 rfl rfl rfl rfl ?_)
 by_cases hlen:a.length=b.length
 ·repeat' (first|(with_reducible first|(refine wN fun _ hnl=>?_;revert hnl;(repeat refine wS fun _ _=>?_);intro hnl)|refine wE ?_|(refine wK ?_ ?_<;>intro h)|(refine wB ?_ ?_<;>intro h<;>simp only[h]))|simp(maxSteps:=4000000) (disch:=first|decide|assumption|omega|(simp only[wL];omega)) only[go_sem,simprocAttr,Tryz.f179])
  refine aD (α:=Nat) (fun i=>⟨42,[(5,.int .i64 (i:Int)),(0,.lst 2 (a.map GR.c) ta),(1,.lst 2 (b.map GR.c) tb)],[]⟩) (fun _=>St.none) (fun i=>i≤a.length∧a.take i=b.take i) (fun i=>a.length - i) (.of (.less ?_ (St.le_refl _)) ⟨0,rfl,rfl,Nat.zero_le _,rfl⟩) ?_
  ·simp(maxSteps:=4000000) (disch:=first|decide|assumption|omega|(simp only[wL];omega)) only[go_sem,simprocAttr,aC,aB]
   all_goals rfl
  ·rintro i ⟨hi,hq⟩
   by_cases hlt:i<a.length
   ·have hsa:=List.take_succ_eq_append_getElem (l:=a) hlt
    have hib:i<b.length:=by omega
    have hsb:=List.take_succ_eq_append_getElem (l:=b) hib
    rw[←aZ grZ hlt] at hsa
    rw[←aZ grZ hib] at hsb
    have hma:=bK grZ hlt
    have hmb:=bK grZ hib
    obtain⟨x,hx⟩:∃x,a.getD i grZ=x:=⟨_,rfl⟩
    obtain⟨y,hy⟩:∃y,b.getD i grZ=y:=⟨_,rfl⟩
    rw[hx] at hsa hma
    rw[hy] at hsb hmb
    have hc:=pG x.mem y.mem (hb x hma) false false
    have hi':x=y↔x.no=y.no∧x.mem=y.mem:=J6
    by_cases he:x=y
    ·have e1:=(hi'.1 he).1
     rw[decide_eq_true (hi'.1 he).2] at hc
     obtain⟨C,c1⟩:∃C:bP,∀ms,C 31 ms=some ⟨[],fun v=>v=.bool true,none⟩:=⟨lO 31 (.bool true),fun _=>cM⟩
     repeat' (first|((with_reducible refine aJ mixed ?chk C ?_);(case chk=>decide +kernel))|(with_reducible refine aF (c1 _) hc ?_)|(with_reducible first|(refine wN fun _ hnl=>?_;revert hnl;(repeat refine wS fun _ _=>?_);intro hnl)|refine wE ?_|(refine wK ?_ ?_<;>intro h)|(refine wB ?_ ?_<;>intro h<;>simp only[h]))|simp(maxSteps:=4000000) (disch:=first|decide|assumption|omega|(simp only[wL];omega)) only[go_sem,simprocAttr,aU grZ,hx,hy,e1])
     refine .of (.less ?_ (St.le_refl _)) ⟨i+1,rfl,rfl,⟨by omega,by rw[hsa,hsb,hq,he]⟩,by omega⟩
     simp(maxSteps:=4000000) (disch:=first|decide|assumption|omega|(simp only[wL];omega)) only[go_sem,simprocAttr,aC,aB]
     all_goals rfl
    ·have hne:¬a=b:=fun e=>he (by rw[←hx,←hy,e])
     rw[decide_eq_false hne]
     by_cases e1:x.no=y.no
     ·rw[decide_eq_false fun e=>he (hi'.2 ⟨e1,e⟩)] at hc
      obtain⟨C,c1⟩:∃C:bP,∀ms,C 31 ms=some ⟨[],fun v=>v=.bool false,none⟩:=⟨lO 31 (.bool false),fun _=>cM⟩
      repeat' (first|((with_reducible refine aJ mixed ?chk C ?_);(case chk=>decide +kernel))|(with_reducible refine aF (c1 _) hc ?_)|(with_reducible first|(refine wN fun _ hnl=>?_;revert hnl;(repeat refine wS fun _ _=>?_);intro hnl)|refine wE ?_|(refine wK ?_ ?_<;>intro h)|(refine wB ?_ ?_<;>intro h<;>simp only[h]))|simp(maxSteps:=4000000) (disch:=first|decide|assumption|omega|(simp only[wL];omega)) only[go_sem,simprocAttr,aU grZ,hx,hy,e1])
      all_goals done
     ·obtain⟨C,c1⟩:∃C:bP,∀ms,C 31 ms=some ⟨[],fun v=>v=.bool false,none⟩:=⟨lO 31 (.bool false),fun _=>cM⟩
      repeat' (first|((with_reducible refine aJ mixed ?chk C ?_);(case chk=>decide +kernel))|(with_reducible refine aF (c1 _) hc ?_)|(with_reducible first|(refine wN fun _ hnl=>?_;revert hnl;(repeat refine wS fun _ _=>?_);intro hnl)|refine wE ?_|(refine wK ?_ ?_<;>intro h)|(refine wB ?_ ?_<;>intro h<;>simp only[h]))|simp(maxSteps:=4000000) (disch:=first|decide|assumption|omega|(simp only[wL];omega)) only[go_sem,simprocAttr,aU grZ,hx,hy,e1])
      all_goals done
   ·have:i=a.length:=by omega
    subst this
    rw[List.take_length,hlen,List.take_length] at hq
    rw[decide_eq_true hq]
    repeat' (first|(with_reducible first|(refine wN fun _ hnl=>?_;revert hnl;(repeat refine wS fun _ _=>?_);intro hnl)|refine wE ?_|(refine wK ?_ ?_<;>intro h)|(refine wB ?_ ?_<;>intro h<;>simp only[h]))|simp(maxSteps:=4000000) (disch:=first|decide|assumption|omega|(simp only[wL];omega)) only[go_sem,simprocAttr])
    all_goals done
 ·rw[decide_eq_false fun e=>hlen (by rw[e])]
  repeat' (first|(with_reducible first|(refine wN fun _ hnl=>?_;revert hnl;(repeat refine wS fun _ _=>?_);intro hnl)|refine wE ?_|(refine wK ?_ ?_<;>intro h)|(refine wB ?_ ?_<;>intro h<;>simp only[h]))|simp(maxSteps:=4000000) (disch:=first|decide|assumption|omega|(simp only[wL];omega)) only[go_sem,simprocAttr,Tryz.f179])
  all_goals (first|rfl|(exfalso;omega))
theorem FB(a b:List RW)(hl:a.length≤1000000)(hb:∀r,r∈a→r.ans.fl.length≤1000000)(ta tb:Bool):aA Tryz.prog 93 [.lst 12 (a.map RW.c) ta,.lst 12 (b.map RW.c) tb] St.none (fun r _=>r=.bool (decide (a=b))):=by
 refine(aA.body 55 [.tmp 4] Tryz.func93 rfl rfl rfl rfl ?_)
 by_cases hlen:a.length=b.length
 ·repeat' (first|(with_reducible first|(refine wN fun _ hnl=>?_;revert hnl;(repeat refine wS fun _ _=>?_);intro hnl)|refine wE ?_|(refine wK ?_ ?_<;>intro h)|(refine wB ?_ ?_<;>intro h<;>simp only[h]))|simp(maxSteps:=4000000) (disch:=first|decide|assumption|omega|(simp only[wL];omega)) only[go_sem,simprocAttr,Tryz.f93])
  refine aD (α:=Nat) (fun i=>⟨55,[(5,.int .i64 (i:Int)),(0,.lst 12 (a.map RW.c) ta),(1,.lst 12 (b.map RW.c) tb)],[]⟩) (fun _=>St.none) (fun i=>i≤a.length∧a.take i=b.take i) (fun i=>a.length - i) (.of (.less ?_ (St.le_refl _)) ⟨0,rfl,rfl,Nat.zero_le _,rfl⟩) ?_
  ·simp(maxSteps:=4000000) (disch:=first|decide|assumption|omega|(simp only[wL];omega)) only[go_sem,simprocAttr,aC,aB]
   all_goals rfl
  ·rintro i ⟨hi,hq⟩
   by_cases hlt:i<a.length
   ·have hsa:=List.take_succ_eq_append_getElem (l:=a) hlt
    have hib:i<b.length:=by omega
    have hsb:=List.take_succ_eq_append_getElem (l:=b) hib
    rw[←aZ rwZ hlt] at hsa
    rw[←aZ rwZ hib] at hsb
    have hma:=bK rwZ hlt
    have hmb:=bK rwZ hib
    obtain⟨x,hx⟩:∃x,a.getD i rwZ=x:=⟨_,rfl⟩
    obtain⟨y,hy⟩:∃y,b.getD i rwZ=y:=⟨_,rfl⟩
    rw[hx] at hsa hma
    rw[hy] at hsb hmb
    have hc:=sZ x.ans y.ans (hb x hma)
    have hi':x=y↔x.last=y.last∧x.ep=y.ep∧x.ans=y.ans:=LP
    by_cases he:x=y
    ·have e1:=(hi'.1 he).1
     have e2:=(hi'.1 he).2.1
     rw[decide_eq_true (hi'.1 he).2.2] at hc
     obtain⟨C,c1⟩:∃C:bP,∀ms,C 169 ms=some ⟨[],fun v=>v=.bool true,none⟩:=⟨lO 169 (.bool true),fun _=>cM⟩
     repeat' (first|((with_reducible refine aJ mixed ?chk C ?_);(case chk=>decide +kernel))|(with_reducible refine aF (c1 _) hc ?_)|(with_reducible first|(refine wN fun _ hnl=>?_;revert hnl;(repeat refine wS fun _ _=>?_);intro hnl)|refine wE ?_|(refine wK ?_ ?_<;>intro h)|(refine wB ?_ ?_<;>intro h<;>simp only[h]))|simp(maxSteps:=4000000) (disch:=first|decide|assumption|omega|(simp only[wL];omega)) only[go_sem,simprocAttr,aU rwZ,hx,hy,e1,e2])
     refine .of (.less ?_ (St.le_refl _)) ⟨i+1,rfl,rfl,⟨by omega,by rw[hsa,hsb,hq,he]⟩,by omega⟩
     simp(maxSteps:=4000000) (disch:=first|decide|assumption|omega|(simp only[wL];omega)) only[go_sem,simprocAttr,aC,aB]
     all_goals rfl
    ·have hne:¬a=b:=fun e=>he (by rw[←hx,←hy,e])
     rw[decide_eq_false hne]
     by_cases e1:x.last=y.last
     ·by_cases e2:x.ep=y.ep
      ·rw[decide_eq_false fun e=>he (hi'.2 ⟨e1,e2,e⟩)] at hc
       obtain⟨C,c1⟩:∃C:bP,∀ms,C 169 ms=some ⟨[],fun v=>v=.bool false,none⟩:=⟨lO 169 (.bool false),fun _=>cM⟩
       repeat' (first|((with_reducible refine aJ mixed ?chk C ?_);(case chk=>decide +kernel))|(with_reducible refine aF (c1 _) hc ?_)|(with_reducible first|(refine wN fun _ hnl=>?_;revert hnl;(repeat refine wS fun _ _=>?_);intro hnl)|refine wE ?_|(refine wK ?_ ?_<;>intro h)|(refine wB ?_ ?_<;>intro h<;>simp only[h]))|simp(maxSteps:=4000000) (disch:=first|decide|assumption|omega|(simp only[wL];omega)) only[go_sem,simprocAttr,aU rwZ,hx,hy,e1,e2])
       all_goals done
      ·obtain⟨C,c1⟩:∃C:bP,∀ms,C 169 ms=some ⟨[],fun v=>v=.bool false,none⟩:=⟨lO 169 (.bool false),fun _=>cM⟩
       repeat' (first|((with_reducible refine aJ mixed ?chk C ?_);(case chk=>decide +kernel))|(with_reducible refine aF (c1 _) hc ?_)|(with_reducible first|(refine wN fun _ hnl=>?_;revert hnl;(repeat refine wS fun _ _=>?_);intro hnl)|refine wE ?_|(refine wK ?_ ?_<;>intro h)|(refine wB ?_ ?_<;>intro h<;>simp only[h]))|simp(maxSteps:=4000000) (disch:=first|decide|assumption|omega|(simp only[wL];omega)) only[go_sem,simprocAttr,aU rwZ,hx,hy,e1,e2])
       all_goals done
     ·obtain⟨C,c1⟩:∃C:bP,∀ms,C 169 ms=some ⟨[],fun v=>v=.bool false,none⟩:=⟨lO 169 (.bool false),fun _=>cM⟩
      repeat' (first|((with_reducible refine aJ mixed ?chk C ?_);(case chk=>decide +kernel))|(with_reducible refine aF (c1 _) hc ?_)|(with_reducible first|(refine wN fun _ hnl=>?_;revert hnl;(repeat refine wS fun _ _=>?_);intro hnl)|refine wE ?_|(refine wK ?_ ?_<;>intro h)|(refine wB ?_ ?_<;>intro h<;>simp only[h]))|simp(maxSteps:=4000000) (disch:=first|decide|assumption|omega|(simp only[wL];omega)) only[go_sem,simprocAttr,aU rwZ,hx,hy,e1])
      all_goals done
   ·have:i=a.length:=by omega
    subst this
    rw[List.take_length,hlen,List.take_length] at hq
    rw[decide_eq_true hq]
    repeat' (first|(with_reducible first|(refine wN fun _ hnl=>?_;revert hnl;(repeat refine wS fun _ _=>?_);intro hnl)|refine wE ?_|(refine wK ?_ ?_<;>intro h)|(refine wB ?_ ?_<;>intro h<;>simp only[h]))|simp(maxSteps:=4000000) (disch:=first|decide|assumption|omega|(simp only[wL];omega)) only[go_sem,simprocAttr])
    all_goals done
 ·rw[decide_eq_false fun e=>hlen (by rw[e])]
  repeat' (first|(with_reducible first|(refine wN fun _ hnl=>?_;revert hnl;(repeat refine wS fun _ _=>?_);intro hnl)|refine wE ?_|(refine wK ?_ ?_<;>intro h)|(refine wB ?_ ?_<;>intro h<;>simp only[h]))|simp(maxSteps:=4000000) (disch:=first|decide|assumption|omega|(simp only[wL];omega)) only[go_sem,simprocAttr,Tryz.f93])
  all_goals (first|rfl|(exfalso;omega))
end
end Go.Proofs.YtojmhmejdihaaaaGreatDoor
