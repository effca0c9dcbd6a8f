/- Parts of the proof; conditions: as its theorems name them. -/
import Derived.Test.YtppdgejjmhdjhaaGreatDoorMal
import Derived.Test.YtppdgejjmhdjhaaGreatDoorMas
import Derived.OpenShut
import Derived.ChangeSame
import Derived.Carry
import Derived.RowKit
import Derived.JoinedOf
import Derived.JoinedAt
import Derived.Lib.LaidTab
import Derived.LaidLaws
import Derived.LaidHandle
import Derived.Stop.Joined
import Derived.Lib.Overlaps
set_option linter.unusedVariables false
set_option linter.unusedSimpArgs false
set_option maxHeartbeats 8000000
set_option maxRecDepth 100000
namespace Go.Proofs.YtppdgejjmhdjhaaGreatDoor
section
abbrev Wb(a:Int):Prop:=-9223372036854775808≤a∧a≤9223372036854775807
end

section
def oE(l:List ND):Bool:=decide (100<l.length) || l.any fun x=>decide (200<x.v.s.size)
theorem HG(l:List ND)(tt:Bool):aA Tryz.prog 41 [.lst 5 (l.map ND.c) tt] St.none (fun r _=>r=.bool (oE l)):=by
 refine(mB 21 [.tmp 2] Tryz.func41 ?_)
 by_cases h100:100<l.length
 ·have e:oE l=true:=by simp[oE,h100]
  rw[e]
  repeat' first|refine wZ1 @Tryz.f41.eq_1 ?_|exact wC1 @Tryz.f41.eq_1|fail
 ·have e:oE l=l.any fun x=>decide (200<x.v.s.size):=by simp[oE,h100]
  rw[e]
  repeat' first|refine wZ1 @Tryz.f41.eq_1 ?_|fail
  refine aF (α:=Nat) (fun i=>⟨21,[(3,.int .i64 (i:Int)),(0,.lst 5 (l.map ND.c) tt)],[]⟩)
   (fun _=>St.none) (fun i=>i≤l.length∧(l.take i).any (fun x=>decide (200<x.v.s.size))=false) (fun i=>l.length - i) (.of (.less ?_ (St.le_refl _)) ⟨0,rfl,rfl,Nat.zero_le _,rfl⟩) ?_
  ·exact wW
  ·rintro i ⟨hi,hq⟩
   by_cases hlt:i<l.length
   ·by_cases hb:200<(l.getD i nd0).v.s.size
    ·have ea:(l.any fun x=>decide (200<x.v.s.size))=true:=List.any_eq_true.2 ⟨_,gT nd0 hlt,by simpa using hb⟩
     rw[ea]
     repeat' (first|(with_reducible first|(refine wN fun _ hnl=>?_;revert hnl;(repeat refine wS fun _ _=>?_);intro hnl)|refine wE ?_|(refine wK ?_ ?_<;>intro h)|(refine wB ?_ ?_<;>intro h<;>simp only[h]))|simp(maxSteps:=4000000) (disch:=first|exact ddL|fail) only[go_sem,simprocAttr,bW nd0])
    ·repeat' (first|(with_reducible first|(refine wN fun _ hnl=>?_;revert hnl;(repeat refine wS fun _ _=>?_);intro hnl)|refine wE ?_|(refine wK ?_ ?_<;>intro h)|(refine wB ?_ ?_<;>intro h<;>simp only[h]))|simp(maxSteps:=4000000) (disch:=first|exact ddL|fail) only[go_sem,simprocAttr,bW nd0])
     refine .of (.less ?_ (St.le_refl _)) ⟨i+1,rfl,rfl,⟨by omega,?_⟩,by omega⟩
     ·exact wW
     ·rw[rJ hlt,hq,←b9 nd0 hlt]
      simpa using hb
   ·have hie:i=l.length:=by omega
    subst hie
    rw[List.take_length] at hq
    rw[hq]
    repeat' first|refine wZ0 ?_|exact wC0|fail
def pR(f:F8):Bool:=(List.range 8).any fun i=>decide (200<(f.get i).s.size)
theorem Ep(f:F8):aA Tryz.prog 106 [.agg (fc f)] St.none (fun r _=>r=.bool (pR f)):=by
 refine aA.bS (aA.body 14 [.tmp 2] Tryz.func106 rfl rfl rfl rfl ?_)
 repeat' (first|(with_reducible first|(refine wT ?_;(first|((fail_if_success (have:=nl1));refine wN fun nl1 hnl=>?_)|refine wN fun _ hnl=>?_);revert hnl;(repeat refine wS fun _ _=>?_);intro hnl)|refine wE ?_|(refine wK ?_ ?_<;>intro h)|(refine wB ?_ ?_<;>intro h<;>simp only[h]))|simp(maxSteps:=4000000) (disch:=first|exact ddL|fail) only[go_sem,simprocAttr,Tryz.f106,FXs])
 refine aF (α:=Nat) (fun i=>⟨14,[(3,.int .i64 (i:Int)),(1,.ptr nl1 0 0)],[]⟩)
  (fun _=>St.none.set nl1 (.row 55 24 [fc f])) (fun i=>i≤8∧(List.range i).any (fun i=>decide (200<(f.get i).s.size))=false) (fun i=>8 - i) (.of (.less ?_ (St.le_refl _)) ⟨0,rfl,rfl,Nat.zero_le _,rfl⟩) ?_
 ·simp(maxSteps:=4000000) (disch:=first|exact ddL|fail) only[go_sem,simprocAttr,aU,aN]
  all_goals rfl
 ·rintro i ⟨hi,hq⟩
  by_cases hlt:i<8
  ·have hg:=fun d=>Dw (f:=f) (d:=d) hlt
   obtain⟨v,hv⟩:∃v,f.get i=v:=⟨_,rfl⟩
   rw[hv] at hg
   by_cases hb:200<v.s.size
   ·have e:pR f=true:=List.any_eq_true.2 ⟨i,List.mem_range.2 hlt,by rw[hv];exact decide_eq_true hb⟩
    rw[e]
    repeat' (first|(with_reducible first|(refine wT ?_;(first|((fail_if_success (have:=nl1));refine wN fun nl1 hnl=>?_)|refine wN fun _ hnl=>?_);revert hnl;(repeat refine wS fun _ _=>?_);intro hnl)|refine wE ?_|(refine wK ?_ ?_<;>intro h)|(refine wB ?_ ?_<;>intro h<;>simp only[h]))|simp(maxSteps:=4000000) (disch:=first|exact ddL|fail) only[go_sem,simprocAttr,FXs,hg])
    all_goals first|exact⟨_,St.le_refl _,rfl⟩|exact⟨_,St.le_refl _⟩|(exfalso;omega)
   ·repeat' (first|(with_reducible first|(refine wT ?_;(first|((fail_if_success (have:=nl1));refine wN fun nl1 hnl=>?_)|refine wN fun _ hnl=>?_);revert hnl;(repeat refine wS fun _ _=>?_);intro hnl)|refine wE ?_|(refine wK ?_ ?_<;>intro h)|(refine wB ?_ ?_<;>intro h<;>simp only[h]))|simp(maxSteps:=4000000) (disch:=first|exact ddL|fail) only[go_sem,simprocAttr,FXs,hg])
    all_goals (try (exfalso;omega))
    refine .of (.less ?_ (St.le_refl _)) ⟨i+1,rfl,rfl,⟨by omega,?_⟩,by omega⟩
    ·simp(maxSteps:=4000000) (disch:=first|exact ddL|fail) only[go_sem,simprocAttr,aU,aN]
     all_goals rfl
    ·rw[List.range_succ,List.any_append,hq,List.any_cons,List.any_nil,hv,decide_eq_false hb];rfl
  ·have hie:i=8:=by omega
   subst hie
   have e:pR f=false:=hq
   rw[e]
   repeat' (first|(with_reducible first|(refine wT ?_;(first|((fail_if_success (have:=nl1));refine wN fun nl1 hnl=>?_)|refine wN fun _ hnl=>?_);revert hnl;(repeat refine wS fun _ _=>?_);intro hnl)|refine wE ?_|(refine wK ?_ ?_<;>intro h)|(refine wB ?_ ?_<;>intro h<;>simp only[h]))|simp(maxSteps:=4000000) (disch:=first|exact ddL|fail) only[go_sem,simprocAttr])
   all_goals first|exact⟨_,St.le_refl _,rfl⟩|exact⟨_,St.le_refl _⟩
end

section
open Go.ChangeShapes Go.WideShapes Go.RowKit
def oX(P:Program):List (Nat × TypeId)→Nat→Nat→Bool
 | [],o,n=>o==n
 | (off,ft)::r,o,n=>off==o&&oX P r (o+(td P ft).size) n
def shp(P:Program):Nat→TypeId→Bool
 | 0,_=>false
 | n+1,t=>(td P t).ok&&match (td P t).k with
  | .bool|.int _|.str=>(td P t).size==1
  | .slice e=>(td P t).size==1&&decide (0<(td P e).size)&&(td P e).ok&&shp P n e
  | .struct fs=>oX P fs 0 (td P t).size&&fs.all fun f=>(td P f.2).ok&&shp P n f.2
  | .array m e=>(td P t).size==m * (td P e).size&&(td P e).ok&&shp P n e
  | _=>false
def CT(P:Program):Nat→TypeId→List MV→Prop
 | 0,_,_=>False
 | n+1,t,cs=>match (td P t).k with
  | .bool=>∃b,cs=[.bool b]
  | .int k=>∃v,cs=[.int k v]∧k.min≤v∧v≤k.max
  | .str=>∃s:ByteArray,cs=[.str s]∧s.size≤maxLen
  | .slice e=>∃xs,cs=[.lst (td P e).size xs false]∧xs.length≤maxLen∧∀x,x∈xs→CT P n e x
  | .struct fs=>cs.length=(td P t).size∧∀f,f∈fs→CT P n f.2 ((cs.drop f.1).take (td P f.2).size)
  | .array m e=>cs.length=(td P t).size∧∀i,i<m→CT P n e ((cs.drop (i * (td P e).size)).take (td P e).size)
  | _=>False
def AT(P:Program)(n:Nat)(t:TypeId)(m:MV):Prop:=if (td P t).k.isAgg=true then ∃cs,m=.agg cs∧CT P n t cs else CT P n t [m]
def yI(w:World):Phi:=⟨fun a=>w.cell? a,fun _=>none,0⟩
def UW(w:World):Prop:=(∀g i v,GT g i=some v→w.cell? ⟨g,i,none⟩=some v)∧∀g,g∈GI→∃m,w.cell? ⟨g,0,none⟩=some (.int .i64 m)
theorem Xn(w:World)(hG:UW w):Inv (yI w) w St.none where
 own:=fun l o h=>by simp[St.none] at h
 inj:=fun l l' o o' p p' R h=>by simp[St.none] at h
 snap:=fun a v h=>h
 apart:=fun l o p R a v h=>by simp[St.none] at h
 fresh:=⟨⟨⟨0,fun _ _=>rfl⟩,fun _ _ h=>by cases h⟩,hG⟩
def vA(Φ:Phi)(cs:List Value)(ms:List MV):Prop:=cs.length=ms.length∧∀(i:Nat) v m,cs[i]?=some v→ms[i]?=some m→m.aL=true∧Rel Φ v m
theorem vA.one{Φ:Phi}{v:Value}{m:MV}(hc:m.aL=true)(h:Rel Φ v m):vA Φ [v] [m] :=
 ⟨rfl,fun i v' m' h1 h2=>by
  cases i with
  | zero=>simp at h1 h2;subst h1 h2;exact⟨hc,h⟩
  | succ i=>simp at h1⟩
theorem vA.app{Φ:Phi}{c1 c2:List Value}{m1 m2:List MV}(h1:vA Φ c1 m1)(h2:vA Φ c2 m2):vA Φ (c1++c2) (m1++m2) :=
 ⟨by simp[h1.1,h2.1],fun i v m hv hm=>by
  rw[List.getElem?_append] at hv hm
  rw[h1.1] at hv
  split at hv<;>rename_i hi
  ·rw[if_pos hi] at hm;exact h1.2 i v m hv hm
  ·rw[if_neg hi] at hm;exact h2.2 _ v m hv hm⟩
section
variable {H:Type} {enc:TypeId × Value→H} {P:Program} {w:World} {base:Nat} {spare:Nat→Bool} {held:Bool}
theorem Sc{t:TypeId}(h:(td P t).ok=true):∃i d,P.info? t=some i∧P.underlying t=some d∧(td P t).size=P.cellsOf t∧(td P t).k=uR d:=by
 obtain⟨i,d,h1,h2,h3,h4,h5⟩:=cY h
 exact⟨i,d,h1,h2,by rw[h3];simp[Program.cellsOf,h1],h5⟩
theorem oB{t:TypeId}(h:(td P t).ok=true):P.cellsOf t=(td P t).size:=by
 obtain⟨_,_,_,_,h,_⟩:=Sc h
 exact h.symm
theorem qJ{Φ:Phi}{n:Nat}{cs:List Value}{size:Nat}(hlen:cs.length=size):∀(fs:List (Nat × TypeId)) (o:Nat),o≤size→oX P fs o size=true →
  (∀f,f∈fs→∃ms,vA Φ ((cs.drop f.1).take (td P f.2).size) ms∧CT P n f.2 ms)→(∀f,f∈fs→∀ms,CT P n f.2 ms→ms.length=(td P f.2).size) →
  ∃ms,vA Φ (cs.drop o) ms∧∀f,f∈fs→o≤f.1∧CT P n f.2 ((ms.drop (f.1 - o)).take (td P f.2).size)
 | [],o,ho,ht,_,_=>by
  simp only[oX,beq_iff_eq] at ht
  refine⟨[],?_,fun f h=>by cases h⟩
  rw[ht,←hlen,List.drop_length]
  exact⟨rfl,fun i v m h=>by simp at h⟩
 | (off,ft)::r,o,ho,ht,hf,hl=>by
  simp only[oX,Bool.and_eq_true,beq_iff_eq] at ht
  obtain⟨rfl,ht⟩:=ht
  obtain⟨m1,r1,c1⟩:=hf (off,ft) (List.mem_cons_self ..)
  have e1:=hl (off,ft) (List.mem_cons_self ..) m1 c1
  simp only at r1 c1 e1
  have hle:off+(td P ft).size≤size:=by
   have:=r1.1
   simp only[List.length_take,List.length_drop,hlen] at this
   omega
  obtain⟨m2,r2,c2⟩:=qJ hlen r (off+(td P ft).size) hle ht (fun f h=>hf f (List.mem_cons_of_mem _ h)) (fun f h=>hl f (List.mem_cons_of_mem _ h))
  refine⟨m1++m2,?_,fun f h=>?_⟩
  ·have:cs.drop off=(cs.drop off).take (td P ft).size++cs.drop (off+(td P ft).size):=by
    rw[←List.drop_drop,List.take_append_drop]
   rw[this]
   exact r1.app r2
  ·rcases List.mem_cons.1 h with rfl|h
   ·refine⟨Nat.le_refl _,?_⟩
    simp only[Nat.sub_self,List.drop_zero]
    rw[List.take_append_of_le_length oM,List.take_of_length_le oM]
    exact c1
   ·obtain⟨h1,h2⟩:=c2 f h
    refine⟨by omega,?_⟩
    have:(m1++m2).drop (f.1 - off)=m2.drop (f.1 - (off+(td P ft).size)):=by
     rw[List.drop_append,List.drop_eq_nil_of_le oM,List.nil_append]
     congr 1
     omega
    rw[this]
    exact h2
theorem Pg:∀(n:Nat) (t:TypeId) (cs:List MV),shp P n t=true→CT P n t cs→cs.length=(td P t).size
 | 0,_,_,h,_=>by cases h
 | n+1,t,cs,h,hc=>by
  simp only[shp,Bool.and_eq_true] at h
  obtain⟨_,h⟩:=h
  simp only[CT] at hc
  split at hc
  ·rename_i hk;rw[hk] at h;simp only[beq_iff_eq] at h;obtain⟨b,rfl⟩:=hc;exact h.symm
  ·rename_i hk;rw[hk] at h;simp only[beq_iff_eq] at h;obtain⟨b,rfl,_⟩:=hc;exact h.symm
  ·rename_i hk;rw[hk] at h;simp only[beq_iff_eq] at h;obtain⟨b,rfl,_⟩:=hc;exact h.symm
  ·rename_i hk;rw[hk] at h;simp only[Bool.and_eq_true,beq_iff_eq] at h;obtain⟨b,rfl,_⟩:=hc;exact h.1.1.1.symm
  ·exact hc.1
  ·exact hc.1
  ·exact hc.elim
theorem Bd:∀(fs:List (Nat × TypeId)) (o m:Nat),oX P fs o m=true→o≤m∧∀f,f∈fs→f.1+(td P f.2).size≤m
 | [],o,m,h=>by
  simp only[oX,beq_iff_eq] at h
  exact⟨by omega,fun f hf=>by cases hf⟩
 | (off,ft)::r,o,m,h=>by
  simp only[oX,Bool.and_eq_true,beq_iff_eq] at h
  obtain⟨rfl,h⟩:=h
  obtain⟨h1,h2⟩:=Bd r _ m h
  refine⟨by omega,fun f hf=>?_⟩
  rcases List.mem_cons.1 hf with rfl|hf
  ·exact h1
  ·exact h2 f hf
theorem yC(e:TypeId):∀(k i:Nat),oX P ((List.range' i k).map fun j=>(j * (td P e).size,e)) (i * (td P e).size) ((i+k) * (td P e).size)=true
 | 0,i=>by simp[oX]
 | k+1,i=>by
  have:=yC e k (i+1)
  rw[List.range'_succ]
  simp only[List.map_cons,oX,beq_self_eq_true,Bool.true_and]
  rw[show i * (td P e).size+(td P e).size=(i+1) * (td P e).size by rw[Nat.add_mul,Nat.one_mul],show i+(k+1)=i+1+k by omega]
  exact this
theorem nV:∀(n:Nat) (t:TypeId) (fuel:Nat) (cs:List Value) (x:DataW H × List MemPlace),shp P n t=true→cs.length=(td P t).size→DataW.trod enc P w base spare held fuel t cs=some x →
  ∃ms,vA (yI w) cs ms∧CT P n t ms
 | 0,_,_,_,_,h,_,_=>by cases h
 | n+1,t,fuel,cs,x,h,hlen,hx=>by
  simp only[shp,Bool.and_eq_true] at h
  obtain⟨hok,h⟩:=h
  obtain⟨i,d,hi,hd,hsz,hk⟩:=Sc hok
  split at h<;>rename_i hkk
  ·have ht:=uS hkk
   obtain⟨b,rfl,_⟩:=DataW.trod_bool ht hx
   exact⟨[.bool b],.one rfl (.bool b),by simp only[CT,hkk];exact⟨b,rfl⟩⟩
  ·rename_i k
   have ht:=kC hkk
   obtain⟨v,rfl,_,hw⟩:=DataW.trod_int ht hx
   simp only[Lit.wf,Bool.and_eq_true,decide_eq_true_eq] at hw
   exact⟨[.int k v],.one rfl (.int k v),by simp only[CT,hkk];exact⟨v,rfl,hw⟩⟩
  ·have ht:=gY hkk
   obtain⟨s,rfl,_,hw⟩:=DataW.trod_string ht hx
   exact⟨[.str s],.one rfl (.str s),by simp only[CT,hkk];exact⟨s,rfl,hw⟩⟩
  ·rename_i e
   have ht:=aW hkk
   simp only[Bool.and_eq_true,decide_eq_true_eq] at h
   obtain⟨⟨⟨_,h0⟩,heok⟩,h⟩:=h
   have hce:=oB heok
   rcases DataW.trod_slice ht hx with⟨rfl,_⟩|⟨a,len,cap,elems,rest,m,_,rfl,_,_,hlc,hcm,hel,hget,_⟩
   ·exact⟨[.lst (td P e).size [] false],.one rfl (.lstn _ _),by simp only[CT,hkk];exact⟨[],rfl,by simp,fun x h=>by cases h⟩⟩
   ·have key:∀i:Nat,∃q:List Value × List MV,i<len→w.cells? base (a.add (i * (td P e).size)) (td P e).size=some q.1∧vA (yI w) q.1 q.2∧CT P n e q.2∧q.2.length=(td P e).size:=by
     intro i
     by_cases hi:i<len
     ·have:=hget i hi
      rw[hce] at this
      obtain⟨y,hy⟩:∃y,elems[i]?=some y:=⟨elems[i]'oM,by simp⟩
      rw[hy] at this
      cases hc:w.cells? base (a.add (i * (td P e).size)) (td P e).size with
      | none=>rw[hc] at this;cases this
      | some c =>
       rw[hc] at this
       have hcl:=(World.cells?_some hc).2.1
       obtain⟨ms,r,ct⟩:=nV n e m c y h hcl this
       exact⟨(c,ms),fun _=>⟨rfl,r,ct,by rw[←r.1];exact hcl⟩⟩
     ·exact⟨([],[]),fun h=>absurd h hi⟩
    obtain⟨F,hF⟩:=Classical.axiomOfChoice key
    let xs:=(List.range len).map fun i=>(F i).2
    have hxs:∀(i:Nat) (y:List MV),xs[i]?=some y→i<len∧y=(F i).2:=fun i y hy=>by
     simp only[xs,List.getElem?_map,Option.map_eq_some_iff] at hy
     obtain⟨j,hj,rfl⟩:=hy
     rw[List.getElem?_eq_some_iff] at hj
     obtain⟨h1,h2⟩:=hj
     simp at h1 h2
     subst h2
     exact⟨h1,rfl⟩
    refine⟨[.lst (td P e).size xs false],.one rfl (Rel.DZ (by simp[xs]) hlc hcm (fun h=>by cases h) (fun h=>by cases h) (fun hpos=>?_)),?_⟩
    ·obtain⟨hc0,hr0,_,hl0⟩:=hF 0 hpos
     obtain⟨_,hcl,hcell⟩:=World.cells?_some hc0
     have g0:=hcell 0 h0
     obtain⟨c0,hc0'⟩:∃c0,(F 0).1[0]?=some c0:=⟨(F 0).1[0]'oM,by simp⟩
     rw[hc0'] at g0
     obtain⟨b,off,spot⟩:=a
     have hspot:spot=none:=by simpa[Addr.add] using World.cell?_spot g0
     subst hspot
     refine⟨b,off,rfl,fun i y hy=>?_,fun i j=>(F i).1.getD j undef,fun i y j m hy hm=>?_⟩
     ·obtain⟨hi,rfl⟩:=hxs i y hy
      exact(hF i hi).2.2.2
     ·obtain⟨hi,rfl⟩:=hxs i y hy
      obtain⟨hc,hr,_,hl⟩:=hF i hi
      obtain⟨_,hcl,hcell⟩:=World.cells?_some hc
      have hj:j<(F i).2.length:=(List.getElem?_eq_some_iff.1 hm).1
      have hj':j<(F i).1.length:=by rw[hcl,←hl];exact hj
      have hv:(F i).1[j]?=some ((F i).1.getD j undef):=by simp[List.getD,hj']
      obtain⟨k1,k2⟩:=hr.2 j _ m hv hm
      refine⟨k1,?_,k2⟩
      have:=hcell j oM
      rw[hv] at this
      simp only[dU] at this
      show w.cell? _=_
      rw[←Nat.add_assoc]
      exact this
    ·simp only[CT,hkk]
     refine⟨xs,rfl,by simp[xs];omega,fun y hy=>?_⟩
     obtain⟨i,hi⟩:=List.mem_iff_getElem?.1 hy
     obtain⟨hil,e⟩:=hxs i y hi
     rw[e]
     exact(hF i hil).2.2.1
  ·rename_i fs
   obtain⟨fa,ht,rfl⟩:=jW hkk
   simp only[Bool.and_eq_true,List.all_eq_true] at h
   obtain⟨htl,hall⟩:=h
   obtain⟨xs,m,_,_,hcl,hxl,hget⟩:=DataW.trod_struct ht hx
   have hfield:∀f,f∈(fa.toList.map fun f=>(f.offset,f.type))→∃ms,vA (yI w) ((cs.drop f.1).take (td P f.2).size) ms∧CT P n f.2 ms:=by
    intro f hf
    have hf0:=hall f hf
    obtain⟨g,hg,rfl⟩:=List.mem_map.1 hf
    obtain⟨i,hi⟩:=List.mem_iff_getElem?.1 hg
    have hi':fa[i]?=some g:=by simpa using hi
    have hil:i<xs.length:=by
     rw[hxl]
     obtain⟨q,_⟩:=Array.getElem?_eq_some_iff.1 hi'
     exact q
    have:=hget i g hi'
    simp only at hf0 ⊢
    rw[oB hf0.1,List.getElem?_eq_getElem hil] at this
    refine nV n _ m _ _ hf0.2 ?_ this
    have:=(Bd _ _ _ htl).2 _ hf
    simp only[List.length_take,List.length_drop,hlen] at this ⊢
    omega
   obtain⟨ms,r,hc⟩:=qJ (Φ:=yI w) (n:=n) (P:=P) hlen _ 0 (Nat.zero_le _) htl hfield (fun f hf ms hm=>Pg n _ ms (hall f hf).2 hm)
   refine⟨ms,by simpa using r,?_⟩
   simp only[CT,hkk]
   refine⟨by rw[←hlen];simpa using r.1.symm,fun f hf=>?_⟩
   have:=(hc f hf).2
   simpa using this
  ·rename_i k e
   have ht:=gR hkk
   simp only[Bool.and_eq_true,beq_iff_eq] at h
   obtain⟨⟨hsz2,heok⟩,h⟩:=h
   obtain⟨xs,m,_,_,hcl,hxl,hget⟩:=DataW.trod_array ht hx
   have htl:oX P ((List.range k).map fun j=>(j * (td P e).size,e)) 0 (td P t).size=true:=by
    have:=yC (P:=P) e k 0
    rw[List.range_eq_range',hsz2]
    simpa using this
   have hfield:∀f,f∈((List.range k).map fun j=>(j * (td P e).size,e))→∃ms,vA (yI w) ((cs.drop f.1).take (td P f.2).size) ms∧CT P n f.2 ms:=by
    intro f hf
    have hle:=(Bd _ _ _ htl).2 _ hf
    obtain⟨i,hi,rfl⟩:=List.mem_map.1 hf
    have hik:i<k:=by simpa using hi
    have:=hget i hik
    simp only at hle ⊢
    rw[oB heok,List.getElem?_eq_getElem oM] at this
    refine nV n _ m _ _ h ?_ this
    simp only[List.length_take,List.length_drop,hlen]
    omega
   obtain⟨ms,r,hc⟩:=qJ (Φ:=yI w) (n:=n) (P:=P) hlen _ 0 (Nat.zero_le _) htl hfield (fun f hf ms hm=>by
    obtain⟨i,hi,rfl⟩:=List.mem_map.1 hf
    exact Pg n _ ms h hm)
   refine⟨ms,by simpa using r,?_⟩
   simp only[CT,hkk]
   refine⟨by rw[←hlen];simpa using r.1.symm,fun i hi=>?_⟩
   have:=(hc (i * (td P e).size,e) (List.mem_map.2 ⟨i,by simpa using hi,rfl⟩)).2
   simpa using this
  ·cases h
theorem OZ{n:Nat}{t:TypeId}{v:Value}{d:DataW H}{ps:List MemPlace}{r:Reach}{b0:Nat}(h:shp P n t=true)(hv:Value.okWide P w r b0 t v)(hd:DataW.Trod enc P w base spare held t v d ps) :
  ∃m,Rel (yI w) v m∧AT P n t m:=by
 obtain⟨fuel,hf⟩:=hd
 have hok:(td P t).ok=true:=by
  cases n with
  | zero=>cases h
  | succ n=>simp only[shp,Bool.and_eq_true] at h;exact h.1
 have hcs:=oB hok
 unfold AT
 have key:(∃cs,v=.agg cs∧cs.size=(td P t).size∧(td P t).k.isAgg=true)∨((td P t).k.isAgg=false∧v.cells=#[v]∧(td P t).size=1):=by
  cases n with
  | zero=>cases h
  | succ n =>
   simp only[shp,Bool.and_eq_true] at h
   obtain⟨_,h⟩:=h
   split at h<;>rename_i hk
   ·obtain⟨b,rfl⟩:=okWide_bool (uS hk) hv
    exact .inr ⟨by rw[hk];rfl,rfl,by simpa using h⟩
   ·obtain⟨b,rfl⟩:=okWide_int (kC hk) hv
    exact .inr ⟨by rw[hk];rfl,rfl,by simpa using h⟩
   ·obtain⟨b,rfl⟩:=okWide_string (gY hk) hv
    exact .inr ⟨by rw[hk];rfl,rfl,by simpa using h⟩
   ·obtain⟨a,l,c,rfl⟩:=okWide_slice (aW hk) hv
    simp only[Bool.and_eq_true,beq_iff_eq] at h
    exact .inr ⟨by rw[hk];rfl,rfl,h.1.1.1⟩
   ·obtain⟨fa,ht,_⟩:=jW hk
    obtain⟨cs,rfl,hs⟩:=okWide_struct ht hv
    exact .inl ⟨cs,rfl,by rw[hs,hcs],by rw[hk];rfl⟩
   ·have ht:=gR hk
    simp only[Value.okWide,ht] at hv
    obtain⟨cs,rfl,hs,_⟩:=hv
    exact .inl ⟨cs,rfl,by rw[hs,hcs],by rw[hk];rfl⟩
   ·cases h
 rcases key with⟨cs,rfl,hs,ha⟩|⟨ha,hc,hs⟩
 ·simp only[ha,if_true]
  obtain⟨ms,hr,hct⟩:=nV n t fuel _ _ h (by simpa[Value.cells] using hs) hf
  have hr':vA (yI w) cs.toList ms:=by simpa[Value.cells] using hr
  have hl:cs.size=ms.length:=by simpa using hr'.1
  have get:∀(i:Nat) m,ms[i]?=some m→cs.toList[i]?=some (cs.getD i undef):=fun i m hm=>by
   have:i<cs.size:=by rw[hl];exact(List.getElem?_eq_some_iff.1 hm).1
   simp[Array.getD,this]
  exact⟨.agg ms,.agg hl (fun i m hm=>(hr'.2 i _ m (get i m hm) hm).1) (fun i m hm=>(hr'.2 i _ m (get i m hm) hm).2),ms,rfl,hct⟩
 ·simp only[ha,Bool.false_eq_true,if_false]
  obtain⟨ms,hr,hct⟩:=nV n t fuel _ _ h (by rw[hc,hs];rfl) hf
  rw[hc] at hr
  match ms,hr with
  | [m],hr =>
   exact⟨m,(hr.2 0 v m rfl rfl).2,hct⟩
  | [],hr=>exact absurd hr.1 (by simp)
  | _::_::_,hr=>exact absurd hr.1 (by simp)
def ATs(P:Program)(n:Nat):List TypeId→List MV→Prop
 | [],[]=>True
 | t::ts,m::ms=>AT P n t m∧ATs P n ts ms
 | _,_=>False
theorem B8{n:Nat}:∀{ts:List TypeId} {vs:List Value} {ds:List (DataW H)} {ps:List MemPlace},(∀t,t∈ts→shp P n t=true)→(∀(j:Nat) t v,ts[j]?=some t→vs[j]?=some v→Value.okWide P w .any base t v) →
  DataW.TrodAll enc P w 0 spare held ts vs ds ps→∃ms,vs.length=ms.length∧(∀(i:Nat) v m,vs[i]?=some v→ms[i]?=some m→Rel (yI w) v m)∧ATs P n ts ms
 | [],vs,ds,ps,_,_,h=>by
  obtain⟨rfl,_,_⟩:=trodAll_nil h
  exact⟨[],rfl,fun i v m h=>by simp at h,trivial⟩
 | t::ts,vs,ds,ps,hs,hok,h=>by
  obtain⟨v,vs1,d,ds1,a,b,rfl,rfl,rfl,h1,h2⟩:=trodAll_cons h
  obtain⟨m,r,ht⟩:=OZ (hs t (List.mem_cons_self ..)) (hok 0 t v rfl rfl) h1
  obtain⟨ms,e,rs,hts⟩:=B8 (fun t h=>hs t (List.mem_cons_of_mem _ h)) (fun j t v p q=>hok (j+1) t v (by simpa using p) (by simpa using q)) h2
  refine⟨m::ms,by simp[e],fun i v' m' p q=>?_,ht,hts⟩
  cases i with
  | zero=>simp at p q;subst p q;exact r
  | succ i=>simp at p q;exact rs i v' m' p q
theorem B9{W W':World}(hl:laidOutB P=true)(hb:∀k,k<W.heap.size→W'.heap[k]?=W.heap[k]?):∀{ts:List TypeId} {vs:List Value} {ds:List (DataW H)} {ps:List MemPlace} {sp:Nat→Bool},
  (∀t,t∈ts→P.readableRec t=true∧t<P.types.size)→DataW.TrodAll enc P W 0 (fun _=>true) true ts vs ds ps→(∀x∈ps,x.block<W.heap.size)→(∀x∈ps,sp x.block=true)→DataW.TrodAll enc P W' 0 sp true ts vs ds ps
 | [],vs,ds,ps,sp,_,h,_,_=>by
  obtain⟨rfl,rfl,rfl⟩:=trodAll_nil h
  exact trodAll_mk0
 | t::ts,vs,ds,ps,sp,hr,h,hlt,hsp=>by
  obtain⟨v,vs1,d,ds1,a,b,rfl,rfl,rfl,h1,h2⟩:=trodAll_cons h
  refine⟨a,b,?_,B9 hl hb (fun t h=>hr t (List.mem_cons_of_mem _ h)) h2 (fun x hx=>hlt x (List.mem_append_right _ hx)) (fun x hx=>hsp x (List.mem_append_right _ hx)),rfl⟩
  obtain⟨r1,r2⟩:=hr t (List.mem_cons_self ..)
  refine WideElems.Trod_stays hl r1 r2 h1 (fun x hx=>?_) (fun x hx=>hsp x (List.mem_append_left _ hx))
  have hp:=hlt x (List.mem_append_left _ hx)
  cases x with
  | cell b o=>exact World.cell?_of_block (w:=W) (hb b hp)
  | map b=>exact hb b hp
theorem Tk{W W':World}{may:MemPlace→Prop}(h1:W'.os=W.os)(h2:W'.output=W.output)(hb:∀k,k<W.heap.size→W'.heap[k]?=W.heap[k]?):W.keptBut W' may:=by
 refine⟨h1,h2,fun i hi=>?_⟩
 rw[hb i hi]
 cases W.heap[i]? with
 | none=>rfl
 | some o=>cases o with
  | cells c t fr=>exact⟨rfl,rfl,rfl,fun _ _=>rfl⟩
  | map es clock=>exact .inr ⟨rfl,rfl⟩
  | _=>rfl
theorem MF{W W':World}(hb:∀k,k<W.heap.size→W'.heap[k]?=W.heap[k]?){a:Addr}(h:a.block<W.heap.size):W'.frozen? a=W.frozen? a:=by
 unfold World.frozen?
 rw[hb _ h]
theorem PR{f:Func}{s:ChangeSpec}{apart fresh handsOn again:Bool}{W W':World}{args:Array Value}{ds gs:List (DataW H)}{before:List MemPlace}{tb:TypeId}
 (hvars:s.vars=[])(hs:∀(H:Type) (ds:List (DataW H)),ds.length=f.params.size→s.fn H ds={ results:=[.lit (.bool true)],args:=ds })
 (hres:f.resultTypes=#[tb])(htb:P.underlying tb=some .bool)(hl:laidOutB P=true)(hr:∀t,t∈f.params.toList→P.readableRec t=true∧t<P.types.size)
 (hW:DataW.Whole enc P f.params.toList s.vars apart W args.toList ds gs before)(h1:W'.os=W.os)(h2:W'.output=W.output)(hb:∀k,k<W.heap.size→W'.heap[k]?=W.heap[k]?) :
  s.post enc P f apart fresh handsOn again W args (.bool true) W':=by
 have hlt:=hW.lt
 have hW0:=hW
 obtain⟨p,q,hA,hV,hpq,hfz,hnd⟩:=hW
 rw[hvars] at hV
 obtain⟨rfl,rfl⟩:=trodVars_none hV
 rw[List.append_nil] at hpq
 subst hpq
 have hlen:∀{ts:List TypeId} {vs:List Value} {ds:List (DataW H)} {ps:List MemPlace},DataW.TrodAll enc P W 0 (fun _=>true) true ts vs ds ps→ds.length=ts.length:=by
  intro ts
  induction ts with
  | nil=>intro vs ds ps h;obtain⟨_,rfl,_⟩:=trodAll_nil h;rfl
  | cons t ts ih =>
   intro vs ds ps h
   obtain⟨v,vs1,d,ds1,a,b,rfl,rfl,rfl,h1,h2⟩:=trodAll_cons h
   simp[ih h2]
 have hfn:s.fn H (ds++[])={ results:=[.lit (.bool true)],args:=ds }:=by
  rw[List.append_nil]
  exact hs H ds (by rw[hlen hA];simp)
 have hargs:∀sp:Nat→Bool,(∀x∈before,sp x.block=true)→DataW.TrodAll enc P W' 0 sp true f.params.toList args.toList ds before:=fun sp hsp=>B9 hl hb hr hA hlt hsp
 have hresl:(Value.bool true).resultList f.resultTypes.size=[.bool true]:=by rw[hres];rfl
 have hrt:∀(b:Nat) (sp:Nat→Bool) (hd:Bool),DataW.TrodAll enc P W' b sp hd f.resultTypes.toList ((Value.bool true).resultList f.resultTypes.size) [.lit (.bool true)] []:=fun b sp hd=>by
  rw[hresl,hres]
  exact trodAll_mk1 (shut_bool htb true)
 refine⟨ds,[],before,[],before,[],hW0,?_,?_,?_,Tk h1 h2 hb,fun _=>⟨?_,[.lit (.bool true)]++ds,[],[]++before,⟨[]++before,[],trodAll_append (hargs _ fun _ _=>rfl) (hrt _ _ _),?_,by simp,fun b off hp=>?_,fun ha=>?_⟩,fun x hx _=>?_⟩⟩
 ·rw[hfn];exact hrt _ _ _
 ·rw[hfn];exact hargs _ fun x hx=>by simpa using hlt x hx
 ·rw[hfn,hvars];rfl
 ·exact ok_one hres rfl (okWide_bool_mk htb true)
 ·rw[hvars];rfl
 ·have hp':MemPlace.cell b off∈before:=by simpa using hp
  rw[MF hb (a:=⟨b,off,none⟩) (hlt _ hp')]
  exact hfz b off (by simpa using hp')
 ·have:=hnd ha
  simpa using this
 ·simpa using hx
theorem Pf{n:Nat}{t:TypeId}{k:IntKind}{cs:List MV}(hk:(td P t).k=.int k)(h:CT P (n+1) t cs):∃v,cs=[.int k v]∧k.min≤v∧v≤k.max:=by
 simp only[CT,hk] at h;exact h
theorem U4{n:Nat}{t:TypeId}{cs:List MV}(hk:(td P t).k=.str)(h:CT P (n+1) t cs):∃s:ByteArray,cs=[.str s]∧s.size≤maxLen:=by
 simp only[CT,hk] at h;exact h
theorem Fm{n:Nat}{t e:TypeId}{cs:List MV}(hk:(td P t).k=.slice e)(h:CT P (n+1) t cs):∃xs,cs=[.lst (td P e).size xs false]∧xs.length≤maxLen∧∀x,x∈xs→CT P n e x:=by
 simp only[CT,hk] at h;exact h
theorem lN{n:Nat}{t:TypeId}{fs:List (Nat × TypeId)}{cs:List MV}(hk:(td P t).k=.struct fs)(h:CT P (n+1) t cs):cs.length=(td P t).size∧∀f,f∈fs→CT P n f.2 ((cs.drop f.1).take (td P f.2).size):=by
 simp only[CT,hk] at h;exact h
theorem Pe{n m:Nat}{t e:TypeId}{cs:List MV}(hk:(td P t).k=.array m e)(h:CT P (n+1) t cs):cs.length=(td P t).size∧∀i,i<m→CT P n e ((cs.drop (i * (td P e).size)).take (td P e).size):=by
 simp only[CT,hk] at h;exact h
theorem O0{n:Nat}{t:TypeId}{m:MV}(hk:(td P t).k.isAgg=true)(h:AT P n t m):∃cs,m=.agg cs∧CT P n t cs:=by
 simpa only[AT,hk,if_true] using h
theorem F7{α:Type}{f:α→List MV}{xs:List (List MV)}(h:∀x,x∈xs→∃a,x=f a):∃l:List α,xs=l.map f:=by
 induction xs with
 | nil=>exact⟨[],rfl⟩
 | cons x xs ih =>
  obtain⟨a,rfl⟩:=h x (List.mem_cons_self ..)
  obtain⟨l,rfl⟩:=ih fun y hy=>h y (List.mem_cons_of_mem _ hy)
  exact⟨a::l,rfl⟩
end
end

section
open Go.ChangeShapes Go.WideShapes Go.RowKit
section
variable {H:Type} {enc:TypeId × Value→H}
theorem Br{C:Checked}{os:Os}{g:FuncId}{fn:Func}{s:ChangeSpec}{conds:List PathCond}{apart fresh handsOn again:Bool}{tb:TypeId}{n:Nat}{laid:List (String × DataW Unit)}
 (hvars:s.vars=[])(hs:∀(H:Type) (ds:List (DataW H)),ds.length=fn.params.size→s.fn H ds={ results:=[.lit (.bool true)],args:=ds })
 (hres:fn.resultTypes=#[tb])(htb:C.prog.underlying tb=some .bool)(hl:laidOutB C.prog=true)(hr:∀t,t∈fn.params.toList→C.prog.readableRec t=true∧t<C.prog.types.size)
 (hshp:∀t,t∈fn.params.toList→shp C.prog n t=true)(hG:∀W:World,W.ShapedOpen C.prog→laidMetH C.prog laid W→UW W)
 (own:ownKnob C.prog.godebug=none)(started:os.Started)(noInit:C.prog.inits.idxOf? g=none)(hfn:C.prog.funcs[g]?=some fn)
 (witness:∃(w:World) (tape:Tape) (i:Input),w.os=os∧(w.forCall tape i).Shaped C.prog∧i.vars=[]∧Input.okWide C.prog (w.forCall tape i) .any w.heap.size g i ∧
   ((s.pre enc C.prog fn conds apart (w.forCall tape i).memory i.args∧laidMetH C.prog laid (w.forCall tape i).memory)∧sizedMet enc C.prog fn (OpenSpec.ofChange s) apart (w.forCall tape i).memory i.args)∧({}:Assume).holds C.prog (lone (Frame.enter C.prog g i.args .normal) [] (w.forCall tape i)))
 (h:∀ms,ATs C.prog n fn.params.toList ms→aA C.prog g ms St.none fun r _=>r=.bool true) :
  ReturnsInHanded {} C os g .any (fun w args=>(s.pre enc C.prog fn conds apart w args∧laidMetH C.prog laid w)∧sizedMet enc C.prog fn (OpenSpec.ofChange s) apart w args) (s.post enc C.prog fn apart fresh handsOn again):=by
 refine returnsInHanded_of_calls own started noInit witness ?_
 intro w tape i _ hsh _ hok hpre hholds
 obtain⟨_,_,_,fn',hfn',_,_,_,_,hval⟩:=hok
 have e':fn'=fn:=Option.some.inj (hfn'.symm.trans hfn)
 subst e'
 obtain⟨⟨⟨ds,gs,before,hw,hc⟩,hX⟩,hz⟩:=hpre
 have hW:=DataW.Whole.of_heap (w':=w.forCall tape i) (by rfl) hw
 have hX':laidMetH C.prog laid (w.forCall tape i):=hX.of_heap (by rfl)
 refine Calls.mono (R:=fun e W'=>∃v,e=.returned v∧s.post enc C.prog fn' apart fresh handsOn again (w.forCall tape i) i.args v W') ?_ (fun e W' ⟨v,he,hp⟩=>by
  subst he
  exact ChangeSpec.post_blind hp)
 generalize hWe:w.forCall tape i=W at *
 generalize hargs:i.args=args at *
 generalize hbase:w.heap.size=base at *
 obtain⟨p,q,hA,_⟩:=id hW
 obtain⟨ms,e,hrel,hat⟩:=B8 (n:=n) (base:=base) hshp (fun j t v p q=>hval j t v (by simpa using p) (by simpa using q)) hA
 have hrels:iS (yI W) args ms:=⟨by simpa using e,fun i m hm=>by
  have hi:i<args.size:=by
   have:=(List.getElem?_eq_some_iff.1 hm).1
   simp at e;omega
  exact hrel i _ m (by simp[Array.getD,hi]) hm⟩
 refine((h ms hat).2 (yI W) W args (Xn W (hG W hsh hX')) hrels).mono fun e' W' ⟨v,mv,σ',Φ',he,hv,hi,hst,hq⟩=>?_
 subst hq
 cases hv
 refine⟨_,he,PR hvars hs hres htb hl hr hW hst.os hst.output fun k hk=>hst.block k hk ?_⟩
 rintro⟨l,o,p,h1,_⟩
 simp[St.none] at h1
end
end

section
theorem CG{P:Program}{id:Nat}{l:List Oper}{f:FR}{σ:St}{Q:MQ}(hm:P.follows .mixedOrders=true)(ds:List (Nat × Nat))(Ds:List Nat)(hds:ds.map (·.1)=Ds)(Rs:List (Nat × Nat))(hchk:r4 ⟨Ds,Rs,none,.no,[]⟩ l.toArray=true)(C:cD)
 (h1:∀p,p∈ds→∃i o,f.get p.1=.ptr p.2 i o)(h2:(ds.map (·.2)).Pairwise (·≠·))(h3:Ds.Pairwise (·≠·))(h4:∀p,p∈Rs→p.2∈Ds∧∀l i o,f.get p.1=.ptr l i o→l=Ah ds p.2)
 (h:R (kM P C (@OfNat.ofNat (Array Oper) (nat_lit 0) (@_root_.id (OfNat (Array Oper) (nat_lit 0)) (OfNat.mk (l.toArray)))) (Q .normal) (@OfNat.ofNat (List Oper) (nat_lit 0) (@_root_.id (OfNat (List Oper) (nat_lit 0)) (OfNat.mk l))) f σ)):R (rS P id (@OfNat.ofNat (List Oper) (nat_lit 0) (@_root_.id (OfNat (List Oper) (nat_lit 0)) (OfNat.mk l))) f σ Q):=by
 subst hds
 exact vV (C:=C.pl) (X:=⟨ds.map (·.1),Rs,none,.no,[]⟩) (loc:=fun t l=>l=Ah ds t) hm (show oV ⟨ds.map (·.1),Rs,none,.no,[]⟩ (fun t l=>l=Ah ds t) C.pl from⟨C.LD.u,trivial⟩) hchk (fun _ _ hd _ _ _ h=>yQ hd h) (DOk.of h1 h2 h3 h4) h
def tu0:TU:=⟨0,0,0,0,ca0⟩
def iP(seq old id:Int)(c:CA)(is:Bool):TU:=⟨seq,id,old,if is=true then c.ver else 0,if is=true then c else ca0⟩
theorem Et(seq old id:Int)(c:CA)(is:Bool):aA Tryz.prog 77 [.int .i64 seq,.int .i64 old,.int .i64 id,.agg c.c,.bool is] St.none (fun r _=>r=.tup [.agg (if old=(iP seq old id c is).new then tu0 else iP seq old id c is).c,.bool (!decide (old=(iP seq old id c is).new))]):=by
 refine aA.bS (mB 30 [.cell 10 128,.tmp 11] Tryz.func77 ?_)
 obtain⟨T,hT⟩:∃T,iP seq old id c is=T:=⟨_,rfl⟩
 have hn:T.new=if is=true then c.ver else 0:=by rw[←hT];rfl
 have hTc:T.c=.int .i64 seq::.int .i64 id::.int .i64 old::.int .i64 (if is=true then c.ver else 0)::(if is=true then c else ca0).c:=by rw[←hT];rfl
 rw[hT]
 cases is
 ·simp only[Bool.false_eq_true,if_false] at hn hTc
  by_cases h:old=0
  ·rw[if_pos (h.trans hn.symm),decide_eq_true (h.trans hn.symm)]
   subst h
   repeat' first|(refine wM ?_;(first|(have _:=nl3)|(have _:=nl2;intro nl3)|(have _:=nl1;intro nl2)|(intro nl1));intros)|refine wZ2 @Tryz.f77.eq_1 @FXs ?_|fail
   all_goals exact lE
  ·rw[if_neg (fun e=>h (e.trans hn)),decide_eq_false (fun e=>h (e.trans hn)),hTc]
   repeat' first|(refine wM ?_;(first|(have _:=nl3)|(have _:=nl2;intro nl3)|(have _:=nl1;intro nl2)|(intro nl1));intros)|refine wZ2 @Tryz.f77.eq_1 @FXs ?_|fail
   all_goals exact lE
 ·simp only[if_true] at hn hTc
  by_cases h:old=c.ver
  ·rw[if_pos (h.trans hn.symm),decide_eq_true (h.trans hn.symm)]
   subst h
   repeat' first|(refine wM ?_;(first|(have _:=nl3)|(have _:=nl2;intro nl3)|(have _:=nl1;intro nl2)|(intro nl1));intros)|refine wZ2 @Tryz.f77.eq_1 @FXs ?_|fail
   have d1:nl3≠nl1:=by assumption
   refine CG mixed [(8,nl1),(12,nl3)] [8,12] rfl [(18,8),(21,12),(22,12)] dK (fun _ _=>none) ?h1 ?h2 (by decide) ?h4 ?go
   case h1 =>
    intro p hp
    simp only[List.mem_cons,List.not_mem_nil,or_false] at hp
    rcases hp with rfl|rfl
    ·exact⟨0,0,rfl⟩
    ·exact⟨0,0,rfl⟩
   case h2=>simp[Ne.symm d1]
   case h4 =>
    intro p hp
    simp only[List.mem_cons,List.not_mem_nil,or_false] at hp
    rcases hp with rfl|rfl|rfl
    all_goals exact⟨by decide,fun l i o h=>absurd h (by simp[FR.get,cQ])⟩
   case go =>
    repeat' first|refine wZ1 @FXs ?_|fail
    all_goals exact lE
  ·rw[if_neg (fun e=>h (e.trans hn)),decide_eq_false (fun e=>h (e.trans hn)),hTc]
   repeat' first|(refine wM ?_;(first|(have _:=nl3)|(have _:=nl2;intro nl3)|(have _:=nl1;intro nl2)|(intro nl1));intros)|refine wZ2 @Tryz.f77.eq_1 @FXs ?_|fail
   have d1:nl3≠nl1:=by assumption
   refine CG mixed [(8,nl1),(12,nl3)] [8,12] rfl [(18,8),(21,12),(22,12)] dK (fun _ _=>none) ?h1 ?h2 (by decide) ?h4 ?go
   case h1 =>
    intro p hp
    simp only[List.mem_cons,List.not_mem_nil,or_false] at hp
    rcases hp with rfl|rfl
    ·exact⟨0,0,rfl⟩
    ·exact⟨0,0,rfl⟩
   case h2=>simp[Ne.symm d1]
   case h4 =>
    intro p hp
    simp only[List.mem_cons,List.not_mem_nil,or_false] at hp
    rcases hp with rfl|rfl|rfl
    all_goals exact⟨by decide,fun l i o h=>absurd h (by simp[FR.get,cQ])⟩
   case go =>
    repeat' first|refine wZ1 @FXs ?_|fail
    all_goals exact lE
end

section
def gG(log:List TU)(t:TU):List TU:=if log.length<40 then log++[t] else(log++[t]).drop 1
def kW(floor:Int)(log:List TU)(t:TU):Int:=if log.length<40 then floor else((log++[t]).headD tu0).sq
abbrev lgO(log:List TU)(ex:List (List MV)):aT:=.row 128 31 (log.map TU.c++ex)
theorem uX{P:Program}{g:FuncId}{ms:List MV}{σ:St}{n:Nat}{on o:aT}{u:Nat→MV}{k:MV→St→Prop}(hn:σ n=some on)(h:aA P g ms (St.none.set n on) fun v σ'=>∃q,v=u q∧σ'=St.none.set q o)(hk:∀q,(σ.del n) q=none→R (bT (u q) ((σ.del n).set q o) k)):R (cW P g ms σ k) :=
 bK h (St.aB (St.none_le _) hn) fun v σ' hv hf=>by
  obtain⟨q,rfl,rfl⟩:=hv
  have e:(St.none.set q o).over (σ.minus (St.none.set n on))=(σ.del n).set q o:=by
   rw[bE,dC]
   congr 1
   funext j
   by_cases h2:j=n
   ·subst h2;simp[St.set,St.minus,St.del]
   ·simp[St.set,St.none,St.minus,St.del,h2]
  rw[e]
  refine hk q ?_
  rcases hf q o (aD _ _ _) with h|⟨o',h⟩
  ·simp[St.del,h]
  ·by_cases h2:q=n
   ·subst h2;simp[St.del]
   ·rw[aG _ _ _ _ h2] at h;cases h
theorem Hb(y:TU)(L:List TU)(hl:L.length+1≤1000000)(tt:Bool):aA Tryz.prog 98 [.lst 31 ((y::L).map TU.c) tt] St.none (fun r σ'=>∃q,r=.vec 31 q 0 (L.length+1)∧σ'=St.none.set q (.row 128 31 ((y::L).map TU.c))):=by
 refine(mB 8 [.tmp 2] Tryz.func98 ?_)
 repeat' first|(refine wO ?_;intros)|refine wZ1 @Tryz.f98.eq_1 ?_|fail
 all_goals exact⟨_,rfl,rfl⟩
theorem Hc{g n:Nat}(xs:List (List MV))(y:TU)(L:List TU)(hn:n=L.length+1)(hl:L.length+1≤1000000)(h:(xs.drop 1).take n=(y::L).map TU.c)(hx:1+n≤xs.length) :
  aA Tryz.prog 98 [.vec 31 g 1 n] (St.none.set g (.row 128 31 xs)) (fun r σ'=>∃q,r=.vec 31 q 0 (L.length+1)∧σ'=St.none.set q (.row 128 31 ((y::L).map TU.c))) :=
 aA.pre (ms':=[.lst 31 ((y::L).map TU.c) false]) rfl (bA.freeze (St.none.set g (.row 128 31 xs)) (St.le_refl _) (St.none_le _) (fun k o hk=>by cases hk) (fun p hp=>by
  simp only[iG,List.mem_singleton] at hp
  subst hp
  rw[←h]
  exact View.vec (aD _ _ _) hx)) (Hb y L hl false)
theorem AK{v g:Nat}(hvg:v≠g)(f sm:Nat)(mk:UInt32)(floor now:Int)(log:List TU)(hl:log.length≤40)(ex:List (List MV))(t:TU) :
  aA Tryz.prog 79 [.ptr v 0 0,.agg t.c] ((St.none.set g (lgO log ex)).set v (vwO f mk sm floor now (.vec 31 g 0 log.length)))
   (fun _ σ'=>∃g' ex',v≠g'∧σ'=(St.none.set g' (lgO (gG log t) ex')).set v (vwO f mk sm (kW floor log t) now (.vec 31 g' 0 (gG log t).length))):=by
 refine aA.less (Q':=fun _ σ'=>∃g' ex',v≠g'∧((St.none.set g' (lgO (gG log t) ex')).set v (vwO f mk sm (kW floor log t) now (.vec 31 g' 0 (gG log t).length))).le σ') (mB 39 [] Tryz.func79 ?_) fun v σ' ⟨g',ex',h1,h2⟩=>⟨_,h2,g',ex',h1,rfl⟩
 have hgv:=Ne.symm hvg
 by_cases h40:log.length<40
 ·rw[show gG log t=log++[t] from if_pos h40,show kW floor log t=floor from if_pos h40]
  have hm:(log.map TU.c).length=log.length:=List.length_map _
  have hQ:(log++[t]).map TU.c=log.map TU.c++[t.c]:=List.map_append
  have hdr:(log.map TU.c++ex).drop (log.length+1)=ex.drop 1:=by rw[←hm,←List.drop_drop,List.drop_left]
  have htk:(log.map TU.c++ex).take log.length=log.map TU.c:=List.take_left' hm
  repeat' first|(refine wM ?_;(first|(have _:=nl3)|(have _:=nl2;intro nl3)|(have _:=nl1;intro nl2)|(intro nl1));intros)|refine wV ?_|(refine wY ?_ ?_<;>intro h)|refine wZ5 @Tryz.f79.eq_1 @FXs @hm @hdr @htk ?_|fail
  ·obtain rfl:ex=[]:=List.eq_nil_of_length_eq_zero oM
   clear hdr htk h hm hl h40
   refine⟨nl3,[],by assumption,St.aB (St.aB (St.none_le _) ?_) ?_⟩
   ·rw[aD,lgO,hQ,List.append_nil,List.append_nil]
   ·simp[St.set, *]
  ·clear hdr htk h hm hl h40
   refine⟨nl3,ex.drop 1,by assumption,St.aB (St.aB (St.none_le _) ?_) ?_⟩
   ·rw[aD,lgO,hQ]
   ·simp[St.set, *]
 ·have h4:log.length=40:=by omega
  obtain⟨t0,L,rfl⟩:∃t0 L,log=t0::L:=by
   cases log with
   | nil=>simp at h4
   | cons a b=>exact⟨a,b,rfl⟩
  rw[show gG (t0::L) t=L++[t] from if_neg h40,show kW floor (t0::L) t=t0.sq from if_neg h40]
  simp only[List.length_cons] at h4
  have hm:(L.map TU.c).length=39:=by rw[List.length_map];omega
  have hL:L.length=39:=by omega
  obtain⟨y,L',hy⟩:∃y L',L++[t]=y::L':=by
   cases L with
   | nil=>exact⟨t,[],rfl⟩
   | cons a b=>exact⟨a,b++[t],rfl⟩
  have hL':L'.length=39:=by
   have:=congrArg List.length hy
   simp only[List.length_append,List.length_cons,List.length_nil] at this
   omega
  have hc:=fun(nl:Nat) (xs:List (List MV)) (h1:(xs.drop 1).take 40=(y::L').map TU.c) (h2:1+40≤xs.length)=>Hc (g:=nl) xs y L' oM oM h1 h2
  rw[hL'] at hc
  rw[hy]
  repeat' first|(refine wM ?_;(first|(have _:=nl3)|(have _:=nl2;intro nl3)|(have _:=nl1;intro nl2)|(intro nl1));intros)|refine wV ?_|(refine wY ?_ ?_<;>intro h)|refine wZ4 @Tryz.f79.eq_1 @FXs @hm @hL ?_|fail
  all_goals
   have hq2:∀R:List (List MV),(L.map TU.c++t.c::R).take 40=(y::L').map TU.c:=fun R=>by
    rw[←hy,List.map_append,show L.map TU.c++t.c::R=(L.map TU.c++[t.c])++R by simp]
    exact List.take_left' (by rw[List.length_append,hm];rfl)
  ·obtain rfl:ex=[]:=List.eq_nil_of_length_eq_zero oM
   clear h
   refine uX (aD _ _ _) (hc nl3 _ (by rw[List.drop_succ_cons,List.drop_zero,List.append_nil];exact hq2 []) (by simp[hL])) fun q hq=>?_
   have hqv:v≠q:=fun e=>by subst e;simp[St.set,St.del, *] at hq
   have hqv':=Ne.symm hqv
   have hv3:v≠nl3:=by assumption
   repeat' first|refine wZ1 @FXs ?_|fail
   refine⟨q,[],hqv,St.aB (St.aB (St.none_le _) ?_) ?_⟩
   ·simp[St.set, *]
   ·simp[St.set, *]
  ·clear h
   refine uX (aD _ _ _) (hc nl3 _ ?_ ?_) fun q hq=>?_
   ·rw[List.drop_succ_cons,List.drop_zero,List.take_left' hm,List.append_assoc]
    exact hq2 _
   ·rw[List.length_cons,List.take_left' hm,List.length_append,List.length_append,hm]
    simp only[List.length_cons,List.length_nil]
    omega
   have hqv:v≠q:=fun e=>by subst e;simp[St.set,St.del, *] at hq
   have hqv':=Ne.symm hqv
   have hv3:v≠nl3:=by assumption
   repeat' first|refine wZ1 @FXs ?_|fail
   refine⟨q,[],hqv,St.aB (St.aB (St.none_le _) ?_) ?_⟩
   ·simp[St.set, *]
   ·simp[St.set, *]
end

section
theorem VW{P:Program}{g:FuncId}{ms:List MV}{σ:St}{o:aT}{u:Nat→MV}{k:MV→St→Prop}(h:aA P g ms σ fun v σ'=>∃q,v=u q∧σ'=St.none.set q o)(hk:∀q,R (bT (u q) (St.none.set q o) k)):R (cW P g ms σ k) :=
 h.mono fun v σ' ⟨q,hv,hσ⟩=>by subst hv;subst hσ;exact hk q
theorem bA.T0{v:MV}{q:Nat}{t:TypeId}{e:Nat}(pre post:List MV)(e':Nat)(tr:Bool):bA ⟨1,[(0,v)],[]⟩ (St.none.set q (.row t e [pre++.aM::post])) ⟨1,[(0,v)],[]⟩ (St.none.set q (.row t e [pre++.lst e' [] tr::post])):=by
 refine bA.tJ St.none (St.none_le _) (fun k o1 hk=>?_) (fun k o hk=>rfl) (fun p hp=>by simp at hp;subst hp;exact .same _)
 by_cases e1:k=q
 ·subst e1
  rw[aD] at hk
  cases hk
  refine⟨_,aD _ _ _,.inr ⟨t,e,_,_,rfl,rfl,rfl,fun i x x1 hx hx1=>?_⟩⟩
  match i with
  | 0 =>
   simp only[List.getElem?_cons_zero,Option.some.injEq] at hx hx1
   subst hx hx1
   refine⟨by simp,fun j a b ha hb=>?_⟩
   by_cases hj:j<pre.length
   ·rw[List.getElem?_append_left hj] at ha hb
    rw[ha] at hb;cases hb
    exact .inl rfl
   ·rw[List.getElem?_append_right oM] at ha hb
    match hk:j - pre.length with
    | 0 =>
     rw[hk] at ha hb
     simp only[List.getElem?_cons_zero,Option.some.injEq] at ha hb
     subst ha hb
     exact .inr ⟨rfl,.nil _ _⟩
    | k+1 =>
     rw[hk] at ha hb
     simp only[List.getElem?_cons_succ] at ha hb
     rw[ha] at hb;cases hb
     exact .inl rfl
  | i+1=>simp at hx
 ·exact absurd hk (by rw[aG _ _ _ _ e1];exact fun h=>by cases h)
theorem cN{σ:St}{a b a':MV}(h:View σ a a'):View σ (.tup [a,b]) (.tup [a',b]):=.tup rfl fun i m m' hm hm'=>by
 match i with
 | 0=>simp at hm hm';subst hm;subst hm';exact h
 | 1=>simp at hm hm';subst hm;subst hm';exact .same _
 | i+2=>simp at hm
theorem Ke(x:Int)(h1:1≤x)(h2:x<1073741824)(t:Bool):aA Tryz.prog 225 [.lst 1 [] t,.int .i64 x] St.none (fun r _=>r=.lst 1 [aP x] false):=by
 refine aA.bS (mB 30 [.tmp 4] Tryz.func225 ?_)
 have hb:=tZ [] (Nat.zero_le _) List.Pairwise.nil x t
 have hc:=rM 1 t true
 simp only[List.map_nil,List.not_mem_nil,decide_false,aR,List.filter_nil,List.length_nil] at hb
 repeat' first|(refine aC hb ?_)|(refine aC hc ?_)|(refine wO ?_;intros)|refine wZ1 @Tryz.f225.eq_1 ?_|fail
 refine dI (J4 x) ?_
 repeat' first|refine wZ0 ?_|fail
 all_goals exact lE
theorem Hl(g:Int)(h1:0≤g)(h2:g<16)(t:Bool):aA Tryz.prog 148 [.lst 2 [] t,.int .i64 g] St.none (fun r _=>r=.tup [.lst 2 [(GR.mk g []).c] false,.int .i64 0]):=by
 refine aA.gh (mB 28 [.tmp 4,.tmp 5] Tryz.func148 ?_)
 have hb:=gH [] (Nat.zero_le _) List.Pairwise.nil g t
 have hc:=BJ t true
 simp only[List.map_nil,List.not_mem_nil,decide_false,aR,List.filter_nil,List.length_nil] at hb
 repeat' first|(refine aC hb ?_)|(refine aC hc ?_)|(refine wO ?_;intros)|refine wZ1 @Tryz.f148.eq_1 ?_|fail
 refine VW (J3 _ ⟨_,rfl⟩) fun q=>?_
 repeat' first|refine wZ0 ?_|fail
 refine .step (bA.T0 [.int .i64 g] [] 1 false) (.of (bA.freeze (l1:=[(0,.tup [.lst 2 [(GR.mk g []).c] false,.int .i64 0])]) (St.none.set q (.row 200 2 [(GR.mk g []).c])) (St.le_refl _) (St.none_le _) (fun k o hk=>by cases hk) (fun p hp=>?_)) ⟨_,rfl,rfl⟩)
 simp only[List.mem_singleton] at hp
 subst hp
 exact cN (View.vecAll (aD _ _ _) rfl)
end

section
theorem Sd{w:World}{R:Nat}{c:Array Value}{t:TypeId}{fz:Nat × Nat}(h:w.heap[R]?=some (.cells c t fz))(hZ:FZ t=false)(hf:fz.2≤fz.1∨FZ t=true∧c.size≤fz.1)(i:Nat):w.frozen? ⟨R,i,none⟩=false:=by
 have:fz.2≤fz.1:=hf.elim id fun h=>by rw[hZ] at h;cases h.1
 simp only[World.frozen?,h]
 simp;omega
theorem uI{P:Program}(w:World)(tS tR e:TypeId)(ht:P.underlying tS=some (.slice e))(size:Nat)(hz:∀w,(Go.sizeOf e).run P w=.ok size w)(a b:Option Addr)(la ca lb cb:Nat)
 (h:la=0∨lb=0∨∃Ra oa Rb ob sa sb,a=some ⟨Ra,oa,none⟩∧b=some ⟨Rb,ob,none⟩∧Ra≠Rb∧w.shape? Ra=some sa∧w.shape? Rb=some sb∧(∀i,w.frozen? ⟨Ra,i,none⟩=false)∧∀i,w.frozen? ⟨Rb,i,none⟩=false) :
  (Extern.SlicesOverlaps.overlaps #[tS,tS] #[tR] #[.slice a la ca,.slice b lb cb]).run P w=.ok (.bool false) w:=by
 change Sem.run P (α:=Value) (do
  let some t:=(#[tS,tS]:Array TypeId)[0]?|stuck "slices.overlaps: no parameter types"
  let .slice elem ←underlying t|stuck "slices.overlaps: slice type expected"
  let size ←sizeOf elem
  match (a:Option Addr),(b:Option Addr) with
  | some a,some b =>
   if la=0∨lb=0∨size=0 then pure (Value.bool false)
   else if a.block != b.block&&(←frozen a)&&(←frozen b) then unsupported .addressObserved
   else do
    if a.block != b.block then do
     noView a;noView b
     if ←mayBeOne a b then return Value.bool ((←choose (.extern "sameAddr.stringBytes" 2))==1)
    pure (Value.bool (a.block==b.block&&a.off<b.off+lb * size&&b.off<a.off+la * size))
  | _,_=>pure (Value.bool false)) w=_
 cases a with
 | none=>simp[run_underlying ht,hz]
 | some a =>
  cases b with
  | none=>simp[run_underlying ht,hz]
  | some b =>
   by_cases h0:la=0∨lb=0∨size=0
   ·simp[run_underlying ht,hz,h0]
   ·rcases h with h|h|⟨Ra,oa,Rb,ob,⟨sa,ka⟩,⟨sb,kb⟩,h1,h2,h3,h4,h5,h6,h7⟩
    ·exact absurd (.inl h) h0
    ·exact absurd (.inr (.inl h)) h0
    ·cases h1
     cases h2
     have hnb:(Ra != Rb)=true:=by simpa using h3
     have hnb':(Ra==Rb)=false:=by simpa using h3
     simp[run_underlying ht,hz,h0,hnb,hnb',frozen,noView,viewAt,mayBeOne,stringish,shape,Sem.run,h4,h5,h6,h7]
theorem uM{P:Program}{o:Oper}{f:FR}{σ:St}{k:MV→St→Prop}{g:FuncId}{fn:Func}{t el tR:TypeId}{x y:Operand}(ho:o.op=.call { callee:=.value (.func g),args:=#[x,y],argTypes:=#[t,t] })
 (hf:P.funcs[g]?=some fn)(hname:(fn.name == "runtime.NumGoroutine")=false)(hb:fn.body.isNone=true)(hn:Extern.findNext fn=none)(he:Extern.find fn=some (Extern.SlicesOverlaps.overlaps #[t,t] #[tR]))
 (ht:(td P t).k=.slice el)(hok:(td P el).ok=true){a b lo lo' n n' e e':Nat}(hab:a≠b)(hx:aE f x=.vec e a lo n)(hy:aE f y=.vec e' b lo' n'){ta tb:TypeId}(hZa:FZ ta=false)(hZb:FZ tb=false){ea eb:Nat}{xs ys:List (List MV)}(ha:σ a=some (.row ta ea xs))(hb':σ b=some (.row tb eb ys))
 (hk:k (.bool false) σ):sop P o f σ k:=by
 intro Φ w ac K Q' hi hr hK
 have rx:=aI hr x
 have ry:=aI hr y
 rw[hx] at rx
 rw[hy] at ry
 obtain⟨aa,ca,pa,hva,hpa,_,hca,hna,hda⟩:=rx.dR
 obtain⟨ab,cb,pb,hvb,hpb,_,hcb,hnb,hdb⟩:=ry.dR
 obtain⟨pa',ja,_,_,_,_,ka⟩:=hi.own a _ ha
 obtain⟨pb',jb,_,_,_,_,kb⟩:=hi.own b _ hb'
 rw[hpa] at ja;cases ja
 rw[hpb] at jb;cases jb
 have hrun:=uI (P:=P) w t tR el (aW ht) _ (fun w=>aO hok w) aa ab n ca n' cb (by
  by_cases h1:n=0
  ·exact .inl h1
  ·by_cases h2:n'=0
   ·exact .inr (.inl h2)
   ·refine .inr (.inr ?_)
    rcases hda with⟨Ra,hRa,rfl⟩|hda
    ·rcases hdb with⟨Rb,hRb,rfl⟩|hdb
     ·rw[hRa] at ka
      rw[hRb] at kb
      obtain⟨c1,fz1,q1,q2,_⟩:=ka
      obtain⟨c2,fz2,r1,r2,_⟩:=kb
      refine⟨Ra,_,Rb,_,(ta,c1.size),(tb,c2.size),rfl,rfl,fun e=>?_,by simp only[World.shape?,q1],by simp only[World.shape?,r1],fun i=>Sd q1 hZa q2 i,fun i=>Sd r1 hZb r2 i⟩
      subst e
      exact hab (hi.inj _ _ _ _ _ _ _ ha hb' hpa hpb hRa hRb)
     ·omega
    ·omega)
 have hcall:=run_callFunc_extern hf hname hb hn he #[.slice aa n ca,.slice ab n' cb] w
 rw[hrun] at hcall
 refine bJ (v:=.bool false) (w':=w) ?_ (hK _ (.bool false) _ Φ w (.bool _) hi (.refl _ _ _) hk)
 have hg:ac.eval (.func g)=.func (.func g) #[] #[]:=rfl
 unfold execOp
 simp only[ho,resolve,List.map_toArray,List.map_cons,List.map_nil,hva,hvb,hg,Deferred.ofValue,Sem.run_bind,Sem.run_pure,Result.andThen_ok,invoke,Array.empty_append,Array.append_empty]
 exact hcall
end

section
def Room(l C:Nat)(Φ:Phi):Prop:=∃p,Φ.obj l=some p∧p.C=C
theorem Room.le{l C:Nat}{Φ Φ':Phi}(h:Room l C Φ)(hle:Φ.le Φ'):Room l C Φ':=h.imp fun p q=>⟨hle.obj _ _ q.1,q.2⟩
def Au(l C:Nat)(P:Program)(c:Code)(f:FR)(σ:St)(Q:MQ):Prop :=
 ∀F,FOk F c→∀Φ w a,Room l C Φ→Inv Φ w σ→dD Φ a.tmps f→eC Φ w a.defers f.d→c.wpIn F 0 P (lift Φ σ w Q) a w
def EP(l C:Nat)(P:Program)(o:Oper)(f:FR)(σ:St)(k:MV→St→Prop):Prop :=
 ∀Φ w a K Q',Room l C Φ→Inv Φ w σ→dD Φ a.tmps f→(∀v mv σ' Φ' w',Rel Φ' v mv→Inv Φ' w' σ'→Step Φ σ w Φ' σ' w'→k mv σ'→K (a.put o.dst v) w')→o.wp P a w K Q'
section
variable {l C:Nat} {P:Program} {f:FR} {σ:St} {Q:MQ}
theorem TW{c:Code}(h:mwp P c f σ Q):Au l C P c f σ Q:=fun F hF Φ w a _ hi hr hd=>h F hF Φ w a hi hr hd
theorem GO{c:Code}{t:TypeId}{e:Nat}{xs:List (List MV)}(hl:σ l=some (.row t e xs))(h:∀C,xs.length≤C→Au l C P c f σ Q):mwp P c f σ Q:=fun F hF Φ w a hi hr hd=>by
 obtain⟨p,hp,_,hC,_⟩:=hi.own l _ hl
 exact h p.C hC F hF Φ w a ⟨p,hp,rfl⟩ hi hr hd
theorem kO{x y:Code}(h:Au l C P x f σ (uQ (fun f' σ'=>Au l C P y f' σ' Q) Q)):Au l C P (.seq x y) f σ Q:=by
 intro F hF Φ w a hg hi hr hd
 refine wpIn_seq (wpIn_mono (h F hF.seq1 Φ w a hg hi hr hd) fun e a' w' ⟨f',σ',Φ',x1,x2,x3,x4,q⟩=>?_)
 cases e with
 | normal=>exact wpIn_mono (q F hF.VM Φ' w' a' (hg.le x4.le) x3 x2 x1) fun _ _ _ hq=>nN x4 hq
 | _=>exact⟨f',σ',Φ',x1,x2,x3,x4,q⟩
theorem CN{c:Operand}{x y:Code}{t:Bool}(hc:aE f c=.bool t)(h1:t=true→Au l C P x f σ Q)(h2:t=false→Au l C P y f σ Q):Au l C P (.cond c x y) f σ Q:=by
 intro F hF Φ w a hg hi hr hd
 have he:a.eval c=.bool t:=by
  have:=aI hr c
  rw[hc] at this
  generalize a.eval c=v at this
  cases this
  rfl
 exact wpIn_cond_split he (fun ht=>h1 ht F hF.Pc Φ w a hg hi hr hd) (fun hf=>h2 hf F hF.Pd Φ w a hg hi hr hd)
theorem QG{ops:Array Oper}{F:Fence}(o:Oper)(r:List Oper):∀(L:List Oper),(F=Fence.wide∨∃l0,F=Fence.wide.inRound l0∧∀x,x∈L++o::r→∀c,x.op≠.defer c)→o.guard=none→∀{Q:MQ} {Φ0:Phi} {σ0:St} {w0:World} (f:FR) (σ:St) (Φ:Phi) (w:World) (a:Act),
  dL P ops (fun f σ=>EP l C P o f σ fun v σ'=>dL P ops (Q .normal) r (bD f o.dst v) σ') L f σ→Room l C Φ→Inv Φ w σ→dD Φ a.tmps f→eC Φ w a.defers f.d →
  Step Φ0 σ0 w0 Φ σ w→wpListIn F 0 P ops (lift Φ0 σ0 w0 Q) (L++o::r) a w:=by
 intro L
 induction L with
 | nil =>
  intro hF hg Q Φ0 σ0 w0 f σ Φ w a h hG hi hr hd hs
  have hFo:F=Fence.wide∨∃l0,F=Fence.wide.inRound l0∧∀c,o.op≠.defer c:=hF.imp id fun⟨l0,e,q⟩=>⟨l0,e,q o (by simp)⟩
  have hFr:F=Fence.wide∨∃l0,F=Fence.wide.inRound l0∧∀y,y∈r→∀c,y.op≠.defer c:=hF.imp id fun⟨l0,e,q⟩=>⟨l0,e,fun y ho=>q y (by simp[ho])⟩
  have h:EP l C P o f σ fun v σ'=>dL P ops (Q .normal) r (bD f o.dst v) σ':=h
  simp only[List.nil_append]
  have h':fX ops f o (EP l C P o f σ fun v σ'=>dL P ops (Q .normal) r (bD f o.dst v) σ') False:=by unfold fX;rw[hg];exact h
  unfold wpListIn
  rcases cI h' hr with⟨hw,hy⟩|⟨hw,hn⟩
  ·rw[if_pos hw]
   refine eS hFo ?_
   exact h Φ w a _ _ hG hi hr (fun v mv σ' Φ' w' r1 i1 s1 hk=>sI r hFr _ _ Φ' w' (a.put o.dst v) hk i1 (cL (hr.mono s1.le) o.dst r1) (by rw[bO,dZ];exact hd.step hi s1) (hs.trans s1))
  ·exact hn.elim
 | cons x rest ih =>
  intro hF hg Q Φ0 σ0 w0 f σ Φ w a h hG hi hr hd hs
  have hFr:F=Fence.wide∨∃l0,F=Fence.wide.inRound l0∧∀y,y∈rest++o::r→∀c,y.op≠.defer c:=hF.imp id fun⟨l0,e,q⟩=>⟨l0,e,fun y ho=>q y (List.mem_cons_of_mem _ ho)⟩
  have hFo:F=Fence.wide∨∃l0,F=Fence.wide.inRound l0∧∀c,x.op≠.defer c:=hF.imp id fun⟨l0,e,q⟩=>⟨l0,e,q x (List.mem_cons_self ..)⟩
  have hfn:∀g,F.fn g:=fun g=>by rcases hF with rfl|⟨l,rfl,_⟩<;>trivial
  simp only[dL] at h
  simp only[List.cons_append]
  unfold wpListIn
  rcases cI h hr with⟨hw,hy⟩|⟨hw,hn⟩
  ·rw[if_pos hw]
   refine eS hFo ?_
   by_cases hdef:∃c,x.op=.defer c
   ·obtain⟨c,hc⟩:=hdef
    rw[hc] at hy
    have hy:vS f c fun f'=>dL P ops (fun f σ=>EP l C P o f σ fun v σ'=>dL P ops (Q .normal) r (bD f o.dst v) σ') rest (bD f' x.dst .junk) σ:=hy
    obtain⟨d,f',h1,h2,h3,h4⟩:=oF (P:=P) (w:=w) hc hy hr hd
    unfold Oper.wp
    rw[h1]
    refine ih hFr hg _ _ Φ w _ h4 hG hi (cL (a:={ a with defers:=d::a.defers }) h2 x.dst (.junk _)) ?_ hs
    rw[bO,dZ]
    exact h3
   ·exact kN (fun c hc=>hdef ⟨c,hc⟩) hy Φ w a _ _ hi hr (fun v mv σ' Φ' w' r1 i1 s1 hk=>ih hFr hg _ _ Φ' w' (a.put x.dst v) hk (hG.le s1.le) i1 (cL (hr.mono s1.le) x.dst r1) (by rw[bO,dZ];exact hd.step hi s1) (hs.trans s1))
  ·rw[if_neg (by simp[hw])]
   exact⟨fun f _=>hfn f,ih hFr hg _ _ Φ w (a.put x.dst undef) hn hG hi (cL hr x.dst gP) (by rw[bO,dZ];exact hd) hs⟩
theorem Av{id:Nat}{ops:Array Oper}(L:List Oper)(o:Oper)(r:List Oper)(he:ops.toList=L++o::r)(hg:o.guard=none)
 (h:dL P ops (fun f σ=>EP l C P o f σ fun v σ'=>dL P ops (Q .normal) r (bD f o.dst v) σ') L f σ):Au l C P (.region id ops false) f σ Q :=
 fun F hF Φ w a hG hi hr hd=>wpIn_region_list (by
  rw[he]
  refine QG o r L ?_ hg f σ Φ w a h hG hi hr hd (.refl _ _ _)
  have:=hF.ops
  rw[he] at this
  exact this)
theorem eG{id:Nat}{L:List Oper}(L1:List Oper)(o:Oper)(r:List Oper)(he:L=L1++o::r)(hg:o.guard=none)
 (h:R (dL P (@OfNat.ofNat (Array Oper) (nat_lit 0) (@_root_.id (OfNat (Array Oper) (nat_lit 0)) (OfNat.mk (L.toArray)))) (fun f σ=>EP l C P o f σ fun v σ'=>R (dL P (@OfNat.ofNat (Array Oper) (nat_lit 0) (@_root_.id (OfNat (Array Oper) (nat_lit 0)) (OfNat.mk (L.toArray)))) (Q .normal) r (bD f o.dst v) σ')) L1 f σ)):Au l C P (.region id L.toArray false) f σ Q :=
 Av (ops:=L.toArray) L1 o r he hg h
theorem HT{o:Oper}{k:MV→St→Prop}{t:TypeId}{x:Operand}(ho:o.op=.call { callee:=.builtin .cap,args:=#[x],argTypes:=#[t] }){el:TypeId}(ht:(td P t).k=.slice el){e n:Nat}(hx:aE f x=.vec e l 0 n)(hk:n≤C→k (.int .i64 (C:Int)) σ):EP l C P o f σ k:=by
 intro Φ w a K Q' hG hi hr hK
 have rx:=aI hr x
 rw[hx] at rx
 obtain⟨ad,cap,p,hv,hp,hpe,hcap,hncap,hR⟩:=rx.dR
 obtain⟨p',hp',hC⟩:=hG
 rw[hp] at hp';cases hp'
 have hcC:cap=C:=by omega
 subst hcC
 have hop:∀r w',(Builtin.cap_ #[t] o.type #[a.eval x]).run P w=.ok r w'→(execOp a.eval o).run P w=.ok (.value r) w':=fun r w' h=>by
  unfold execOp
  simp only[ho,resolve,List.map_toArray,List.map_cons,List.map_nil,Sem.run_bind,Sem.run_pure,Result.andThen_ok,invoke]
  show Sem.run P (do pure (Next.value (←Builtin.cap_ #[t] o.type #[a.eval x]))) w=_
  simp only[Sem.run_bind,h,Result.andThen_ok,Sem.run_pure]
 refine bJ (hop (.int .i64 (cap:Int)) w ?_) (hK _ _ _ Φ w (.int _ _) hi (.refl _ _ _) (hk hncap))
 rw[hv]
 simp[Builtin.cap_,aK (aW ht),goInt]
theorem A2{o:Oper}{k:MV→St→Prop}{t el:TypeId}{x z:Operand}(ho:o.op=.slice t x none (some z) none)(ht:(td P t).k=.slice el)(hok:(td P el).ok=true){n:Nat}
 (hx:aE f x=.vec (td P el).size l 0 n){k2:IntKind}{h:Int}(hz:aE f z=.int k2 h)(h0:0≤h)(h2:h≤(C:Int))(hk:k (.vec (td P el).size l 0 h.toNat) σ):EP l C P o f σ k:=by
 intro Φ w ac K Q' hG hi hr hK
 have rx:=aI hr x
 have rz:=aI hr z
 rw[hx] at rx
 rw[hz] at rz
 have rx':=rx
 generalize hv:ac.eval x=vx at rx rx'
 obtain⟨ad,cap,p,rfl,hp,hpe,hcap,hncap,hR⟩:=rx'.dR
 obtain⟨p',hp',hC⟩:=hG
 rw[hp] at hp';cases hp'
 have e2:=rz.aS
 have rs:=l9 rx 0 h.toNat oM oM
 refine bJ (v:=_) (w':=w) ?_ (hK _ _ _ Φ w rs hi (.refl _ _ _) (by simpa using hk))
 unfold execOp
 simp only[ho,hv,Option.map_some,Option.map_none,e2,Sem.run_bind,Instr.sliceAt,aK (aW ht),Result.andThen_ok,Instr.slice,Instr.sliceBounds,Sem.run_pure]
 rw[run_sliceBound ⟨by omega,by omega⟩]
 simp only[Result.andThen_ok,Option.isSome_none,Bool.false_eq_true,if_false]
 first|rfl|(rw[run_sliceBound ⟨by omega,by omega⟩];simp only[Result.andThen_ok,aO hok,Sem.run_pure])|(simp only[Result.andThen_ok,aO hok,Sem.run_pure])
end
end

section
theorem uG{xs ys:List (List MV)}{i0:Nat}(h:i0≤xs.length)(i:Nat):(bC xs i0 ys)[i]?=if i0≤i∧i<i0+ys.length then ys[i - i0]? else xs[i]?:=by
 unfold bC
 have hl1:(xs.take i0).length=i0:=by simp;omega
 have hl2:(xs.take i0++ys).length=i0+ys.length:=by rw[List.length_append,hl1]
 by_cases h1:i<i0
 ·rw[List.getElem?_append_left oM,List.getElem?_append_left oM,List.getElem?_take,if_pos h1,if_neg oM]
 ·by_cases h2:i<i0+ys.length
  ·rw[List.getElem?_append_left oM,List.getElem?_append_right oM,hl1,if_pos ⟨by omega,h2⟩]
  ·rw[List.getElem?_append_right oM,hl2,List.getElem?_drop,show i0+ys.length+(i - (i0+ys.length))=i from by omega,if_neg oM]
theorem yJ{xs ys:List (List MV)}{i0 C:Nat}(h:i0≤xs.length)(h1:xs.length≤C)(h2:i0+ys.length≤C):(bC xs i0 ys).length≤C:=by
 simp[bC];omega
theorem Ox{Φ:Phi}{w:World}{σ:St}(hi:Inv Φ w σ){l:Nat}{t:TypeId}{e:Nat}{xs ys:List (List MV)}(hsl:σ l=some (.row t e xs)){i0:Nat}(hfit:i0≤xs.length){p:Place}(hp:Φ.obj l=some p)(hroom:i0+ys.length≤p.C)
 (hyl:∀(i:Nat) (y:List MV),ys[i]?=some y→y.length=e){arr:Array Value}(hrel:kE Φ arr ys.flatten){R:Nat}(hR:p.blk=some R){c:Array Value}{fz:Nat × Nat}(hc:w.heap[R]?=some (.cells c t fz)) :
  zC t c fz∧p.bo+i0 * e+arr.toList.length≤c.size∧Inv Φ (fU w R (.cells (b7 c (p.bo+i0 * e) arr.toList) t fz)) (σ.set l (.row t e (bC xs i0 ys))) ∧
   Step Φ σ w Φ (σ.set l (.row t e (bC xs i0 ys))) (fU w R (.cells (b7 c (p.bo+i0 * e) arr.toList) t fz)):=by
 obtain⟨p',hp',hpe,q1,q2,q3,q4⟩:=hi.own l _ hsl
 rw[hp] at hp';cases hp'
 rw[hR] at q4
 obtain⟨c',fz',k1,k2,k3,k4⟩:=q4
 rw[hc] at k1;cases k1
 have hlt:R<w.heap.size:=(Array.getElem?_eq_some_iff.1 hc).1
 have harrl:arr.toList.length=ys.length * e:=by
  have:=hrel.1
  rw[dW ys hyl] at this
  simpa using this
 have hfit2:p.bo+i0 * e+arr.toList.length≤c.size:=by
  rw[harrl]
  have:(i0+ys.length) * e≤p.C * e:=Nat.mul_le_mul_right _ oM
  rw[Nat.add_mul] at this
  omega
 refine⟨k2,hfit2,hi.EX (w':=fU w R (.cells (b7 c (p.bo+i0 * e) arr.toList) t fz)) l hsl _ hp hR iQ (fun k hk=>eT hk) rfl rfl rfl (Nat.le_refl _) ?_⟩
 refine⟨p,hp,hpe,yJ hfit q1 hroom,q2,fun i y q=>?_,?_⟩
 ·rw[uG hfit] at q
  split at q
  ·exact hyl _ y q
  ·exact q3 i y q
 ·rw[hR]
  refine⟨_,fz,gS hlt,by simpa[zC,cM] using k2,by rw[cM];exact k3,fun i y j m q hm=>?_⟩
  rw[iN _ _ _ _ hfit2,harrl]
  rw[uG hfit] at q
  split at q
  ·rename_i hin
   have hjl:j<e:=by have:=(List.getElem?_eq_some_iff.1 hm).1;have:=hyl _ y q;omega
   have hil:=(List.getElem?_eq_some_iff.1 q).1
   have hfl:=mJ ys (i - i0) j y m hyl q hm
   have hlt2:=(List.getElem?_eq_some_iff.1 hfl).1
   have harr1:=hrel.1
   have e3:(i - i0) * e+j+i0 * e=i * e+j:=by
    have:i * e=(i - i0+i0) * e:=by congr 1;omega
    rw[this,Nat.add_mul]
    omega
   have e4:(i - i0) * e+j<ys.length * e:=by
    have:(i - i0+1) * e≤ys.length * e:=Nat.mul_le_mul_right _ oM
    rw[Nat.add_mul,Nat.one_mul] at this
    omega
   rw[if_pos oM,show p.bo+(i * e+j) - (p.bo+i0 * e)=(i - i0) * e+j from by omega,Array.getElem?_toList]
   refine⟨hrel.2.1 _ m hfl,arr.getD ((i - i0) * e+j) undef,?_,hrel.2.2 _ m hfl⟩
   simp[Array.getD_eq_getD_getElem?,Array.getElem?_eq_getElem (show(i - i0) * e+j<arr.size by omega)]
  ·rename_i hout
   have hjl:j<e:=by have:=(List.getElem?_eq_some_iff.1 hm).1;have:=q3 i y q;omega
   rw[if_neg (by
    intro hcon
    rcases Nat.lt_or_ge i i0 with h|h
    ·have:(i+1) * e≤i0 * e:=Nat.mul_le_mul_right _ h
     rw[Nat.add_mul,Nat.one_mul] at this
     omega
    ·have:(i0+ys.length) * e≤i * e:=Nat.mul_le_mul_right _ oM
     rw[Nat.add_mul] at this
     omega)]
   exact k4 i y j m q hm
theorem gL{P:Program}{o:Oper}{f:FR}{σ:St}{k:MV→St→Prop}{t xt el:TypeId}{x y:Operand}(ho:o.op=.call { callee:=.builtin .copy,args:=#[x,y],argTypes:=#[t,xt] })(ht:(td P t).k=.slice el)(hz:(td P el).ok=true)
 {l l0 n:Nat}{tt:TypeId}{xs ys:List (List MV)}(hx:aE f x=.vec (td P el).size l l0 n)(hsl:σ l=some (.row tt (td P el).size xs))(hfit:l0≤xs.length){m m0 nm cnt:Nat}(hy:aE f y=.vec (td P el).size m m0 nm)(hcnt:Nat.min nm n=cnt)(hys:fG σ (td P el).size (.vec (td P el).size m m0 cnt)=some ys)(h0:0<cnt)
 (hk:k (.int .i64 (cnt:Int)) (σ.set l (.row tt (td P el).size (bC xs l0 ys)))):sop P o f σ k:=by
 intro Φ w ac K Q' hi hr hK
 have hc1:cnt≤nm:=by rw[←hcnt];exact Nat.min_le_left _ _
 have hc2:cnt≤n:=by rw[←hcnt];exact Nat.min_le_right _ _
 have rx:=aI hr x
 rw[hx] at rx
 have ry:=aI hr y
 rw[hy] at ry
 generalize hv:ac.eval x=vx at rx
 generalize hu:ac.eval y=vy at ry
 obtain⟨ad,cap,p,rfl,hp,hpe,hcap,hncap,hR⟩:=rx.dR
 obtain⟨au,capu,pu,rfl,hpu,hpeu,hcapu,hncapu,hRu⟩:=ry.dR
 have ry':Rel Φ (.slice au cnt capu) (.vec (td P el).size m m0 cnt):=by
  rcases hRu with⟨R,hb,rfl⟩|h
  ·rw[←hpeu]
   exact .vec hpu hb hcapu oM
  ·omega
 obtain⟨arr,harr,hrel,hyl⟩:=iC (P:=P) hys hi ry'
 have hlen:ys.length=cnt:=by
  have:=(harr w rfl).1
  simp[Builtin.lenOf] at this
  omega
 have hfc:(Builtin.firstCells (td P el).size cnt (.slice au nm capu)).run P w=.ok arr w:=by
  have:=(harr w rfl).2
  rw[hlen] at this
  rw[←this]
  cases au<;>rfl
 have hop:∀r w',(Builtin.copy_ #[t,xt] o.type #[.slice ad n cap,.slice au nm capu]).run P w=.ok r w'→(execOp ac.eval o).run P w=.ok (.value r) w':=fun r w' h=>by
  unfold execOp
  simp only[ho,resolve,List.map_toArray,List.map_cons,List.map_nil,hv,hu,Sem.run_bind,Sem.run_pure,Result.andThen_ok,invoke]
  show Sem.run P (do pure (Next.value (←Builtin.copy_ #[t,xt] o.type #[.slice ad n cap,.slice au nm capu]))) w=_
  simp only[Sem.run_bind,h,Result.andThen_ok,Sem.run_pure]
 rcases hR with⟨R,hb,rfl⟩|hcap0
 ·obtain⟨p',hp',hpe',q1,q2,q3,q4⟩:=hi.own l _ hsl
  rw[hp] at hp';cases hp'
  rw[hb] at q4
  obtain⟨c,fz,k1,-⟩:=q4
  obtain⟨r1,r2,i1,s1⟩:=Ox hi hsl (i0:=l0) (ys:=ys) hfit hp oM hyl hrel hb k1
  refine bJ (hop (.int .i64 (cnt:Int)) _ ?_) (hK _ _ _ Φ _ (.int _ _) i1 s1 hk)
  have hlo:(Builtin.lenOf (.slice au nm capu)).run P w=.ok nm w:=rfl
  unfold Builtin.copy_
  simp only[List.getElem?_toArray,List.getElem?_cons_zero,List.getElem?_cons_succ,Sem.run_bind,aK (aW ht),Result.andThen_ok,hlo,aO hz,hcnt,hfc]
  rw[hpe,gX (P:=P) _ 0 c w k1 r1 (by simpa using r2) hrel.tW]
  rfl
 ·omega
section
variable {P:Program} {ops:Array Oper}
theorem JJ(hm:P.follows .mixedOrders=true)(C:cD)(pre:List Oper)(y:Oper)(post:List Oper)(ho:ops=(pre++y::post).toArray)(hdef:Az (pre++y::post)=true)(hchk:(chk ops&&gate ops pre.length&&gate ops (pre.length+1))=true)(hg:y.guard=none){id:Nat}{f:FR}{σ:St}{Q:MQ}
 (h:kM P C ops (fun f1 σ1=>sop P y f1 σ1 fun v σ'=>kM P C ops (Q .normal) post (bD f1 y.dst v) σ') pre f σ):mwp P (.region id ops true) f σ Q:=by
 intro F hF Φ w a hi hr hd
 simp only[Bool.and_eq_true] at hchk
 have hF':F=Fence.wide∨∃l0,F=Fence.wide.inRound l0:=Or.imp (fun q=>q) (fun⟨l0,e,_⟩=>⟨l0,e⟩) hF
 have hfn:∀g,F.fn g:=fun g=>by rcases hF' with rfl|⟨l,rfl⟩<;>trivial
 have hdef':∀o,o∈ops.toList→∀c,o.op≠.defer c:=fun o h=>oI hdef o (by rw[ho] at h;simpa using h)
 refine AQ (C:=C.pl) (MC:=pT P C) hm .no C.LD.u (fun _ _ hd _ _ _ h=>yQ hd h) pre y post ho hdef' hchk.1.1 hchk.1.2 hchk.2 hF' hi hr hd ?_ h
 intro f1 σ1 Φ1 w1 a1 N i1 r1 d1 s1 k1 hN
 have hyd:∀c,y.op≠.defer c:=hdef' y (by rw[ho];simp)
 have hFo:F=Fence.wide∨∃l0,F=Fence.wide.inRound l0∧∀c,y.op≠.defer c:=hF'.imp (fun q=>q) fun⟨l0,e⟩=>⟨l0,e,hyd⟩
 unfold KH
 have k1':fX ops f1 y (sop P y f1 σ1 fun v σ'=>kM P C ops (Q .normal) post (bD f1 y.dst v) σ') False:=by unfold fX;rw[hg];exact k1
 rcases cI k1' r1 with⟨hw,hk⟩|⟨hw,hk⟩
 ·rw[if_pos hw]
  refine eS hFo (k1 Φ1 w1 a1 _ _ i1 r1 fun v mv σ' Φ' w' r2 i2 s2 hk2=>?_)
  exact hN (Q .normal) _ σ' Φ' w' (a1.put y.dst v) i2 (cL (r1.mono s2.le) y.dst r2) (by rw[bO,dZ];exact d1.step i1 s2) (fun f3 σ3 Φ3 w3 a3 i3 r3 d3 s3 k3=>⟨f3,σ3,Φ3,d3,r3,i3,s1.trans (s2.trans s3),k3⟩) hk2
 ·exact hk.elim
theorem gN{id:Nat}{l:List Oper}{f:FR}{σ:St}{Q:MQ}(hm:P.follows .mixedOrders=true)(C:cD)(pre:List Oper){dst:Option Tmp}{op:Op}{ty:TypeId}{pos:String}{after:Array Edge}(post:List Oper)(ho:l=pre++⟨dst,op,ty,pos,after,none⟩::post)
 (hchk:(Az l&&(chk l.toArray&&gate l.toArray pre.length&&gate l.toArray (pre.length+1)))=true)
 (h:R (kM P C (@OfNat.ofNat (Array Oper) (nat_lit 0) (@_root_.id (OfNat (Array Oper) (nat_lit 0)) (OfNat.mk (l.toArray)))) (fun f1 σ1=>sop P ⟨dst,op,ty,pos,after,none⟩ f1 σ1 fun v σ'=>R (kM P C (@OfNat.ofNat (Array Oper) (nat_lit 0) (@_root_.id (OfNat (Array Oper) (nat_lit 0)) (OfNat.mk (l.toArray)))) (Q .normal) (@OfNat.ofNat (List Oper) (nat_lit 0) (@_root_.id (OfNat (List Oper) (nat_lit 0)) (OfNat.mk post))) (bD f1 dst v) σ'))
   (@OfNat.ofNat (List Oper) (nat_lit 0) (@_root_.id (OfNat (List Oper) (nat_lit 0)) (OfNat.mk pre))) f σ)):R (rS P id (@OfNat.ofNat (List Oper) (nat_lit 0) (@_root_.id (OfNat (List Oper) (nat_lit 0)) (OfNat.mk l))) f σ Q):=by
 rw[Bool.and_eq_true] at hchk
 exact JJ hm C pre ⟨dst,op,ty,pos,after,none⟩ post (by rw[←ho]) (by rw[←ho];exact hchk.1) hchk.2 rfl h
end
end
end Go.Proofs.YtppdgejjmhdjhaaGreatDoor
