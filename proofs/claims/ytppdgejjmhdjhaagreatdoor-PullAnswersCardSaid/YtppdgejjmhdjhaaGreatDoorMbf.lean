/- Parts of the proof; conditions: as its theorems name them. -/
import Derived.Test.YtppdgejjmhdjhaaGreatDoorMbe
import Derived.OpenShut
import Derived.ChangeSame
import Derived.Carry
import Derived.RowKit
import Derived.JoinedOf
import Derived.JoinedAt
import Derived.Test.YtppdgejjmhdjhaaGreatDoorRows
import Derived.Lib.Overlaps
set_option linter.all false
set_option maxHeartbeats 8000000
set_option maxRecDepth 100000
namespace Go.Proofs.YtppdgejjmhdjhaaGreatDoor
open Bool renaming and_eq_true->ag,false_eq_true->al
open Builtin renaming zeroCells->am,delete_->an,copy_->ap,len_->av,cap_->a9,firstCells->bb,append_->be
open CA renaming id->bg
open Classical renaming not_not->bi
open DE renaming c->bj,id->bp
open DataW renaming TrodAll->bs
open Extern renaming findNext->bv,find->bx
open Extern.SlicesOverlaps renaming overlaps->bz
open Fence renaming wide->b2
open GR renaming c->b3,no->cd
open Go.World renaming cells?_some->ce
open IT renaming ks->cf
open Instr renaming findNow->ck,sliceBounds->co
open IntKind renaming i64->cp
open List renaming getD_eq_getElem?_getD->cr,mem_map->cv,mem_singleton->cx,length_singleton->cy,mem_cons->cS,not_mem_nil->df,take_of_length_le->dk,mem_cons_of_mem->dl,map_cons->dt,mem_cons_self->du,append_nil->dy,length_map->d7,length_drop->d8,length_append->d9,take_append_of_le_length->ee,getElem?_eq_some_iff->eg,take_length->eh,pairwise_cons->em,getElem?_eq_getElem->eo,length_cons->ew,getElem?_map->ey,mem_append->ez,map_append->e8,length_take->e9,mem_of_find?_eq_some->fd,getElem?_cons_zero->fe,mem_filter->ff,filter_append->fj,eq_nil_of_length_eq_zero->fv,foldl_append->f0,length_nil->f5,map_nil->f6,drop_of_length_le->f7,getElem?_append_right->f8,pairwise_iff_getElem->f9,getElem?_append_left->ga,pairwise_append->gj,append_assoc->gn,replicate->gp,take_left'->gt,take_append_drop->gx,length_filter_le->gy,all_eq_true->gz,map_congr_left->g8,filter_eq_self->g9,all_cons->hB,getElem?_cons_succ->hD,filter_eq_nil_iff->hE,drop_drop->hH,mem_iff_getElem?->hI,map_toArray->hO,cons_append->hP,drop_zero->ia,map_map->ib,headD_cons->ie,find?_some->im,mem_of_mem_drop->io,mem_iff_getElem->ip,drop_succ_cons->ix,getElem?_take->i4,find?_eq_none->i5,map_id->i8,nodup_cons->i9,nil_append->jg,drop_left'->jp,range->jr,length_eraseIdx_of_lt->js,drop_left->jy,pairwise_singleton->j5,mem_append_right->kc,getElem?_toArray->ke,mem_append_left->kf,filter_sublist->kg,getElem?_drop->kh
open List.cons renaming injEq->kk
open Nat renaming zero_le->kv,mul_le_mul_right->kw,lt_or_ge->kx,le_refl->ky,add_mul->lc,le_trans->ld,sub_self->lf,pow_lt_pow_right->li,one_mul->lk
open Ne renaming symm->ls
open OfNat renaming ofNat->lv,mk->lw
open Option renaming isSome_some->ly,isSome_none->ma,getD_some->md,getD_none->me,map_some->mf,map_none->mo
open Option.some renaming injEq->mr,inj->mt
open Result renaming andThen_ok->mx
open Sem renaming run_pure->my,run_bind->m3,run->m4
open St renaming none->m5,set->m6,aB->m7,del->m8,ofList->m9,minus->nb,over->ne
open TU renaming c->nn
open Value renaming bool->np,okWide->nt
open _root_.Array renaming getElem?_eq_some_iff->nv,getD_eq_getD_getElem?->nw,getElem?_toList->ny,length_toList->nz
open aA renaming less->nP,bV->n6
open aR renaming freeze->n7
section
open Go.ChangeShapes Go.WideShapes Go.RowKit
def qD(P:Program):List (Nat×TypeId)→Nat→Nat→Bool
 |[],o,n=>o==n
 |(off,ft)::r,o,n=>off==o&&qD P r (o+(td P ft).size) n
def shp(P:Program):Nat→TypeId→Bool
 |0,_=>false
 |n+1,t=>(td P t).ok&&match (td P t).k with
  |.bool|.int _|.str=>(td P t).size==1
  |.slice e=>(td P t).size==1&&decide (0<(td P e).size)&&(td P e).ok&&shp P n e
  |.struct fs=>qD P fs 0 (td P t).size&&fs.all fun f=>(td P f.2).ok&&shp P n f.2
  |.array m e=>(td P t).size==m*(td P e).size&&(td P e).ok&&shp P n e
  |_=>false
def CT(P:Program):Nat→TypeId→List MV→Prop
 |0,_,_=>False
 |n+1,t,cs=>match (td P t).k with
  |.bool=>∃b,cs=[.bool b]
  |.int k=>∃v,cs=[.int k v]∧k.min≤v∧v≤k.max
  |.str=>∃s:ByteArray,cs=[.str s]∧s.size≤maxLen
  |.slice e=>∃xs,cs=[.aj (td P e).size xs false]∧xs.length≤maxLen∧∀x,x∈xs→CT P n e x
  |.struct fs=>cs.length=(td P t).size∧∀f,f∈fs→CT P n f.2 ((cs.drop f.1).take (td P f.2).size)
  |.array m e=>cs.length=(td P t).size∧∀i,i<m→CT P n e ((cs.drop (i*(td P e).size)).take (td P e).size)
  |_=>False
def AT(P:Program)(n:Nat)(t:TypeId)(m:MV):Prop:=if (td P t).k.isAgg=true then ∃cs,m=.agg cs∧CT P n t cs else CT P n t [m]
def Af(w:World):bd:=⟨fun a=>w.cell? a,fun _=>none,0⟩
def Wa(w:World):Prop:=(∀g i v,GT g i=some v→w.cell? ⟨g,i,none⟩=some v)∧∀g,g∈GI→∃m,w.cell? ⟨g,0,none⟩=some (.int .i64 m)
def YI(w:World)(hG:Wa w):Inv (Af w) w m5 where
 own:=fun l o h=>by simp[m5] at h
 inj:=fun l l' o o' p p' R h=>by simp[m5] at h
 snap:=fun a v h=>h
 apart:=fun l o p R a v h=>by simp[m5] at h
 fresh:=⟨⟨⟨0,fun _ _=>rfl⟩,fun _ _ h=>by cases h⟩,hG⟩
def xS(Φ:bd)(cs:List Value)(ms:List MV):Prop:=cs.length=ms.length∧∀(i:Nat) v m,cs[i]?=some v→ms[i]?=some m→m.aP=true∧Rel Φ v m
def xS.one{Φ:bd}{v:Value}{m:MV}(hc:m.aP=true)(h:Rel Φ v m):xS Φ [v] [m] :=
 ⟨rfl,fun i v' m' h1 h2=>by
  cases i with
  |zero=>simp at h1 h2;subst h1 h2;exact⟨hc,h⟩
  |succ i=>simp at h1⟩
def xS.app{Φ:bd}{c1 c2:List Value}{m1 m2:List MV}(h1:xS Φ c1 m1)(h2:xS Φ c2 m2):xS Φ (c1++c2) (m1++m2) :=
 ⟨by simp[h1.1,h2.1],fun i v m hv hm=>by
  rw[List.getElem?_append] at hv hm;rw[h1.1] at hv;split at hv<;>rename_i hi
  ·rw[if_pos hi] at hm;exact h1.2 i v m hv hm
  ·rw[if_neg hi] at hm;exact h2.2 _ v m hv hm⟩
section
variable {H:Type} {enc:TypeId×Value→H} {P:Program} {w:World} {base:Nat} {spare:Nat→Bool} {held:Bool}
def TP{t:TypeId}(h:(td P t).ok=true):∃i d,P.info? t=some i∧P.underlying t=some d∧(td P t).size=P.cellsOf t∧(td P t).k=xM d:=by obtain⟨i,d,h1,h2,h3,h4,h5⟩:=dM h;exact⟨i,d,h1,h2,by rw[h3];simp[Program.cellsOf,h1],h5⟩
def pH{t:TypeId}(h:(td P t).ok=true):P.cellsOf t=(td P t).size:=by obtain⟨_,_,_,_,h,_⟩:=TP h;exact h.symm
theorem rV{Φ:bd}{n:Nat}{cs:List Value}{size:Nat}(hlen:cs.length=size):∀(fs:List (Nat×TypeId)) (o:Nat),o≤size→qD P fs o size=true →
  (∀f,f∈fs→∃ms,xS Φ ((cs.drop f.1).take (td P f.2).size) ms∧CT P n f.2 ms)→(∀f,f∈fs→∀ms,CT P n f.2 ms→ms.length=(td P f.2).size) →
  ∃ms,xS Φ (cs.drop o) ms∧∀f,f∈fs→o≤f.1∧CT P n f.2 ((ms.drop (f.1-o)).take (td P f.2).size)
 |[],o,ho,ht,_,_=>by
  simp only[qD,beq_iff_eq] at ht;refine⟨[],?_,fun f h=>by cases h⟩;rw[ht,←hlen,List.drop_length];exact⟨rfl,fun i v m h=>by simp at h⟩
 |(off,ft)::r,o,ho,ht,hf,hl=>by
  simp only[qD,ag,beq_iff_eq] at ht;obtain⟨rfl,ht⟩:=ht;obtain⟨m1,r1,c1⟩:=hf (off,ft) (du ..);have e1:=hl (off,ft) (du ..) m1 c1;simp only at r1 c1 e1;have hle:off+(td P ft).size≤size:=by have:=r1.1;simp only[e9,d8,hlen] at this;omega
  obtain⟨m2,r2,c2⟩:=rV hlen r (off+(td P ft).size) hle ht (fun f h=>hf f (dl _ h)) (fun f h=>hl f (dl _ h));refine⟨m1++m2,?_,fun f h=>?_⟩
  ·have:cs.drop off=(cs.drop off).take (td P ft).size++cs.drop (off+(td P ft).size):=by rw[←hH,gx]
   rw[this];exact r1.app r2
  ·rcases cS.1 h with rfl|h
   ·refine⟨ky _,?_⟩;simp only[lf,ia];rw[ee oM,dk oM];exact c1
   ·obtain⟨h1,h2⟩:=c2 f h;refine⟨oM,?_⟩;have:(m1++m2).drop (f.1-off)=m2.drop (f.1-(off+(td P ft).size)):=by
     rw[List.drop_append,List.drop_eq_nil_of_le oM,jg]
     congr 1
     omega
    rw[this];exact h2
theorem QH:∀(n:Nat) (t:TypeId) (cs:List MV),shp P n t=true→CT P n t cs→cs.length=(td P t).size
 |0,_,_,h,_=>by cases h
 |n+1,t,cs,h,hc=>by
  simp only[shp,ag] at h;obtain⟨_,h⟩:=h;simp only[CT] at hc;split at hc
  ·rename_i hk;rw[hk] at h;simp only[beq_iff_eq] at h;obtain⟨b,rfl⟩:=hc;exact h.symm
  ·rename_i hk;rw[hk] at h;simp only[beq_iff_eq] at h;obtain⟨b,rfl,_⟩:=hc;exact h.symm
  ·rename_i hk;rw[hk] at h;simp only[beq_iff_eq] at h;obtain⟨b,rfl,_⟩:=hc;exact h.symm
  ·rename_i hk;rw[hk] at h;simp only[ag,beq_iff_eq] at h;obtain⟨b,rfl,_⟩:=hc;exact h.1.1.1.symm
  ·exact hc.1
  ·exact hc.1
  ·exact hc.elim
theorem BZ:∀(fs:List (Nat×TypeId)) (o m:Nat),qD P fs o m=true→o≤m∧∀f,f∈fs→f.1+(td P f.2).size≤m
 |[],o,m,h=>by
  simp only[qD,beq_iff_eq] at h;exact⟨oM,fun f hf=>by cases hf⟩
 |(off,ft)::r,o,m,h=>by
  simp only[qD,ag,beq_iff_eq] at h;obtain⟨rfl,h⟩:=h;obtain⟨h1,h2⟩:=BZ r _ m h;refine⟨oM,fun f hf=>?_⟩;rcases cS.1 hf with rfl|hf
  ·exact h1
  ·exact h2 f hf
theorem z7(e:TypeId):∀(k i:Nat),qD P ((List.range' i k).map fun j=>(j*(td P e).size,e)) (i*(td P e).size) ((i+k)*(td P e).size)=true
 |0,i=>by simp[qD]
 |k+1,i=>by have:=z7 e k (i+1);rw[List.range'_succ];simp only[dt,qD,beq_self_eq_true,Bool.true_and];rw[show i*(td P e).size+(td P e).size=(i+1)*(td P e).size by rw[lc,lk],show i+(k+1)=i+1+k by omega];exact this
theorem pB:∀(n:Nat) (t:TypeId) (fuel:Nat) (cs:List Value) (x:DataW H×List MemPlace),shp P n t=true→cs.length=(td P t).size→DataW.trod enc P w base spare held fuel t cs=some x →
  ∃ms,xS (Af w) cs ms∧CT P n t ms
 |0,_,_,_,_,h,_,_=>by cases h
 |n+1,t,fuel,cs,x,h,hlen,hx=>by
  simp only[shp,ag] at h;obtain⟨cm,h⟩:=h;obtain⟨i,d,hi,hd,dq,hk⟩:=TP cm;split at h<;>rename_i zj
  ·have ht:=xN zj;obtain⟨b,rfl,_⟩:=DataW.trod_bool ht hx;exact⟨[.bool b],.one rfl (.bool b),by simp only[CT,zj];exact⟨b,rfl⟩⟩
  ·rename_i k;have ht:=kY zj;obtain⟨v,rfl,_,hw⟩:=DataW.trod_int ht hx;simp only[Lit.wf,ag,decide_eq_true_eq] at hw;exact⟨[.int k v],.one rfl (.int k v),by simp only[CT,zj];exact⟨v,rfl,hw⟩⟩
  ·have ht:=iW zj;obtain⟨s,rfl,_,hw⟩:=DataW.trod_string ht hx;exact⟨[.str s],.one rfl (.str s),by simp only[CT,zj];exact⟨s,rfl,hw⟩⟩
  ·rename_i e;have ht:=bB zj;simp only[ag,decide_eq_true_eq] at h;obtain⟨⟨⟨_,h0⟩,heok⟩,h⟩:=h;have od:=pH heok;rcases DataW.trod_slice ht hx with⟨rfl,_⟩|⟨a,len,cap,elems,rest,m,_,rfl,_,_,hlc,hcm,hel,jo,_⟩
   ·exact⟨[.aj (td P e).size [] false],.one rfl (.nj _ _),by simp only[CT,zj];exact⟨[],rfl,ax,fun x h=>by cases h⟩⟩
   ·have key:∀i:Nat,∃q:List Value×List MV,i<len→w.cells? base (a.add (i*(td P e).size)) (td P e).size=some q.1∧xS (Af w) q.1 q.2∧CT P n e q.2∧q.2.length=(td P e).size:=by
     intro i;by_cases hi:i<len
     ·have:=jo i hi;rw[od] at this;obtain⟨y,hy⟩:∃y,elems[i]?=some y:=⟨elems[i]'oM,ax⟩
      rw[hy] at this;cases hc:w.cells? base (a.add (i*(td P e).size)) (td P e).size with
      |none=>rw[hc] at this;cases this
      |some c =>
       rw[hc] at this;have jv:=(ce hc).2.1;obtain⟨ms,r,ct⟩:=pB n e m c y h jv this;exact⟨(c,ms),fun _=>⟨rfl,r,ct,by rw[←r.1];exact jv⟩⟩
     ·exact⟨([],[]),fun h=>absurd h hi⟩
    obtain⟨F,hF⟩:=Classical.axiomOfChoice key;let xs:=(jr len).map fun i=>(F i).2;have hxs:∀(i:Nat) (y:List MV),xs[i]?=some y→i<len∧y=(F i).2:=fun i y hy=>by simp only[xs,ey,Option.map_eq_some_iff] at hy;obtain⟨j,hj,rfl⟩:=hy;rw[eg] at hj;obtain⟨h1,h2⟩:=hj;simp at h1 h2;subst h2;exact⟨h1,rfl⟩
    refine⟨[.aj (td P e).size xs false],.one rfl (Rel.ES (by simp[xs]) hlc hcm (fun h=>by cases h) (fun h=>by cases h) (fun vh=>?_)),?_⟩
    ·obtain⟨hc0,hr0,_,hl0⟩:=hF 0 vh;obtain⟨_,jv,dc⟩:=ce hc0;have g0:=dc 0 h0;obtain⟨c0,hc0'⟩:∃c0,(F 0).1[0]?=some c0:=⟨(F 0).1[0]'oM,ax⟩
     rw[hc0'] at g0;obtain⟨b,off,spot⟩:=a;have hspot:spot=none:=by simpa[Addr.add] using World.cell?_spot g0
     subst hspot;refine⟨b,off,rfl,fun i y hy=>?_,fun i j=>(F i).1.getD j undef,fun i y j m hy hm=>?_⟩
     ·obtain⟨hi,rfl⟩:=hxs i y hy;exact(hF i hi).2.2.2
     ·obtain⟨hi,rfl⟩:=hxs i y hy;obtain⟨hc,hr,_,hl⟩:=hF i hi;obtain⟨_,jv,dc⟩:=ce hc;have hj:j<(F i).2.length:=(eg.1 hm).1;have hj':j<(F i).1.length:=by rw[jv,←hl];exact hj
      have hv:(F i).1[j]?=some ((F i).1.getD j undef):=by simp[List.getD,hj']
      obtain⟨k1,k2⟩:=hr.2 j _ m hv hm;refine⟨k1,?_,k2⟩;have:=dc j oM;rw[hv] at this;simp only[eM] at this;show w.cell? _=_;rw[←Nat.add_assoc];exact this
    ·simp only[CT,zj];refine⟨xs,rfl,by simp[xs];omega,fun y hy=>?_⟩;obtain⟨i,hi⟩:=hI.1 hy;obtain⟨qu,e⟩:=hxs i y hi;rw[e];exact(hF i qu).2.2.1
  ·rename_i fs;obtain⟨fa,ht,rfl⟩:=kO zj;simp only[ag,gz] at h;obtain⟨htl,ef⟩:=h;obtain⟨xs,m,_,_,jv,zt,jo⟩:=DataW.trod_struct ht hx;have Zz:∀f,f∈(fa.toList.map fun f=>(f.offset,f.type))→∃ms,xS (Af w) ((cs.drop f.1).take (td P f.2).size) ms∧CT P n f.2 ms:=by
    intro f hf;have hf0:=ef f hf;obtain⟨g,hg,rfl⟩:=cv.1 hf;obtain⟨i,hi⟩:=hI.1 hg;have hi':fa[i]?=some g:=by simpa using hi
    have qu:i<xs.length:=by rw[zt];obtain⟨q,_⟩:=nv.1 hi';exact q
    have:=jo i g hi';simp only at hf0 ⊢;rw[pH hf0.1,eo qu] at this;refine pB n _ m _ _ hf0.2 ?_ this;have:=(BZ _ _ _ htl).2 _ hf;simp only[e9,d8,hlen] at this ⊢;omega
   obtain⟨ms,r,hc⟩:=rV (Φ:=Af w) (n:=n) (P:=P) hlen _ 0 (kv _) htl Zz (fun f hf ms hm=>QH n _ ms (ef f hf).2 hm);refine⟨ms,by simpa using r,?_⟩;simp only[CT,zj];refine⟨by rw[←hlen];simpa using r.1.symm,fun f hf=>?_⟩;have:=(hc f hf).2;simpa using this
  ·rename_i k e;have ht:=iQ zj;simp only[ag,beq_iff_eq] at h;obtain⟨⟨hsz2,heok⟩,h⟩:=h;obtain⟨xs,m,_,_,jv,zt,jo⟩:=DataW.trod_array ht hx;have htl:qD P ((jr k).map fun j=>(j*(td P e).size,e)) 0 (td P t).size=true:=by have:=z7 (P:=P) e k 0;rw[List.range_eq_range',hsz2];simpa using this
   have Zz:∀f,f∈((jr k).map fun j=>(j*(td P e).size,e))→∃ms,xS (Af w) ((cs.drop f.1).take (td P f.2).size) ms∧CT P n f.2 ms:=by
    intro f hf;have hle:=(BZ _ _ _ htl).2 _ hf;obtain⟨i,hi,rfl⟩:=cv.1 hf;have sd:i<k:=by simpa using hi
    have:=jo i sd;simp only at hle ⊢;rw[pH heok,eo oM] at this;refine pB n _ m _ _ h ?_ this;simp only[e9,d8,hlen];omega
   obtain⟨ms,r,hc⟩:=rV (Φ:=Af w) (n:=n) (P:=P) hlen _ 0 (kv _) htl Zz (fun f hf ms hm=>by
    obtain⟨i,hi,rfl⟩:=cv.1 hf;exact QH n _ ms h hm)
   refine⟨ms,by simpa using r,?_⟩;simp only[CT,zj];refine⟨by rw[←hlen];simpa using r.1.symm,fun i hi=>?_⟩;have:=(hc (i*(td P e).size,e) (cv.2 ⟨i,by simpa using hi,rfl⟩)).2;simpa using this
  ·cases h
def Qs{n:Nat}{t:TypeId}{v:Value}{d:DataW H}{ps:List MemPlace}{r:Reach}{b0:Nat}(h:shp P n t=true)(hv:nt P w r b0 t v)(hd:DataW.Trod enc P w base spare held t v d ps) :
  ∃m,Rel (Af w) v m∧AT P n t m:=by
 obtain⟨fuel,hf⟩:=hd;have cm:(td P t).ok=true:=by
  cases n with
  |zero=>cases h
  |succ n=>simp only[shp,ag] at h;exact h.1
 have It:=pH cm;unfold AT;have key:(∃cs,v=.agg cs∧cs.size=(td P t).size∧(td P t).k.isAgg=true)∨((td P t).k.isAgg=false∧v.cells=#[v]∧(td P t).size=1):=by
  cases n with
  |zero=>cases h
  |succ n =>
   simp only[shp,ag] at h;obtain⟨_,h⟩:=h;split at h<;>rename_i hk
   ·obtain⟨b,rfl⟩:=okWide_bool (xN hk) hv;exact .inr ⟨by rw[hk];rfl,rfl,by simpa using h⟩
   ·obtain⟨b,rfl⟩:=okWide_int (kY hk) hv;exact .inr ⟨by rw[hk];rfl,rfl,by simpa using h⟩
   ·obtain⟨b,rfl⟩:=okWide_string (iW hk) hv;exact .inr ⟨by rw[hk];rfl,rfl,by simpa using h⟩
   ·obtain⟨a,l,c,rfl⟩:=okWide_slice (bB hk) hv;simp only[ag,beq_iff_eq] at h;exact .inr ⟨by rw[hk];rfl,rfl,h.1.1.1⟩
   ·obtain⟨fa,ht,_⟩:=kO hk;obtain⟨cs,rfl,hs⟩:=okWide_struct ht hv;exact .inl ⟨cs,rfl,by rw[hs,It],by rw[hk];rfl⟩
   ·have ht:=iQ hk;simp only[nt,ht] at hv;obtain⟨cs,rfl,hs,_⟩:=hv;exact .inl ⟨cs,rfl,by rw[hs,It],by rw[hk];rfl⟩
   ·cases h
 rcases key with⟨cs,rfl,hs,ha⟩|⟨ha,hc,hs⟩
 ·simp only[ha,if_true];obtain⟨ms,hr,hct⟩:=pB n t fuel _ _ h (by simpa[Value.cells] using hs) hf;have hr':xS (Af w) cs.toList ms:=by simpa[Value.cells] using hr
  have hl:cs.size=ms.length:=by simpa using hr'.1
  have get:∀(i:Nat) m,ms[i]?=some m→cs.toList[i]?=some (cs.getD i undef):=fun i m hm=>by
   have:i<cs.size:=by rw[hl];exact(eg.1 hm).1
   simp[Array.getD,this]
  exact⟨.agg ms,.agg hl (fun i m hm=>(hr'.2 i _ m (get i m hm) hm).1) (fun i m hm=>(hr'.2 i _ m (get i m hm) hm).2),ms,rfl,hct⟩
 ·simp only[ha,al,if_false];obtain⟨ms,hr,hct⟩:=pB n t fuel _ _ h (by rw[hc,hs];rfl) hf;rw[hc] at hr
  match ms,hr with
  |[m],hr =>
   exact⟨m,(hr.2 0 v m rfl rfl).2,hct⟩
  |[],hr=>exact absurd hr.1 ax
  |_::_::_,hr=>exact absurd hr.1 ax
def ATs(P:Program)(n:Nat):List TypeId→List MV→Prop
 |[],[]=>True
 |t::ts,m::ms=>AT P n t m∧ATs P n ts ms
 |_,_=>False
theorem C4{n:Nat}:∀{ts:List TypeId} {vs:List Value} {ds:List (DataW H)} {ps:List MemPlace},(∀t,t∈ts→shp P n t=true)→(∀(j:Nat) t v,ts[j]?=some t→vs[j]?=some v→nt P w .any base t v) →
  bs enc P w 0 spare held ts vs ds ps→∃ms,vs.length=ms.length∧(∀(i:Nat) v m,vs[i]?=some v→ms[i]?=some m→Rel (Af w) v m)∧ATs P n ts ms
 |[],vs,ds,ps,_,_,h=>by
  obtain⟨rfl,_,_⟩:=trodAll_nil h;exact⟨[],rfl,fun i v m h=>by simp at h,trivial⟩
 |t::ts,vs,ds,ps,hs,cm,h=>by
  obtain⟨v,vs1,d,ds1,a,b,rfl,rfl,rfl,h1,h2⟩:=trodAll_cons h;obtain⟨m,r,ht⟩:=Qs (hs t (du ..)) (cm 0 t v rfl rfl) h1;obtain⟨ms,e,rs,hts⟩:=C4 (fun t h=>hs t (dl _ h)) (fun j t v p q=>cm (j+1) t v (by simpa using p) (by simpa using q)) h2;refine⟨m::ms,by simp[e],fun i v' m' p q=>?_,ht,hts⟩;cases i with
  |zero=>simp at p q;subst p q;exact r
  |succ i=>simp at p q;exact rs i v' m' p q
theorem C5{W W':World}(hl:laidOutB P=true)(hb:∀k,k<W.heap.size→W'.heap[k]?=W.heap[k]?):∀{ts:List TypeId} {vs:List Value} {ds:List (DataW H)} {ps:List MemPlace} {sp:Nat→Bool},
  (∀t,t∈ts→P.readableRec t=true∧t<P.types.size)→bs enc P W 0 (fun _=>true) true ts vs ds ps→(∀x∈ps,x.block<W.heap.size)→(∀x∈ps,sp x.block=true)→bs enc P W' 0 sp true ts vs ds ps
 |[],vs,ds,ps,sp,_,h,_,_=>by
  obtain⟨rfl,rfl,rfl⟩:=trodAll_nil h;exact trodAll_mk0
 |t::ts,vs,ds,ps,sp,hr,h,bh,hsp=>by
  obtain⟨v,vs1,d,ds1,a,b,rfl,rfl,rfl,h1,h2⟩:=trodAll_cons h;refine⟨a,b,?_,C5 hl hb (fun t h=>hr t (dl _ h)) h2 (fun x hx=>bh x (kc _ hx)) (fun x hx=>hsp x (kc _ hx)),rfl⟩;obtain⟨r1,r2⟩:=hr t (du ..);refine WideElems.Trod_stays hl r1 r2 h1 (fun x hx=>?_) (fun x hx=>hsp x (kf _ hx));have hp:=bh x (kf _ hx);cases x with
  |cell b o=>exact World.cell?_of_block (w:=W) (hb b hp)
  |map b=>exact hb b hp
def UC{W W':World}{may:MemPlace→Prop}(h1:W'.os=W.os)(h2:W'.output=W.output)(hb:∀k,k<W.heap.size→W'.heap[k]?=W.heap[k]?):W.keptBut W' may:=by
 refine⟨h1,h2,fun i hi=>?_⟩;rw[hb i hi];cases W.heap[i]? with
 |none=>rfl
 |some o=>cases o with
  |cells c t fr=>exact⟨rfl,rfl,rfl,fun _ _=>rfl⟩
  |map es clock=>exact .inr ⟨rfl,rfl⟩
  |_=>rfl
def NO{W W':World}(hb:∀k,k<W.heap.size→W'.heap[k]?=W.heap[k]?){a:Addr}(h:a.block<W.heap.size):W'.frozen? a=W.frozen? a:=by unfold World.frozen?;rw[hb _ h]
def Rf{f:Func}{s:ChangeSpec}{apart fresh handsOn again:Bool}{W W':World}{args:Array Value}{ds gs:List (DataW H)}{before:List MemPlace}{tb:TypeId}
 (zr:s.vars=[])(hs:∀(H:Type) (ds:List (DataW H)),ds.length=f.params.size→s.fn H ds={ results:=[.lit (.bool true)],args:=ds })
 (iy:f.resultTypes=#[tb])(htb:P.underlying tb=some .bool)(hl:laidOutB P=true)(hr:∀t,t∈f.params.toList→P.readableRec t=true∧t<P.types.size)
 (hW:DataW.Whole enc P f.params.toList s.vars apart W args.toList ds gs before)(h1:W'.os=W.os)(h2:W'.output=W.output)(hb:∀k,k<W.heap.size→W'.heap[k]?=W.heap[k]?) :
  s.post enc P f apart fresh handsOn again W args (.bool true) W':=by
 have bh:=hW.lt;have hW0:=hW;obtain⟨p,q,hA,hV,hpq,hfz,Zj⟩:=hW;rw[zr] at hV;obtain⟨rfl,rfl⟩:=trodVars_none hV;rw[dy] at hpq;subst hpq;have hlen:∀{ts:List TypeId} {vs:List Value} {ds:List (DataW H)} {ps:List MemPlace},bs enc P W 0 (fun _=>true) true ts vs ds ps→ds.length=ts.length:=by
  intro ts
  induction ts with
  |nil=>intro vs ds ps h;obtain⟨_,rfl,_⟩:=trodAll_nil h;rfl
  |cons t ts ih =>
   intro vs ds ps h;obtain⟨v,vs1,d,ds1,a,b,rfl,rfl,rfl,h1,h2⟩:=trodAll_cons h;simp[ih h2]
 have mm:s.fn H (ds++[])={ results:=[.lit (.bool true)],args:=ds }:=by rw[dy];exact hs H ds (by rw[hlen hA];simp)
 have lq:∀sp:Nat→Bool,(∀x∈before,sp x.block=true)→bs enc P W' 0 sp true f.params.toList args.toList ds before:=fun sp hsp=>C5 hl hb hr hA bh hsp;have hresl:(np true).resultList f.resultTypes.size=[.bool true]:=by rw[iy];rfl
 have hrt:∀(b:Nat) (sp:Nat→Bool) (hd:Bool),bs enc P W' b sp hd f.resultTypes.toList ((np true).resultList f.resultTypes.size) [.lit (.bool true)] []:=fun b sp hd=>by rw[hresl,iy];exact trodAll_mk1 (shut_bool htb true)
 refine⟨ds,[],before,[],before,[],hW0,?_,?_,?_,UC h1 h2 hb,fun _=>⟨?_,[.lit (.bool true)]++ds,[],[]++before,⟨[]++before,[],trodAll_append (lq _ fun _ _=>rfl) (hrt _ _ _),?_,ax,fun b off hp=>?_,fun ha=>?_⟩,fun x hx _=>?_⟩⟩
 ·rw[mm];exact hrt _ _ _
 ·rw[mm];exact lq _ fun x hx=>by simpa using bh x hx
 ·rw[mm,zr];rfl
 ·exact ok_one iy rfl (okWide_bool_mk htb true)
 ·rw[zr];rfl
 ·have dw:MemPlace.cell b off∈before:=by simpa using hp
  rw[NO hb (a:=⟨b,off,none⟩) (bh _ dw)];exact hfz b off (by simpa using dw)
 ·have:=Zj ha;simpa using this
 ·simpa using hx
def QG{n:Nat}{t:TypeId}{k:IntKind}{cs:List MV}(hk:(td P t).k=.int k)(h:CT P (n+1) t cs):∃v,cs=[.int k v]∧k.min≤v∧v≤k.max:=by simp only[CT,hk] at h;exact h
def Wj{n:Nat}{t:TypeId}{cs:List MV}(hk:(td P t).k=.str)(h:CT P (n+1) t cs):∃s:ByteArray,cs=[.str s]∧s.size≤maxLen:=by simp only[CT,hk] at h;exact h
def Gz{n:Nat}{t e:TypeId}{cs:List MV}(hk:(td P t).k=.slice e)(h:CT P (n+1) t cs):∃xs,cs=[.aj (td P e).size xs false]∧xs.length≤maxLen∧∀x,x∈xs→CT P n e x:=by simp only[CT,hk] at h;exact h
def mH{n:Nat}{t:TypeId}{fs:List (Nat×TypeId)}{cs:List MV}(hk:(td P t).k=.struct fs)(h:CT P (n+1) t cs):cs.length=(td P t).size∧∀f,f∈fs→CT P n f.2 ((cs.drop f.1).take (td P f.2).size):=by simp only[CT,hk] at h;exact h
def Gy{n m:Nat}{t e:TypeId}{cs:List MV}(hk:(td P t).k=.array m e)(h:CT P (n+1) t cs):cs.length=(td P t).size∧∀i,i<m→CT P n e ((cs.drop (i*(td P e).size)).take (td P e).size):=by simp only[CT,hk] at h;exact h
def Jz{n:Nat}{t:TypeId}{m:MV}(hk:(td P t).k.isAgg=true)(h:AT P n t m):∃cs,m=.agg cs∧CT P n t cs:=by simpa only[AT,hk,if_true] using h
def Hi{α:Type}{f:α→List MV}{xs:List (List MV)}(h:∀x,x∈xs→∃a,x=f a):∃l:List α,xs=l.map f:=by
 induction xs with
 |nil=>exact⟨[],rfl⟩
 |cons x xs ih =>
  obtain⟨a,rfl⟩:=h x (du ..);obtain⟨l,rfl⟩:=ih fun y hy=>h y (dl _ hy);exact⟨a::l,rfl⟩
end
end
section
open Go.ChangeShapes Go.WideShapes Go.RowKit
def yP(cs:List MV):List (Nat×Nat)→List MV
 |[]=>[]
 |p::r=>(cs.drop p.1).take p.2++yP cs r
def AH(o n:Nat):List (Nat×Nat)→Bool
 |[]=>o==n
 |p::r=>p.1==o&&AH (o+p.2) n r
theorem IZ{cs:List MV}:∀(l:List (Nat×Nat)) (o:Nat),AH o cs.length l=true→yP cs l=cs.drop o
 |[],o,h=>by
  simp only[AH,beq_iff_eq] at h;rw[yP,h,List.drop_length]
 |p::r,o,h=>by simp only[AH,ag,beq_iff_eq] at h;rw[yP,IZ r _ h.2,h.1,←hH,gx]
def oD{cs:List MV}{n:Nat}(hn:cs.length=n)(l:List (Nat×Nat))(h:AH 0 n l=true):cs=yP cs l:=by have:=IZ (cs:=cs) l 0 (by rw[hn];exact h);rw[this,ia]
def i64_in{v:Int}(h0:cp.min≤v)(h1:v≤cp.max):Xp v:=by have e0:cp.min = -9223372036854775808:=br;have e1:cp.max=9223372036854775807:=br;rw[e0] at h0;rw[e1] at h1;exact⟨h0,h1⟩
def yJ{n:Nat}{x:List MV}(h:CT Tryz.prog (n+1) 3 x):∃v,x=[.int .i64 v]∧Xp v:=by obtain⟨v,h0,h1,h2⟩:=QG (by rw[td3]) h;exact⟨v,h0,i64_in h1 h2⟩
def WV{n:Nat}{x:List MV}(h:CT Tryz.prog (n+1) 23 x):∃u:UInt32,x=[.int .u32 (u.toNat:Int)]:=by obtain⟨v,h0,h1,h2⟩:=QG (by rw[LK]) h;have e0:IntKind.u32.min=0:=br;have e1:IntKind.u32.max=4294967295:=br;rw[e0] at h1;rw[e1] at h2;exact⟨UInt32.ofNat v.toNat,by rw[h0,VB h1 oM]⟩
def E6{n:Nat}{x:List MV}(h:CT Tryz.prog (n+2) 54 x):∃a:VA,x=a.c:=by obtain⟨hl,hf⟩:=mH (congrArg TD.k BX) h;rw[BX] at hl;obtain⟨a,ha,_⟩:=yJ (hf (0,3) ax);obtain⟨b,hb,_⟩:=yJ (hf (1,3) ax);obtain⟨s,hs,_⟩:=Wj (by rw[td9]) (hf (2,9) ax);simp only[td3,td9] at ha hb hs;refine⟨⟨a,b,s⟩,?_⟩;rw[oD hl [(0,1),(1,1),(2,1)] rfl];simp only[yP,ha,hb,hs];rfl
def XY{n:Nat}{x:List MV}(h:CT Tryz.prog (n+3) 121 x):∃a:ND,x=a.c:=by obtain⟨hl,hf⟩:=mH (congrArg TD.k M7) h;rw[M7] at hl;obtain⟨a,ha,_⟩:=yJ (hf (0,3) ax);obtain⟨b,hb,_⟩:=yJ (hf (1,3) ax);obtain⟨v,hv⟩:=E6 (hf (2,54) ax);simp only[td3,BX] at ha hb hv;refine⟨⟨a,b,v⟩,?_⟩;rw[oD hl [(0,1),(1,1),(2,3)] rfl];simp only[yP,ha,hb,hv];rfl
def WT{n:Nat}{x:List MV}(h:CT Tryz.prog (n+4) 22 x):∃l:List ND,x=[.aj 5 (l.map ND.c) false]:=by obtain⟨xs,hm,_,hx⟩:=Gz (by rw[W9]) h;obtain⟨l,rfl⟩:=Hi fun x vm=>XY (hx x vm);rw[M7] at hm;exact⟨l,hm⟩
def X0{n:Nat}{x:List MV}(h:CT Tryz.prog (n+3) 55 x):∃f:F8,x=fc f:=by obtain⟨hl,ha⟩:=Gy (congrArg TD.k LL) h;rw[LL] at hl;rw[BX] at ha;simp only at hl ha;obtain⟨a0,h0⟩:=E6 (ha 0 br);obtain⟨a1,h1⟩:=E6 (ha 1 br);obtain⟨a2,h2⟩:=E6 (ha 2 br);obtain⟨a3,h3⟩:=E6 (ha 3 br);obtain⟨a4,h4⟩:=E6 (ha 4 br);obtain⟨a5,h5⟩:=E6 (ha 5 br);obtain⟨a6,h6⟩:=E6 (ha 6 br);obtain⟨a7,h7⟩:=E6 (ha 7 br);refine⟨⟨[a0,a1,a2,a3,a4,a5,a6,a7],rfl⟩,?_⟩;rw[oD hl [(0*3,3),(1*3,3),(2*3,3),(3*3,3),(4*3,3),(5*3,3),(6*3,3),(7*3,3)] rfl];simp only[yP,h0,h1,h2,h3,h4,h5,h6,h7];rfl
def WU{n:Nat}{x:List MV}(h:CT Tryz.prog (n+4) 57 x):∃p:PA,x=p.c:=by obtain⟨hl,hf⟩:=mH (congrArg TD.k TN) h;rw[TN] at hl;obtain⟨a,ha⟩:=WV (hf (0,23) ax);obtain⟨b,hb⟩:=WV (hf (1,23) ax);obtain⟨f,yi⟩:=X0 (hf (2,55) ax);simp only[LK,LL] at ha hb yi;refine⟨⟨a,b,f⟩,?_⟩;rw[oD hl [(0,1),(1,1),(2,24)] rfl];simp only[yP,ha,hb,yi,dy];rfl
def YO{n:Nat}{x:List MV}(h:CT Tryz.prog (n+2) 103 x):∃t:TO,x=t.c:=by obtain⟨hl,hf⟩:=mH (congrArg TD.k BW) h;rw[BW] at hl;obtain⟨a,ha,_⟩:=yJ (hf (0,3) ax);obtain⟨b,hb,_⟩:=yJ (hf (1,3) ax);obtain⟨c,hc,_⟩:=yJ (hf (2,3) ax);obtain⟨d,hd,_⟩:=yJ (hf (3,3) ax);simp only[td3] at ha hb hc hd;refine⟨⟨a,b,c,d⟩,?_⟩;rw[oD hl [(0,1),(1,1),(2,1),(3,1)] rfl];simp only[yP,ha,hb,hc,hd];rfl
def XX{n:Nat}{x:List MV}(h:CT Tryz.prog (n+5) 59 x):∃e:ED,x=e.c:=by obtain⟨hl,hf⟩:=mH (congrArg TD.k Vx) h;rw[Vx] at hl;obtain⟨a,ha,_⟩:=yJ (hf (0,3) ax);obtain⟨b,hb,_⟩:=yJ (hf (1,3) ax);obtain⟨c,hc,_⟩:=yJ (hf (2,3) ax);obtain⟨p,hp⟩:=WU (hf (3,57) ax);simp only[td3,TN] at ha hb hc hp;refine⟨⟨a,b,c,p⟩,?_⟩;rw[oD hl [(0,1),(1,1),(2,1),(3,26)] rfl];simp only[yP,ha,hb,hc,hp,dy];rfl
def YP:ownKnob Tryz.prog.godebug=none:=by kernel_rfl
end
def SuF(l:List SU):Prop:=∀x,x∈l→x.fl.length≤1000000∧x.mem.length≤1000000∧x.log.length≤1000000
structure SaF (s:SA):Prop where
 nc:s.bk.ae.length≤1000000
 nd:s.bk.dead.length≤1000000
 ng:s.bk.gr.length≤1000000
 nm:∀g,g∈s.bk.gr→g.mem.length≤1000000
 ns:s.subs.length≤1000000
 sf:SuF s.subs
 nr:s.rows.length≤1000000
 nf:∀r,r∈s.rows→r.ans.fl.length≤1000000
def Lb(l:List ND)(hl:l.length≤1000000)(tt:Bool)(h:bR l=0):aA Tryz.prog 62 [.aj 5 (l.map ND.c) tt] m5 (fun v af=>∃q,v=.ptr q 0 0∧af=m5.set q (flO (.aj 5 (l.map ND.c) false) 0 0 .cw)):=by
 refine(mB 10 [.tmp 2] Tryz.func62 ?_);have c1:=Fq l hl tt;have c2:=Gw l hl tt;rw[h] at c1;repeat' first|(with_reducible first|refine up c1 ?_|refine up c2 ?_)|(refine wO ?_;intros)|refine aw @Tryz.f62.eq_1 ?_|fail
 all_goals exact⟨_,rfl,rfl⟩
def I7(d:DE)(id:Int):aA Tryz.prog 222 [.agg d.c,.cg [.int .i64 id]] m5 (fun r _=>r=.bool (decide (d.id=id))):=by
 refine n6 (mB 8 [.tmp 3] Tryz.func222 ?_);repeat' first|(refine wO ?_;intros)|refine aw @Tryz.f222.eq_1 ?_|fail
 all_goals exact lE
def G5(l:List DE)(hl:l.length≤1000000)(t:Bool)(id:Int) :
  aA Tryz.prog 271 [.aj 3 (l.map bj) t,.fn (.func 222) [] [.cg [.int .i64 id]]] m5 (fun r _=>r=.int .i64 (rJ (l.map bp) id)):=by
 refine n6 (mB 19 [.tmp 4] Tryz.func271 ?_);repeat' first|refine aw @Tryz.f271.eq_1 ?_|fail
 refine aG (α:=Nat) (fun k=>⟨19,[(8,.int .i64 (k:Int)),(7,.int .i64 (l.length:Int)),(6,.aj 3 (l.map bj) t),(0,.aj 3 (l.map bj) t),(1,.fn (.func 222) [] [.cg [.int .i64 id]])],[]⟩) (fun _=>m5)
  (fun k=>k≤l.length∧id∉(l.take k).map bp) (fun k=>l.length-k) (.of (.less ?_ ba) ⟨0,rfl,rfl,kv _,ax⟩) ?_
 ·exact wW
 ·rintro k ⟨h1,h2⟩;by_cases hk:k<l.length
  ·obtain⟨d,hd⟩:=bX l hk;have ay:=bJ (f:=bj) hd;have hc:=I7 d id;by_cases he:d.id=id
   ·rw[decide_eq_true he] at hc;have hi':=Wx (Ru (f:=bp) hd) (by rw[he,←List.map_take];exact h2);have hm:=dJ (Ru (f:=bp) hd);rw[he] at hi' hm;have hp:rJ (l.map bp) id=k:=by unfold rJ;rw[if_pos hm,hi']
    rw[hp];repeat' first|(with_reducible first|refine up hc ?_)|refine aw @ay ?_|fail
    all_goals exact lE
   ·rw[decide_eq_false he] at hc;repeat' first|(with_reducible first|refine up hc ?_)|refine aw @ay ?_|fail
    refine .of (.less ?_ ba) ⟨k+1,rfl,rfl,⟨oM,?_⟩,oM⟩
    ·exact wW
    ·rw[aW hd,e8,ez];simpa using⟨by simpa using h2,ls he⟩
  ·have:k=l.length:=oM;subst this;rw[eh] at h2;have hp:rJ (l.map bp) id = -1:=by unfold rJ;rw[if_neg h2]
   rw[hp];repeat' first|refine ed ?_|fail
   all_goals exact lE
def AG(l:List DE)(hl:l.length≤1000000)(t:Bool)(id:Int) :
  aA Tryz.prog 221 [.aj 3 (l.map bj) t,.fn (.func 222) [] [.cg [.int .i64 id]]] m5 (fun r _=>r=.bool (decide (id∈l.map bp))):=by
 refine n6 (mB 9 [.tmp 4] Tryz.func221 ?_);have hi:=G5 l hl t id;have hn:=Lh (l:=l.map bp) (x:=id);obtain⟨k,hk⟩:∃k,rJ (l.map bp) id=k:=⟨_,rfl⟩
 rw[hk] at hi hn;have e:decide (id∈l.map bp)=decide (0≤k):=decide_eq_decide.mpr ⟨fun h=>by
  have:¬k<0:=fun h'=>(hn ▸ h') h;omega,fun h=>bi.1 fun h'=>by
  have:k<0:=hn ▸ h';omega⟩
 rw[e];repeat' first|(with_reducible first|refine up hi ?_)|refine aw @Tryz.f221.eq_1 ?_|fail
 all_goals first|exact⟨_,ba,rfl⟩|exact⟨_,ba⟩|(refine⟨_,ba,?_⟩;simp[*])
def a8(cs:List CA)(ds:List DE)(id:Int):CA×Int :=
 match cs.find? (fun c=>decide (c.id=id)) with
 |some c=>(c,0)
 |none=>(ig,if id∈ds.map bp then 9 else 6)
theorem Dk{id:Int}:∀cs:List CA,eG id (dm cs)=(cs.find? fun c=>decide (c.id=id)).map fun c=>.agg c.c
 |[]=>rfl
 |c::cs=>by
  have ih:=Dk (id:=id) cs;simp only[dm,dt,eG,List.find?_cons] at ih ⊢;by_cases h:c.id=id
  ·simp[h]
  ·simp[h,ih]
abbrev iu(nx:Int)(m l q:Nat)(cs:List CA)(ds:List DE)(ex:List (List MV)):St:=((m5.set m (.mp (dm cs))).set l (fh nx m (.vec 3 q 0 ds.length))).set q (.row 197 3 (ds.map bj++ex))
def jB(nx:Int){m l q:Nat}(lg:l≠m)(hqm:q≠m)(yx:q≠l)(cs:List CA)(ds:List DE)(hd:ds.length≤1000000)(ex:List (List MV))(id:Int) :
  aA Tryz.prog 151 [.ptr l 0 0,.int .i64 id] (iu nx m l q cs ds ex) (fun v af=>v=.ar [.agg (a8 cs ds id).1.c,.int .i64 (a8 cs ds id).2]∧af=iu nx m l q cs ds ex):=by
 refine nP (Q':=fun v af=>v=.ar [.agg (a8 cs ds id).1.c,.int .i64 (a8 cs ds id).2]∧(iu nx m l q cs ds ex).le af) (mB 30 [.cell 4 126,.tmp 5] Tryz.func151 ?_) fun v af h=>⟨_,h.2,h.1,rfl⟩
 have ef:=sH cs;have hg:=Dk (id:=id) cs;have bn:=ls lg;have hmq:=ls hqm;have hlq:=ls yx;have hc:=AG ds hd false id;have hle:∀{σ:St},σ m=some (.mp (dm cs))→σ l=some (fh nx m (.vec 3 q 0 ds.length))→σ q=some (.row 197 3 (ds.map bj++ex))→(iu nx m l q cs ds ex).le σ:=fun h1 h2 h3=>m7 (m7 (m7 bt h1) h2) h3;unfold a8;show R (eE Tryz.prog _ _ (((m5.set m (.mp (dm cs))).set l (fh nx m (.vec 3 q 0 ds.length))).set q (.row 197 3 (ds.map bj++ex))) _);cases hf:cs.find? (fun c=>decide (c.id=id)) with
 |some c =>
  rw[hf,mf] at hg;simp only;repeat' first|(refine wM ?_;(first|(have _:=ah)|(intro ah));intros)|refine wV ?_|refine vu @Tryz.f151.eq_1 @md.{0} @me.{0} @ly.{0} @ma.{0} @Zn @hg @ef ?_|fail
  all_goals first|exact hle sS sS sS|exact⟨rfl,hle sS sS sS⟩
 |none =>
  rw[hf,mo] at hg;simp only;have hv:∀{σ:St} {b:Nat},σ b=some (.row 3 1 [[.int .i64 id]])→σ q=some (.row 197 3 (ds.map bj++ex))→∀(i:Nat) (x x':MV),[MV.vec 3 q 0 ds.length,.fn (.func 222) [] [.ptr b 0 0]][i]?=some x→[MV.aj 3 (ds.map bj) false,.fn (.func 222) [] [.cg [.int .i64 id]]][i]?=some x'→View σ x x':=fun h1 h2 =>
   sT (dT h2 ax) (.fn rfl (yZ (View.ptr (i:=0) (o:=0) h1 ax)))
  by_cases hm:id∈ds.map bp
  ·rw[decide_eq_true hm] at hc;rw[if_pos hm];repeat' first|(refine B3 [.aj 3 (ds.map bj) false,.fn (.func 222) [] [.cg [.int .i64 id]]] hc (by constructor) rfl (hv (b:=ah) sS sS) ?_)|(refine wM ?_;(first|(have _:=ah)|(intro ah));intros)|refine wV ?_|refine vu @Tryz.f151.eq_1 @md.{0} @me.{0} @ly.{0} @ma.{0} @Zn @hg @ef ?_|fail
   all_goals first|exact hle sS sS sS|exact⟨rfl,hle sS sS sS⟩
  ·rw[decide_eq_false hm] at hc;rw[if_neg hm];repeat' first|(refine B3 [.aj 3 (ds.map bj) false,.fn (.func 222) [] [.cg [.int .i64 id]]] hc (by constructor) rfl (hv (b:=ah) sS sS) ?_)|(refine wM ?_;(first|(have _:=ah)|(intro ah));intros)|refine wV ?_|refine vu @Tryz.f151.eq_1 @md.{0} @me.{0} @ly.{0} @ma.{0} @Zn @hg @ef ?_|fail
   all_goals first|exact hle sS sS sS|exact⟨rfl,hle sS sS sS⟩
theorem G6{c:CA}:∀{cs:List CA},c.id∉cs.map bg→dW .i64 c.id (.agg c.c) (dm cs)=dm (cs++[c])
 |[],_=>rfl
 |d::cs,h=>by simp only[dt,cS,not_or] at h;have ih:=G6 h.2;simp only[dm,dt,hP,dW] at ih ⊢;rw[if_neg (ls h.1),ih]
theorem vM{n:Int}{v:MV}:∀{es:List (MV×MV)},(es.all fun p=>nh .i64 p.1)=true→((dW .i64 n v es).all fun p=>nh .i64 p.1)=true
 |[],_=>by simp[dW,nh]
 |(x,u)::es,h=>by
  simp only[hB,ag] at h;obtain⟨m,rfl⟩:=nU h.1;by_cases hm:m=n
  ·subst hm;simp only[dW,if_true,hB,ag];exact⟨by simp[nh],h.2⟩
  ·simp only[dW,if_neg hm,hB,ag];exact⟨by simp[nh],vM h.2⟩
theorem sG{n m:Int}{v:MV}:∀{es:List (MV×MV)},(es.all fun p=>nh .i64 p.1)=true→eG m (dW .i64 n v es)=if m=n then some v else eG m es
 |[],_=>by
  by_cases h:m=n
  ·subst h;simp[dW,eG]
  ·rw[if_neg h];simp[dW,eG,ls h]
 |(x,u)::es,h=>by
  simp only[hB,ag] at h;obtain⟨k,rfl⟩:=nU h.1;have ih:=sG (n:=n) (m:=m) (v:=v) h.2;by_cases hk:k=n
  ·subst hk;by_cases hm:m=k
   ·subst hm;simp[dW,eG]
   ·simp[dW,eG,hm,ls hm]
  ·by_cases hm:m=n
   ·subst hm;rw[if_pos rfl] at ih ⊢;simp only[dW,if_neg hk,eG,ih]
   ·rw[if_neg hm] at ih ⊢;simp only[dW,if_neg hk,eG,ih]
theorem AX{n:Int}{v:MV}:∀{es:List (MV×MV)},(dW .i64 n v es).length≤es.length+1
 |[]=>by simp[dW]
 |(.int k m,u)::es=>by
  simp only[dW];split
  ·simp
  ·simpa using AX (es:=es)
 |(.bw,u)::es|(.bool _,u)::es|(.str _,u)::es|(.ej,u)::es|(.ptr _ _ _,u)::es|(.cg _,u)::es|(.aK,u)::es|(.aj _ _ _,u)::es|(.vec _ _ _ _,u)::es|(.kp,u)::es|(.db _,u)::es|(.cw,u)::es|(.fn _ _ _,u)::es|(.qi,u)::es|(.iface _ _,u)::es|(.agg _,u)::es|(.ar _,u)::es=>by simpa[dW] using AX (es:=es)
def Nf(es:List (MV×MV)):Prop:=(fM es).Nodup
def sJ{es:List (MV×MV)}(h:(es.all fun p=>nh .i64 p.1)=true){n:Int}:n∈fM es↔eG n es≠none:=by
 induction es with
 |nil=>simp[fM,eG]
 |cons p es ih =>
  obtain⟨x,u⟩:=p;simp only[hB,ag] at h;obtain⟨k,rfl⟩:=nU h.1;have ih:=ih h.2;have e:fM ((MV.int .i64 k,u)::es)=k::fM es:=rfl;rw[e,cS,eG];by_cases hk:k=n
  ·subst hk;simp
  ·rw[if_neg hk,←ih];exact⟨fun h=>h.elim (fun e=>absurd e.symm hk) id,.inr⟩
theorem DM{n:Int}{v:MV}:∀{es:List (MV×MV)},(es.all fun p=>nh .i64 p.1)=true→Nf es→Nf (dW .i64 n v es)
 |[],_,_=>by simp[Nf,dW,fM]
 |(x,u)::es,h,ho=>by
  simp only[hB,ag] at h;obtain⟨k,rfl⟩:=nU h.1;have e:∀(u:MV) (es:List (MV×MV)),fM ((MV.int .i64 k,u)::es)=k::fM es:=fun _ _=>rfl;unfold Nf at ho ⊢;rw[e] at ho;obtain⟨h1,h2⟩:=i9.1 ho;by_cases hk:k=n
  ·simp only[dW,if_pos hk];rw[e];exact i9.2 ⟨h1,h2⟩
  ·simp only[dW,if_neg hk];rw[e];refine i9.2 ⟨fun hm=>?_,DM h.2 h2⟩;rw[sJ (vM h.2),sG h.2,if_neg hk,←sJ h.2] at hm;exact h1 hm
def ZV(cs:List CA):List (MV×MV):=cs.map fun c=>(.int .i64 c.id,.int .i64 c.c9)
def UA(cs:List CA):((ZV cs).all fun p=>nh .i64 p.1)=true:=by simp[ZV,nh]
theorem G8{c:CA}:∀{cs:List CA},c.id∉cs.map bg→dW .i64 c.id (.int .i64 c.c9) (ZV cs)=ZV (cs++[c])
 |[],_=>rfl
 |d::cs,h=>by simp only[dt,cS,not_or] at h;have ih:=G8 h.2;simp only[ZV,dt,hP,dW] at ih ⊢;rw[if_neg (ls h.1),ih]
def nC(f:F8)(L:List Nat):F8:=L.foldl (fun g i=>g.set i (f.get i)) f80
theorem Bw(f:F8)(m:Nat):∀k,lV f m k=nC f ((jr k).filter fun i=>bit m i)
 |0=>rfl
 |k+1=>by
  rw[lV,Bw f m k,List.range_succ,fj,nC,nC,f0];by_cases h:bit m k=true
  ·rw[if_pos h];simp[h]
  ·rw[if_neg h];simp[h]
def Lp(f:F8)(m:Nat):VZ f m=nC f (cE m):=Bw f m 8
def Bv(c:CA)(m:UInt32):aA Tryz.prog 78 [.agg c.c,.int .u32 (m.toNat:Int)] m5 (fun r _=>r=.agg (fV c m).c):=by
 refine n6 (mB 34 [.cell 4 126] Tryz.func78 ?_);have bn:=uC m;have iw:=wC m;have sc:=xU m.toNat;obtain⟨ml,ZG⟩:∃b,bit m.toNat 8=b:=⟨_,rfl⟩
 rw[ZG] at bn;have oh:(fV c m).c=.int .i64 c.id::.int .i64 c.c9::.int .u32 (((if ml=true then c.fp else 0:UInt32).toNat:Nat):Int)::fc (nC c.f (cE m.toNat)):=by rw[←ZG,←Lp];rfl
 rw[oh];clear ZG oh;obtain⟨lb,qw⟩:∃lb:UInt32,(if ml=true then c.fp else 0)=lb:=⟨_,rfl⟩
 rw[qw];have bh:∀i,i∈cE m.toNat→i<8:=fun i=>uZ;obtain⟨L,hL⟩:∃L,cE m.toNat=L:=⟨_,rfl⟩
 rw[hL] at iw sc bh ⊢;have ZE:(eO L).length=L.length:=d7 _;cases ml;all_goals simp only[al,if_false,if_true] at qw
 ·subst qw;repeat' first|(with_reducible first|refine up bn ?_|refine up iw ?_)|(refine wM ?_;(first|(have _:=ao)|(have _:=ak;intro ao)|(have _:=ah;intro ak)|(intro ah));intros)|refine fx @Tryz.f78.eq_1 @ai @ZE ?_|fail
  refine aG (α:=Nat) (fun i=>⟨34,[(21,.int .i64 (i:Int)),(20,.int .i64 (L.length:Int)),(19,.aj 1 (eO L) false),(5,.ptr ao 0 0),(4,.ptr ak 0 0),(2,.ptr ah 0 0)],[]⟩)
   (fun i=>((m5.set ah (.row 126 27 [c.c])).set ak (.row 126 27 [ig.c])).set ao (.row 126 27 [.int .i64 c.id::.int .i64 c.c9::.int .u32 ((0:UInt32).toNat:Int)::fc (nC c.f (L.take i))])) (fun i=>i≤L.length) (fun i=>L.length-i) (.of (.less ?_ ba) ⟨0,rfl,rfl,kv _⟩) ?_
  ·exact wW
  ·intro i hi;have hi:i≤L.length:=hi;by_cases ot:i<L.length
   ·obtain⟨k,hk⟩:=bX L ot;have ay:(eO L).getD i []=[.int .i64 (k:Int)]:=by rw[cr,ey,hk];rfl
    have hk8:=bh k (dJ hk);have da:nC c.f (L.take (i+1))=(nC c.f (L.take i)).set k (c.f.get k):=by rw[aW hk,nC,f0];rfl
    obtain⟨g,hg⟩:∃g,nC c.f (L.take i)=g:=⟨_,rfl⟩
    rw[hg] at da ⊢;repeat' first|refine fx @ai @ay @ZE ?_|fail
    all_goals try(exfalso;omega)
    all_goals
     refine .of (.less ?_ ba) ⟨i+1,rfl,by rw[da];first|rfl|skip,(by omega:i+1≤L.length),oM⟩;exact wW
   ·have:i=L.length:=oM;subst this;rw[eh];repeat' first|refine aw @ai ?_|fail
    all_goals exact lE
 ·subst qw;repeat' first|(with_reducible first|refine up bn ?_|refine up iw ?_)|(refine wM ?_;(first|(have _:=ao)|(have _:=ak;intro ao)|(have _:=ah;intro ak)|(intro ah));intros)|refine fx @Tryz.f78.eq_1 @ai @ZE ?_|fail
  refine aG (α:=Nat) (fun i=>⟨34,[(21,.int .i64 (i:Int)),(20,.int .i64 (L.length:Int)),(19,.aj 1 (eO L) false),(5,.ptr ao 0 0),(4,.ptr ak 0 0),(2,.ptr ah 0 0)],[]⟩)
   (fun i=>((m5.set ah (.row 126 27 [c.c])).set ak (.row 126 27 [ig.c])).set ao (.row 126 27 [.int .i64 c.id::.int .i64 c.c9::.int .u32 (c.fp.toNat:Int)::fc (nC c.f (L.take i))])) (fun i=>i≤L.length) (fun i=>L.length-i) (.of (.less ?_ ba) ⟨0,rfl,rfl,kv _⟩) ?_
  ·exact wW
  ·intro i hi;have hi:i≤L.length:=hi;by_cases ot:i<L.length
   ·obtain⟨k,hk⟩:=bX L ot;have ay:(eO L).getD i []=[.int .i64 (k:Int)]:=by rw[cr,ey,hk];rfl
    have hk8:=bh k (dJ hk);have da:nC c.f (L.take (i+1))=(nC c.f (L.take i)).set k (c.f.get k):=by rw[aW hk,nC,f0];rfl
    obtain⟨g,hg⟩:∃g,nC c.f (L.take i)=g:=⟨_,rfl⟩
    rw[hg] at da ⊢;repeat' first|refine fx @ai @ay @ZE ?_|fail
    all_goals try(exfalso;omega)
    all_goals
     refine .of (.less ?_ ba) ⟨i+1,rfl,by rw[da];first|rfl|skip,(by omega:i+1≤L.length),oM⟩;exact wW
   ·have:i=L.length:=oM;subst this;rw[eh];repeat' first|refine aw @ai ?_|fail
    all_goals exact lE
structure Zf (l:List TU) (es:List (MV×MV)):Prop where
 k:(es.all fun p=>nh .i64 p.1)=true
 o:Nf es
 g:∀id,eG id es=(gH l id).map fun n=>.int .i64 n
 n:es.length≤l.length
def aR.Dh{n:Nat}{l l1:List (Nat×MV)}{d:List (FuncId×List MV)}{σ σ1:St}(q b:Nat){oq:aY}{t:TypeId}{e:Nat}(pre post:List MV){m m1:MV}(hq:σ q=some oq)(hb:σ b=some (.row t e [pre++m::post]))(fg:b≠q)(hv:View (m5.set q oq) m m1)(hc:m1.aP=true)
 (h1:σ1 b=some (.row t e [pre++m1::post]))(h0:∀k o,σ1 k=some o→k≠q∧(k=b∨σ k=some o))(hl:∀p,p∈l1→View (m5.set q oq) (cV l p.1) p.2):aR ⟨n,l,d⟩ σ ⟨n,l1,d⟩ σ1:=by
 refine aR.qU (m5.set q oq) (m7 bt hq) (fun k o1 hk=>?_) (fun k o hk=>?_) hl
 ·by_cases e':k=b
  ·subst e';rw[h1] at hk;cases hk;refine⟨_,hb,.inr ⟨t,e,_,_,rfl,rfl,rfl,fun i x x1 hx pw=>?_⟩⟩
   match i with
   |0 =>
    simp only[fe,mr] at hx pw;subst hx pw;refine⟨ax,fun j a b ha hb=>?_⟩;by_cases hj:j<pre.length
    ·rw[ga hj] at ha hb;rw[ha] at hb;cases hb;exact .inl rfl
    ·rw[f8 oM] at ha hb
     match hk:j-pre.length with
     |0 =>
      rw[hk] at ha hb;simp only[fe,mr] at ha hb;subst ha hb;exact .inr ⟨hc,hv⟩
     |k+1 =>
      rw[hk] at ha hb;simp only[hD] at ha hb;rw[ha] at hb;cases hb;exact .inl rfl
   |i+1=>simp at hx
  ·exact⟨_,(h0 k _ hk).2.resolve_left e',.inl rfl⟩
 ·by_cases e':k=b
  ·subst e';exact cn fg
  ·exact cn (h0 k _ hk).1
abbrev dh(m l q b:Nat)(B:BK)(ex:List (List MV)):St:=(iu B.nx m l q B.ae B.dead ex).set b (bM B.sq l (.aj 2 (B.gr.map b3) false))
structure eB (m l q b:Nat):Prop where
 lm:l≠m
 qm:q≠m
 ql:q≠l
 bm:b≠m
 bl:b≠l
 bq:b≠q
def aM{σ:St}{l k:Nat}{o:aY}:((σ.set l o) k=none)=(k≠l∧σ k=none):=propext ⟨Ao,fun h=>(cn h.1).trans h.2⟩
def aT(l:List Int)(x:Int):Nat:=(l.filter fun y=>decide (y<x)).length
def Gp{l:List Int}{x:Int}{i:Nat}(hi:i≤l.length)(h1:∀q,q<i→l.getD q 0<x)(h2:∀q,i≤q→q<l.length→¬l.getD q 0<x):aT l x=i:=by
 unfold aT;rw[←gx i l,fj,g9.2,hE.2,dy,e9]
 ·omega
 ·intro y hy;obtain⟨k,hk⟩:=hI.1 hy;rw[kh] at hk;have:=(eg.1 hk).1;have h:=h2 (i+k) oM this;rw[cr,hk] at h;simpa using h
 ·intro y hy;obtain⟨k,hk⟩:=hI.1 hy;rw[i4] at hk;split at hk
  ·rename_i hki;have h:=h1 k hki;rw[cr,hk] at h;simpa using h
  ·cases hk
def Dg{l:List Int}{x:Int}{i:Nat}(hu:en l)(h1:∀q,q<i→l.getD q 0<x)(h2:∀q,i≤q→q<l.length→¬l.getD q 0<x):x∈l↔i<l.length∧l.getD i 0=x:=by
 constructor
 ·intro hm;obtain⟨p,hp,hx⟩:=ip.1 hm;have e:l.getD p 0=x:=by rw[cr,eo hp,←hx];rfl
  have hip:i≤p:=Nat.le_of_not_lt fun bh=>by have:=h1 p bh;omega
  rcases kx i p with bh|nq
  ·have h3:=f9.1 hu i p oM hp bh;have h4:=h2 i (ky _) oM;rw[cr,eo (by omega:i<l.length)] at h4;simp at h4;omega
  ·have:i=p:=oM;subst this;exact⟨hp,e⟩
 ·rintro⟨hi,e⟩;rw[←e,cr,eo hi];exact List.getElem_mem hi
def Kd(a b:Int):aA Tryz.prog 284 [.int .i64 a,.int .i64 b] m5 (fun r _=>r=.bool (decide (a<b))):=by refine(mB 17 [.tmp 4] Tryz.func284 ?_);have h:=nY a;repeat' first|(with_reducible first|refine up h ?_)|refine aw @Tryz.f284.eq_1 ?_|exact ev @Tryz.f284.eq_1|fail
def Bi(a:Int):aA Tryz.prog 298 [.int .i64 a] m5 (fun r _=>r=.bool false):=by refine(mB 6 [.tmp 2] Tryz.func298 ?_);repeat' first|refine bu @Tryz.f298.eq_1 @iL.{1} ?_|exact fk @Tryz.f298.eq_1 @iL.{1}|fail
def Dl(l:List Int){m:Nat}(h:m<l.length):(l.map aU).getD m []=aU (l.getD m 0):=by obtain⟨x,hx⟩:=bX l h;rw[bJ (f:=aU) hx,cr,hx];rfl
def v8(l:List Int)(hl:l.length≤1000000)(hu:en l)(x:Int)(t:Bool):aA Tryz.prog 263 [.aj 1 (l.map aU) t,.int .i64 x] m5 (fun r _=>r=.ar [.int .i64 (aT l x:Int),.bool (decide (x∈l))]):=by
 refine(mB 54 [.tmp 4,.tmp 5] Tryz.func263 ?_);repeat' first|refine aw @Tryz.f263.eq_1 ?_|fail
 refine aG (α:=Nat×Nat) (fun a=>⟨54,[(7,.int .i64 (a.1:Int)),(8,.int .i64 (a.2:Int)),(6,.int .i64 (l.length:Int)),(1,.int .i64 x),(0,.aj 1 (l.map aU) t)],[]⟩)
  (fun _=>m5) (fun a=>a.1≤a.2∧a.2≤l.length∧(∀q,q<a.1→l.getD q 0<x)∧(∀q,a.2≤q→q<l.length→¬l.getD q 0<x)) (fun a=>a.2-a.1) (.of (.less ?_ ba) ⟨(0,l.length),rfl,rfl,by simp;omega⟩) ?_
 ·simp(maxSteps:=4000000) (disch:=first|exact gd|fail) only[go_sem,simprocAttr,bE,aX];all_goals first|rfl|omega|simp
 ·rintro⟨i,j⟩ ⟨h1,h2,h3,h4⟩;simp only at h1 h2 h3 h4 ⊢;by_cases hij:i<j
  ·have hh:=half i j;have hm1:i≤(i+j) / 2:=oM;have hm2:(i+j) / 2<j:=oM;obtain⟨m,hm⟩:∃m,(i+j) / 2=m:=⟨_,rfl⟩
   rw[hm] at hh hm1 hm2;have bn:m<l.length:=oM;have ay:=Dl l bn;have wb:∀a b,a<b→b<l.length→l.getD a 0<l.getD b 0:=fun a b hab hb=>by have:=f9.1 hu a b oM hb hab;rw[cr,cr,eo (by omega:a<l.length),eo hb];exact this
   have sl:=Kd (l.getD m 0) x;by_cases fo:l.getD m 0<x
   ·have gi:∀q,q<m+1→l.getD q 0<x:=fun q hq=>by
     rcases kx q m with bh|nq
     ·have:=wb q m bh bn;omega
     ·have:q=m:=oM;rw[this];exact fo
    obtain⟨y,hy⟩:∃y,l.getD m 0=y:=⟨_,rfl⟩
    rw[hy] at ay sl fo;repeat' first|(with_reducible first|refine up sl ?_)|refine bu @ay @hh ?_|fail
    all_goals try(exfalso;omega)
    refine .of (.less (l1:=[(7,.int .i64 ((m+1:Nat):Int)),(8,.int .i64 (j:Int)),(6,.int .i64 (l.length:Int)),(1,.int .i64 x),(0,.aj 1 (l.map aU) t)]) ?_ ba) ⟨(m+1,j),rfl,rfl,⟨by simp only;omega,h2,gi,h4⟩,by simp only;omega⟩;simp(maxSteps:=4000000) (disch:=first|exact gd|fail) only[go_sem,simprocAttr,bE,aX];all_goals omega
   ·have gi:∀q,m≤q→q<l.length→¬l.getD q 0<x:=fun q hq yx=>by
     rcases kx m q with bh|nq
     ·have:=wb m q bh yx;omega
     ·have:q=m:=oM;rw[this];exact fo
    obtain⟨y,hy⟩:∃y,l.getD m 0=y:=⟨_,rfl⟩
    rw[hy] at ay sl fo;repeat' first|(with_reducible first|refine up sl ?_)|refine bu @ay @hh ?_|fail
    all_goals try(exfalso;omega)
    refine .of (.less (l1:=[(7,.int .i64 (i:Int)),(8,.int .i64 (m:Int)),(6,.int .i64 (l.length:Int)),(1,.int .i64 x),(0,.aj 1 (l.map aU) t)]) ?_ ba) ⟨(i,m),rfl,rfl,⟨hm1,by simp only;omega,h3,gi⟩,by simp only;omega⟩;simp(maxSteps:=4000000) (disch:=first|exact gd|fail) only[go_sem,simprocAttr,bE,aX]
  ·have:i=j:=oM;subst this;have hp:=Dg hu h3 h4;rw[Gp h2 h3 h4];by_cases qu:i<l.length
   ·have ay:=Dl l qu;have hn:=Bi (l.getD i 0);have yv:=Bi x;by_cases he:l.getD i 0=x
    ·rw[decide_eq_true (hp.2 ⟨qu,he⟩)];obtain⟨y,hy⟩:∃y,l.getD i 0=y:=⟨_,rfl⟩
     rw[hy] at ay hn he;repeat' first|(with_reducible first|refine up hn ?_|refine up yv ?_)|refine aw @ay ?_|exact ev @ay|fail
     all_goals try(exfalso;omega)
     all_goals (first|rfl|(simp;omega))
    ·rw[decide_eq_false fun h=>he (hp.1 h).2];obtain⟨y,hy⟩:∃y,l.getD i 0=y:=⟨_,rfl⟩
     rw[hy] at ay hn he;repeat' first|(with_reducible first|refine up hn ?_|refine up yv ?_)|refine aw @ay ?_|exact ev @ay|fail
     all_goals try(exfalso;omega)
     all_goals (first|rfl|(simp;omega))
   ·rw[decide_eq_false fun h=>qu (hp.1 h).1];repeat' first|refine ed ?_|exact ll|fail
    all_goals try(exfalso;omega)
    all_goals (first|rfl|(simp;omega))
def rI(l:List Int)(hl:l.length≤1000000)(hu:en l)(x:Int)(t:Bool):aA Tryz.prog 209 [.aj 1 (l.map aU) t,.int .i64 x] m5 (fun r _=>r=.bool (decide (x∈l))):=by refine(mB 14 [.tmp 4] Tryz.func209 ?_);have h:=v8 l hl hu x t;repeat' first|(with_reducible first|refine up h ?_)|refine aw @Tryz.f209.eq_1 ?_|exact ev @Tryz.f209.eq_1|fail
def Ie(s n:Nat)(hs:s<4294967296)(hn:n<32):aA Tryz.prog 210 [.int .u32 (s:Int),.int .i64 (n:Int)] m5 (fun r _=>r=.int .u32 ((s ||| 2 ^ n:Nat):Int)):=by refine(mB 9 [.tmp 4] Tryz.func210 ?_);have h:=DQ n hn;have ho:=YM s (2 ^ n) hs (li (a:=2) (n:=32) br hn);generalize ((2 ^ n:Nat):Int)=y at h ho;repeat' first|(with_reducible first|refine up h ?_)|refine bu @Tryz.f210.eq_1 @ho ?_|exact fk @Tryz.f210.eq_1 @ho|fail
def Lc(l:List GR)(tt:Bool)(hl:l.length≤1000000)(hm:∀g,g∈l→g.mem.length≤1000000)(cm:jF (-1) l=true)(id:Int):aA Tryz.prog 139 [.aj 2 (l.map b3) tt,.int .i64 id] m5 (fun r _=>r=.int .u32 (jx l id:Int)):=by
 refine n6 (mB 24 [.tmp 4] Tryz.func139 ?_);repeat' first|refine aw @Tryz.f139.eq_1 ?_|fail
 refine aG (α:=Nat) (fun i=>⟨24,[(10,.int .i64 (i:Int)),(9,.int .i64 (l.length:Int)),(8,.aj 2 (l.map b3) tt),(5,.int .u32 (jx (l.take i) id:Int)),(1,.int .i64 id)],[]⟩)
  (fun _=>m5) (fun i=>i≤l.length) (fun i=>l.length-i) (.of (.less ?_ ba) ⟨0,rfl,rfl,kv _⟩) ?_
 ·exact wW
 ·intro i hi;have hi:i≤l.length:=hi;by_cases bh:i<l.length
  ·obtain⟨x,hx⟩:=bX l bh;have ay:=bJ (f:=b3) hx;obtain⟨g1,g2,g3,g4⟩:=JZ cm hx id;have cc:=AW hx id;unfold se at cc;obtain⟨n,hn⟩:∃n:Nat,x.no=n:=⟨x.no.toNat,oM⟩
   have hh:=rI x.mem (hm x (dJ hx)) (F7 g4).1 id false;have g5:jx (l.take i) id<4294967296:=Nat.lt_trans g1 (li (a:=2) (n:=32) br oM);have hw:=Ie (jx (l.take i) id) n g5 oM;obtain⟨s,hs⟩:∃s,jx (l.take i) id=s:=⟨_,rfl⟩
   rw[hs] at cc hw ⊢;rw[hn,Int.toNat_natCast] at cc;by_cases ku:id∈x.mem
   ·rw[if_pos ku] at cc;rw[decide_eq_true ku] at hh;repeat' first|(with_reducible first|refine up hh ?_|refine up hw ?_)|(refine wO ?_;intros)|refine bu @ay @hn ?_|fail
    all_goals try(exfalso;omega)
    all_goals
     refine .of (.less ?_ bt) ⟨i+1,rfl,rfl,(by omega:i+1≤l.length),oM⟩;rw[cc];exact wW
   ·rw[if_neg ku] at cc;rw[decide_eq_false ku] at hh;repeat' first|(with_reducible first|refine up hh ?_)|(refine wO ?_;intros)|refine bu @ay @hn ?_|fail
    all_goals try(exfalso;omega)
    all_goals
     refine .of (.less ?_ bt) ⟨i+1,rfl,rfl,(by omega:i+1≤l.length),oM⟩;rw[cc];exact wW
  ·have:i=l.length:=oM;subst this;rw[eh];repeat' first|refine ed ?_|fail
   all_goals exact lE
def Ic(sq:Int)(l b:Nat)(g:MV):aA Tryz.prog 64 [.ptr b 0 0] (m5.set b (bM sq l g)) (fun v af=>v=.int .i64 sq∧af=m5.set b (bM sq l g)):=by
 refine(mB 9 [.tmp 2] Tryz.func64 ?_);repeat' first|refine aw @Tryz.f64.eq_1 ?_|exact ev @Tryz.f64.eq_1|fail
 all_goals exact⟨rfl,rfl⟩
def nB(sq:Int)(l b:Nat)(gr:List GR)(h3:gr.length≤1000000)(h4:∀g,g∈gr→g.mem.length≤1000000)(cm:jF (-1) gr=true)(id:Int) :
  aA Tryz.prog 67 [.ptr b 0 0,.int .i64 id] (m5.set b (bM sq l (.aj 2 (gr.map b3) false))) (fun v af=>v=.int .u32 (jx gr id:Int)∧af=m5.set b (bM sq l (.aj 2 (gr.map b3) false))):=by
 refine(mB 13 [.tmp 4] Tryz.func67 ?_);have h:=Lc gr false h3 h4 cm id;repeat' first|(with_reducible first|refine up h ?_)|refine aw @Tryz.f67.eq_1 ?_|exact ev @Tryz.f67.eq_1|fail
 all_goals exact⟨rfl,rfl⟩
def tF(nx sq:Int){l m b:Nat}(dead g:MV)(cs:List CA)(lg:l≠m)(hbm:b≠m)(sc:b≠l)(hc:Ql cs) :
  aA Tryz.prog 65 [.ptr b 0 0] (((m5.set m (.mp (dm cs))).set l (fh nx m dead)).set b (bM sq l g)) (fun v af=>v=.aj 27 (cs.map CA.c) false∧af=((m5.set m (.mp (dm cs))).set l (fh nx m dead)).set b (bM sq l g)):=by
 refine(mB 10 [.tmp 2] Tryz.func65 ?_);have h:=FP nx l m dead cs lg hc;have bn:=ls lg;have hmb:=ls hbm;have qw:=ls sc;repeat' first|(refine dB h (ni sS sS) ?_)|refine aw @Tryz.f65.eq_1 ?_|exact ev @Tryz.f65.eq_1|fail
 all_goals exact⟨rfl,rfl⟩
def Ib{B:BK}(hd:B.dead.length≤1000000){m l q b:Nat}(D:eB m l q b)(ex:List (List MV))(id:Int) :
  aA Tryz.prog 154 [.ptr b 0 0,.int .i64 id] (dh m l q b B ex) (fun v af=>v=.ar [.agg (a8 B.ae B.dead id).1.c,.int .i64 (a8 B.ae B.dead id).2]∧af=dh m l q b B ex):=by
 refine nP (Q':=fun v af=>v=.ar [.agg (a8 B.ae B.dead id).1.c,.int .i64 (a8 B.ae B.dead id).2]∧(dh m l q b B ex).le af) (mB 17 [.cell 4 126,.tmp 5] Tryz.func154 ?_) fun v af h=>⟨_,h.2,h.1,rfl⟩
 have h:=jB B.nx D.lm D.qm D.ql B.ae B.dead hd ex id;obtain⟨d1,d2,d3,d4,d5,d6⟩:=D;have e1:=ls d1;have e2:=ls d2;have e3:=ls d3;have e4:=ls d4;have e5:=ls d5;have e6:=ls d6;generalize a8 B.ae B.dead id=g at h ⊢;obtain⟨gc,ge⟩:=g;simp only at h ⊢;repeat' first|(refine dB h (m7 (m7 (m7 bt sS) sS) sS) ?_)|(refine wO ?_;intros)|refine bu @Tryz.f154.eq_1 @ai ?_|fail
 all_goals
  first
  |exact⟨rfl,m7 (m7 (m7 (m7 bt sS) sS) sS) sS⟩
  |exact m7 (m7 (m7 (m7 bt sS) sS) sS) sS
noncomputable abbrev jm(fl:List ND)(d:Bool):aY:=flO (.aj 5 (fl.map ND.c) false) (if d=true then 1 else 0) 0 (if d=true then lY (rX fl) else .cw)
def rK{fl:List ND}(hp:bR fl=0){gr:List GR}(hg:jF (-1) gr=true){c:CA}(hc:iY c=true)(f:Nat)(d:Bool) :
  aA Tryz.prog 66 [.ptr f 0 0,.agg c.c,.int .u32 (jx gr c.id:Int)] (m5.set f (jm fl d)) (fun v af=>v=.bool (fJ gr fl c)∧af=m5.set f (jm fl true)):=by
 obtain⟨h1,h2,h3⟩:=Au hp;have h:=Eu h1 (by rw[h2];omega) c (fun k=>?_) (jx gr c.id) (Nat.lt_of_lt_of_le (Mr hg c.id) br) f false d
 ·rw[h2] at h;exact h
 ·by_cases hk:k<8
  ·exact AB hc _ (by
    unfold F8.get;exact mR _ (by rw[c.f.h];exact hk))
  ·unfold F8.get;rw[cr,List.getElem?_eq_none (by rw[c.f.h];omega)];decide
abbrev mh(f:Nat)(mk:UInt32)(sm:Nat)(floor now:Int)(log:MV):aY:=.row 133 6 [[.ptr f 0 0,.int .u32 (mk.toNat:Int),.db sm,.int .i64 floor,.int .i64 now,log]]
def uH{nx:Int}{cs:List CA}(h:kR nx 0 cs=true)(hn:nx≤1073741824)(hl:cs.length≤1000000):Ql cs:=by obtain⟨h1,h2⟩:=k7 h;exact⟨h2,fun c hc=>by have:=h1 c hc;omega,hl⟩
def DA{P:Program}{id:Nat}{l:List Oper}{f:FR}{σ:St}{Q:MQ}(hm:P.follows .mixedOrders=true)(ds:List (Nat×Nat))(Ds:List Nat)(hds:ds.map (·.1)=Ds)(Rs:List (Nat×Nat))(dj:qE ⟨Ds,Rs,none,.no,[]⟩ l.toArray=true)(C:b9)
 (h1:∀p,p∈ds→∃i o,f.get p.1=.ptr p.2 i o)(h2:(ds.map (·.2)).Pairwise (·≠·))(h3:Ds.Pairwise (·≠·))(h4:∀p,p∈Rs→p.2∈Ds∧∀l i o,f.get p.1=.ptr l i o→l=vS ds p.2)
 (h:R (kB P C (@lv (Array Oper) (nat_lit 0) (@_root_.id (OfNat (Array Oper) (nat_lit 0)) (lw (l.toArray)))) (Q .normal) (@lv (List Oper) (nat_lit 0) (@_root_.id (OfNat (List Oper) (nat_lit 0)) (lw l))) f σ)):R (rD P id (@lv (List Oper) (nat_lit 0) (@_root_.id (OfNat (List Oper) (nat_lit 0)) (lw l))) f σ Q):=by subst hds;exact sL (C:=C.pl) (X:=⟨ds.map (·.1),Rs,none,.no,[]⟩) (loc:=fun t l=>l=vS ds t) hm (show oO ⟨ds.map (·.1),Rs,none,.no,[]⟩ (fun t l=>l=vS ds t) C.pl from⟨C.Ir.u,trivial⟩) dj (fun _ _ hd _ _ _ h=>vK hd h) (vw.of h1 h2 h3 h4) h
def tu0:TU:=⟨0,0,0,0,ig⟩
def oG(seq old id:Int)(c:CA)(is:Bool):TU:=⟨seq,id,old,if is=true then c.c9 else 0,if is=true then c else ig⟩
def Fx(seq old id:Int)(c:CA)(is:Bool):aA Tryz.prog 77 [.int .i64 seq,.int .i64 old,.int .i64 id,.agg c.c,.bool is] m5 (fun r _=>r=.ar [.agg (if old=(oG seq old id c is).new then tu0 else oG seq old id c is).c,.bool (!decide (old=(oG seq old id c is).new))]):=by
 refine n6 (mB 30 [.cell 10 128,.tmp 11] Tryz.func77 ?_);obtain⟨T,hT⟩:∃T,oG seq old id c is=T:=⟨_,rfl⟩
 have hn:T.new=if is=true then c.c9 else 0:=by rw[←hT];rfl
 have hTc:T.c=.int .i64 seq::.int .i64 id::.int .i64 old::.int .i64 (if is=true then c.c9 else 0)::(if is=true then c else ig).c:=by rw[←hT];rfl
 rw[hT];cases is
 ·simp only[al,if_false] at hn hTc;by_cases h:old=0
  ·rw[if_pos (h.trans hn.symm),decide_eq_true (h.trans hn.symm)];subst h;repeat' first|(refine wM ?_;(first|(have _:=ao)|(have _:=ak;intro ao)|(have _:=ah;intro ak)|(intro ah));intros)|refine bu @Tryz.f77.eq_1 @ai ?_|fail
   all_goals exact lE
  ·rw[if_neg (fun e=>h (e.trans hn)),decide_eq_false (fun e=>h (e.trans hn)),hTc];repeat' first|(refine wM ?_;(first|(have _:=ao)|(have _:=ak;intro ao)|(have _:=ah;intro ak)|(intro ah));intros)|refine bu @Tryz.f77.eq_1 @ai ?_|fail
   all_goals exact lE
 ·simp only[if_true] at hn hTc;by_cases h:old=c.c9
  ·rw[if_pos (h.trans hn.symm),decide_eq_true (h.trans hn.symm)];subst h;repeat' first|(refine wM ?_;(first|(have _:=ao)|(have _:=ak;intro ao)|(have _:=ah;intro ak)|(intro ah));intros)|refine bu @Tryz.f77.eq_1 @ai ?_|fail
   have d1:ao≠ah:=bc;refine DA mixed [(8,ah),(12,ao)] [8,12] rfl [(18,8),(21,12),(22,12)] dK (fun _ _=>none) ?h1 ?h2 br ?h4 ?go;case h1 =>
    intro p hp;simp only[cS,df,or_false] at hp;rcases hp with rfl|rfl
    ·exact⟨0,0,rfl⟩
    ·exact⟨0,0,rfl⟩
   case h2=>simp[ls d1]
   case h4 =>
    intro p hp;simp only[cS,df,or_false] at hp;rcases hp with rfl|rfl|rfl;all_goals exact⟨br,fun l i o h=>absurd h (by simp[FR.get,cV])⟩
   case go =>
    repeat' first|refine aw @ai ?_|fail
    all_goals exact lE
  ·rw[if_neg (fun e=>h (e.trans hn)),decide_eq_false (fun e=>h (e.trans hn)),hTc];repeat' first|(refine wM ?_;(first|(have _:=ao)|(have _:=ak;intro ao)|(have _:=ah;intro ak)|(intro ah));intros)|refine bu @Tryz.f77.eq_1 @ai ?_|fail
   have d1:ao≠ah:=bc;refine DA mixed [(8,ah),(12,ao)] [8,12] rfl [(18,8),(21,12),(22,12)] dK (fun _ _=>none) ?h1 ?h2 br ?h4 ?go;case h1 =>
    intro p hp;simp only[cS,df,or_false] at hp;rcases hp with rfl|rfl
    ·exact⟨0,0,rfl⟩
    ·exact⟨0,0,rfl⟩
   case h2=>simp[ls d1]
   case h4 =>
    intro p hp;simp only[cS,df,or_false] at hp;rcases hp with rfl|rfl|rfl;all_goals exact⟨br,fun l i o h=>absurd h (by simp[FR.get,cV])⟩
   case go =>
    repeat' first|refine aw @ai ?_|fail
    all_goals exact lE
def jG(log:List TU)(t:TU):List TU:=if log.length<40 then log++[t] else(log++[t]).drop 1
def qB(floor:Int)(log:List TU)(t:TU):Int:=if log.length<40 then floor else((log++[t]).headD tu0).sq
abbrev pk(log:List TU)(ex:List (List MV)):aY:=.row 128 31 (log.map nn++ex)
def xQ{P:Program}{g:FuncId}{ms:List MV}{σ:St}{n:Nat}{on o:aY}{u:Nat→MV}{k:MV→St→Prop}(hn:σ n=some on)(h:aA P g ms (m5.set n on) fun v af=>∃q,v=u q∧af=m5.set q o)(hk:∀q,(σ.del n) q=none→R (cD (u q) ((σ.del n).set q o) k)):R (dR P g ms σ k) :=
 bU h (m7 bt hn) fun v af hv hf=>by
  obtain⟨q,rfl,rfl⟩:=hv;have e:(m5.set q o).over (σ.minus (m5.set n on))=(σ.del n).set q o:=by
   rw[bS,dS]
   congr 1
   funext j;by_cases h2:j=n
   ·subst h2;simp[m6,nb,m8]
   ·simp[m6,m5,nb,m8,h2]
  rw[e];refine hk q ?_;rcases hf q o cj with h|⟨o',h⟩
  ·simp[m8,h]
  ·by_cases h2:q=n
   ·subst h2;simp[m8]
   ·rw[cn h2] at h;cases h
def Ih(y:TU)(L:List TU)(hl:L.length+1≤1000000)(tt:Bool):aA Tryz.prog 98 [.aj 31 ((y::L).map nn) tt] m5 (fun r af=>∃q,r=.vec 31 q 0 (L.length+1)∧af=m5.set q (.row 128 31 ((y::L).map nn))):=by
 refine(mB 8 [.tmp 2] Tryz.func98 ?_);repeat' first|(refine wO ?_;intros)|refine aw @Tryz.f98.eq_1 ?_|fail
 all_goals exact⟨_,rfl,rfl⟩
def Ii{g n:Nat}(xs:List (List MV))(y:TU)(L:List TU)(hn:n=L.length+1)(hl:L.length+1≤1000000)(h:(xs.drop 1).take n=(y::L).map nn)(hx:1+n≤xs.length) :
  aA Tryz.prog 98 [.vec 31 g 1 n] (m5.set g (.row 128 31 xs)) (fun r af=>∃q,r=.vec 31 q 0 (L.length+1)∧af=m5.set q (.row 128 31 ((y::L).map nn))) :=
 aA.pre (ms':=[.aj 31 ((y::L).map nn) false]) rfl (n7 (m5.set g (.row 128 31 xs)) ba bt (fun k o hk=>by cases hk) (fun p hp=>by
  simp only[jD,cx] at hp;subst hp;rw[←h];exact View.vec cj hx)) (Ih y L hl false)
def Bu{v g:Nat}(hvg:v≠g)(f sm:Nat)(mk:UInt32)(floor now:Int)(log:List TU)(hl:log.length≤40)(ex:List (List MV))(t:TU) :
  aA Tryz.prog 79 [.ptr v 0 0,.agg t.c] ((m5.set g (pk log ex)).set v (mh f mk sm floor now (.vec 31 g 0 log.length)))
   (fun _ af=>∃g' fu,v≠g'∧af=(m5.set g' (pk (jG log t) fu)).set v (mh f mk sm (qB floor log t) now (.vec 31 g' 0 (jG log t).length))):=by
 refine nP (Q':=fun _ af=>∃g' fu,v≠g'∧((m5.set g' (pk (jG log t) fu)).set v (mh f mk sm (qB floor log t) now (.vec 31 g' 0 (jG log t).length))).le af) (mB 39 [] Tryz.func79 ?_) fun v af ⟨g',fu,h1,h2⟩=>⟨_,h2,g',fu,h1,rfl⟩
 have ZB:=ls hvg;by_cases wa:log.length<40
 ·rw[show jG log t=log++[t] from if_pos wa,show qB floor log t=floor from if_pos wa];have hm:(log.map nn).length=log.length:=d7 _;have hQ:(log++[t]).map nn=log.map nn++[t.c]:=e8;have gv:(log.map nn++ex).drop (log.length+1)=ex.drop 1:=by rw[←hm,←hH,jy]
  have fi:(log.map nn++ex).take log.length=log.map nn:=gt hm;repeat' first|(refine wM ?_;(first|(have _:=ao)|(have _:=ak;intro ao)|(have _:=ah;intro ak)|(intro ah));intros)|refine wV ?_|(refine wY ?_ ?_<;>intro h)|refine wZ5 @Tryz.f79.eq_1 @ai @hm @gv @fi ?_|fail
  ·obtain rfl:ex=[]:=fv oM;clear gv fi h hm hl wa;refine⟨ao,[],bc,m7 (m7 bt ?_) ?_⟩
   ·rw[aD,pk,hQ,dy,dy]
   ·simp[m6, *]
  ·clear gv fi h hm hl wa;refine⟨ao,ex.drop 1,bc,m7 (m7 bt ?_) ?_⟩
   ·rw[aD,pk,hQ]
   ·simp[m6, *]
 ·have h4:log.length=40:=oM;obtain⟨t0,L,rfl⟩:∃t0 L,log=t0::L:=by
   cases log with
   |nil=>simp at h4
   |cons a b=>exact⟨a,b,rfl⟩
  rw[show jG (t0::L) t=L++[t] from if_neg wa,show qB floor (t0::L) t=t0.sq from if_neg wa];simp only[ew] at h4;have hm:(L.map nn).length=39:=by rw[d7];omega
  have hL:L.length=39:=oM;obtain⟨y,L',hy⟩:∃y L',L++[t]=y::L':=by
   cases L with
   |nil=>exact⟨t,[],rfl⟩
   |cons a b=>exact⟨a,b++[t],rfl⟩
  have hL':L'.length=39:=by have:=congrArg List.length hy;simp only[d9,ew,f5] at this;omega
  have hc:=fun(nl:Nat) (xs:List (List MV)) (h1:(xs.drop 1).take 40=(y::L').map nn) (h2:1+40≤xs.length)=>Ii (g:=nl) xs y L' oM oM h1 h2;rw[hL'] at hc;rw[hy];repeat' first|(refine wM ?_;(first|(have _:=ao)|(have _:=ak;intro ao)|(have _:=ah;intro ak)|(intro ah));intros)|refine wV ?_|(refine wY ?_ ?_<;>intro h)|refine jf @Tryz.f79.eq_1 @ai @hm @hL ?_|fail
  all_goals
   have vi:∀R:List (List MV),(L.map nn++t.c::R).take 40=(y::L').map nn:=fun R=>by rw[←hy,e8,show L.map nn++t.c::R=(L.map nn++[t.c])++R by simp];exact gt (by rw[d9,hm];rfl)
  ·obtain rfl:ex=[]:=fv oM;clear h;refine xQ cj (hc ao _ (by rw[ix,ia,dy];exact vi []) (by simp[hL])) fun q hq=>?_;have hqv:v≠q:=fun e=>by subst e;simp[m6,m8, *] at hq
   have hqv':=ls hqv;have hv3:v≠ao:=bc;repeat' first|refine aw @ai ?_|fail
   refine⟨q,[],hqv,m7 (m7 bt ?_) ?_⟩
   ·simp[m6, *]
   ·simp[m6, *]
  ·clear h;refine xQ cj (hc ao _ ?_ ?_) fun q hq=>?_
   ·rw[ix,ia,gt hm,gn];exact vi _
   ·rw[ew,gt hm,d9,d9,hm];simp only[ew,f5];omega
   have hqv:v≠q:=fun e=>by subst e;simp[m6,m8, *] at hq
   have hqv':=ls hqv;have hv3:v≠ao:=bc;repeat' first|refine aw @ai ?_|fail
   refine⟨q,[],hqv,m7 (m7 bt ?_) ?_⟩
   ·simp[m6, *]
   ·simp[m6, *]
def cR:Int→List Int→List (List MV)
 |_,[]=>[]
 |s,i::r=>[.int .i64 (s+1),.int .i64 i]::cR (s+1) r
theorem mN:∀(s:Int) (l:List Int),(cR s l).length=l.length
 |_,[]=>rfl
 |s,i::r=>by simp[cR,mN]
theorem mF:∀(s:Int) (l:List Int) (x:Int),cR s (l++[x])=cR s l++[[.int .i64 (s+l.length+1),.int .i64 x]]
 |s,[],x=>by simp[cR]
 |s,i::r,x=>by simp only[hP,cR,mF (s+1) r x,ew];have:s+1+(r.length:Int)+1=s+((r.length+1:Nat):Int)+1:=oM;rw[this]
def rL{sq:Int}(l:Nat)(g:MV){b p:Nat}(hbp:b≠p)(ids:List Int)(h0:0≤sq)(h1:sq≤1099511627776)(hl:ids.length≤1000000) :
  aA Tryz.prog 143 [.ptr b 0 0,.vec 1 p 0 ids.length] ((m5.set p (.row 3 1 (ids.map aU))).set b (bM sq l g)) (fun v af=>v=.aj 2 (cR sq ids) false∧af=m5.set b (bM (sq+ids.length) l g)):=by
 refine aA.DY (mB 32 [.tmp 4] Tryz.func143 ?_);have hpb:=ls hbp;repeat' first|refine aw @Tryz.f143.eq_1 ?_|fail
 refine aG (α:=Nat×Nat×List (List MV)) (fun z=>⟨32,[(10,.int .i64 (z.1:Int)),(9,.int .i64 (ids.length:Int)),(8,.vec 1 p 0 ids.length),(5,.vec 2 z.2.1 0 z.1),(0,.ptr b 0 0)],[]⟩)
  (fun z=>((m5.set p (.row 3 1 (ids.map aU))).set b (bM (sq+z.1) l g)).set z.2.1 (.row 73 2 (cR sq (ids.take z.1)++z.2.2))) (fun z=>z.1≤ids.length∧z.2.1≠p∧z.2.1≠b) (fun z=>ids.length-z.1) ?_ ?_
 ·refine Gh.yN 73 2 (fun r=>[(10,.int .i64 0),(9,.int .i64 (ids.length:Int)),(8,.vec 1 p 0 ids.length),(5,.vec 2 r 0 0),(0,.ptr b 0 0)]) (fun k=>by(repeat' (refine And.intro ?_ ?_))<;>first|exact trivial|exact .inl rfl|exact .inr ⟨rfl,.inl rfl⟩|exact .inr ⟨rfl,.inr rfl⟩) fun r hr=>?_;simp only[aM] at hr;obtain⟨r1,r2,-⟩:=hr;exact .done ⟨(0,r,[]),rfl,by simp[cR],kv _,bc,bc⟩
 ·rintro⟨i,r,xx⟩ ⟨hi,r1,r2⟩;simp only at hi r1 r2 ⊢;have r1':=ls r1;have r2':=ls r2;by_cases bh:i<ids.length
  ·obtain⟨x,hx⟩:=bX ids bh;have ay:=bJ (f:=aU) hx;have bn:(ids.map aU).length=ids.length:=d7 _;have fi:=aW hx;have tn:(ids.take i).length=i:=by rw[e9];omega
   obtain⟨L,hL⟩:∃L,ids.take i=L:=⟨_,rfl⟩
   rw[hL] at fi tn ⊢;have cc:=mF sq L x;rw[tn] at cc;have jv:=mN sq L;rw[tn] at jv;obtain⟨Q,hQ⟩:∃Q,cR sq L=Q:=⟨_,rfl⟩
   rw[hQ] at cc jv ⊢;have gv:(Q++xx).drop (i+1)=xx.drop 1:=by rw[←jv,←hH,jy]
   have sr:(Q++xx).take i=Q:=gt jv;have ZI:sq+((i+1:Nat):Int)=sq+(i:Int)+1:=oM;repeat' first|(refine wM ?_;(first|(have _:=ak)|(have _:=ah;intro ak)|(intro ah));intros)|(refine wY ?_ ?_<;>intro h)|refine wZ5 @ay @bn @jv @sr @gv ?_|fail
   all_goals try(exfalso;omega)
   all_goals
    clear ay sr gv;have p1:ak≠p:=bc;have p2:ak≠b:=bc
   ·have hex:xx=[]:=fv oM;subst hex;clear h;refine .of (.less ?_ ?_) ⟨(i+1,ak,[]),rfl,rfl,⟨by simp only;omega,p1,p2⟩,by simp only;omega⟩
    ·exact wW
    ·simp only[fi,cc,ZI];exact m7 (m7 (m7 bt sS) sS) sS
   ·clear h;refine .of (.less ?_ ?_) ⟨(i+1,ak,xx.drop 1),rfl,rfl,⟨by simp only;omega,p1,p2⟩,by simp only;omega⟩
    ·exact wW
    ·simp only[fi,cc,ZI];exact m7 (m7 (m7 bt sS) sS) sS
  ·have:i=ids.length:=oM;subst this;rw[eh];repeat' first|refine ed ?_|fail
   all_goals
    exact⟨m5.set r (.row 73 2 (cR sq ids++xx)),m7 bt sS,m7 bt sS,fun k o hk=>(cn (fun e=>by subst e;simp[m6,m5, *] at hk)).trans rfl,dT cj (mN _ _).symm⟩
noncomputable def nk(B:BK)(fl:List ND):List CA:=B.ae.filter (fJ B.gr fl)
noncomputable abbrev vwR(fl:List ND)(d:Bool)(f sm v:Nat)(mk:UInt32)(floor now:Int)(log:MV)(cs:List CA):St:=((m5.set f (jm fl d)).set sm (.mp (ZV cs))).set v (mh f mk sm floor now log)
structure V9 (f sm v:Nat):Prop where
 sf:sm≠f
 vf:v≠f
 vs:v≠sm
def Lq{B:BK}(hb:BkR B)(h3:B.gr.length≤1000000)(h4:∀g,g∈B.gr→g.mem.length≤1000000){m l q b:Nat}(D:eB m l q b)(ex:List (List MV)){fl:List ND}(hp:bR fl=0)(tt:Bool){mk:UInt32}(hm:mk.toNat≤511) :
  aA Tryz.prog 15 [.ptr b 0 0,.aj 5 (fl.map ND.c) tt,.int .u32 (mk.toNat:Int)] (dh m l q b B ex) (fun r af=>∃ρ:St,(∀j o,ρ j=some o→dh m l q b B ex j=none)∧af=ρ.over (dh m l q b B ex)∧∃f sm v d,V9 f sm v∧r=.ptr v 0 0∧ρ=vwR fl d f sm v mk B.sq B.sq .aK (nk B fl)):=by
 refine nP (Q':=fun r af=>∃f sm v d,V9 f sm v∧r=.ptr v 0 0∧(∀j,(j=f∨j=sm∨j=v)→dh m l q b B ex j=none)∧(dh m l q b B ex).le af∧(vwR fl d f sm v mk B.sq B.sq .aK (nk B fl)).le af) (mB 60 [.tmp 6] Tryz.func15 ?_) fun v af h=>?_
 rotate_left
 ·obtain⟨f,sm,v,d,hd,rfl,hn,h1,h2⟩:=h;have kj:∀j o,vwR fl d f sm v mk B.sq B.sq .aK (nk B fl) j=some o→dh m l q b B ex j=none:=fun j o hj=>hn j (by
   by_cases j1:j=v
   ·exact .inr (.inr j1)
   ·by_cases j2:j=sm
    ·exact .inr (.inl j2)
    ·by_cases j3:j=f
     ·exact .inl j3
     ·simp[m6,m5,j1,j2,j3] at hj)
  refine⟨(vwR fl d f sm v mk B.sq B.sq .aK (nk B fl)).over (dh m l q b B ex),fun j o hj=>?_,_,kj,rfl,f,sm,v,d,hd,rfl,rfl⟩;rcases kK hj with hj|⟨_,hj⟩
  ·exact h2 j o hj
  ·exact h1 j o hj
 have hpn:=Lb fl (by have:=(Au hp).2.2;omega) tt hp;have hmc:=wJ mk;rw[decide_eq_true hm] at hmc;have hri:=uH hb.cok hb.nx2 (by have:=hb.nc;omega);have je:=Ic B.sq l b (.aj 2 (B.gr.map b3) false);have It:=tF B.nx B.sq (.vec 3 q 0 B.dead.length) (.aj 2 (B.gr.map b3) false) B.ae D.lm D.bm D.bl hri;have hgr:=nB B.sq l b B.gr h3 h4 hb.gok;have Zi:=hb.nc;obtain⟨d1,d2,d3,d4,d5,d6⟩:=D;have e1:=ls d1;have e2:=ls d2;have e3:=ls d3;have e4:=ls d4;have e5:=ls d5;have e6:=ls d6;repeat' first|(refine hU hpn ?_;(intro f hf;try (simp only[aM] at hf;obtain⟨f1,f2,f3,f4,-⟩:=hf;have f1':=ls f1;have f2':=ls f2;have f3':=ls f3;have f4':=ls f4)))|(refine dB je (m7 bt sS) ?_)|(refine dB It (m7 (ni sS sS) sS) ?_)|(with_reducible first|refine up hmc ?_)|(refine wM ?_;(first|(have _:=ak)|(have _:=ah;intro ak)|(intro ah));intros)|refine aw @Tryz.f15.eq_1 ?_|fail
 have n1:ah≠b:=bc;have n2:ah≠q:=bc;have n3:ah≠l:=bc;have n4:ah≠m:=bc;have n5:ah≠f:=bc;have v1:ak≠b:=bc;have v2:ak≠q:=bc;have v3:ak≠l:=bc;have v4:ak≠m:=bc;have v5:ak≠f:=bc;have v6:ak≠ah:=bc;obtain⟨PB,hPB⟩:∃PB,PB=fJ B.gr fl:=⟨_,rfl⟩
 refine aG (α:=Nat×Bool) (fun z=>⟨60,[(36,.int .i64 (z.1:Int)),(35,.int .i64 (B.ae.length:Int)),(34,.aj 27 (B.ae.map CA.c) false),(8,.ptr ak 0 0),(0,.ptr b 0 0)],[]⟩)
  (fun z=>(((dh m l q b B ex).set f (jm fl z.2)).set ah (.mp (ZV ((B.ae.take z.1).filter PB)))).set ak (mh f mk ah B.sq B.sq .aK)) (fun z=>z.1≤B.ae.length) (fun z=>B.ae.length-z.1) (.of (.less ?_ ba) ⟨(0,false),rfl,rfl,kv _⟩) ?_
 ·exact wW
 ·rintro⟨i,d⟩ hi;have hi:i≤B.ae.length:=hi;by_cases bh:i<B.ae.length
  ·obtain⟨x,hx⟩:=bX B.ae bh;have ay:=bJ (f:=CA.c) hx;have fi:=aW hx;have qy:=rK hp hb.gok (r7 hb (dJ hx)).1 f d;have hgx:=hgr x.id;have ef:=UA ((B.ae.take i).filter PB);have jj:dW .i64 x.id (.int .i64 x.c9) (ZV ((B.ae.take i).filter PB))=ZV ((B.ae.take i).filter PB++[x]):=G8 fun hm=>by obtain⟨c,hc,he⟩:=cv.1 hm;have hc:=(ff.1 hc).1;have hpw:=hri.1;rw[rT B.ae hx,gj] at hpw;have:=hpw.2.2 c hc x ax;omega
   have sg:(B.ae.take (i+1)).filter PB=(B.ae.take i).filter PB++(if PB x=true then[x] else[]):=by
    rw[fi,fj]
    congr 1
    by_cases h:PB x=true
    ·simp[h]
    ·simp[h]
   obtain⟨C,c1⟩:=kw1 67 ⟨[b],fun v=>v=.int .u32 (jx B.gr x.id:Int),none⟩;rw[←hPB] at qy;obtain⟨es,hes⟩:∃es,(B.ae.take i).filter PB=es:=⟨_,rfl⟩
   rw[hes] at ef jj sg ⊢;obtain⟨sb,ug⟩:∃sb,PB x=sb:=⟨_,rfl⟩
   rw[ug] at qy sg;obtain⟨g,hg⟩:∃g:Int,(jx B.gr x.id:Int)=g:=⟨_,rfl⟩
   rw[hg] at qy hgx c1;cases sb
   ·rw[if_neg ax,dy] at sg;repeat' first|(refine bZ mixed C [_,_,_,_,_,_,_,_,_] [] rfl dK ?_)|(refine eR [b] [bM B.sq l (.aj 2 (B.gr.map b3) false)] (c1 _) sS hgx ?_)|(refine cB sS qy ?_)|(refine wM ?_;intros)|refine bu @ai @ay ?_|fail
    all_goals try(exfalso;omega)
    refine .of (.less ?_ (σ1:=(((dh m l q b B ex).set f (jm fl true)).set ah (.mp (ZV (es)))).set ak (mh f mk ah B.sq B.sq .aK)) (gQ (by clear hgx qy c1 ef sg ay fi;simp[m6,m5, *]))) ⟨(i+1,true),rfl,by simp only[sg],(by omega:i+1≤B.ae.length),by simp only;omega⟩;exact wW
   ·rw[if_pos rfl] at sg;repeat' first|(refine bZ mixed C [_,_,_,_,_,_,_,_,_] [] rfl dK ?_)|(refine eR [b] [bM B.sq l (.aj 2 (B.gr.map b3) false)] (c1 _) sS hgx ?_)|(refine cB sS qy ?_)|(refine wM ?_;intros)|refine wV ?_|refine jf @ai @ay @ef @jj ?_|fail
    all_goals try(exfalso;omega)
    refine .of (.less ?_ (σ1:=(((dh m l q b B ex).set f (jm fl true)).set ah (.mp (ZV (es++[x])))).set ak (mh f mk ah B.sq B.sq .aK)) (gQ (by clear hgx qy c1 ef sg ay fi;simp[m6,m5, *]))) ⟨(i+1,true),rfl,by simp only[sg],(by omega:i+1≤B.ae.length),by simp only;omega⟩;exact wW
  ·have:i=B.ae.length:=oM;subst this;rw[eh];repeat' first|refine ed ?_|fail
   have eu:∀{σ:St},σ=(((dh m l q b B ex).set f (jm fl d)).set ah (.mp (ZV (B.ae.filter PB)))).set ak (mh f mk ah B.sq B.sq .aK)→∃f sm v d,V9 f sm v∧MV.ptr ak 0 0=.ptr v 0 0∧(∀j,(j=f∨j=sm∨j=v)→dh m l q b B ex j=none)∧(dh m l q b B ex).le σ∧(vwR fl d f sm v mk B.sq B.sq .aK (nk B fl)).le σ:=fun {σ} hσ=>by
    subst hσ;subst hPB;have q1:dh m l q b B ex f=none:=by simp[m6,m5,f1,f2,f3,f4]
    have q2:dh m l q b B ex ah=none:=by simp[m6,m5,n1,n2,n3,n4]
    have q3:dh m l q b B ex ak=none:=by simp[m6,m5,v1,v2,v3,v4]
    refine⟨f,ah,ak,d,⟨n5,v5,v6⟩,rfl,fun j hj=>?_,?_,?_⟩
    ·rcases hj with rfl|rfl|rfl<;>assumption
    ·intro j o hj;rw[cn (fun e=>by subst e;rw[q3] at hj;cases hj),cn (fun e=>by subst e;rw[q2] at hj;cases hj),cn (fun e=>by subst e;rw[q1] at hj;cases hj)];exact hj
    ·exact St.nF (St.nF (St.nF bt))
   exact eu rfl
def Q2(B:BK)(fl:List ND):Ux B fl=(nk B fl).map bg:=rfl
def IU{B:BK}(hb:BkR B)(fl:List ND):Ql (nk B fl):=by have h:=uH hb.cok hb.nx2 (by have:=hb.nc;omega);refine⟨h.1.filter _,fun c hc=>h.2.1 c (ff.1 hc).1,ld (gy _ _) h.2.2⟩
abbrev cdX(cs:List CA):List (List MV):=cs.map fun c=>[.agg c.c]
noncomputable abbrev yb(m l q b:Nat)(B:BK)(ex:List (List MV))(fl:List ND)(f pb pf:Nat)(d:Bool):St:=(((dh m l q b B ex).set f (jm fl d)).set pb (.row 34 1 [[.ptr b 0 0]])).set pf (.row 79 1 [[.ptr f 0 0]])
structure T8 (m l q b f pb pf:Nat):Prop where
 h1:f≠m∧f≠l∧f≠q∧f≠b
 h2:pb≠m∧pb≠l∧pb≠q∧pb≠b∧pb≠f
 h3:pf≠m∧pf≠l∧pf≠q∧pf≠b∧pf≠f∧pf≠pb
def Fm{g1 g2:FuncId}{r1 r2:List Nat}{q1 q2:MV→Prop}{x2:List aY×(Nat→MV)}:pq (.dz [g2]) (nu [(g1,⟨r1,q1,none⟩),(g2,⟨r2,q2,some x2⟩)]):=by
 intro g' ms rd q' x' h;simp only[nu] at h;split at h
 ·cases h
 ·split at h
  ·rename_i e;subst e;exact .inr (cx.2 rfl)
  ·cases h
def Bj(c:CA):∀m,m∈[MV.agg c.c]→kA m:=fun m hm=>by
 rw[cx] at hm;subst hm;refine .flat (.agg fun x hx=>?_);simp only[CA.c,cS] at hx;rcases hx with rfl|rfl|rfl|hx
 ·exact .int _ _
 ·exact .int _ _
 ·exact .int _ _
 ·unfold fc at hx;obtain⟨v,hv,hx⟩:=List.mem_flatten.1 hx;obtain⟨a,_,rfl⟩:=cv.1 hv;simp only[VA.c,cS,df,or_false] at hx;rcases hx with rfl|rfl|rfl
  ·exact .int _ _
  ·exact .int _ _
  ·exact .str _
def Uy{D:Nat→Prop}(l:List Int):∀x,x∈l.map (fun i=>[MV.int .i64 i])→∀m,m∈x→qo D m:=fun x hx m hm=>by obtain⟨i,_,rfl⟩:=cv.1 hx;rw[cx] at hm;subst hm;exact .flat (.int _ _)
def Q7{D:Nat→Prop}(x:ND):∀m,m∈x.c→qo D m:=fun m hm=>by simp only[ND.c,cS,df,or_false] at hm;rcases hm with rfl|rfl|rfl|rfl|rfl<;>first|exact .flat (.int _ _)|exact .flat (.str _)
def Q6{D:Nat→Prop}(x:ND):qo D (Dr x):=by
 unfold Dr Dq;refine .fn (fun m hm=>by cases hm) fun m hm=>?_;split at hm
 ·rw[cx] at hm;subst hm;exact .cg (Q7 x)
 ·cases hm
theorem Am{D:Nat→Prop}:∀t:T,qo D (lY t)
 |.leaf x=>Q6 x
 |.one _ a=>.fn (fun m hm=>by cases hm) fun m hm=>by
  rw[cx] at hm;subst hm;exact .cg fun m hm=>by
   rw[cx] at hm;subst hm;exact Am a
 |.two x a b=>.fn (fun m hm=>by cases hm) fun m hm=>by
  simp only[cS,df,or_false] at hm;rcases hm with rfl|rfl
  ·exact .cg fun m hm=>by rw[cx] at hm;subst hm;exact Am a
  ·exact .cg fun m hm=>by rw[cx] at hm;subst hm;exact Am b
def XP{D:Nat→Prop}(x:DE):∀m,m∈x.c→qo D m:=fun m hm=>by simp only[bj,cS,df,or_false] at hm;rcases hm with rfl|rfl|rfl<;>exact .flat (.int _ _)
def XQ{D:Nat→Prop}(x:GR):∀m,m∈x.c→qo D m:=fun m hm=>by
 simp only[b3,cS,df,or_false] at hm;rcases hm with rfl|rfl
 ·exact .flat (.int _ _)
 ·exact .aj (Uy _)
def Pk{B:BK}(hb:BkR B)(h3:B.gr.length≤1000000)(h4:∀g,g∈B.gr→g.mem.length≤1000000){m l q b f pb pf:Nat}(D:eB m l q b)(DI:T8 m l q b f pb pf)(ex:List (List MV)){fl:List ND}(hp:bR fl=0)(d:Bool) :
  Gj Tryz.prog 290 [.ptr pb 0 0,.ptr pf 0 0] (yb m l q b B ex fl f pb pf d) (cdX (nk B fl)) (fun τ=>(yb m l q b B ex fl f pb pf (d || decide (0<B.ae.length))).le τ):=by
 refine Gj.gY 27 Tryz.func290 rfl rfl rfl rfl fun C hC jz=>?_;have hri:=uH hb.cok hb.nx2 (by have:=hb.nc;omega);have It:=tF B.nx B.sq (.vec 3 q 0 B.dead.length) (.aj 2 (B.gr.map b3) false) B.ae D.lm D.bm D.bl hri;have hgr:=nB B.sq l b B.gr h3 h4 hb.gok;have Zi:=hb.nc;have zt:(cdX (nk B fl)).length=(nk B fl).length:=d7 _;rw[zt];obtain⟨d1,d2,d3,d4,d5,d6⟩:=D;obtain⟨⟨f1,f2,f3,f4⟩,⟨p1,p2,p3,p4,p5⟩,⟨r1,r2,r3,r4,r5,r6⟩⟩:=DI;have e1:=ls d1;have e2:=ls d2;have e3:=ls d3;have e4:=ls d4;have e5:=ls d5;have e6:=ls d6;have f1':=ls f1;have f2':=ls f2;have f3':=ls f3;have f4':=ls f4;have p1':=ls p1;have p2':=ls p2;have p3':=ls p3;have p4':=ls p4;have p5':=ls p5;have r1':=ls r1;have r2':=ls r2;have r3':=ls r3;have r4':=ls r4;have r5':=ls r5;have r6':=ls r6;obtain⟨PB,hPB⟩:∃PB,PB=fJ B.gr fl:=⟨_,rfl⟩
 refine bO (j8 (nJ ?_));repeat' first|(refine dB It (m7 (ni sS sS) sS) ?_)|(refine wO ?_;intros)|(refine wY ?_ ?_<;>intro h)|refine aw @Tryz.f290.eq_1 ?_|exact ev @Tryz.f290.eq_1|fail
 refine bO (sU (Jt (α:=Nat×Nat×Bool) (fun a=>⟨27,[(0,.fn (.yield C.l) [] []),(9,.int .i64 (a.1:Int)),(8,.int .i64 (B.ae.length:Int)),(7,.aj 27 (B.ae.map CA.c) false),(1,.ptr pb 0 0),(2,.ptr pf 0 0)],[]⟩) (fun a=>yb m l q b B ex fl f pb pf a.2.2) (fun a=>some a.2.1)
   (fun a=>a.1≤B.ae.length∧((B.ae.take a.1).filter PB).length=a.2.1∧a.2.2=(d || decide (0<a.1))) (fun a=>B.ae.length-a.1) ?_ ?_))
 ·refine .of (.less ?_ ba) ⟨(0,0,d),rfl,rfl,rfl,kv _,rfl,ax⟩;exact wW
 ·rintro⟨i,j,d1⟩ ⟨hi,hj,Zy⟩;simp only at hi hj Zy ⊢;refine j8 (nJ ?_);repeat' first|(refine wO ?_;intros)|(refine wY ?_ ?_<;>intro h)|refine ed ?_|exact ll|fail
  by_cases bh:i<B.ae.length
  ·obtain⟨x,hx⟩:=bX B.ae bh;have ay:=bJ (f:=CA.c) hx;refine bO (j8 (nJ ?_));repeat' first|(refine wO ?_;intros)|(refine wY ?_ ?_<;>intro h)|refine aw @ay ?_|exact ev @ay|fail
   refine bO (j8 (sU (j8 (nJ ?_))));repeat' first|(refine wO ?_;intros)|(refine wY ?_ ?_<;>intro h)|refine bu @ay @ai ?_|exact fk @ay @ai|fail
   have qy:=rK hp hb.gok (r7 hb (dJ hx)).1 f d1;have hgx:=hgr x.id;obtain⟨g,hg⟩:∃g:Int,(jx B.gr x.id:Int)=g:=⟨_,rfl⟩
   rw[hg] at qy hgx;rw[←hPB] at qy;have fi:=aW hx;have hsp:=rT B.ae hx;obtain⟨sb,ug⟩:∃sb,PB x=sb:=⟨_,rfl⟩
   rw[ug] at qy;obtain⟨DK,hDK,c1,c2⟩:∃DK:b9,pq (.dz [66]) DK∧(∀ms,DK 67 ms=some ⟨[b],fun v=>v=.int .u32 g,none⟩)∧∀ms,DK 66 ms=some ⟨[f],fun _=>True,some ([jm fl true],fun _=>.bool sb)⟩ :=
    ⟨nu [(67,⟨[b],fun v=>v=.int .u32 g,none⟩),(66,⟨[f],fun _=>True,some ([jm fl true],fun _=>.bool sb)⟩)],Fm,fun _=>cH,fun _=>iB cH⟩
   refine bO (j8 (LV mixed [66] DK hDK [_,_,_,_,_,_,_,_,_,_] [_,_] rfl dK jz ?_));cases sb
   ·repeat' first|(refine vQ [b] [bM B.sq l (.aj 2 (B.gr.map b3) false)] (c1 _) sS hgx ?_)|(refine cZ (c2 _) sS qy ?_)|(refine wO ?_;intros)|(refine wY ?_ ?_<;>intro h)|refine aw @ai ?_|exact ev @ai|fail
    refine bO (nJ ?_);repeat' first|(refine wO ?_;intros)|(refine wY ?_ ?_<;>intro h)|refine ed ?_|exact ll|fail
    refine bO (nJ ?_);repeat' first|(refine wO ?_;intros)|(refine wY ?_ ?_<;>intro h)|refine ed ?_|exact ll|fail
    refine .of (.less ?_ (gQ (by simp only[aM];exact⟨bc,bc,bc,bc,bc,bc,bc,rfl⟩))) ⟨(i+1,j,true),rfl,rfl,rfl,⟨by simp only;omega,?_,ax⟩,by simp only;omega⟩
    ·exact wW
    ·simp only;rw[fi,fj,d9,hj];simp[ug]
   ·repeat' first|(refine vQ [b] [bM B.sq l (.aj 2 (B.gr.map b3) false)] (c1 _) sS hgx ?_)|(refine cZ (c2 _) sS qy ?_)|(refine wO ?_;intros)|(refine wY ?_ ?_<;>intro h)|refine aw @ai ?_|exact ev @ai|fail
    have hxs:C.xs[j]?=some [.agg x.c]:=by rw[hC,ey,nk,←hPB,hsp,fj,f8 oM,hj,lf,List.filter_cons_of_pos (by simpa using ug)];rfl
    refine Js rfl hxs (Bj x) rfl ?_ ?_
    ·repeat' first|(refine wO ?_;intros)|(refine wY ?_ ?_<;>intro h)|refine ed ?_|exact ll|fail
     refine bO (nJ ?_);repeat' first|(refine wO ?_;intros)|(refine wY ?_ ?_<;>intro h)|refine ed ?_|exact ll|fail
     refine bO (nJ ?_);repeat' first|(refine wO ?_;intros)|(refine wY ?_ ?_<;>intro h)|refine ed ?_|exact ll|fail
     refine .of (.less ?_ (gQ (by simp only[aM];exact⟨bc,bc,bc,bc,bc,bc,bc,rfl⟩))) ⟨(i+1,j+1,true),rfl,rfl,rfl,⟨by simp only;omega,?_,ax⟩,by simp only;omega⟩
     ·exact wW
     ·simp only;rw[fi,fj,d9,hj];simp[ug]
    ·repeat' first|(refine wO ?_;intros)|(refine wY ?_ ?_<;>intro h)|refine ed ?_|exact ll|fail
     refine bO (nJ ?_);repeat' first|(refine wO ?_;intros)|(refine wY ?_ ?_<;>intro h)|refine ed ?_|exact ll|fail
     rw[show(d || decide (0<B.ae.length))=true by rw[decide_eq_true oM];simp];exact⟨rfl,.inr rfl,gQ (by simp only[aM];exact⟨bc,bc,bc,bc,bc,bc,bc,rfl⟩)⟩
  ·have:i=B.ae.length:=oM;subst this;rw[eh,hPB] at hj;refine bO (j8 (nJ ?_));repeat' first|(refine wO ?_;intros)|(refine wY ?_ ?_<;>intro h)|refine ed ?_|exact ll|fail
   rw[Zy];exact⟨rfl,.inl (by rw[←hj];rfl),ba⟩
def Wy{m l q b f pb pf:Nat}{B:BK}{ex:List (List MV)}{fl:List ND}(d d0:Bool)(hex:∀x,x∈ex→∀y,y∈x→qo (fun k=>yb m l q b B ex fl f pb pf d0 k≠none) y){τ:St}(hτ:(yb m l q b B ex fl f pb pf d).le τ) :
  ∀k o,yb m l q b B ex fl f pb pf d0 k≠none→τ k=some o→InO (fun k=>yb m l q b B ex fl f pb pf d0 k≠none) o:=by
 intro k o hk ho;obtain⟨o',ho'⟩:∃o',yb m l q b B ex fl f pb pf d k=some o':=by
  cases e:yb m l q b B ex fl f pb pf d k with
  |some o'=>exact⟨o',rfl⟩
  |none =>
   exfalso;simp only[uO] at hk;rw[aM] at e;obtain⟨e1,e⟩:=e;rw[aM] at e;obtain⟨e2,e⟩:=e;rw[aM] at e;obtain⟨e3,e⟩:=e;rw[aM] at e;obtain⟨e4,e⟩:=e;rw[aM] at e;obtain⟨e5,e⟩:=e;rw[aM] at e;obtain⟨e6,e⟩:=e;rw[aM] at e;obtain⟨e7,e⟩:=e;rcases hk with h|h|h|h|h|h|h|h
   ·exact e1 h
   ·exact e2 h
   ·exact e3 h
   ·exact e4 h
   ·exact e5 h
   ·exact e6 h
   ·exact e7 h
   ·exact h rfl
 have e:=hτ k o' ho';rw[ho] at e;obtain rfl:=mt e;have one:∀{D:Nat→Prop} {a c:Nat} {x:MV},qo D x→InO D (.row a c [[x]]):=fun hx y hy z hz=>by rw[cx] at hy;subst hy;rw[cx] at hz;subst hz;exact hx
 rcases j7 ho' with⟨rfl,rfl⟩|⟨_,h⟩
 ·exact one (.ptr (by simp only[uO];simp))
 rcases j7 h with⟨rfl,rfl⟩|⟨_,h⟩
 ·exact one (.ptr (by simp only[uO];simp))
 rcases j7 h with⟨rfl,rfl⟩|⟨_,h⟩
 ·intro y hy z hz;rw[cx] at hy;subst hy;simp only[cS,df,or_false] at hz;rcases hz with rfl|rfl|rfl|rfl|rfl
  ·exact .aj fun x hx=>by obtain⟨n,_,rfl⟩:=cv.1 hx;exact Q7 n
  ·exact .flat (.int _ _)
  ·exact .flat (.int _ _)
  ·exact .flat (.int _ _)
  ·split
   ·exact Am _
   ·exact .flat .cw
 rcases j7 h with⟨rfl,rfl⟩|⟨_,h⟩
 ·intro y hy z hz;rw[cx] at hy;subst hy;simp only[cS,df,or_false] at hz;rcases hz with rfl|rfl|rfl
  ·exact .flat (.int _ _)
  ·exact .ptr (by simp only[uO];simp)
  ·exact .aj fun x hx=>by obtain⟨n,_,rfl⟩:=cv.1 hx;exact XQ n
 rcases j7 h with⟨rfl,rfl⟩|⟨_,h⟩
 ·intro y hy;rcases ez.1 hy with hy|hy
  ·obtain⟨n,_,rfl⟩:=cv.1 hy;exact XP n
  ·exact hex y hy
 rcases j7 h with⟨rfl,rfl⟩|⟨_,h⟩
 ·intro y hy z hz;rw[cx] at hy;subst hy;simp only[cS,df,or_false] at hz;rcases hz with rfl|rfl|rfl
  ·exact .flat (.int _ _)
  ·exact .db (by simp only[uO];simp)
  ·exact .vec (by simp only[uO];simp)
 rcases j7 h with⟨rfl,rfl⟩|⟨_,h⟩
 ·intro z hz;obtain⟨c,_,rfl⟩:=cv.1 hz;exact⟨.flat (.int _ _),.of (Bj c _ (cx.2 rfl))⟩
 ·cases h
def Pj(b f:Nat):aA Tryz.prog 244 [.ptr b 0 0,.ptr f 0 0] m5 (fun v af=>∃m l,l≠m∧v=.fn (.func 290) [] [.ptr m 0 0,.ptr l 0 0]∧af=(m5.set m (.row 34 1 [[.ptr b 0 0]])).set l (.row 79 1 [[.ptr f 0 0]])):=by
 refine(mB 6 [.tmp 4] Tryz.func244 ?_);repeat' first|(refine wO ?_;intros)|(refine wY ?_ ?_<;>intro h)|refine aw @Tryz.f244.eq_1 ?_|exact ev @Tryz.f244.eq_1|fail
 all_goals exact⟨_,_,bc,rfl,rfl⟩
def aA.MU{P:Program}{g:FuncId}{ms:List MV}{σ:St}{X:MV}{Q:St→Prop}(h:aA P g ms σ fun v af=>∃τ jk:St,Q τ∧jk.le af∧τ.le af∧(∀k o,τ k=some o→jk k=none)∧View jk v X):aA P g ms σ fun v af=>v=X∧Q af :=
 aA.ghost (h.mono fun v af ⟨τ,jk,h0,h1,h2,h3,h4⟩=>⟨X,τ,n7 jk h1 h2 h3 (fun p hp=>by
  simp at hp;subst hp;simpa[cV] using h4),rfl,h0⟩)
noncomputable abbrev ln(m l q b:Nat)(B:BK)(f:Nat)(fl:List ND)(d:Bool):St:=(dh m l q b B []).set f (jm fl d)
def XE{m l q b f pb pf:Nat}{B:BK}{fl:List ND}(d0:Bool){d:Bool}{τ S:St}(DI:T8 m l q b f pb pf)(hτ:(yb m l q b B [] fl f pb pf d).le τ):(ln m l q b B f fl d).le ((yb m l q b B [] fl f pb pf d0).lR τ S):=by
 obtain⟨⟨f1,f2,f3,f4⟩,⟨p1,p2,p3,p4,p5⟩,⟨r1,r2,r3,r4,r5,r6⟩⟩:=DI;intro k o hk;have hd:k=f∨k=b∨k=q∨k=l∨k=m:=by
  rcases j7 hk with⟨e,_⟩|⟨_,h⟩
  ·exact .inl e
  rcases j7 h with⟨e,_⟩|⟨_,h⟩
  ·exact .inr (.inl e)
  rcases j7 h with⟨e,_⟩|⟨_,h⟩
  ·exact .inr (.inr (.inl e))
  rcases j7 h with⟨e,_⟩|⟨_,h⟩
  ·exact .inr (.inr (.inr (.inl e)))
  rcases j7 h with⟨e,_⟩|⟨_,h⟩
  ·exact .inr (.inr (.inr (.inr e)))
  ·cases h
 have k1:k≠pb:=fun e=>by
  subst e;rcases hd with e|e|e|e|e
  ·exact p5 e
  ·exact p4 e
  ·exact p3 e
  ·exact p2 e
  ·exact p1 e
 have k2:k≠pf:=fun e=>by
  subst e;rcases hd with e|e|e|e|e
  ·exact r5 e
  ·exact r4 e
  ·exact r3 e
  ·exact r2 e
  ·exact r1 e
 have h1:yb m l q b B [] fl f pb pf d k=some o:=(cn k2).trans ((cn k1).trans hk);have h2:yb m l q b B [] fl f pb pf d0 k≠none:=by
  have:ln m l q b B f fl d k≠none:=by rw[hk];exact fun e=>by cases e
  simp only[uO] at this ⊢;exact .inr (.inr this)
 unfold St.lR;rw[if_pos (Option.isSome_iff_ne_none.2 h2)];exact hτ k o h1
def Q8{σi τ σ:St}{k:Nat}{o:aY}(hk:σ k=some o)(h:σi k=none):σi.lR τ σ k=some o:=by unfold St.lR;rw[h];exact hk
abbrev inS(n1 q j:Nat)(R ex:List (List MV)):St:=(m5.set n1 (.row 75 1 [[.vec 1 q 0 j]])).set q (.row 3 1 (R++ex))
abbrev Zl(c:CA):List MV:=[.int .i64 c.id]
def Ld{B:BK}(hb:BkR B)(h3:B.gr.length≤1000000)(h4:∀g,g∈B.gr→g.mem.length≤1000000){m l q b f:Nat}(D:eB m l q b)(hf:f≠m∧f≠l∧f≠q∧f≠b){fl:List ND}(hp:bR fl=0)(d:Bool) :
  aA Tryz.prog 195 [.ptr b 0 0,.ptr f 0 0] (ln m l q b B f fl d) (fun r af=>r=.aj 1 ((nk B fl).map Zl) false∧af=ln m l q b B f fl (d || decide (0<B.ae.length))):=by
 obtain⟨d',xi⟩:∃d',(d || decide (0<B.ae.length))=d':=⟨_,rfl⟩
 rw[xi];refine aA.MU (Q:=fun af=>af=ln m l q b B f fl d') (mB 17 [.tmp 4] Tryz.func195 ?_);obtain⟨f1,f2,f3,f4⟩:=hf;have uq:=Pj b f;have vj:=fun {pb pf:Nat} (DI:T8 m l q b f pb pf)=>Pk hb h3 h4 D DI [] hp d;obtain⟨X,hX⟩:∃X,nk B fl=X:=⟨_,rfl⟩
 have hXl:X.length≤1000000:=by rw[←hX];exact(IU hb fl).2.2
 simp only[hX,xi] at vj ⊢;repeat' first|(refine Jm uq ?_;(intro pb pf hpb hpf fg;have hpb1:=hpb;have hpf1:=hpf;simp only[aM] at hpb1 hpf1))|(refine wM ?_;(first|(have _:=az)|(have _:=ao;intro az)|(have _:=ak;intro ao)|(have _:=ah;intro ak)|(intro ah));intros)|refine wV ?_|(refine wY ?_ ?_<;>intro h)|refine aw @Tryz.f195.eq_1 ?_|exact ev @Tryz.f195.eq_1|fail
 obtain⟨b1,b4,b5,b6,b7,b8,-⟩:=hpb1;obtain⟨c1,c4,c5,c6,c7,c8,-⟩:=hpf1;have g1:ah≠f:=bc;have ha:∀{k:Nat},k≠m→k≠l→k≠q→k≠b→dh m l q b B [] k=none:=fun h1 h2 h3 h4=>by simp only[aM];exact⟨h4,h3,h2,h1,rfl⟩
 have m1:dh m l q b B [] ah=none:=ha bc bc bc bc;have zt:(cdX X).length=X.length:=d7 _;have aI:∀k,yb m l q b B [] fl f pb pf d k=(if k=pf then some (.row 79 1 [[.ptr f 0 0]]) else if k=pb then some (.row 34 1 [[.ptr b 0 0]]) else if k=f then some (jm fl d) else dh m l q b B [] k):=fun k=>rfl;have DI:T8 m l q b f pb pf:=⟨⟨f1,f2,f3,f4⟩,⟨b8,b7,b6,b5,b4⟩,⟨c8,c7,c6,c5,c4,fg⟩⟩
 refine bO (Bh (gf:=290) (xs:=cdX X) rfl (σi:=yb m l q b B [] fl f pb pf d) (fun j o hj=>?_) (K:=fun τ=>(yb m l q b B [] fl f pb pf d').le τ) (fun τ hτ=>?_) (vj DI) ?_ rfl rfl
  (fc:=⟨17,[(5,.ptr ah 0 0)],[]⟩) rfl (α:=Nat×List (List MV))
  (fun j a=>inS ah a.1 j ((X.take j).map Zl) a.2) (fun j a=>a.1≠ah) ?_ ?_ ?_)
 ·rw[aI] at hj;by_cases j1:j=pf
  ·subst j1;rw[if_pos rfl] at hj;rw[aD];exact hj
  ·rw[if_neg j1] at hj;rw[cn j1];by_cases j2:j=pb
   ·subst j2;rw[if_pos rfl] at hj;rw[aD];exact hj
   ·rw[if_neg j2] at hj;rw[cn j2];by_cases j3:j=f
    ·subst j3;rw[if_pos rfl] at hj;exact(cn (ls g1)).trans (cj.trans hj)
    ·rw[if_neg j3] at hj;exact(cn (fun e=>by subst e;rw[m1] at hj;cases hj)).trans ((cn j3).trans hj)
 ·exact Wy d' d (fun x hx=>by cases hx) hτ
 ·intro x hx;obtain⟨y,_,rfl⟩:=cv.1 hx;rfl
 ·have aN:∀{k:Nat},k≠pf→k≠pb→k≠f→dh m l q b B [] k=none→yb m l q b B [] fl f pb pf d k=none:=fun h1 h2 h3 h4=>by rw[aI,if_neg h1,if_neg h2,if_neg h3];exact h4
  have s1:=aN (ls c1) (ls b1) g1 m1;have t1:(((((dh m l q b B []).set f (jm fl d)).set ah (.row 75 1 [[.aK]])).set pb (.row 34 1 [[.ptr b 0 0]])).set pf (.row 79 1 [[.ptr f 0 0]])) ah=some (.row 75 1 [[.aK]]):=by rw[cn (ls c1),cn (ls b1),aD]
  have k1:((((((dh m l q b B []).set f (jm fl d)).set ah (.row 75 1 [[.aK]])).set pb (.row 34 1 [[.ptr b 0 0]])).set pf (.row 79 1 [[.ptr f 0 0]])).minus (yb m l q b B [] fl f pb pf d)) ah=some (.row 75 1 [[.aK]]):=by unfold nb;rw[s1];exact t1
  refine Gh.IW (b:=ah) (t:=75) (e:=1) (pre:=[]) (post:=[]) 3 1 k1 fun z hz=>?_;have z1:z≠ah:=fun e=>by subst e;rw[k1] at hz;cases hz
  refine .of (.less (l1:=[(5,.ptr ah 0 0)]) ?_ (σ1:=inS ah z 0 [] []) ?_) ⟨rfl,(z,[]),rfl,z1⟩
  ·exact wW
  ·refine St.nF (St.nF bt)
 ·rintro j x ⟨z,xx⟩ hx z1;simp only at z1 ⊢;have xk:j<X.length:=by
   have:=(eg.1 hx).1
   rwa [zt] at this
  obtain⟨c,hc⟩:=bX X xk;have hxe:x=[.agg c.c]:=by rw[ey,hc] at hx;exact(mt hx).symm
  subst hxe;have z1':=ls z1;have fi:=aW hc;have hRl:((X.take j).map Zl).length=j:=by rw[d7,e9];omega
  have cc:(X.take (j+1)).map Zl=(X.take j).map Zl++[Zl c]:=by rw[fi,e8];rfl
  obtain⟨RR,hRR⟩:∃RR,(X.take j).map Zl=RR:=⟨_,rfl⟩
  rw[hRR] at hRl cc ⊢;have gv:(RR++xx).drop (j+1)=xx.drop 1:=by rw[←hRl,←hH,jp];rfl
  have sr:(RR++xx).take j=RR:=by rw[←hRl,gt];rfl
  change il _ _ (FR.mk 17 [(10,.agg c.c),(5,.ptr ah 0 0)] []) _ _;refine cA ?_;repeat' first|(refine wM ?_;(first|(have _:=az)|(have _:=ao;intro az)|(have _:=ak;intro ao)|(have _:=ah;intro ak)|(intro ah));intros)|refine wV ?_|(refine wY ?_ ?_<;>intro h)|refine aw @ai ?_|exact ev @ai|fail
  refine bO (cA ?_);repeat' first|(refine wM ?_;(first|(have _:=az)|(have _:=ao;intro az)|(have _:=ak;intro ao)|(have _:=ah;intro ak)|(intro ah));intros)|refine wV ?_|(refine wY ?_ ?_<;>intro h)|refine jf @ai @sr @gv @hRl ?_|exact ZY @ai @sr @gv @hRl|fail
  all_goals try(exfalso;omega)
  all_goals
   have p1:az≠ah:=bc;have p2:az≠ak:=bc;have p3:az≠ao:=bc;clear vj uq ha gv sr hX
  ·have hex:xx=[]:=fv oM;subst hex;clear h;refine .of (aR.less (l1:=[]) (fun p hp=>by cases hp) (σ1:=inS ah az (j+1) (RR++[Zl c]) []) ?_) ⟨(az,[]),by rw[cc],p1⟩;clear aI;exact m7 (m7 bt sS) sS
  ·refine .of (aR.less (l1:=[]) (fun p hp=>by cases hp) (σ1:=inS ah az (j+1) (RR++[Zl c]) (xx.drop 1)) ?_) ⟨(az,xx.drop 1),by rw[cc],p1⟩;clear h aI;exact m7 (m7 bt sS) sS
 ·rintro⟨z,xx⟩ z1 τ hτ lh;simp only[zt,eh] at z1 lh ⊢;have o1:=lh ah _ ((cn (ls z1)).trans cj);have o2:=lh z _ cj;have hle:(((ln m l q b B f fl d').set ah (.row 75 1 [[.vec 1 z 0 X.length]])).set z (.row 3 1 (X.map Zl++xx))).le ((yb m l q b B [] fl f pb pf d).lR τ (inS ah z X.length (X.map Zl) xx)) :=
   m7 (m7 (XE d DI hτ) (Q8 ((cn (ls z1)).trans cj) o1)) (Q8 cj o2)
  refine .of (aR.less (l1:=[(5,.ptr ah 0 0)]) ?_ hle) ?_
  ·exact wW
  have o3:=o2;simp only[aM] at o3;obtain⟨w1,w2,w3,w4,w5,w6,w7,-⟩:=o3;have n1:ln m l q b B f fl d' ah=none:=by simp only[aM];exact⟨g1,bc,bc,bc,bc,rfl⟩
  have n2:ln m l q b B f fl d' z=none:=by simp only[aM];exact⟨w3,w4,w5,w6,w7,rfl⟩
  show R _;repeat' first|(refine wM ?_;(first|(have _:=az)|(have _:=ao;intro az)|(have _:=ak;intro ao)|(have _:=ah;intro ak)|(intro ah));intros)|refine wV ?_|(refine wY ?_ ?_<;>intro h)|refine ed ?_|exact ll|fail
  refine⟨ln m l q b B f fl d',m5.set z (.row 3 1 (X.map Zl++xx)),rfl,m7 bt cj,fun k o hk=>?_,fun k o hk=>?_,dT cj (by rw[d7])⟩
  ·rw[cn (fun e=>by subst e;rw[n2] at hk;cases hk),cn (fun e=>by subst e;rw[n1] at hk;cases hk)];exact hk
  ·rw[cn (fun e=>by subst e;rw[n2] at hk;cases hk)];rfl
def Ts{Q:St→Prop}{τ af:St}{z e n:Nat}{t:TypeId}{xs ex:List (List MV)}(hQ:Q τ)(hz:af z=some (.row t e (xs++ex)))(hle:τ.le af)(hn:τ z=none)(hl:n=xs.length) :
  ∃τ jk:St,Q τ∧jk.le af∧τ.le af∧(∀k o,τ k=some o→jk k=none)∧View jk (.vec e z 0 n) (.aj e xs false) :=
 ⟨τ,m5.set z (.row t e (xs++ex)),hQ,m7 bt hz,hle,fun k o hk=>(cn (fun h=>by subst h;rw[hn] at hk;cases hk)).trans rfl,dT cj hl⟩
noncomputable def kN(B:BK)(fl:List ND)(id:Int):CA×Bool:=if (a8 B.ae B.dead id).2=0∧fJ B.gr fl (a8 B.ae B.dead id).1=true then((a8 B.ae B.dead id).1,true) else(ig,false)
def NS{B:BK}{id:Int}(h:(a8 B.ae B.dead id).2=0):(a8 B.ae B.dead id).1∈B.ae∧(a8 B.ae B.dead id).1.id=id:=by
 unfold a8 at h ⊢;cases e:B.ae.find? (fun c=>decide (c.id=id)) with
 |none=>rw[e] at h;simp only at h;split at h<;>cases h
 |some c=>exact⟨fd e,by simpa using im e⟩
def zJ{B:BK}(hb:BkR B)(h3:B.gr.length≤1000000)(h4:∀g,g∈B.gr→g.mem.length≤1000000){m l q b f:Nat}(D:eB m l q b)(hf:f≠m∧f≠l∧f≠q∧f≠b){fl:List ND}(hp:bR fl=0)(d:Bool)(hd:B.dead.length≤1000000)(id:Int) :
  aA Tryz.prog 76 [.ptr b 0 0,.ptr f 0 0,.int .i64 id] (ln m l q b B f fl d) (fun r af=>r=.ar [.agg (kN B fl id).1.c,.bool (kN B fl id).2]∧af=ln m l q b B f fl (d || decide ((a8 B.ae B.dead id).2=0))):=by
 have tp:=Ib hd D [] id;have hgr:=nB B.sq l b B.gr h3 h4 hb.gok id;obtain⟨f1,f2,f3,f4⟩:=hf;have D':=D;obtain⟨d1,d2,d3,d4,d5,d6⟩:=D;have e1:=ls d1;have e2:=ls d2;have e3:=ls d3;have e4:=ls d4;have e5:=ls d5;have e6:=ls d6;have g1:=ls f1;have g2:=ls f2;have g3:=ls f3;have g4:=ls f4;refine nP (Q':=fun r af=>r=.ar [.agg (kN B fl id).1.c,.bool (kN B fl id).2]∧(ln m l q b B f fl (d || decide ((a8 B.ae B.dead id).2=0))).le af) (mB 29 [.cell 6 126,.tmp 7] Tryz.func76 ?_) fun v af ⟨h1,h2⟩=>⟨_,h2,h1,rfl⟩
 have hz:=@NS B id;have hbf:dh m l q b B [] f=none:=by simp only[aM];exact⟨f4,f3,f2,f1,rfl⟩
 obtain⟨g,hg⟩:∃g,a8 B.ae B.dead id=g:=⟨_,rfl⟩
 unfold kN;rw[hg] at tp hz ⊢;obtain⟨c,e⟩:=g;obtain⟨d',xi⟩:∃d',(d || decide ((c,e).2=0))=d':=⟨_,rfl⟩
 rw[xi];simp only at tp hz xi ⊢;by_cases he:e=0
 ·subst he;obtain rfl:true=d':=by rw[←xi];simp
  obtain⟨hc,hid⟩:=hz rfl;have qy:=rK hp hb.gok (r7 hb hc).1 f d;rw[hid] at qy;obtain⟨gg,hgg⟩:∃g:Int,(jx B.gr id:Int)=g:=⟨_,rfl⟩
  rw[hgg] at qy hgr;obtain⟨sb,ug⟩:∃sb,fJ B.gr fl c=sb:=⟨_,rfl⟩
  rw[ug] at qy ⊢;obtain⟨DK,hDK,c1,c2⟩:∃DK:b9,pq (.dz [66]) DK∧(∀ms,DK 67 ms=some ⟨[b],fun v=>v=.int .u32 gg,none⟩)∧∀ms,DK 66 ms=some ⟨[f],fun _=>True,some ([jm fl true],fun _=>.bool sb)⟩ :=
   ⟨nu [(67,⟨[b],fun v=>v=.int .u32 gg,none⟩),(66,⟨[f],fun _=>True,some ([jm fl true],fun _=>.bool sb)⟩)],Fm,fun _=>cH,fun _=>iB cH⟩
  cases sb
  ·repeat' first|(refine dB tp (fun k o hk=>gQ (by simp only[aM];exact⟨bc,bc,bc,bc,bc,rfl⟩) k o (gQ hbf k o hk)) ?_)|(refine bP mixed [66] dK DK hDK ?_)|(refine vQ [b] [bM B.sq l (.aj 2 (B.gr.map b3) false)] (c1 _) sS hgr ?_)|(refine cZ (c2 _) sS qy ?_)|(refine wO ?_;intros)|refine aw @ai ?_|fail
   exact⟨rfl,fun k o hk=>gQ (by simp only[aM];exact⟨bc,bc,bc,bc,bc,bc,rfl⟩) k o (gQ (by simp only[aM];exact⟨bc,bc,bc,bc,bc,rfl⟩) k o hk)⟩
  ·repeat' first|(refine dB tp (fun k o hk=>gQ (by simp only[aM];exact⟨bc,bc,bc,bc,bc,rfl⟩) k o (gQ hbf k o hk)) ?_)|(refine bP mixed [66] dK DK hDK ?_)|(refine vQ [b] [bM B.sq l (.aj 2 (B.gr.map b3) false)] (c1 _) sS hgr ?_)|(refine cZ (c2 _) sS qy ?_)|(refine wO ?_;intros)|refine aw @ai ?_|fail
   exact(fun k o hk=>gQ (by simp only[aM];exact⟨bc,bc,bc,bc,bc,bc,rfl⟩) k o (gQ (by simp only[aM];exact⟨bc,bc,bc,bc,bc,rfl⟩) k o hk))
 ·clear hz;obtain rfl:d=d':=by rw[←xi];simp[he]
  obtain⟨DK,hDK⟩:∃DK:b9,pq (.dz [66]) DK:=⟨nu [(67,⟨[b],fun v=>True,none⟩),(66,⟨[f],fun _=>True,some ([jm fl true],fun _=>.bool true)⟩)],Fm⟩
  repeat' first|(refine dB tp (fun k o hk=>gQ (by simp only[aM];exact⟨bc,bc,bc,bc,bc,rfl⟩) k o (gQ hbf k o hk)) ?_)|(refine bP mixed [66] dK DK hDK ?_)|(refine wO ?_;intros)|refine bu @ai @he ?_|fail
  exact⟨rfl,fun k o hk=>gQ (by simp only[aM];exact⟨bc,bc,bc,bc,bc,bc,rfl⟩) k o (gQ (by simp only[aM];exact⟨bc,bc,bc,bc,bc,rfl⟩) k o hk)⟩
structure Zd (m l q b pb pf:Nat):Prop where
 h2:pb≠m∧pb≠l∧pb≠q∧pb≠b
 h3:pf≠m∧pf≠l∧pf≠q∧pf≠b∧pf≠pb
structure SET where
 bk:BK
 fl:List ND
 mask:UInt32
 cur:Int
abbrev SET.c(s:SET):List MV:=s.bk.c++[.aj 5 (s.fl.map ND.c) false,.int .u32 (s.mask.toNat:Int),.int .i64 s.cur]
structure Fit (s:SET):Prop where
 ok:Nl s.bk=true
 nc:s.bk.ae.length≤60
 nd:s.bk.dead.length≤60
 ng:s.bk.gr.length≤1000000
 nm:∀g,g∈s.bk.gr→g.mem.length≤1000000
 fl:bR s.fl=0
 mok:s.mask.toNat≤511
def fT(f p:F8)(L:List Nat):F8:=L.foldl (fun g i=>g.set i (p.get i)) f
def dI(c:CA)(p:PA):CA:=⟨c.id,if c.c9<yc then c.c9+1 else c.c9,if bit p.mask.toNat 8=true then p.fp else c.fp,fT c.f p.f (cE p.mask.toNat)⟩
def zI(c:CA)(p:PA)(h0:0≤c.c9):aA Tryz.prog 213 [.agg c.c,.agg p.c] m5 (fun r _=>r=.agg (dI c p).c):=by
 refine(mB 37 [.cell 4 126] Tryz.func213 ?_);have bn:=uC p.mask;have iw:=wC p.mask;have sc:=xU p.mask.toNat;obtain⟨ml,ZG⟩:∃b,bit p.mask.toNat 8=b:=⟨_,rfl⟩
 rw[ZG] at bn;have oh:(dI c p).c=.int .i64 c.id::.int .i64 (if c.c9<1099511627776 then c.c9+1 else c.c9)::.int .u32 (((if ml=true then p.fp else c.fp:UInt32).toNat:Nat):Int)::fc (fT c.f p.f (cE p.mask.toNat)):=by rw[←ZG];rfl
 rw[oh];clear ZG oh;have bh:∀i,i∈cE p.mask.toNat→i<8:=fun i=>uZ;obtain⟨L,hL⟩:∃L,cE p.mask.toNat=L:=⟨_,rfl⟩
 rw[hL] at iw sc bh ⊢;have ZE:(eO L).length=L.length:=d7 _;by_cases hv:c.c9<1099511627776<;>cases ml;all_goals simp only[hv,al,if_false,if_true]
 ·skip
  repeat' first|(with_reducible first|refine up bn ?_|refine up iw ?_)|(refine wM ?_;(first|(have _:=ao)|(have _:=ak;intro ao)|(have _:=ah;intro ak)|(intro ah));intros)|refine jf @Tryz.f213.eq_1 @ai @ZE @hv ?_|fail
  refine aG (α:=Nat) (fun i=>⟨37,[(24,.int .i64 (i:Int)),(23,.int .i64 (L.length:Int)),(22,.aj 1 (eO L) false),(4,.ptr ao 0 0),(3,.ptr ak 0 0),(2,.ptr ah 0 0)],[]⟩)
   (fun i=>((m5.set ah (.row 126 27 [.int .i64 c.id::.int .i64 (c.c9+1)::.int .u32 (c.fp.toNat:Int)::fc (fT c.f p.f (L.take i))])).set ak (.row 57 26 [p.c])).set ao (.row 126 27 [ig.c])) (fun i=>i≤L.length) (fun i=>L.length-i) (.of (.less ?_ ba) ⟨0,rfl,rfl,kv _⟩) ?_
  ·exact wW
  ·intro i hi;have hi:i≤L.length:=hi;by_cases ot:i<L.length
   ·obtain⟨k,hk⟩:=bX L ot;have ay:(eO L).getD i []=[.int .i64 (k:Int)]:=by rw[cr,ey,hk];rfl
    have hk8:=bh k (dJ hk);have da:fT c.f p.f (L.take (i+1))=(fT c.f p.f (L.take i)).set k (p.f.get k):=by rw[aW hk,fT,f0];rfl
    obtain⟨g,hg⟩:∃g,fT c.f p.f (L.take i)=g:=⟨_,rfl⟩
    rw[hg] at da ⊢;repeat' first|refine fx @ai @ay @ZE ?_|fail
    all_goals try(exfalso;omega)
    all_goals
     refine .of (.less ?_ ba) ⟨i+1,rfl,by rw[da];first|rfl|skip,(by omega:i+1≤L.length),oM⟩;exact wW
   ·have:i=L.length:=oM;subst this;rw[eh];repeat' first|refine aw @ai ?_|exact ev @ai|fail
    all_goals first|exact⟨_,ba,rfl⟩|exact⟨_,ba⟩|rfl
 ·skip
  repeat' first|(with_reducible first|refine up bn ?_|refine up iw ?_)|(refine wM ?_;(first|(have _:=ao)|(have _:=ak;intro ao)|(have _:=ah;intro ak)|(intro ah));intros)|refine jf @Tryz.f213.eq_1 @ai @ZE @hv ?_|fail
  refine aG (α:=Nat) (fun i=>⟨37,[(24,.int .i64 (i:Int)),(23,.int .i64 (L.length:Int)),(22,.aj 1 (eO L) false),(4,.ptr ao 0 0),(3,.ptr ak 0 0),(2,.ptr ah 0 0)],[]⟩)
   (fun i=>((m5.set ah (.row 126 27 [.int .i64 c.id::.int .i64 (c.c9+1)::.int .u32 (p.fp.toNat:Int)::fc (fT c.f p.f (L.take i))])).set ak (.row 57 26 [p.c])).set ao (.row 126 27 [ig.c])) (fun i=>i≤L.length) (fun i=>L.length-i) (.of (.less ?_ ba) ⟨0,rfl,rfl,kv _⟩) ?_
  ·exact wW
  ·intro i hi;have hi:i≤L.length:=hi;by_cases ot:i<L.length
   ·obtain⟨k,hk⟩:=bX L ot;have ay:(eO L).getD i []=[.int .i64 (k:Int)]:=by rw[cr,ey,hk];rfl
    have hk8:=bh k (dJ hk);have da:fT c.f p.f (L.take (i+1))=(fT c.f p.f (L.take i)).set k (p.f.get k):=by rw[aW hk,fT,f0];rfl
    obtain⟨g,hg⟩:∃g,fT c.f p.f (L.take i)=g:=⟨_,rfl⟩
    rw[hg] at da ⊢;repeat' first|refine fx @ai @ay @ZE ?_|fail
    all_goals try(exfalso;omega)
    all_goals
     refine .of (.less ?_ ba) ⟨i+1,rfl,by rw[da];first|rfl|skip,(by omega:i+1≤L.length),oM⟩;exact wW
   ·have:i=L.length:=oM;subst this;rw[eh];repeat' first|refine aw @ai ?_|exact ev @ai|fail
    all_goals first|exact⟨_,ba,rfl⟩|exact⟨_,ba⟩|rfl
 ·skip
  repeat' first|(with_reducible first|refine up bn ?_|refine up iw ?_)|(refine wM ?_;(first|(have _:=ao)|(have _:=ak;intro ao)|(have _:=ah;intro ak)|(intro ah));intros)|refine jf @Tryz.f213.eq_1 @ai @ZE @hv ?_|fail
  refine aG (α:=Nat) (fun i=>⟨37,[(24,.int .i64 (i:Int)),(23,.int .i64 (L.length:Int)),(22,.aj 1 (eO L) false),(4,.ptr ao 0 0),(3,.ptr ak 0 0),(2,.ptr ah 0 0)],[]⟩)
   (fun i=>((m5.set ah (.row 126 27 [.int .i64 c.id::.int .i64 c.c9::.int .u32 (c.fp.toNat:Int)::fc (fT c.f p.f (L.take i))])).set ak (.row 57 26 [p.c])).set ao (.row 126 27 [ig.c])) (fun i=>i≤L.length) (fun i=>L.length-i) (.of (.less ?_ ba) ⟨0,rfl,rfl,kv _⟩) ?_
  ·exact wW
  ·intro i hi;have hi:i≤L.length:=hi;by_cases ot:i<L.length
   ·obtain⟨k,hk⟩:=bX L ot;have ay:(eO L).getD i []=[.int .i64 (k:Int)]:=by rw[cr,ey,hk];rfl
    have hk8:=bh k (dJ hk);have da:fT c.f p.f (L.take (i+1))=(fT c.f p.f (L.take i)).set k (p.f.get k):=by rw[aW hk,fT,f0];rfl
    obtain⟨g,hg⟩:∃g,fT c.f p.f (L.take i)=g:=⟨_,rfl⟩
    rw[hg] at da ⊢;repeat' first|refine fx @ai @ay @ZE ?_|fail
    all_goals try(exfalso;omega)
    all_goals
     refine .of (.less ?_ ba) ⟨i+1,rfl,by rw[da];first|rfl|skip,(by omega:i+1≤L.length),oM⟩;exact wW
   ·have:i=L.length:=oM;subst this;rw[eh];repeat' first|refine aw @ai ?_|exact ev @ai|fail
    all_goals first|exact⟨_,ba,rfl⟩|exact⟨_,ba⟩|rfl
 ·skip
  repeat' first|(with_reducible first|refine up bn ?_|refine up iw ?_)|(refine wM ?_;(first|(have _:=ao)|(have _:=ak;intro ao)|(have _:=ah;intro ak)|(intro ah));intros)|refine jf @Tryz.f213.eq_1 @ai @ZE @hv ?_|fail
  refine aG (α:=Nat) (fun i=>⟨37,[(24,.int .i64 (i:Int)),(23,.int .i64 (L.length:Int)),(22,.aj 1 (eO L) false),(4,.ptr ao 0 0),(3,.ptr ak 0 0),(2,.ptr ah 0 0)],[]⟩)
   (fun i=>((m5.set ah (.row 126 27 [.int .i64 c.id::.int .i64 c.c9::.int .u32 (p.fp.toNat:Int)::fc (fT c.f p.f (L.take i))])).set ak (.row 57 26 [p.c])).set ao (.row 126 27 [ig.c])) (fun i=>i≤L.length) (fun i=>L.length-i) (.of (.less ?_ ba) ⟨0,rfl,rfl,kv _⟩) ?_
  ·exact wW
  ·intro i hi;have hi:i≤L.length:=hi;by_cases ot:i<L.length
   ·obtain⟨k,hk⟩:=bX L ot;have ay:(eO L).getD i []=[.int .i64 (k:Int)]:=by rw[cr,ey,hk];rfl
    have hk8:=bh k (dJ hk);have da:fT c.f p.f (L.take (i+1))=(fT c.f p.f (L.take i)).set k (p.f.get k):=by rw[aW hk,fT,f0];rfl
    obtain⟨g,hg⟩:∃g,fT c.f p.f (L.take i)=g:=⟨_,rfl⟩
    rw[hg] at da ⊢;repeat' first|refine fx @ai @ay @ZE ?_|fail
    all_goals try(exfalso;omega)
    all_goals
     refine .of (.less ?_ ba) ⟨i+1,rfl,by rw[da];first|rfl|skip,(by omega:i+1≤L.length),oM⟩;exact wW
   ·have:i=L.length:=oM;subst this;rw[eh];repeat' first|refine aw @ai ?_|exact ev @ai|fail
    all_goals first|exact⟨_,ba,rfl⟩|exact⟨_,ba⟩|rfl
def bW(id:Int)(p:PA):CA:=dI ⟨id,0,0,f80⟩ p
def Im(id:Int)(p:PA):aA Tryz.prog 212 [.int .i64 id,.agg p.c] m5 (fun r _=>r=.agg (bW id p).c):=by
 refine(mB 9 [.cell 4 126] Tryz.func212 ?_);have h:=zI ⟨id,0,0,f80⟩ p (Int.le_refl 0);unfold bW;obtain⟨m,hm⟩:∃m,dI ⟨id,0,0,f80⟩ p=m:=⟨_,rfl⟩
 rw[hm] at h ⊢;repeat' first|(refine aC h ?_)|(refine wO ?_;intros)|refine bu @Tryz.f212.eq_1 @ai ?_|exact fk @Tryz.f212.eq_1 @ai|fail
def U8{P:Program}{ops:Array Oper}{F:Fence}(o:Oper)(r:List Oper):∀(l:List Oper),(F=b2∨∃l0,F=b2.inRound l0∧∀x,x∈l++o::r→∀c,x.op≠.defer c)→o.guard=none→∀{Q:MQ} {Φ0:bd} {σ0:St} {w0:World} (f:FR) (σ:St) (Φ:bd) (w:World) (a:Act),
  eC P ops (fun f σ=>kq P o f σ fun v af=>eC P ops (Q .normal) r (bI f o.dst v) af) l f σ→Inv Φ w σ→dP Φ a.tmps f→eF Φ w a.defers f.d →
  Step Φ0 σ0 w0 Φ σ w→wpListIn F 0 P ops (lift Φ0 σ0 w0 Q) (l++o::r) a w:=by
 intro l
 induction l with
 |nil =>
  intro hF hg Q Φ0 σ0 w0 f σ Φ w a h hi hr hd hs;have yd:F=b2∨∃l0,F=b2.inRound l0∧∀c,o.op≠.defer c:=hF.imp id fun⟨l0,e,q⟩=>⟨l0,e,q o ax⟩
  have Zp:F=b2∨∃l0,F=b2.inRound l0∧∀y,y∈r→∀c,y.op≠.defer c:=hF.imp id fun⟨l0,e,q⟩=>⟨l0,e,fun y ho=>q y (by simp[ho])⟩
  have h:kq P o f σ fun v af=>eC P ops (Q .normal) r (bI f o.dst v) af:=h;simp only[jg];have h':fH ops f o (kq P o f σ fun v af=>eC P ops (Q .normal) r (bI f o.dst v) af) False:=by unfold fH;rw[hg];exact h
  unfold wpListIn;rcases cQ h' hr with⟨hw,hy⟩|⟨hw,hn⟩
  ·rw[if_pos hw];refine fK yd ?_;exact h Φ w a _ _ hi hr (fun v mv af Φ' w' r1 i1 s1 hk=>tZ r Zp _ _ Φ' w' (a.put o.dst v) hk i1 (cT (hr.mono s1.le) o.dst r1) (by rw[bT,eD];exact hd.step hi s1) (hs.trans s1))
  ·exact hn.elim
 |cons x rest ih =>
  intro hF hg Q Φ0 σ0 w0 f σ Φ w a h hi hr hd hs;have Zp:F=b2∨∃l0,F=b2.inRound l0∧∀y,y∈rest++o::r→∀c,y.op≠.defer c:=hF.imp id fun⟨l0,e,q⟩=>⟨l0,e,fun y ho=>q y (dl _ ho)⟩
  have yd:F=b2∨∃l0,F=b2.inRound l0∧∀c,x.op≠.defer c:=hF.imp id fun⟨l0,e,q⟩=>⟨l0,e,q x (du ..)⟩
  have mm:∀g,F.fn g:=fun g=>by rcases hF with rfl|⟨l,rfl,_⟩<;>trivial
  simp only[eC] at h;simp only[hP];unfold wpListIn;rcases cQ h hr with⟨hw,hy⟩|⟨hw,hn⟩
  ·rw[if_pos hw];refine fK yd ?_;by_cases mj:∃c,x.op=.defer c
   ·obtain⟨c,hc⟩:=mj;rw[hc] at hy;have hy:yE f c fun f'=>eC P ops (fun f σ=>kq P o f σ fun v af=>eC P ops (Q .normal) r (bI f o.dst v) af) rest (bI f' x.dst .bw) σ:=hy;obtain⟨d,f',h1,h2,h3,h4⟩:=pP (P:=P) (w:=w) hc hy hr hd;unfold Oper.wp;rw[h1];refine ih Zp hg _ _ Φ w _ h4 hi (cT (a:={ a with defers:=d::a.defers }) h2 x.dst (.bw _)) ?_ hs;rw[bT,eD];exact h3
   ·exact lG (fun c hc=>mj ⟨c,hc⟩) hy Φ w a _ _ hi hr (fun v mv af Φ' w' r1 i1 s1 hk=>ih Zp hg _ _ Φ' w' (a.put x.dst v) hk i1 (cT (hr.mono s1.le) x.dst r1) (by rw[bT,eD];exact hd.step hi s1) (hs.trans s1))
  ·rw[if_neg (by simp[hw])];exact⟨fun f _=>mm f,ih Zp hg _ _ Φ w (a.put x.dst undef) hn hi (cT hr x.dst gL) (by rw[bT,eD];exact hd) hs⟩
def Cu{P:Program}{id:Nat}{ops:Array Oper}{f:FR}{σ:St}{Q:MQ}(l:List Oper)(o:Oper)(r:List Oper)(he:ops.toList=l++o::r)(hg:o.guard=none)
 (h:eC P ops (fun f σ=>kq P o f σ fun v af=>eC P ops (Q .normal) r (bI f o.dst v) af) l f σ):il P (.region id ops false) f σ Q :=
 fun F hF Φ w a hi hr hd=>wpIn_region_list (by
  rw[he];refine U8 o r l ?_ hg f σ Φ w a h hi hr hd (.refl _ _ _);have:=hF.ops;rw[he] at this;exact this)
def cF{P:Program}{id:Nat}{L:List Oper}{f:FR}{σ:St}{Q:MQ}(l:List Oper)(o:Oper)(r:List Oper)(he:L=l++o::r)(hg:o.guard=none)
 (h:R (eC P (@lv (Array Oper) (nat_lit 0) (@_root_.id (OfNat (Array Oper) (nat_lit 0)) (lw (L.toArray)))) (fun f σ=>kq P o f σ fun v af=>R (eC P (@lv (Array Oper) (nat_lit 0) (@_root_.id (OfNat (Array Oper) (nat_lit 0)) (lw (L.toArray)))) (Q .normal) r (bI f o.dst v) af)) l f σ)):il P (.region id L.toArray false) f σ Q :=
 Cu (ops:=L.toArray) l o r he hg h
def BR{P:Program}{o:Oper}{f:FR}{σ:St}{k:MV→St→Prop}{t kt et:TypeId}{x:Operand}(ho:o.op=.call { callee:=.builtin .len,args:=#[x],argTypes:=#[t] })(ht:(td P t).k=.map kt et)
 {l:Nat}{es:List (MV×MV)}(hm:aH f x=.db l)(hl:σ l=some (.mp es))(hk:k (.int .i64 (es.length:Int)) σ):kq P o f σ k:=by
 intro Φ w a K Q' hi hr hK;have ZO:=sR ht;have rm:=aL hr x;rw[hm] at rm;obtain⟨p,R,hp,hR,hmv⟩:=rm.oV;obtain⟨p',R',c,clock,dw,ju,hh,hs,dg,bf⟩:=(hi.own l _ hl).Hj;rw[hp] at dw;cases dw;rw[hR] at ju;cases ju;have sj:∀r w',(av #[t] o.type #[a.eval x]).run P w=.ok r w'→(execOp a.eval o).run P w=.ok (.value r) w':=fun r w' h=>by unfold execOp;simp only[ho,resolve,hO,dt,f6,m3,my,mx,invoke];show m4 P (do pure (Next.value (←av #[t] o.type #[a.eval x]))) w=_;simp only[m3,h,mx,my]
 refine bQ (sj (.int .i64 (es.length:Int)) w ?_) (hK _ _ _ Φ w (.int _ _) hi (.refl _ _ _) hk);rw[hmv];simp[av,aO ZO,Go.MapKept.run_getObj_map hh,goInt,hs]
def Ph{nx:Int}{m l:Nat}(lg:l≠m)(D:MV)(cs:List CA)(p:PA)(hp:bL p=0)(hn:cs.length<48)(xf:0≤nx)(hx:nx<1073741824)(gi:nx∉cs.map bg) :
  aA Tryz.prog 142 [.ptr l 0 0,.agg p.c] ((m5.set m (.mp (dm cs))).set l (fh nx m D)) (fun v af=>v=.ar [.agg (bW nx p).c,.int .i64 0]∧af=(m5.set m (.mp (dm (cs++[bW nx p])))).set l (fh (nx+1) m D)):=by
 refine nP (Q':=fun v af=>v=.ar [.agg (bW nx p).c,.int .i64 0]∧((m5.set m (.mp (dm (cs++[bW nx p])))).set l (fh (nx+1) m D)).le af) ?_ fun v af h=>⟨_,h.2,h.1,rfl⟩
 refine(aA.gY 52 [.cell 4 126,.tmp 5] Tryz.func142 rfl rfl rfl rfl ?_);have kr:=j0 p;rw[hp] at kr;have kj:=Im nx p;have hid:(bW nx p).id=nx:=rfl;have jj:dW .i64 nx (.agg (bW nx p).c) (dm cs)=dm (cs++[bW nx p]):=G6 (c:=bW nx p) gi;have sd:=sH cs;have hlen:(dm cs).length=cs.length:=d7 _;have bn:=ls lg;obtain⟨c,hc⟩:∃c,bW nx p=c:=⟨_,rfl⟩
 rw[hc] at kj hid jj ⊢;obtain⟨C,c1⟩:∃C:b9,∀ms,C 212 ms=some ⟨[],fun v=>v=.agg c.c,none⟩:=⟨oK 212 (.agg c.c),fun _=>dG⟩
 refine bD (cA ?_);repeat' first|(refine wO ?_;intros)|refine aw @ai ?_|fail
 refine bO (bD (cA ?_));repeat' first|refine aw @ai ?_|fail
 refine bO (bD (cA ?_));repeat' first|(refine aC kr ?_)|refine aw @ai ?_|fail
 refine bO (bD (bD (cF [_,_,_,_] _ [_,_,_,_,_,_,_,_] rfl rfl ?_)));repeat' first|refine aw @ai ?_|fail
 refine bO (BR (t:=249) (l:=m) (es:=dm cs) rfl (by rw[Jh]) rfl sS ?_);show R _;repeat' first|refine bu @ai @hlen ?_|fail
 all_goals try(exfalso;omega)
 refine bO (cA ?_);repeat' first|refine aw @ai ?_|fail
 refine bO (cA ?_);repeat' first|((with_reducible refine aJ mixed ?chk C ?_);(case chk=>decide +kernel))|(with_reducible refine aF (c1 _) kj ?_)|(refine wO ?_;intros)|refine jf @ai @jj @sd @hid ?_|fail
 have hcc:(.int .i64 nx::.int .i64 c.c9::.int .u32 (c.fp.toNat:Int)::fc c.f:List MV)=c.c:=by rw[←hid]
 rw[hcc,jj];refine⟨rfl,m7 (m7 bt ?_) ?_⟩
 ·simp[m6, *]
 ·simp[m6, *]
def wk:BK:=⟨0,1,[],[],[]⟩
def y9:aA Tryz.prog 60 [] m5 (fun v af=>∃m l q b,eB m l q b∧v=.ptr b 0 0∧af=dh m l q b wk []):=by
 refine aA.gh (JA.mono ?_);rintro _ _ ⟨m,l,b,lg,hbm,sc,rfl,rfl⟩;have qw:=ls sc;refine Gh.IW (b:=l) (t:=251) (e:=3) (pre:=[.int .i64 1,.db m]) (post:=[]) 197 3 (by simp[m6,qw]) fun q hq=>?_;simp only[aM] at hq;obtain⟨q1,q2,q3,-⟩:=hq;have q1':=ls q1;have q2':=ls q2;have q3':=ls q3;refine Gh.IW (b:=b) (t:=140) (e:=3) (pre:=[.int .i64 0,.ptr l 0 0]) (post:=[]) 200 2 sS fun z hz=>?_;simp only[aM] at hz;obtain⟨zq,zl,z1,-,zm,-⟩:=hz;have zq':=ls zq;have zl':=ls zl;have z1':=ls z1;have zm':=ls zm;refine .of (aR.Dh z b [.int .i64 0,.ptr l 0 0] [] cj sS z1' (View.cq cj rfl) rfl (σ1:=dh m l q b wk []) (l1:=[(0,.ptr b 0 0)]) cj (fun k o hk=>?_)
  (fun p hp=>by simp only[cx] at hp;subst hp;exact .same _)) ⟨_,rfl,m,l,q,b,⟨lg,q3,q2,hbm,sc,q1'⟩,rfl,rfl⟩
 by_cases k1:k=b
 ·subst k1;exact⟨z1',.inl rfl⟩
 ·have hk:iu 1 m l q [] [] [] k=some o:=(cn k1).symm.trans hk;have k2:k≠z:=fun e=>by subst e;simp[m6,m5, *] at hk
  refine⟨k2,.inr ?_⟩;rw[cn k2,cn k1];by_cases k3:k=q
  ·subst k3;simpa[m6] using hk
  ·by_cases k4:k=l
   ·subst k4;simpa[m6,k3] using hk
   ·by_cases k5:k=m
    ·subst k5;simpa[m6,k3,k4,k1,dm] using hk
    ·simp[m6,m5,k3,k4,k5] at hk
def Cc(a b:Int):Int:=if a<b then -1 else if b<a then 1 else 0
def K3(a b:Int):aA Tryz.prog 268 [.int .i64 a,.int .i64 b] m5 (fun r _=>r=.int .i64 (Cc a b)):=by
 refine(mB 20 [.tmp 4] Tryz.func268 ?_);have h1:=nY a;have h2:=nY b;rcases Int.lt_trichotomy a b with h|h|h
 ·rw[show Cc a b = -1 from if_pos h];repeat' first|(with_reducible first|refine up h1 ?_|refine up h2 ?_)|refine aw @Tryz.f268.eq_1 ?_|exact ev @Tryz.f268.eq_1|fail
  all_goals try(exfalso;omega)
 ·rw[show Cc a b=0 from(if_neg oM).trans (if_neg oM)];repeat' first|(with_reducible first|refine up h1 ?_|refine up h2 ?_)|refine aw @Tryz.f268.eq_1 ?_|exact ev @Tryz.f268.eq_1|fail
  all_goals try(exfalso;omega)
 ·rw[show Cc a b=1 from(if_neg oM).trans (if_pos h)];repeat' first|(with_reducible first|refine up h1 ?_|refine up h2 ?_)|refine aw @Tryz.f268.eq_1 ?_|exact ev @Tryz.f268.eq_1|fail
  all_goals try(exfalso;omega)
def zG(x:GR)(g:Int):aA Tryz.prog 267 [.agg x.c,.int .i64 g] m5 (fun r _=>r=.int .i64 (Cc x.no g)):=by
 refine n6 (mB 9 [.tmp 4] Tryz.func267 ?_);have h:=K3 x.no g;repeat' first|(with_reducible first|refine up h ?_)|(refine wO ?_;intros)|refine aw @Tryz.f267.eq_1 ?_|fail
 all_goals exact lE
def Vg(l:List GR){m:Nat}{x:GR}(h:l[m]?=some x):(l.map cd).getD m 0=x.no:=by rw[cr,ey,h];rfl
def Pm(l:List GR)(hl:l.length≤1000000)(hu:en (l.map cd))(g:Int)(t:Bool):aA Tryz.prog 266 [.aj 2 (l.map b3) t,.int .i64 g,.fn (.func 267) [] []] m5 (fun r _=>r=.ar [.int .i64 (aT (l.map cd) g:Int),.bool (decide (g∈l.map cd))]):=by
 refine(mB 49 [.tmp 6,.tmp 7] Tryz.func266 ?_);have ec:(l.map cd).length=l.length:=d7 _;obtain⟨N,hN⟩:∃N,l.map cd=N:=⟨_,rfl⟩
 rw[hN] at ec hu ⊢;have hgd:∀{m:Nat} {x:GR},l[m]?=some x→N.getD m 0=x.no:=fun h=>hN ▸ Vg l h;repeat' first|refine aw @Tryz.f266.eq_1 ?_|fail
 refine aG (α:=Nat×Nat) (fun a=>⟨49,[(9,.int .i64 (a.1:Int)),(10,.int .i64 (a.2:Int)),(8,.int .i64 (l.length:Int)),(2,.fn (.func 267) [] []),(1,.int .i64 g),(0,.aj 2 (l.map b3) t)],[]⟩)
  (fun _=>m5) (fun a=>a.1≤a.2∧a.2≤l.length∧(∀q,q<a.1→N.getD q 0<g)∧(∀q,a.2≤q→q<N.length→¬N.getD q 0<g)) (fun a=>a.2-a.1) (.of (.less ?_ ba) ⟨(0,l.length),rfl,rfl,by simp;omega⟩) ?_
 ·simp(maxSteps:=4000000) (disch:=first|exact gd|fail) only[go_sem,simprocAttr,bE,aX];all_goals first|rfl|omega|simp
 ·rintro⟨i,j⟩ ⟨h1,h2,h3,h4⟩;simp only at h1 h2 h3 h4 ⊢;by_cases hij:i<j
  ·have hh:=half i j;have hm1:i≤(i+j) / 2:=oM;have hm2:(i+j) / 2<j:=oM;obtain⟨m,hm⟩:∃m,(i+j) / 2=m:=⟨_,rfl⟩
   rw[hm] at hh hm1 hm2;have bn:m<l.length:=oM;obtain⟨x,hx⟩:=bX l bn;have ay:=bJ (f:=b3) hx;have lx:=hgd hx;have wb:∀a b,a<b→b<N.length→N.getD a 0<N.getD b 0:=fun a b hab hb=>by have:=f9.1 hu a b oM hb hab;rw[cr,cr,eo (by omega:a<N.length),eo hb];exact this
   have sl:=zG x g;obtain⟨k,hk⟩:∃k,Cc x.no g=k:=⟨_,rfl⟩
   rw[hk] at sl;by_cases fo:x.no<g
   ·have gi:∀q,q<m+1→N.getD q 0<g:=fun q hq=>by
     rcases kx q m with bh|nq
     ·have:=wb q m bh oM;omega
     ·have:q=m:=oM;rw[this,lx];exact fo
    have hkn:k<0:=by rw[←hk,show Cc x.no g = -1 from if_pos fo];omega
    clear hk fo;repeat' first|(with_reducible first|refine up sl ?_)|refine bu @ay @hh ?_|fail
    all_goals try(exfalso;omega)
    refine .of (.less (l1:=[(9,.int .i64 ((m+1:Nat):Int)),(10,.int .i64 (j:Int)),(8,.int .i64 (l.length:Int)),(2,.fn (.func 267) [] []),(1,.int .i64 g),(0,.aj 2 (l.map b3) t)]) ?_ ba) ⟨(m+1,j),rfl,rfl,⟨by simp only;omega,h2,gi,h4⟩,by simp only;omega⟩;simp(maxSteps:=4000000) (disch:=first|exact gd|fail) only[go_sem,simprocAttr,bE,aX];all_goals first|rfl|omega|(simp;done)
   ·have gi:∀q,m≤q→q<N.length→¬N.getD q 0<g:=fun q hq yx=>by
     rcases kx m q with bh|nq
     ·have:=wb m q bh yx;omega
     ·have:q=m:=oM;rw[this,lx];exact fo
    have hkn:¬k<0:=by rw[←hk];unfold Cc;rw[if_neg fo];split<;>omega
    clear hk fo;repeat' first|(with_reducible first|refine up sl ?_)|refine bu @ay @hh ?_|fail
    all_goals try(exfalso;omega)
    refine .of (.less (l1:=[(9,.int .i64 (i:Int)),(10,.int .i64 (m:Int)),(8,.int .i64 (l.length:Int)),(2,.fn (.func 267) [] []),(1,.int .i64 g),(0,.aj 2 (l.map b3) t)]) ?_ ba) ⟨(i,m),rfl,rfl,⟨hm1,by simp only;omega,h3,gi⟩,by simp only;omega⟩;simp(maxSteps:=4000000) (disch:=first|exact gd|fail) only[go_sem,simprocAttr,bE,aX];all_goals first|rfl|omega|(simp;done)
  ·have:i=j:=oM;subst this;have hp:=Dg hu h3 h4;rw[Gp oM h3 h4];by_cases qu:i<l.length
   ·obtain⟨x,hx⟩:=bX l qu;have ay:=bJ (f:=b3) hx;have lx:=hgd hx;have sl:=zG x g;have nq:=h4 i (ky _) oM;rw[lx] at nq;rw[lx] at hp;by_cases he:x.no=g
    ·rw[decide_eq_true (hp.2 ⟨oM,he⟩)];rw[show Cc x.no g=0 from(if_neg oM).trans (if_neg oM)] at sl;repeat' first|(with_reducible first|refine up sl ?_)|refine aw @ay ?_|exact ev @ay|fail
     all_goals try(exfalso;omega)
     all_goals (first|rfl|(simp;omega))
    ·rw[decide_eq_false fun h=>he (hp.1 h).2];rw[show Cc x.no g=1 from(if_neg oM).trans (if_pos oM)] at sl;repeat' first|(with_reducible first|refine up sl ?_)|refine aw @ay ?_|exact ev @ay|fail
     all_goals try(exfalso;omega)
     all_goals (first|rfl|(simp;omega))
   ·rw[decide_eq_false fun h=>qu (by have:=(hp.1 h).1;omega)];repeat' first|refine ed ?_|exact ll|fail
    all_goals try(exfalso;omega)
    all_goals (first|rfl|(simp;omega))
def iG(l:List GR)(hl:l.length≤1000000)(hu:en (l.map cd))(g:Int)(t:Bool):aA Tryz.prog 217 [.aj 2 (l.map b3) t,.int .i64 g] m5 (fun r _=>r=.ar [.int .i64 (aT (l.map cd) g:Int),.bool (decide (g∈l.map cd))]):=by refine(mB 11 [.tmp 4,.tmp 5] Tryz.func217 ?_);have h:=Pm l hl hu g t;repeat' first|(with_reducible first|refine up h ?_)|refine aw @Tryz.f217.eq_1 ?_|exact ev @Tryz.f217.eq_1|fail
section
open Go.Shelf Go.RowKit Go.Lib
def JO(a:Addr)(c:Nat)(w:World):Calls Tryz.prog 215 #[.slice (some a) 0 c] w fun e w'=>e=.returned (.slice (some ⟨w.heap.size,0,none⟩) 0 0)∧w'=w.alloc (.cells #[] 200):=by
 have q22:∀(w:World) (a:Option Addr) (n c n' c':Nat),(binOp .eql 39 (.slice a n c) (.slice none n' c')).run Tryz.prog w=.ok (.bool a.isNone) w:=fun w a n c n' c'=>Lib.run_eql_slice_nil w _ _ a n c n' c' Tryz.underlying39;have u22:∀w,m4 Tryz.prog (underlying 39) w=.ok (TypeDesc.slice 200) w:=run_underlying Tryz.underlying39
 go_enter Tryz.func215,Tryz.ntmps215
 go_wp2
 go_ret
 exact⟨rfl,rfl⟩
def Gv:aA Tryz.prog 215 [.aK] m5 (fun r _=>r=.aK):=by refine(mB 8 [.tmp 2] Tryz.func215 ?_);repeat' first|refine aw @Tryz.f215.eq_1 ?_|exact ev @Tryz.f215.eq_1|fail
def vC(e:Nat)(t tr:Bool):aA Tryz.prog 215 [.aj e [] t] m5 (fun r _=>r=.aj e [] tr):=nN Gv JO
def sZ(e:Nat)(t tr:Bool):aA Tryz.prog 114 [.aj e [] t] m5 (fun r _=>r=.aj e [] tr):=nN zA AF
def AE(x:GR)(l:List GR)(hl:l.length+1≤1000000)(t:Bool):aA Tryz.prog 215 [.aj 2 ((x::l).map b3) t] m5 (fun r af=>∃q,r=.vec 2 q 0 (l.length+1)∧af=m5.set q (.row 200 2 ((x::l).map b3))):=by
 refine(mB 8 [.tmp 2] Tryz.func215 ?_);repeat' first|(refine wO ?_;intros)|refine aw @Tryz.f215.eq_1 ?_|fail
 all_goals exact⟨_,rfl,rfl⟩
def CC(t tr:Bool):aA Tryz.prog 219 [.aj 2 [] t] m5 (fun r _=>r=.aj 2 [] tr):=by
 refine(mB 24 [.tmp 2] Tryz.func219 ?_);have h:=vC 2 t tr;repeat' first|(refine aC h ?_)|refine aw @Tryz.f219.eq_1 ?_|fail
 refine aG (α:=Unit) (fun _=>⟨24,[(9,.int .i64 0),(8,.int .i64 0),(3,.aj 2 [] tr)],[]⟩) (fun _=>m5) (fun _=>True) (fun _=>0) (.of (.less ?_ ba) ⟨(),rfl,rfl,trivial⟩) ?_
 ·exact wW
 ·intro _ _;repeat' first|refine ed ?_|exact ll|fail
def pT(x:GR)(l:List GR)(hl:l.length+1≤1000000)(hm:∀g,g∈x::l→g.mem.length≤1000000)(t:Bool):aA Tryz.prog 219 [.aj 2 ((x::l).map b3) t] m5 (fun r af=>∃q,r=.vec 2 q 0 (l.length+1)∧af=m5.set q (.row 200 2 ((x::l).map b3))):=by
 refine(mB 24 [.tmp 2] Tryz.func219 ?_);have h:=AE x l hl t;obtain⟨L,hL⟩:∃L,x::l=L:=⟨_,rfl⟩
 have tn:L.length=l.length+1:=by rw[←hL];rfl
 obtain⟨n,hn⟩:∃n,l.length+1=n:=⟨_,rfl⟩
 rw[hL] at h hm ⊢;rw[hn] at h tn hl ⊢;have bn:(L.map b3).length=n:=by rw[d7,tn]
 repeat' first|((refine hU h ?_;intro q hq))|refine aw @Tryz.f219.eq_1 ?_|fail
 refine aG (α:=Nat) (fun i=>⟨24,[(9,.int .i64 (i:Int)),(8,.int .i64 (n:Int)),(3,.vec 2 q 0 n)],[]⟩) (fun i=>m5.set q (.row 200 2 (L.map b3))) (fun i=>i≤n) (fun i=>n-i) (.of (.less ?_ ba) ⟨0,rfl,rfl,kv _⟩) ?_
 ·exact wW
 ·intro i hi;have hi:i≤n:=hi;by_cases bh:i<n
  ·obtain⟨y,hy⟩:=bX L (show i<L.length by omega);have ay:=bJ (f:=b3) hy;have jv:=qL y.mem (hm y (dJ hy)) false;have gw:(L.map b3).set i y.c=L.map b3:=by
    have h0:=eg.1 hy;obtain⟨h1,h2⟩:=h0;refine List.ext_getElem ax fun j h3 h4=>?_;rw[List.getElem_set];split
    ·rename_i e;subst e;simp[h2]
    ·rfl
   repeat' first|(with_reducible first|refine up jv ?_)|refine fx @ay @bn @gw ?_|fail
   all_goals try(exfalso;omega)
   all_goals
    refine .of (.less ?_ ba) ⟨i+1,rfl,rfl,(by omega:i+1≤n),oM⟩;exact wW
  ·have:i=n:=oM;subst this;repeat' first|refine ed ?_|fail
   all_goals try(exfalso;omega)
   all_goals exact⟨_,rfl,rfl⟩
def Le{v:Nat}(y:List MV)(hy:∃g,y=[.int .i64 g,.aK]):aA Tryz.prog 218 [.aj 2 [] true,.int .i64 0,.vec 2 v 0 1] (m5.set v (.row 200 2 [y])) (fun r af=>∃q,r=.vec 2 q 0 1∧af=m5.set q (.row 200 2 [y])):=by
 obtain⟨g,rfl⟩:=hy;refine n6 (mB 95 [.tmp 6] Tryz.func218 ?_);repeat' first|(refine wO ?_;intros)|refine aw @Tryz.f218.eq_1 ?_|fail
 exact⟨_,m7 bt cj,_,rfl,rfl⟩
def Lf{v:Nat}(x:Int):aA Tryz.prog 272 [.aj 1 [] true,.int .i64 0,.vec 1 v 0 1] (m5.set v (.row 3 1 [aU x])) (fun r af=>r=.aj 1 [aU x] false∧af=m5):=by
 refine aA.DY (mB 95 [.tmp 6] Tryz.func272 ?_);repeat' first|(refine wO ?_;intros)|refine aw @Tryz.f272.eq_1 ?_|fail
 exact⟨_,m7 bt cj,bt,fun k o hk=>hk.elim,View.cq cj rfl⟩
end
def Xf{P:Program}{g:FuncId}{ms:List MV}{σ:St}{o:aY}{u:Nat→MV}{k:MV→St→Prop}(h:aA P g ms σ fun v af=>∃q,v=u q∧af=m5.set q o)(hk:∀q,R (cD (u q) (m5.set q o) k)):R (dR P g ms σ k) :=
 h.mono fun v af ⟨q,hv,hσ⟩=>by subst hv;subst hσ;exact hk q
def aR.Vf{v:MV}{q:Nat}{t:TypeId}{e:Nat}(pre post:List MV)(e':Nat)(tr:Bool):aR ⟨1,[(0,v)],[]⟩ (m5.set q (.row t e [pre++.aK::post])) ⟨1,[(0,v)],[]⟩ (m5.set q (.row t e [pre++.aj e' [] tr::post])):=by
 refine aR.qU m5 bt (fun k o1 hk=>?_) (fun k o hk=>rfl) (fun p hp=>by simp at hp;subst hp;exact .same _);by_cases e1:k=q
 ·subst e1;rw[aD] at hk;cases hk;refine⟨_,cj,.inr ⟨t,e,_,_,rfl,rfl,rfl,fun i x x1 hx pw=>?_⟩⟩
  match i with
  |0 =>
   simp only[fe,mr] at hx pw;subst hx pw;refine⟨ax,fun j a b ha hb=>?_⟩;by_cases hj:j<pre.length
   ·rw[ga hj] at ha hb;rw[ha] at hb;cases hb;exact .inl rfl
   ·rw[f8 oM] at ha hb
    match hk:j-pre.length with
    |0 =>
     rw[hk] at ha hb;simp only[fe,mr] at ha hb;subst ha hb;exact .inr ⟨rfl,.nil _ _⟩
    |k+1 =>
     rw[hk] at ha hb;simp only[hD] at ha hb;rw[ha] at hb;cases hb;exact .inl rfl
  |i+1=>simp at hx
 ·exact absurd hk (by rw[cn e1];exact fun h=>by cases h)
def dH{σ:St}{a b a':MV}(h:View σ a a'):View σ (.ar [a,b]) (.ar [a',b]):=.ar rfl fun i m m' hm lu=>by
 match i with
 |0=>simp at hm lu;subst hm;subst lu;exact h
 |1=>simp at hm lu;subst hm;subst lu;exact .same _
 |i+2=>simp at hm
def Lo(x:Int)(h1:1≤x)(h2:x<1073741824)(t:Bool):aA Tryz.prog 225 [.aj 1 [] t,.int .i64 x] m5 (fun r _=>r=.aj 1 [aU x] false):=by
 refine n6 (mB 30 [.tmp 4] Tryz.func225 ?_);have hb:=v8 [] (kv _) List.Pairwise.nil x t;have hc:=sZ 1 t true;simp only[f6,df,decide_false,aT,List.filter_nil,f5] at hb;repeat' first|(refine aC hb ?_)|(refine aC hc ?_)|(refine wO ?_;intros)|refine aw @Tryz.f225.eq_1 ?_|fail
 refine eK (Lf x) ?_;repeat' first|refine ed ?_|fail
 all_goals exact lE
def Iu(g:Int)(h1:0≤g)(h2:g<16)(t:Bool):aA Tryz.prog 148 [.aj 2 [] t,.int .i64 g] m5 (fun r _=>r=.ar [.aj 2 [(GR.mk g []).c] false,.int .i64 0]):=by
 refine aA.gh (mB 28 [.tmp 4,.tmp 5] Tryz.func148 ?_);have hb:=iG [] (kv _) List.Pairwise.nil g t;have hc:=CC t true;simp only[f6,df,decide_false,aT,List.filter_nil,f5] at hb;repeat' first|(refine aC hb ?_)|(refine aC hc ?_)|(refine wO ?_;intros)|refine aw @Tryz.f148.eq_1 ?_|fail
 refine Xf (Le _ ⟨_,rfl⟩) fun q=>?_;repeat' first|refine ed ?_|fail
 refine .step (aR.Vf [.int .i64 g] [] 1 false) (.of (n7 (l1:=[(0,.ar [.aj 2 [(GR.mk g []).c] false,.int .i64 0])]) (m5.set q (.row 200 2 [(GR.mk g []).c])) ba bt (fun k o hk=>by cases hk) (fun p hp=>?_)) ⟨_,rfl,rfl⟩);simp only[cx] at hp;subst hp;exact dH (View.cq cj rfl)
def gZ{g1:FuncId}{r1:List Nat}{q1:MV→Prop}{x1:List aY×(Nat→MV)}:pq (.dz [g1]) (nu [(g1,⟨r1,q1,some x1⟩)]):=by
 intro g' ms rd q' x' h;simp only[nu] at h;split at h
 ·rename_i e;subst e;exact .inr (cx.2 rfl)
 ·cases h
def lN{P:Program}{g:FuncId}{ms:List MV}{σ:St}{p b:Nat}{op ob ob':aY}{r:MV}{k:MV→St→Prop}(hbp:b≠p)(hp:σ p=some op)(hb:σ b=some ob)
 (h:aA P g ms ((m5.set p op).set b ob) fun v af=>v=r∧af=m5.set b ob')(hk:R (cD r ((σ.del p).set b ob') k)):R (dR P g ms σ k) :=
 bU h (m7 (m7 bt hp) hb) fun v af hv _=>by
  obtain⟨rfl,rfl⟩:=hv;have e:(m5.set b ob').over (σ.minus ((m5.set p op).set b ob))=(σ.del p).set b ob':=by
   funext j;by_cases h1:j=b
   ·subst h1;simp[ne,m6]
   ·by_cases h2:j=p
    ·subst h2;simp[ne,m6,m5,nb,m8,h1]
    ·simp[ne,m6,m5,nb,m8,h1,h2]
  rw[e];exact hk
def wA{nx sq:Int}{m l b:Nat}(lg:l≠m)(hbm:b≠m)(sc:b≠l)(D g:MV)(cs:List CA)(p:PA)(hp:bL p=0)(hn:cs.length<48)(xf:0≤nx)(hx:nx<1073741824)(gi:nx∉cs.map bg)(h0:0≤sq)(h1:sq≤1099511627776) :
  aA Tryz.prog 69 [.ptr b 0 0,.agg (ED.mk 1 0 0 p).c] (((m5.set m (.mp (dm cs))).set l (fh nx m D)).set b (bM sq l g)) (fun v af=>v=.ar [.aj 2 (cR sq [nx]) false,.int .i64 0]∧af=((m5.set m (.mp (dm (cs++[bW nx p])))).set l (fh (nx+1) m D)).set b (bM (sq+1) l g)):=by
 refine nP (Q':=fun v af=>v=.ar [.aj 2 (cR sq [nx]) false,.int .i64 0]∧(((m5.set m (.mp (dm (cs++[bW nx p])))).set l (fh (nx+1) m D)).set b (bM (sq+1) l g)).le af) (mB 26 [.tmp 4,.tmp 5] Tryz.func69 ?_) fun v af h=>⟨_,h.2,h.1,rfl⟩
 have Zv:=Ph lg D cs p hp hn xf hx gi;have bn:=ls lg;have hmb:=ls hbm;have qw:=ls sc;have dg:=fun {k:Nat} (hk:b≠k)=>rL (sq:=sq) l g hk [(bW nx p).id] h0 h1 ax;simp only[dt,f6,ew,f5] at dg;have hid:(bW nx p).id=nx:=rfl;obtain⟨c,hc⟩:∃c,bW nx p=c:=⟨_,rfl⟩
 rw[hc] at Zv hid ⊢;simp only[hc] at dg;obtain⟨K,hK,c1⟩:∃K:b9,pq (.dz [142]) K∧∀ms,K 142 ms=some ⟨[l,m],fun _=>True,some ([fh (nx+1) m D,.mp (dm (cs++[c]))],fun _=>.ar [.agg c.c,.int .i64 0])⟩ :=
  ⟨nu [(142,⟨[l,m],fun _=>True,some ([fh (nx+1) m D,.mp (dm (cs++[c]))],fun _=>.ar [.agg c.c,.int .i64 0])⟩)],gZ,fun _=>cH⟩
 have hadd':aA Tryz.prog 142 [.ptr l 0 0,.agg p.c] (m9 [l,m] [fh nx m D,.mp (dm cs)]) (fun v af=>v=.ar [.agg c.c,.int .i64 0]∧af=((m9 [l,m] [fh nx m D,.mp (dm cs)]).set m (.mp (dm (cs++[c])))).set l (fh (nx+1) m D)):=Zv.mono (by
  rintro v af ⟨h1,rfl⟩;refine⟨h1,funext fun j=>?_⟩;by_cases h1:j=l
  ·subst h1;simp[m6]
  ·by_cases h2:j=m
   ·subst h2;simp[m6,h1]
   ·simp[m9,m6,h1,h2])
 repeat' first|(refine bP mixed [142] dK K hK ?_)|(refine Hc (os:=[fh nx m D,.mp (dm cs)]) (c1 _) sS hadd' ?_)|(refine wM ?_;(first|(have _:=ao)|(have _:=ak;intro ao)|(have _:=ah;intro ak)|(intro ah));intros)|refine bu @Tryz.f69.eq_1 @ai ?_|fail
 have n1:b≠ao:=bc;refine lN n1 cj sS (dg n1) ?_;repeat' first|refine ed ?_|fail
 refine⟨by rw[hid],m7 (m7 (m7 bt ?_) ?_) ?_⟩;all_goals simp[m6,m8, *]
def aA.LY{P:Program}{g:FuncId}{ms:List MV}{τ τ1:St}{n:Nat}{o:aY}{r:MV}(hn:τ n=none)(h1:τ1 n=none)(h:aA P g ms τ fun v af=>v=r∧af=τ1):aA P g ms (τ.set n o) fun v af=>v=r∧af=τ1.set n o :=
 (h.frame (St.bC ba hn)).mono (by
  rintro v σ1 ⟨af,⟨hv,rfl⟩,rfl,-⟩;refine⟨hv,funext fun j=>?_⟩;by_cases hj:j=n
  ·subst hj;simp[ne,nb,m6,hn,h1]
  ·simp only[ne,nb,m6,if_neg hj];cases af j with
   |some o=>rfl
   |none=>cases τ j<;>rfl)
def Pn{nx sq:Int}{m l b:Nat}(lg:l≠m)(hbm:b≠m)(sc:b≠l)(D g:MV)(cs:List CA)(p:PA)(hp:bL p=0)(hn:cs.length<48)(xf:0≤nx)(hx:nx<1073741824)(gi:nx∉cs.map bg)(h0:0≤sq)(h1:sq≤1000000000000) :
  aA Tryz.prog 17 [.ptr b 0 0,.agg (ED.mk 1 0 0 p).c] (((m5.set m (.mp (dm cs))).set l (fh nx m D)).set b (bM sq l g)) (fun v af=>v=.ar [.aj 2 (cR sq [nx]) false,.int .i64 0]∧af=((m5.set m (.mp (dm (cs++[bW nx p])))).set l (fh (nx+1) m D)).set b (bM (sq+1) l g)):=by
 refine nP (Q':=fun v af=>v=.ar [.aj 2 (cR sq [nx]) false,.int .i64 0]∧(((m5.set m (.mp (dm (cs++[bW nx p])))).set l (fh (nx+1) m D)).set b (bM (sq+1) l g)).le af) (mB 31 [.tmp 4,.tmp 5] Tryz.func17 ?_) fun v af h=>⟨_,h.2,h.1,rfl⟩
 have er:=eH (ED.mk 1 0 0 p);have he:aQ (ED.mk 1 0 0 p)=0:=by unfold aQ;simp[edG,edI,edP,hp]
 rw[he] at er;have ko:=wA lg hbm sc D g cs p hp hn xf hx gi h0 oM;have bn:=ls lg;have hmb:=ls hbm;have qw:=ls sc;generalize cR sq [nx]=R1 at ko ⊢;obtain⟨c,hc⟩:∃c,bW nx p=c:=⟨_,rfl⟩
 rw[hc] at ko ⊢;repeat' first|(refine aC er ?_)|(refine bZ mixed (fun _ _=>none) [_,_,_,_,_,_,_] [_,_,_,_] rfl dK ?_)|(refine wO ?_;intros)|refine bu @Tryz.f17.eq_1 @ai ?_|fail
 all_goals try(exfalso;omega)
 refine eK (aA.LY (by simp[m6,m5, *]) (by simp[m6,m5, *]) (aA.LY (by simp[m6,m5, *]) (by simp[m6,m5, *]) ko)) ?_;repeat' first|refine ed ?_|fail
 exact St.bC (St.bC ba (by simp[m6,m5, *])) (by simp[m6,m5, *])
def vv(cs:List CA)(id:Int)(x:CA):List CA:=cs.map fun c=>if c.id=id then x else c
theorem G9{x:CA}:∀{cs:List CA},en (cs.map bg)→x.id∈cs.map bg→dW .i64 x.id (.agg x.c) (dm cs)=dm (vv cs x.id x)
 |[],_,h=>by cases h
 |d::cs,hu,h=>by
  obtain⟨h1,h2⟩:=em.1 hu;simp only[dm,dt,vv,dW];by_cases e:d.id=x.id
  ·rw[if_pos e,if_pos e,e]
   congr 1
   rw[ib];refine g8 fun c hc=>?_;have:d.id<c.id:=h1 _ (cv.2 ⟨c,hc,rfl⟩);simp only[Function.comp];rw[if_neg oM]
  ·rw[if_neg e,if_neg e];have hm:x.id∈cs.map bg:=by
    rcases cS.1 h with h|h
    ·exact absurd h.symm e
    ·exact h
   have ih:=G9 (cs:=cs) h2 hm;simp only[dm,vv] at ih;rw[ih]
def CN(nx:Int){m l q:Nat}(lg:l≠m)(hqm:q≠m)(yx:q≠l)(cs:List CA)(hu:en (cs.map bg))(ds:List DE)(hd:ds.length≤1000000)(ex:List (List MV))(id:Int)(p:PA)(hp:bL p=0){c:CA}(hc:a8 cs ds id=(c,0))(hv0:0≤c.c9)(hv:c.c9<1099511627776) :
  aA Tryz.prog 144 [.ptr l 0 0,.int .i64 id,.agg p.c] (iu nx m l q cs ds ex) (fun v af=>v=.ar [.agg (dI c p).c,.int .i64 0]∧af=iu nx m l q (vv cs id (dI c p)) ds ex):=by
 have hid:c.id=id∧c∈cs:=by
  unfold a8 at hc;cases e:cs.find? (fun c=>decide (c.id=id)) with
  |none =>
   rw[e] at hc;simp only[Prod.mk.injEq] at hc;have:=hc.2;split at this<;>cases this
  |some x =>
   rw[e] at hc;cases hc;exact⟨by simpa using im e,fd e⟩
 obtain⟨hid,mn⟩:=hid;refine nP (Q':=fun v af=>v=.ar [.agg (dI c p).c,.int .i64 0]∧(iu nx m l q (vv cs id (dI c p)) ds ex).le af) (mB 46 [.cell 6 126,.tmp 7] Tryz.func144 ?_) fun v af h=>⟨_,h.2,h.1,rfl⟩
 have kr:=j0 p;rw[hp] at kr;have hg:=jB nx lg hqm yx cs ds hd ex id;rw[hc] at hg;have hme:=zI c p hv0;have hx:(dI c p).id=id:=hid;have jj:dW .i64 id (.agg (dI c p).c) (dm cs)=dm (vv cs id (dI c p)):=by have:=G9 (x:=dI c p) hu (by rw[hx,←hid];exact cv.2 ⟨c,mn,rfl⟩);rw[hx] at this;exact this
 have sd:=sH cs;generalize hR:vv cs id (dI c p)=vz at jj ⊢;obtain⟨x,hxx⟩:∃x,dI c p=x:=⟨_,rfl⟩
 rw[hxx] at hme jj ⊢;have bn:=ls lg;have hmq:=ls hqm;have hlq:=ls yx;simp only[iu] at hg ⊢;repeat' first|(refine aC kr ?_)|(refine dB hg (m7 (m7 (m7 bt sS) sS) sS) ?_)|(refine aC hme ?_)|(refine wO ?_;intros)|refine jf @Tryz.f144.eq_1 @ai @jj @sd ?_|fail
 refine m7 (m7 (m7 bt ?_) ?_) ?_;all_goals simp[m6, *]
def Fi{nx sq:Int}{m l q b:Nat}(D:eB m l q b)(cs:List CA)(hu:en (cs.map bg))(ds:List DE)(hd:ds.length≤1000000)(ex:List (List MV))(g:MV)(id:Int)(p:PA)(hp:bL p=0){c:CA}(hc:a8 cs ds id=(c,0))(hv0:0≤c.c9)(hv:c.c9<1099511627776)(h0:0≤sq)(h1:sq≤1099511627776) :
  aA Tryz.prog 70 [.ptr b 0 0,.agg (ED.mk 2 id 0 p).c] ((iu nx m l q cs ds ex).set b (bM sq l g)) (fun v af=>v=.ar [.aj 2 (cR sq [id]) false,.int .i64 0]∧af=(iu nx m l q (vv cs id (dI c p)) ds ex).set b (bM (sq+1) l g)):=by
 refine nP (Q':=fun v af=>v=.ar [.aj 2 (cR sq [id]) false,.int .i64 0]∧((iu nx m l q (vv cs id (dI c p)) ds ex).set b (bM (sq+1) l g)).le af) (mB 28 [.tmp 4,.tmp 5] Tryz.func70 ?_) fun v af h=>⟨_,h.2,h.1,rfl⟩
 have hw:=CN nx D.lm D.qm D.ql cs hu ds hd ex id p hp hc hv0 hv;generalize vv cs id (dI c p)=vz at hw ⊢;obtain⟨x,hx⟩:∃x,dI c p=x:=⟨_,rfl⟩
 rw[hx] at hw;have dg:=fun {k:Nat} (hk:b≠k)=>rL (sq:=sq) l g hk [id] h0 h1 ax;simp only[dt,f6,ew,f5] at dg;obtain⟨d1,d2,d3,d4,d5,d6⟩:=D;have e1:=ls d1;have e2:=ls d2;have e3:=ls d3;have e4:=ls d4;have e5:=ls d5;have e6:=ls d6;obtain⟨K,hK,c1⟩:∃K:b9,pq (.dz [144]) K∧∀ms,K 144 ms=some ⟨[m,l,q],fun _=>True,some ([.mp (dm vz)],fun _=>.ar [.agg x.c,.int .i64 0])⟩ :=
  ⟨nu [(144,⟨[m,l,q],fun _=>True,some ([.mp (dm vz)],fun _=>.ar [.agg x.c,.int .i64 0])⟩)],gZ,fun _=>cH⟩
 have hw':aA Tryz.prog 144 [.ptr l 0 0,.int .i64 id,.agg p.c] (m9 [m,l,q] [.mp (dm cs),fh nx m (.vec 3 q 0 ds.length),.row 197 3 (ds.map bj++ex)]) (fun v af=>v=.ar [.agg x.c,.int .i64 0]∧af=(m9 [m,l,q] [.mp (dm cs),fh nx m (.vec 3 q 0 ds.length),.row 197 3 (ds.map bj++ex)]).set m (.mp (dm vz))):=by
  have e:m9 [m,l,q] [.mp (dm cs),fh nx m (.vec 3 q 0 ds.length),.row 197 3 (ds.map bj++ex)]=iu nx m l q cs ds ex:=by
   funext j;by_cases h1:j=q
   ·subst h1;simp[m9,m6, *]
   ·by_cases h2:j=l
    ·subst h2;simp[m9,m6, *]
    ·by_cases h3:j=m
     ·subst h3;simp[m9,m6, *]
     ·simp[m9,m6, *]
  rw[e];refine hw.mono ?_;rintro v af ⟨h1,rfl⟩;refine⟨h1,funext fun j=>?_⟩;by_cases h1:j=q
  ·subst h1;simp[m6, *]
  ·by_cases h2:j=l
   ·subst h2;simp[m6, *]
   ·by_cases h3:j=m
    ·subst h3;simp[m6, *]
    ·simp[m6, *]
 clear hw;simp only[iu];repeat' first|(refine bP mixed [144] dK K hK ?_)|(refine kF (os:=[.mp (dm cs),fh nx m (.vec 3 q 0 ds.length),.row 197 3 (ds.map bj++ex)]) (c1 _) sS hw' ?_)|(refine wM ?_;(first|(have _:=ao)|(have _:=ak;intro ao)|(have _:=ah;intro ak)|(intro ah));intros)|refine bu @Tryz.f70.eq_1 @ai ?_|fail
 have n1:b≠ao:=bc;refine lN n1 cj sS (dg n1) ?_;repeat' first|refine ed ?_|fail
 refine m7 (m7 (m7 (m7 bt ?_) ?_) ?_) ?_;all_goals simp[m6, *]
def Na{P:Program}{g:FuncId}{ms:List MV}{σ:St}{B:BK}{u:Nat→MV}{k:MV→St→Prop}(h:aA P g ms m5 fun v af=>∃m l q b,eB m l q b∧v=u b∧af=dh m l q b B [])
 (hk:∀m l q b,σ m=none→σ l=none→σ q=none→σ b=none→eB m l q b→R (cD (u b) ((((σ.set m (.mp (dm B.ae))).set l (fh B.nx m (.vec 3 q 0 B.dead.length))).set q (.row 197 3 (B.dead.map bj))).set b (bM B.sq l (.aj 2 (B.gr.map b3) false))) k)):R (dR P g ms σ k) :=
 bU h (St.none_le σ) fun v af hv hf=>by
  obtain⟨m,l,q,b,D,rfl,rfl⟩:=hv;have fr:∀j o,dh m l q b B [] j=some o→σ j=none:=fun j o hj=>by
   rcases hf j o hj with h|⟨o',h⟩
   ·exact h
   ·simp[m5] at h
  have fm:=fr m (.mp (dm B.ae)) (by simp[m6,ls D.lm,ls D.qm,ls D.bm]);have fl:=fr l (fh B.nx m (.vec 3 q 0 B.dead.length)) (by simp[m6,ls D.ql,ls D.bl]);have fq:=fr q (.row 197 3 (B.dead.map bj++[])) (by simp[m6,ls D.bq]);have fb:=fr b _ cj;rw[mY,bS,bS,bS,bS,dS,dy];exact hk m l q b fm fl fq fb D
def Qt{m l q b f:Nat}{B:BK}{fl:List ND}{d:Bool}{σ:St}(hm:σ m=some (.mp (dm B.ae)))(hl:σ l=some (fh B.nx m (.vec 3 q 0 B.dead.length)))(hq:σ q=some (.row 197 3 (B.dead.map bj)))(hb:σ b=some (bM B.sq l (.aj 2 (B.gr.map b3) false)))(hf:σ f=some (jm fl d)):(ln m l q b B f fl d).le σ :=
 m7 (m7 (m7 (m7 (m7 bt hm) hl) (by rw[dy];exact hq)) hb) hf
def We{m l q b:Nat}{B:BK}{σ:St}(hm:σ m=some (.mp (dm B.ae)))(hl:σ l=some (fh B.nx m (.vec 3 q 0 B.dead.length)))(hq:σ q=some (.row 197 3 (B.dead.map bj)))(hb:σ b=some (bM B.sq l (.aj 2 (B.gr.map b3) false))):(dh m l q b B []).le σ :=
 m7 (m7 (m7 (m7 bt hm) hl) (by rw[dy];exact hq)) hb
def Gb{P:Program}{g:FuncId}{ms:List MV}{σ:St}{m l q b f:Nat}{B:BK}{fl:List ND}{d d':Bool}{r:MV}{k:MV→St→Prop}(h:aA P g ms (ln m l q b B f fl d) fun v af=>v=r∧af=ln m l q b B f fl d')(hle:(ln m l q b B f fl d).le σ)(hk:R (cD r (σ.set f (jm fl d')) k)):R (dR P g ms σ k) :=
 bU h hle fun v af hv _=>by
  obtain⟨rfl,rfl⟩:=hv;have e:(ln m l q b B f fl d').over (σ.minus (ln m l q b B f fl d))=σ.set f (jm fl d'):=by
   funext j;by_cases hj:j=f
   ·subst hj;simp[ne,m6]
   ·have e1:ln m l q b B f fl d' j=dh m l q b B [] j:=cn hj;have e2:ln m l q b B f fl d j=dh m l q b B [] j:=cn hj;simp only[ne,nb,e1,e2];rw[cn hj];cases hb:dh m l q b B [] j with
    |none=>rfl
    |some o=>exact(hle j o (e2.trans hb)).symm
  rw[e];exact hk
def XF{P:Program}{g:FuncId}{ms:List MV}{m l q b f:Nat}{B:BK}{fl:List ND}{d d':Bool}{r:MV}(h:aA P g ms (ln m l q b B f fl d) fun v af=>v=r∧af=ln m l q b B f fl d') :
  aA P g ms (m9 [f,b,q,l,m] [jm fl d,bM B.sq l (.aj 2 (B.gr.map b3) false),.row 197 3 (B.dead.map bj),fh B.nx m (.vec 3 q 0 B.dead.length),.mp (dm B.ae)]) fun v af=>v=r∧af=(m9 [f,b,q,l,m] [jm fl d,bM B.sq l (.aj 2 (B.gr.map b3) false),.row 197 3 (B.dead.map bj),fh B.nx m (.vec 3 q 0 B.dead.length),.mp (dm B.ae)]).set f (jm fl d'):=by
 have e:ln m l q b B f fl d=m9 [f,b,q,l,m] [jm fl d,bM B.sq l (.aj 2 (B.gr.map b3) false),.row 197 3 (B.dead.map bj),fh B.nx m (.vec 3 q 0 B.dead.length),.mp (dm B.ae)]:=by simp only[ln,dh,iu,m9,dy]
 rw[e] at h;refine h.mono ?_;rintro v af ⟨h1,rfl⟩;refine⟨h1,funext fun j=>?_⟩;by_cases hj:j=f<;>simp[m9,m6,hj]
theorem Bs{L:List FuncId}:∀{l:List (FuncId×Fact)},(∀p,p∈l→p.2.new=none∨p.1∈L)→pq (.dz L) (nu l)
 |[],_=>fun g ms rd q x h=>by simp[nu] at h
 |(g',F)::r,h=>fun g ms rd q x e=>by
  simp only[nu] at e;split at e
  ·rename_i hg;subst hg;simp only[mr] at e;subst e;rcases h _ (du ..) with h1|h1
   ·cases h1
   ·exact .inr h1
  ·exact Bs (fun p hp=>h p (dl _ hp)) g ms rd q x e
def RV{P:Program}{x y:Code}{f:FR}{σ:St}{Q:MQ}{good:FR→St→Prop}(h1:il P x f σ (tK (fun f' af=>Gh f' af good) fun _ _ _=>False))(h2:∀f' af,good f' af→il P y f' af Q):il P (.seq x y) f σ Q:=by
 refine bD (HU h1 fun e f' af h=>?_);cases e with
 |normal=>exact Sv (fun Φ w vs hi hr=>by
   obtain⟨f1,σ1,ei,x1,x2,x3⟩:=h Φ w vs hi hr;exact⟨f1,σ1,ei,x1,h2 f1 σ1 x2,x3⟩)
 |_=>exact h.elim
section
open Go.MapKept
def vL(n:Int):List (MV×MV)→List (MV×MV)
 |[]=>[]
 |(.int k m,v)::r=>if m=n then r else(.int k m,v)::vL n r
 |x::r=>x::vL n r
theorem Dd{k:IntKind}{n:Int}{Φ:bd}:∀(l:List MapEntry) (es:List (MV×MV)) (i0:Nat),l.length=es.length→(es.all fun x=>nh k x.1)=true→(∀(i:Nat) (x:MV×MV),es[i]?=some x→∃e:MapEntry,l[i]?=some e∧Rel Φ e.key x.1) →
  (ck (.int k) (.int k n) l i0=some none∧vL n es=es)∨∃(j:Nat) (e:MapEntry),ck (.int k) (.int k n) l i0=some (some (i0+j,e.val))∧j<es.length∧vL n es=es.eraseIdx j
 |[],[],_,_,_,_=>.inl ⟨rfl,rfl⟩
 |[],_::_,_,h,_,_=>by simp at h
 |_::_,[],_,h,_,_=>by simp at h
 |e::l,(x,u)::es,i0,hl,hk,hr=>by
  simp only[hB,ag] at hk;obtain⟨m,rfl⟩:=nU hk.1;obtain⟨e',Z3,bf⟩:=hr 0 _ rfl;simp only[fe,mr] at Z3;subst Z3;have xd:=bf.aZ;have q:=Dd (n:=n) l es (i0+1) (by simpa using hl) hk.2 fun i x hx=>hr (i+1) x (by simpa using hx);by_cases hmn:m=n
  ·subst hmn;exact .inr ⟨0,e,by simp[ck,Instr.sameNow,xd],ax,by simp[vL]⟩
  ·have hf:ck (.int k) (.int k n) (e::l) i0=ck (.int k) (.int k n) l (i0+1):=by
    have:(n==m)=false:=by simpa using ls hmn
    simp[ck,Instr.sameNow,xd,this]
   rw[hf];rcases q with⟨a,b⟩|⟨j,e2,a,b,c⟩
   ·exact .inl ⟨a,by simp[vL,hmn,b]⟩
   ·refine .inr ⟨j+1,e2,?_,by simpa using b,by simp[vL,hmn,c]⟩;rw[a];simp;omega
def GK{α:Type _}{l:List α}{j i:Nat}:(l.eraseIdx j)[i]?=l[if i<j then i else i+1]?:=by rw[List.getElem?_eraseIdx];split<;>rfl
def kX{P:Program}{o:Oper}{f:FR}{σ:St}{k:MV→St→Prop}{t kt et kt':TypeId}{m x:Operand}(ho:o.op=.call { callee:=.builtin .delete,args:=#[m,x],argTypes:=#[t,kt'] })(ht:(td P t).k=.map kt et){kd:IntKind}(hkt:(td P kt).k=.int kd)
 {l:Nat}{es:List (MV×MV)}(hm:aH f m=.db l)(hl:σ l=some (.mp es)){n:Int}(hx:aH f x=.int kd n)(he:(es.all fun p=>nh kd p.1)=true)
 (hk:k .bw (σ.set l (.mp (vL n es)))):kq P o f σ k:=by
 intro Φ w a K Q' hi hr hK;have ZO:=sR ht;have huk:=kY hkt;have rm:=aL hr m;have rx:=aL hr x;rw[hm] at rm;rw[hx] at rx;obtain⟨p,R,hp,hR,hmv⟩:=rm.oV;have hxv:=rx.aZ;obtain⟨p',R',c,clock,dw,ju,hh,hs,dg,bf⟩:=(hi.own l _ hl).Hj;rw[hp] at dw;cases dw;rw[hR] at ju;cases ju;have hrt:=(nv.1 hh).1;have sj:∀r w',(an #[t,kt'] o.type #[a.eval m,a.eval x]).run P w=.ok r w'→(execOp a.eval o).run P w=.ok (.value r) w':=fun r w' h=>by unfold execOp;simp only[ho,resolve,hO,dt,f6,m3,my,mx,invoke];show m4 P (do pure (Next.value (←an #[t,kt'] o.type #[a.eval m,a.eval x]))) w=_;simp only[m3,h,mx,my]
 rcases Dd (n:=n) c.toList es 0 (by simpa using hs) he fun i z hz=>by obtain⟨e,h1,h2,_⟩:=bf i z hz;exact⟨e,h1,h2⟩ with⟨h1,h2⟩|⟨j,e,h1,hj,h2⟩
 ·have di:=sj (.tuple #[]) (gK w R (.map c clock)) (by
   rw[hmv,hxv];simp[an,run_underlying ZO,Go.MapKept.run_getObj_map hh,run_checkKey (d:=.int kd) (k:=.int kd n) huk rfl,run_findKey (d:=.int kd) huk h1,run_setObj_map _ hh,Result.andThen,gK])
  have hw:gK w R (.map c clock)=w:=D7 hh;rw[hw] at di;have hσ:σ.set l (.mp (vL n es))=σ:=by
   rw[h2];funext q;by_cases hq:q=l
   ·subst hq;simp[m6,hl]
   ·simp[m6,hq]
  rw[hσ] at hk;exact bQ di (hK _ .bw _ Φ w (.bw _) hi (.refl _ _ _) hk)
 ·obtain⟨c',Zw⟩:∃c',c'=c.eraseIdxIfInBounds j:=⟨_,rfl⟩
  have hjs:j<c.size:=oM;have na:c'.toList=c.toList.eraseIdx j:=by rw[Zw];unfold Array.eraseIdxIfInBounds;rw[dif_pos hjs];simp
  have di:=sj (.tuple #[]) (gK w R (.map c' clock)) (by
   rw[hmv,hxv];simp[an,run_underlying ZO,Go.MapKept.run_getObj_map hh,run_checkKey (d:=.int kd) (k:=.int kd n) huk rfl,run_findKey (d:=.int kd) huk h1,run_setObj_map _ hh,Result.andThen,gK,Zw])
  have dq:c'.size=c.size-1:=by rw[←nz,na,js (by simpa using hjs),nz]
  obtain⟨i1,s1⟩:=hi.F6 (w':=gK w R (.map c' clock)) l hl (.mp (es.eraseIdx j)) hp hR jJ (fun q hq=>fL hq) rfl rfl rfl (ky _)
   ⟨p,R,hp,hR,c',clock,iR hrt,⟨by rw[dq,js hj,hs],by rw[Zw];exact stamped_erase dg j⟩,fun i z hz=>by
    rw[GK] at hz;obtain⟨e,q1,q2,q3⟩:=bf _ z hz;have:c'.getD i default=e:=by rw[nw,←ny,na,GK,q1];rfl
    rw[this];exact⟨q2,q3⟩⟩
  rw[←h2] at i1 s1;exact bQ di (hK _ .bw _ _ _ (.bw _) i1 s1 hk)
end
def TQ{w:World}{R:Nat}{c:Array Value}{t:TypeId}{fz:Nat×Nat}(h:w.heap[R]?=some (.cells c t fz))(hZ:FZ t=false)(hf:fz.2≤fz.1∨FZ t=true∧c.size≤fz.1)(i:Nat):w.frozen? ⟨R,i,none⟩=false:=by
 have:fz.2≤fz.1:=hf.elim id fun h=>by rw[hZ] at h;cases h.1
 simp only[World.frozen?,h];simp;omega
def xE{P:Program}(w:World)(tS tR e:TypeId)(ht:P.underlying tS=some (.slice e))(size:Nat)(hz:∀w,(Go.sizeOf e).run P w=.ok size w)(a b:Option Addr)(la ca lb cb:Nat)
 (h:la=0∨lb=0∨∃Ra oa Rb ob sa sb,a=some ⟨Ra,oa,none⟩∧b=some ⟨Rb,ob,none⟩∧Ra≠Rb∧w.shape? Ra=some sa∧w.shape? Rb=some sb∧(∀i,w.frozen? ⟨Ra,i,none⟩=false)∧∀i,w.frozen? ⟨Rb,i,none⟩=false) :
  (bz #[tS,tS] #[tR] #[.slice a la ca,.slice b lb cb]).run P w=.ok (.bool false) w:=by
 change m4 P (α:=Value) (do
  let some t:=(#[tS,tS]:Array TypeId)[0]?|stuck "slices.overlaps: no parameter types"
  let .slice elem ←underlying t|stuck "slices.overlaps: slice type expected"
  let size ←sizeOf elem
  match (a:Option Addr),(b:Option Addr) with
  |some a,some b =>
   if la=0∨lb=0∨size=0 then pure (np false)
   else if a.block != b.block&&(←frozen a)&&(←frozen b) then unsupported .addressObserved
   else do
    if a.block != b.block then do
     noView a;noView b
     if ←mayBeOne a b then return np ((←choose (.extern "sameAddr.stringBytes" 2))==1)
    pure (np (a.block==b.block&&a.off<b.off+lb*size&&b.off<a.off+la*size))
  |_,_=>pure (np false)) w=_
 cases a with
 |none=>simp[run_underlying ht,hz]
 |some a =>
  cases b with
  |none=>simp[run_underlying ht,hz]
  |some b =>
   by_cases h0:la=0∨lb=0∨size=0
   ·simp[run_underlying ht,hz,h0]
   ·rcases h with h|h|⟨Ra,oa,Rb,ob,⟨sa,ka⟩,⟨sb,kb⟩,h1,h2,h3,h4,h5,h6,h7⟩
    ·exact absurd (.inl h) h0
    ·exact absurd (.inr (.inl h)) h0
    ·cases h1;cases h2;have hnb:(Ra != Rb)=true:=by simpa using h3
     have hnb':(Ra==Rb)=false:=by simpa using h3
     simp[run_underlying ht,hz,h0,hnb,hnb',frozen,noView,viewAt,mayBeOne,stringish,shape,m4,h4,h5,h6,h7]
def xI{P:Program}{o:Oper}{f:FR}{σ:St}{k:MV→St→Prop}{g:FuncId}{fn:Func}{t el tR:TypeId}{x y:Operand}(ho:o.op=.call { callee:=.value (.func g),args:=#[x,y],argTypes:=#[t,t] })
 (hf:P.funcs[g]?=some fn)(vd:(fn.name == "runtime.NumGoroutine")=false)(hb:fn.body.isNone=true)(hn:bv fn=none)(he:bx fn=some (bz #[t,t] #[tR]))
 (ht:(td P t).k=.slice el)(cm:(td P el).ok=true){a b lo lo' n n' e e':Nat}(hab:a≠b)(hx:aH f x=.vec e a lo n)(hy:aH f y=.vec e' b lo' n'){ta tb:TypeId}(hZa:FZ ta=false)(hZb:FZ tb=false){ea eb:Nat}{xs ys:List (List MV)}(ha:σ a=some (.row ta ea xs))(mw:σ b=some (.row tb eb ys))
 (hk:k (.bool false) σ):kq P o f σ k:=by
 intro Φ w ac K Q' hi hr hK;have rx:=aL hr x;have ry:=aL hr y;rw[hx] at rx;rw[hy] at ry;obtain⟨aa,ca,pa,hva,hpa,_,hca,hna,hda⟩:=rx.eQ;obtain⟨ab,cb,pb,hvb,hpb,_,hcb,hnb,hdb⟩:=ry.eQ;obtain⟨pa',ja,_,_,_,_,ka⟩:=hi.own a _ ha;obtain⟨pb',jb,_,_,_,_,kb⟩:=hi.own b _ mw;rw[hpa] at ja;cases ja;rw[hpb] at jb;cases jb;have di:=xE (P:=P) w t tR el (bB ht) _ (fun w=>aS cm w) aa ab n ca n' cb (by
  by_cases h1:n=0
  ·exact .inl h1
  ·by_cases h2:n'=0
   ·exact .inr (.inl h2)
   ·refine .inr (.inr ?_);rcases hda with⟨Ra,hRa,rfl⟩|hda
    ·rcases hdb with⟨Rb,hRb,rfl⟩|hdb
     ·rw[hRa] at ka;rw[hRb] at kb;obtain⟨c1,fz1,q1,q2,_⟩:=ka;obtain⟨c2,fz2,r1,r2,_⟩:=kb;refine⟨Ra,_,Rb,_,(ta,c1.size),(tb,c2.size),rfl,rfl,fun e=>?_,by simp only[World.shape?,q1],by simp only[World.shape?,r1],fun i=>TQ q1 hZa q2 i,fun i=>TQ r1 hZb r2 i⟩;subst e;exact hab (hi.inj _ _ _ _ _ _ _ ha mw hpa hpb hRa hRb)
     ·omega
    ·omega)
 have hcall:=run_callFunc_extern hf vd hb hn he #[.slice aa n ca,.slice ab n' cb] w;rw[di] at hcall;refine bQ (v:=.bool false) (w':=w) ?_ (hK _ (.bool false) _ Φ w (.bool _) hi (.refl _ _ _) hk);have hg:ac.eval (.func g)=.func (.func g) #[] #[]:=rfl;unfold execOp;simp only[ho,resolve,hO,dt,f6,hva,hvb,hg,Deferred.ofValue,m3,my,mx,invoke,Array.empty_append,Array.append_empty];exact hcall
def Room(l C:Nat)(Φ:bd):Prop:=∃p,Φ.obj l=some p∧p.C=C
def Room.le{l C:Nat}{Φ Φ':bd}(h:Room l C Φ)(hle:Φ.le Φ'):Room l C Φ':=h.imp fun p q=>⟨hle.obj _ _ q.1,q.2⟩
def Bf(l C:Nat)(P:Program)(c:Code)(f:FR)(σ:St)(Q:MQ):Prop :=
 ∀F,mi F c→∀Φ w a,Room l C Φ→Inv Φ w σ→dP Φ a.tmps f→eF Φ w a.defers f.d→c.wpIn F 0 P (lift Φ σ w Q) a w
def FT(l C:Nat)(P:Program)(o:Oper)(f:FR)(σ:St)(k:MV→St→Prop):Prop :=
 ∀Φ w a K Q',Room l C Φ→Inv Φ w σ→dP Φ a.tmps f→(∀v mv af Φ' w',Rel Φ' v mv→Inv Φ' w' af→Step Φ σ w Φ' af w'→k mv af→K (a.put o.dst v) w')→o.wp P a w K Q'
section
variable {l C:Nat} {P:Program} {f:FR} {σ:St} {Q:MQ}
def Vb{c:Code}(h:il P c f σ Q):Bf l C P c f σ Q:=fun F hF Φ w a _ hi hr hd=>h F hF Φ w a hi hr hd
def HV{c:Code}{t:TypeId}{e:Nat}{xs:List (List MV)}(hl:σ l=some (.row t e xs))(h:∀C,xs.length≤C→Bf l C P c f σ Q):il P c f σ Q:=fun F hF Φ w a hi hr hd=>by obtain⟨p,hp,_,hC,_⟩:=hi.own l _ hl;exact h p.C hC F hF Φ w a ⟨p,hp,rfl⟩ hi hr hd
def lH{x y:Code}(h:Bf l C P x f σ (tK (fun f' af=>Bf l C P y f' af Q) Q)):Bf l C P (.seq x y) f σ Q:=by
 intro F hF Φ w a hg hi hr hd;refine wpIn_seq (wpIn_mono (h F hF.seq1 Φ w a hg hi hr hd) fun e a' w' ⟨f',af,Φ',x1,x2,x3,x4,q⟩=>?_);cases e with
 |normal=>exact wpIn_mono (q F hF.W5 Φ' w' a' (hg.le x4.le) x3 x2 x1) fun _ _ _ hq=>o5 x4 hq
 |_=>exact⟨f',af,Φ',x1,x2,x3,x4,q⟩
def DH{c:Operand}{x y:Code}{t:Bool}(hc:aH f c=.bool t)(h1:t=true→Bf l C P x f σ Q)(h2:t=false→Bf l C P y f σ Q):Bf l C P (.cond c x y) f σ Q:=by
 intro F hF Φ w a hg hi hr hd;have he:a.eval c=.bool t:=by have:=aL hr c;rw[hc] at this;generalize a.eval c=v at this;cases this;rfl
 exact wpIn_cond_split he (fun ht=>h1 ht F hF.QE Φ w a hg hi hr hd) (fun hf=>h2 hf F hF.QF Φ w a hg hi hr hd)
def Sg{ops:Array Oper}{F:Fence}(o:Oper)(r:List Oper):∀(L:List Oper),(F=b2∨∃l0,F=b2.inRound l0∧∀x,x∈L++o::r→∀c,x.op≠.defer c)→o.guard=none→∀{Q:MQ} {Φ0:bd} {σ0:St} {w0:World} (f:FR) (σ:St) (Φ:bd) (w:World) (a:Act),
  eC P ops (fun f σ=>FT l C P o f σ fun v af=>eC P ops (Q .normal) r (bI f o.dst v) af) L f σ→Room l C Φ→Inv Φ w σ→dP Φ a.tmps f→eF Φ w a.defers f.d →
  Step Φ0 σ0 w0 Φ σ w→wpListIn F 0 P ops (lift Φ0 σ0 w0 Q) (L++o::r) a w:=by
 intro L
 induction L with
 |nil =>
  intro hF hg Q Φ0 σ0 w0 f σ Φ w a h hG hi hr hd hs;have yd:F=b2∨∃l0,F=b2.inRound l0∧∀c,o.op≠.defer c:=hF.imp id fun⟨l0,e,q⟩=>⟨l0,e,q o ax⟩
  have Zp:F=b2∨∃l0,F=b2.inRound l0∧∀y,y∈r→∀c,y.op≠.defer c:=hF.imp id fun⟨l0,e,q⟩=>⟨l0,e,fun y ho=>q y (by simp[ho])⟩
  have h:FT l C P o f σ fun v af=>eC P ops (Q .normal) r (bI f o.dst v) af:=h;simp only[jg];have h':fH ops f o (FT l C P o f σ fun v af=>eC P ops (Q .normal) r (bI f o.dst v) af) False:=by unfold fH;rw[hg];exact h
  unfold wpListIn;rcases cQ h' hr with⟨hw,hy⟩|⟨hw,hn⟩
  ·rw[if_pos hw];refine fK yd ?_;exact h Φ w a _ _ hG hi hr (fun v mv af Φ' w' r1 i1 s1 hk=>tZ r Zp _ _ Φ' w' (a.put o.dst v) hk i1 (cT (hr.mono s1.le) o.dst r1) (by rw[bT,eD];exact hd.step hi s1) (hs.trans s1))
  ·exact hn.elim
 |cons x rest ih =>
  intro hF hg Q Φ0 σ0 w0 f σ Φ w a h hG hi hr hd hs;have Zp:F=b2∨∃l0,F=b2.inRound l0∧∀y,y∈rest++o::r→∀c,y.op≠.defer c:=hF.imp id fun⟨l0,e,q⟩=>⟨l0,e,fun y ho=>q y (dl _ ho)⟩
  have yd:F=b2∨∃l0,F=b2.inRound l0∧∀c,x.op≠.defer c:=hF.imp id fun⟨l0,e,q⟩=>⟨l0,e,q x (du ..)⟩
  have mm:∀g,F.fn g:=fun g=>by rcases hF with rfl|⟨l,rfl,_⟩<;>trivial
  simp only[eC] at h;simp only[hP];unfold wpListIn;rcases cQ h hr with⟨hw,hy⟩|⟨hw,hn⟩
  ·rw[if_pos hw];refine fK yd ?_;by_cases mj:∃c,x.op=.defer c
   ·obtain⟨c,hc⟩:=mj;rw[hc] at hy;have hy:yE f c fun f'=>eC P ops (fun f σ=>FT l C P o f σ fun v af=>eC P ops (Q .normal) r (bI f o.dst v) af) rest (bI f' x.dst .bw) σ:=hy;obtain⟨d,f',h1,h2,h3,h4⟩:=pP (P:=P) (w:=w) hc hy hr hd;unfold Oper.wp;rw[h1];refine ih Zp hg _ _ Φ w _ h4 hG hi (cT (a:={ a with defers:=d::a.defers }) h2 x.dst (.bw _)) ?_ hs;rw[bT,eD];exact h3
   ·exact lG (fun c hc=>mj ⟨c,hc⟩) hy Φ w a _ _ hi hr (fun v mv af Φ' w' r1 i1 s1 hk=>ih Zp hg _ _ Φ' w' (a.put x.dst v) hk (hG.le s1.le) i1 (cT (hr.mono s1.le) x.dst r1) (by rw[bT,eD];exact hd.step hi s1) (hs.trans s1))
  ·rw[if_neg (by simp[hw])];exact⟨fun f _=>mm f,ih Zp hg _ _ Φ w (a.put x.dst undef) hn hG hi (cT hr x.dst gL) (by rw[bT,eD];exact hd) hs⟩
def Bg{id:Nat}{ops:Array Oper}(L:List Oper)(o:Oper)(r:List Oper)(he:ops.toList=L++o::r)(hg:o.guard=none)
 (h:eC P ops (fun f σ=>FT l C P o f σ fun v af=>eC P ops (Q .normal) r (bI f o.dst v) af) L f σ):Bf l C P (.region id ops false) f σ Q :=
 fun F hF Φ w a hG hi hr hd=>wpIn_region_list (by
  rw[he];refine Sg o r L ?_ hg f σ Φ w a h hG hi hr hd (.refl _ _ _);have:=hF.ops;rw[he] at this;exact this)
def eX{id:Nat}{L:List Oper}(L1:List Oper)(o:Oper)(r:List Oper)(he:L=L1++o::r)(hg:o.guard=none)
 (h:R (eC P (@lv (Array Oper) (nat_lit 0) (@_root_.id (OfNat (Array Oper) (nat_lit 0)) (lw (L.toArray)))) (fun f σ=>FT l C P o f σ fun v af=>R (eC P (@lv (Array Oper) (nat_lit 0) (@_root_.id (OfNat (Array Oper) (nat_lit 0)) (lw (L.toArray)))) (Q .normal) r (bI f o.dst v) af)) L1 f σ)):Bf l C P (.region id L.toArray false) f σ Q :=
 Bg (ops:=L.toArray) L1 o r he hg h
def Ja{o:Oper}{k:MV→St→Prop}{t:TypeId}{x:Operand}(ho:o.op=.call { callee:=.builtin .cap,args:=#[x],argTypes:=#[t] }){el:TypeId}(ht:(td P t).k=.slice el){e n:Nat}(hx:aH f x=.vec e l 0 n)(hk:n≤C→k (.int .i64 (C:Int)) σ):FT l C P o f σ k:=by
 intro Φ w a K Q' hG hi hr hK;have rx:=aL hr x;rw[hx] at rx;obtain⟨ad,cap,p,hv,hp,iz,dv,tg,hR⟩:=rx.eQ;obtain⟨p',dw,hC⟩:=hG;rw[hp] at dw;cases dw;have hcC:cap=C:=oM;subst hcC;have sj:∀r w',(a9 #[t] o.type #[a.eval x]).run P w=.ok r w'→(execOp a.eval o).run P w=.ok (.value r) w':=fun r w' h=>by unfold execOp;simp only[ho,resolve,hO,dt,f6,m3,my,mx,invoke];show m4 P (do pure (Next.value (←a9 #[t] o.type #[a.eval x]))) w=_;simp only[m3,h,mx,my]
 refine bQ (sj (.int .i64 (cap:Int)) w ?_) (hK _ _ _ Φ w (.int _ _) hi (.refl _ _ _) (hk tg));rw[hv];simp[a9,aO (bB ht),goInt]
def BO{o:Oper}{k:MV→St→Prop}{t el:TypeId}{x z:Operand}(ho:o.op=.slice t x none (some z) none)(ht:(td P t).k=.slice el)(cm:(td P el).ok=true){n:Nat}
 (hx:aH f x=.vec (td P el).size l 0 n){k2:IntKind}{h:Int}(hz:aH f z=.int k2 h)(h0:0≤h)(h2:h≤(C:Int))(hk:k (.vec (td P el).size l 0 h.toNat) σ):FT l C P o f σ k:=by intro Φ w ac K Q' hG hi hr hK;have rx:=aL hr x;have rz:=aL hr z;rw[hx] at rx;rw[hz] at rz;have rx':=rx;generalize hv:ac.eval x=vx at rx rx';obtain⟨ad,cap,p,rfl,hp,iz,dv,tg,hR⟩:=rx'.eQ;obtain⟨p',dw,hC⟩:=hG;rw[hp] at dw;cases dw;have e2:=rz.aZ;have rs:=nH rx 0 h.toNat oM oM;refine bQ (v:=_) (w':=w) ?_ (hK _ _ _ Φ w rs hi (.refl _ _ _) (by simpa using hk));unfold execOp;simp only[ho,hv,mf,mo,e2,m3,Instr.sliceAt,aO (bB ht),mx,Instr.slice,co,my];rw[run_sliceBound ⟨oM,oM⟩];simp only[mx,ma,al,if_false];first|rfl|(rw[run_sliceBound ⟨oM,oM⟩];simp only[mx,aS cm,my])|(simp only[mx,aS cm,my])
end
def wZ{xs ys:List (List MV)}{i0:Nat}(h:i0≤xs.length)(i:Nat):(bK xs i0 ys)[i]?=if i0≤i∧i<i0+ys.length then ys[i-i0]? else xs[i]?:=by
 unfold bK;have hl1:(xs.take i0).length=i0:=by simp;omega
 have uf:(xs.take i0++ys).length=i0+ys.length:=by rw[d9,hl1]
 by_cases h1:i<i0
 ·rw[ga oM,ga oM,i4,if_pos h1,if_neg oM]
 ·by_cases h2:i<i0+ys.length
  ·rw[ga oM,f8 oM,hl1,if_pos ⟨oM,h2⟩]
  ·rw[f8 oM,uf,kh,show i0+ys.length+(i-(i0+ys.length))=i from by omega,if_neg oM]
def Ag{xs ys:List (List MV)}{i0 C:Nat}(h:i0≤xs.length)(h1:xs.length≤C)(h2:i0+ys.length≤C):(bK xs i0 ys).length≤C:=by simp[bK];omega
def PQ{Φ:bd}{w:World}{σ:St}(hi:Inv Φ w σ){l:Nat}{t:TypeId}{e:Nat}{xs ys:List (List MV)}(iq:σ l=some (.row t e xs)){i0:Nat}(gk:i0≤xs.length){p:Place}(hp:Φ.obj l=some p)(gu:i0+ys.length≤p.C)
 (vp:∀(i:Nat) (y:List MV),ys[i]?=some y→y.length=e){arr:Array Value}(bf:k0 Φ arr ys.flatten){R:Nat}(hR:p.jh=some R){c:Array Value}{fz:Nat×Nat}(hc:w.heap[R]?=some (.cells c t fz)) :
  Ay t c fz∧p.bo+i0*e+arr.toList.length≤c.size∧Inv Φ (gK w R (.cells (cJ c (p.bo+i0*e) arr.toList) t fz)) (σ.set l (.row t e (bK xs i0 ys))) ∧
   Step Φ σ w Φ (σ.set l (.row t e (bK xs i0 ys))) (gK w R (.cells (cJ c (p.bo+i0*e) arr.toList) t fz)):=by
 obtain⟨p',dw,iz,q1,q2,q3,q4⟩:=hi.own l _ iq;rw[hp] at dw;cases dw;rw[hR] at q4;obtain⟨c',fz',k1,k2,k3,k4⟩:=q4;rw[hc] at k1;cases k1;have bh:R<w.heap.size:=(nv.1 hc).1;have qv:arr.toList.length=ys.length*e:=by have:=bf.1;rw[eN ys vp] at this;simpa using this
 have zg:p.bo+i0*e+arr.toList.length≤c.size:=by rw[qv];have:(i0+ys.length)*e≤p.C*e:=kw _ oM;rw[lc] at this;omega
 refine⟨k2,zg,hi.F6 (w':=gK w R (.cells (cJ c (p.bo+i0*e) arr.toList) t fz)) l iq _ hp hR jJ (fun k hk=>fL hk) rfl rfl rfl (ky _) ?_⟩;refine⟨p,hp,iz,Ag gk q1 gu,q2,fun i y q=>?_,?_⟩
 ·rw[wZ gk] at q;split at q
  ·exact vp _ y q
  ·exact q3 i y q
 ·rw[hR];refine⟨_,fz,iR bh,by simpa[Ay,dA] using k2,by rw[dA];exact k3,fun i y j m q hm=>?_⟩;rw[jI _ _ _ _ zg,qv];rw[wZ gk] at q;split at q
  ·rename_i ku;have xk:j<e:=by have:=(eg.1 hm).1;have:=vp _ y q;omega
   have qu:=(eg.1 q).1;have iw:=nR ys (i-i0) j y m vp q hm;have ZF:=(eg.1 iw).1;have harr1:=bf.1;have e3:(i-i0)*e+j+i0*e=i*e+j:=by
    have:i*e=(i-i0+i0)*e:=by congr 1;omega
    rw[this,lc];omega
   have e4:(i-i0)*e+j<ys.length*e:=by have:(i-i0+1)*e≤ys.length*e:=kw _ oM;rw[lc,lk] at this;omega
   rw[if_pos oM,show p.bo+(i*e+j)-(p.bo+i0*e)=(i-i0)*e+j from by omega,ny];refine⟨bf.2.1 _ m iw,arr.getD ((i-i0)*e+j) undef,?_,bf.2.2 _ m iw⟩;simp[nw,Array.getElem?_eq_getElem (show(i-i0)*e+j<arr.size by omega)]
  ·rename_i lh;have xk:j<e:=by have:=(eg.1 hm).1;have:=q3 i y q;omega
   rw[if_neg (by
    intro hcon;rcases kx i i0 with h|h
    ·have:(i+1)*e≤i0*e:=kw _ h;rw[lc,lk] at this;omega
    ·have:(i0+ys.length)*e≤i*e:=kw _ oM;rw[lc] at this;omega)]
   exact k4 i y j m q hm
def iK{P:Program}{o:Oper}{f:FR}{σ:St}{k:MV→St→Prop}{t xt el:TypeId}{x y:Operand}(ho:o.op=.call { callee:=.builtin .copy,args:=#[x,y],argTypes:=#[t,xt] })(ht:(td P t).k=.slice el)(hz:(td P el).ok=true)
 {l l0 n:Nat}{tt:TypeId}{xs ys:List (List MV)}(hx:aH f x=.vec (td P el).size l l0 n)(iq:σ l=some (.row tt (td P el).size xs))(gk:l0≤xs.length){m m0 nm cnt:Nat}(hy:aH f y=.vec (td P el).size m m0 nm)(hcnt:Nat.min nm n=cnt)(hys:fX σ (td P el).size (.vec (td P el).size m m0 cnt)=some ys)(h0:0<cnt)
 (hk:k (.int .i64 (cnt:Int)) (σ.set l (.row tt (td P el).size (bK xs l0 ys)))):kq P o f σ k:=by
 intro Φ w ac K Q' hi hr hK;have hc1:cnt≤nm:=by rw[←hcnt];exact Nat.min_le_left _ _
 have hc2:cnt≤n:=by rw[←hcnt];exact Nat.min_le_right _ _
 have rx:=aL hr x;rw[hx] at rx;have ry:=aL hr y;rw[hy] at ry;generalize hv:ac.eval x=vx at rx;generalize hu:ac.eval y=vy at ry;obtain⟨ad,cap,p,rfl,hp,iz,dv,tg,hR⟩:=rx.eQ;obtain⟨au,capu,pu,rfl,hpu,hpeu,hcapu,hncapu,hRu⟩:=ry.eQ;have ry':Rel Φ (.slice au cnt capu) (.vec (td P el).size m m0 cnt):=by
  rcases hRu with⟨R,hb,rfl⟩|h
  ·rw[←hpeu];exact .vec hpu hb hcapu oM
  ·omega
 obtain⟨arr,ek,bf,vp⟩:=i7 (P:=P) hys hi ry';have hlen:ys.length=cnt:=by have:=(ek w rfl).1;simp[Builtin.lenOf] at this;omega
 have wz:(bb (td P el).size cnt (.slice au nm capu)).run P w=.ok arr w:=by have:=(ek w rfl).2;rw[hlen] at this;rw[←this];cases au<;>rfl
 have sj:∀r w',(ap #[t,xt] o.type #[.slice ad n cap,.slice au nm capu]).run P w=.ok r w'→(execOp ac.eval o).run P w=.ok (.value r) w':=fun r w' h=>by unfold execOp;simp only[ho,resolve,hO,dt,f6,hv,hu,m3,my,mx,invoke];show m4 P (do pure (Next.value (←ap #[t,xt] o.type #[.slice ad n cap,.slice au nm capu]))) w=_;simp only[m3,h,mx,my]
 rcases hR with⟨R,hb,rfl⟩|ze
 ·obtain⟨p',dw,hpe',q1,q2,q3,q4⟩:=hi.own l _ iq;rw[hp] at dw;cases dw;rw[hb] at q4;obtain⟨c,fz,k1,-⟩:=q4;obtain⟨r1,r2,i1,s1⟩:=PQ hi iq (i0:=l0) (ys:=ys) gk hp oM vp bf hb k1;refine bQ (sj (.int .i64 (cnt:Int)) _ ?_) (hK _ _ _ Φ _ (.int _ _) i1 s1 hk);have hlo:(Builtin.lenOf (.slice au nm capu)).run P w=.ok nm w:=rfl;unfold ap;simp only[ke,fe,hD,m3,aO (bB ht),mx,hlo,aS hz,hcnt,wz];rw[iz,iV (P:=P) _ 0 c w k1 r1 (by simpa using r2) bf.vX];rfl
 ·omega
section
variable {P:Program} {ops:Array Oper}
def KT(hm:P.follows .mixedOrders=true)(C:b9)(pre:List Oper)(y:Oper)(post:List Oper)(ho:ops=(pre++y::post).toArray)(mj:vW (pre++y::post)=true)(dj:(chk ops&&gate ops pre.length&&gate ops (pre.length+1))=true)(hg:y.guard=none){id:Nat}{f:FR}{σ:St}{Q:MQ}
 (h:kB P C ops (fun f1 σ1=>kq P y f1 σ1 fun v af=>kB P C ops (Q .normal) post (bI f1 y.dst v) af) pre f σ):il P (.region id ops true) f σ Q:=by
 intro F hF Φ w a hi hr hd;simp only[ag] at dj;have ud:F=b2∨∃l0,F=b2.inRound l0:=Or.imp (fun q=>q) (fun⟨l0,e,_⟩=>⟨l0,e⟩) hF;have mm:∀g,F.fn g:=fun g=>by rcases ud with rfl|⟨l,rfl⟩<;>trivial
 have ur:∀o,o∈ops.toList→∀c,o.op≠.defer c:=fun o h=>mZ mj o (by rw[ho] at h;simpa using h);refine uG (C:=C.pl) (MC:=rC P C) hm .no C.Ir.u (fun _ _ hd _ _ _ h=>vK hd h) pre y post ho ur dj.1.1 dj.1.2 dj.2 ud hi hr hd ?_ h;intro f1 σ1 ei w1 a1 N i1 r1 d1 s1 k1 hN;have hyd:∀c,y.op≠.defer c:=ur y (by rw[ho];simp);have yd:F=b2∨∃l0,F=b2.inRound l0∧∀c,y.op≠.defer c:=ud.imp (fun q=>q) fun⟨l0,e⟩=>⟨l0,e,hyd⟩
 unfold Ge;have k1':fH ops f1 y (kq P y f1 σ1 fun v af=>kB P C ops (Q .normal) post (bI f1 y.dst v) af) False:=by unfold fH;rw[hg];exact k1
 rcases cQ k1' r1 with⟨hw,hk⟩|⟨hw,hk⟩
 ·rw[if_pos hw];refine fK yd (k1 ei w1 a1 _ _ i1 r1 fun v mv af Φ' w' r2 i2 s2 yu=>?_);exact hN (Q .normal) _ af Φ' w' (a1.put y.dst v) i2 (cT (r1.mono s2.le) y.dst r2) (by rw[bT,eD];exact d1.step i1 s2) (fun f3 sx wi w3 a3 i3 r3 d3 s3 k3=>⟨f3,sx,wi,d3,r3,i3,s1.trans (s2.trans s3),k3⟩) yu
 ·exact hk.elim
def iM{id:Nat}{l:List Oper}{f:FR}{σ:St}{Q:MQ}(hm:P.follows .mixedOrders=true)(C:b9)(pre:List Oper){dst:Option Tmp}{op:Op}{ty:TypeId}{pos:String}{after:Array Edge}(post:List Oper)(ho:l=pre++⟨dst,op,ty,pos,after,none⟩::post)
 (dj:(vW l&&(chk l.toArray&&gate l.toArray pre.length&&gate l.toArray (pre.length+1)))=true)
 (h:R (kB P C (@lv (Array Oper) (nat_lit 0) (@_root_.id (OfNat (Array Oper) (nat_lit 0)) (lw (l.toArray)))) (fun f1 σ1=>kq P ⟨dst,op,ty,pos,after,none⟩ f1 σ1 fun v af=>R (kB P C (@lv (Array Oper) (nat_lit 0) (@_root_.id (OfNat (Array Oper) (nat_lit 0)) (lw (l.toArray)))) (Q .normal) (@lv (List Oper) (nat_lit 0) (@_root_.id (OfNat (List Oper) (nat_lit 0)) (lw post))) (bI f1 dst v) af))
   (@lv (List Oper) (nat_lit 0) (@_root_.id (OfNat (List Oper) (nat_lit 0)) (lw pre))) f σ)):R (rD P id (@lv (List Oper) (nat_lit 0) (@_root_.id (OfNat (List Oper) (nat_lit 0)) (lw l))) f σ Q):=by
 rw[ag] at dj;exact KT hm C pre ⟨dst,op,ty,pos,after,none⟩ post (by rw[←ho]) (by rw[←ho];exact dj.1) dj.2 rfl h
end
def BS{P:Program}{o:Oper}{f:FR}{σ:St}{k:MV→St→Prop}{t el:TypeId}{x y z u:Operand}(ho:o.op=.slice t x (some y) (some z) (some u))(ht:(td P t).k=.slice el)(cm:(td P el).ok=true){e l n:Nat}
 (hx:aH f x=.vec e l 0 n){k1 k2 k3:IntKind}{a b c:Int}(hy:aH f y=.int k1 a)(hz:aH f z=.int k2 b)(hu:aH f u=.int k3 c)(h0:0≤a)(h1:a≤b)(h2:b≤c)(h3:c≤(n:Int))(hk:k .bw σ):kq P o f σ k:=by
 intro Φ w ac K Q' hi hr hK;have rx:=aL hr x;have ry:=aL hr y;have rz:=aL hr z;have ru:=aL hr u;rw[hx] at rx;rw[hy] at ry;rw[hz] at rz;rw[hu] at ru;generalize hv:ac.eval x=vx at rx;obtain⟨ad,cap,p,rfl,hp,iz,dv,tg,hR⟩:=rx.eQ;have e1:=ry.aZ;have e2:=rz.aZ;have e3:=ru.aZ;have di:∃v,(execOp ac.eval o).run P w=.ok (.value v) w:=by unfold execOp;simp only[ho,hv,mf,mo,e1,e2,e3,m3,Instr.sliceAt,aO (bB ht),mx,Instr.slice,co,my];rw[run_sliceBound ⟨oM,oM⟩];simp only[mx];rw[run_sliceBound ⟨oM,oM⟩];simp only[mx];rw[run_sliceBound ⟨oM,oM⟩];simp only[mx,ly,if_true,aS cm,my];exact⟨_,rfl⟩
 obtain⟨v,di⟩:=di;exact bQ di (hK _ .bw _ Φ w (.bw _) hi (.refl _ _ _) hk)
structure VS where
 sh:List (Int×Int)
 floor:Int
 now:Int
 log:List TU
def yp(sh:List (Int×Int)):List (MV×MV):=sh.map fun p=>(.int .i64 p.1,.int .i64 p.2)
def mg:List (Int×Int)→Int→Int
 |[],_=>0
 |(i,u)::r,id=>if i=id then u else mg r id
def Zm:List (Int×Int)→Int→Int→List (Int×Int)
 |[],id,v=>[(id,v)]
 |(i,u)::r,id,v=>if i=id then(i,v)::r else(i,u)::Zm r id v
def shD:List (Int×Int)→Int→List (Int×Int)
 |[],_=>[]
 |(i,u)::r,id=>if i=id then r else(i,u)::shD r id
def Uz(sh:List (Int×Int)):((yp sh).all fun p=>nh .i64 p.1)=true:=by rw[gz];intro x hx;obtain⟨p,_,rfl⟩:=cv.1 hx;simp[nh]
theorem G4{id:Int}:∀sh:List (Int×Int),(eG id (yp sh)).getD (.int .i64 0)=.int .i64 (mg sh id)
 |[]=>rfl
 |(i,u)::r=>by
  have ih:=G4 (id:=id) r;simp only[yp,dt,eG,mg] at ih ⊢;by_cases h:i=id
  ·rw[if_pos h,if_pos h];rfl
  ·rw[if_neg h,if_neg h];exact ih
theorem G7{id v:Int}:∀sh:List (Int×Int),dW .i64 id (.int .i64 v) (yp sh)=yp (Zm sh id v)
 |[]=>rfl
 |(i,u)::r=>by
  have ih:=G7 (id:=id) (v:=v) r;simp only[yp,dt,dW,Zm] at ih ⊢;by_cases h:i=id
  ·rw[if_pos h,if_pos h];rfl
  ·rw[if_neg h,if_neg h,ih];rfl
theorem G2{id:Int}:∀sh:List (Int×Int),vL id (yp sh)=yp (shD sh id)
 |[]=>rfl
 |(i,u)::r=>by
  have ih:=G2 (id:=id) r;simp only[yp,dt,vL,shD] at ih ⊢;by_cases h:i=id
  ·rw[if_pos h,if_pos h]
  ·rw[if_neg h,if_neg h,ih];rfl
noncomputable def lW(B:BK)(fl:List ND)(mk:UInt32)(z:VS)(seq id:Int):VS :=
 if id=0 then { z with now:=seq } else
  let c:=(kN B fl id).1;let is:=(kN B fl id).2;let t:=oG seq (mg z.sh id) id (fV c mk) is
  ⟨if is=true then Zm z.sh id c.c9 else shD z.sh id,if mg z.sh id=t.new then z.floor else qB z.floor z.log t,seq,if mg z.sh id=t.new then z.log else jG z.log t⟩
noncomputable def gD(B:BK)(fl:List ND)(mk:UInt32)(z:VS)(xs:List (Int×Int)):VS:=xs.foldl (fun z x=>lW B fl mk z x.1 x.2) z
abbrev chC(x:Int×Int):List MV:=[.int .i64 x.1,.int .i64 x.2]
def T0{P:Program}{h0:FuncId}{ms:List MV}{σ:St}{g v:Nat}{og ov:aY}{og':List (List MV)→aY}{ov':Nat→aY}{k:MV→St→Prop}(hvg:v≠g)(hg:σ g=some og)(hv:σ v=some ov)
 (h:aA P h0 ms ((m5.set g og).set v ov) fun _ af=>∃g' fu,v≠g'∧af=(m5.set g' (og' fu)).set v (ov' g'))
 (hk:∀r g' fu,v≠g'→(σ.del g) g'=none→R (cD r (((σ.del g).set g' (og' fu)).set v (ov' g')) k)):R (dR P h0 ms σ k) :=
 bU h (m7 (m7 bt hg) hv) fun r af hv' hf=>by
  obtain⟨g',fu,fg,rfl⟩:=hv';have e:((m5.set g' (og' fu)).set v (ov' g')).over (σ.minus ((m5.set g og).set v ov))=((σ.del g).set g' (og' fu)).set v (ov' g'):=by
   funext j;by_cases h1:j=v
   ·subst h1;simp[ne,m6]
   ·by_cases h2:j=g'
    ·subst h2;simp[ne,m6,h1]
    ·by_cases h3:j=g
     ·subst h3;simp[ne,m6,nb,m8,m5,h1,h2]
     ·simp[ne,m6,nb,m8,m5,h1,h2,h3]
  rw[e];refine hk r g' fu fg ?_;rcases hf g' (og' fu) (by simp[m6,ls fg]) with h|⟨o',h⟩
  ·simp[m8,h]
  ·by_cases h3:g'=g
   ·subst h3;simp[m8]
   ·simp[m6,m5,h3,ls fg] at h
structure mM (m l q b f sm g v:Nat):Prop where
 D:eB m l q b
 hf:f≠m∧f≠l∧f≠q∧f≠b
 hs:sm≠m∧sm≠l∧sm≠q∧sm≠b∧sm≠f
 hg:g≠m∧g≠l∧g≠q∧g≠b∧g≠f∧g≠sm
 hv:v≠m∧v≠l∧v≠q∧v≠b∧v≠f∧v≠sm∧v≠g
noncomputable abbrev fy(m l q b:Nat)(B:BK)(f:Nat)(fl:List ND)(d:Bool)(sm g v:Nat)(mk:UInt32)(z:VS)(ex:List (List MV)):St:=(((ln m l q b B f fl d).set sm (.mp (yp z.sh))).set g (pk z.log ex)).set v (mh f mk sm z.floor z.now (.vec 31 g 0 z.log.length))
def Ys{m l q b f sm g v:Nat}{B:BK}{fl:List ND}{d:Bool}{mk:UInt32}{z:VS}{ex:List (List MV)}{σ:St}(hm:σ m=some (.mp (dm B.ae)))(hl:σ l=some (fh B.nx m (.vec 3 q 0 B.dead.length)))(hq:σ q=some (.row 197 3 (B.dead.map bj)))(hb:σ b=some (bM B.sq l (.aj 2 (B.gr.map b3) false)))(hf:σ f=some (jm fl d))
 (hs:σ sm=some (.mp (yp z.sh)))(hg:σ g=some (pk z.log ex))(hv:σ v=some (mh f mk sm z.floor z.now (.vec 31 g 0 z.log.length))):(fy m l q b B f fl d sm g v mk z ex).le σ :=
 m7 (m7 (m7 (Qt hm hl hq hb hf) hs) hg) hv
def HY{log:List TU}{t:TU}(h:log.length≤40):(jG log t).length≤40:=by
 unfold jG;split
 ·rw[d9];simp only[ew,f5];omega
 ·rw[d8,d9];simp only[ew,f5];omega
def Je{B:BK}{fl:List ND}{mk:UInt32}{z:VS}(h:z.log.length≤40)(seq id:Int):(lW B fl mk z seq id).log.length≤40:=by
 unfold lW;split
 ·exact h
 ·simp only;split
  ·exact h
  ·exact HY h
def P8{B:BK}{fl:List ND}{mk:UInt32}{z:VS}(h:z.log.length≤40):∀xs:List (Int×Int),(gD B fl mk z xs).log.length≤40:=by
 intro xs
 induction xs generalizing z with
 |nil=>exact h
 |cons x r ih=>exact ih (Je h x.1 x.2)
def IE{B:BK}(hb:BkR B)(h3:B.gr.length≤1000000)(h4:∀g,g∈B.gr→g.mem.length≤1000000)(hd:B.dead.length≤1000000){fl:List ND}(hp:bR fl=0){mk:UInt32}{m l q b f sm g v:Nat}(V:mM m l q b f sm g v)(d:Bool)(z:VS)(hz:z.log.length≤40)(ex:List (List MV))(xs:List (Int×Int))(hx:xs.length≤1000000)(tt:Bool) :
  aA Tryz.prog 18 [.ptr v 0 0,.ptr b 0 0,.aj 2 (xs.map chC) tt] (fy m l q b B f fl d sm g v mk z ex) (fun _ af=>∃d' g' fu,mM m l q b f sm g' v∧af=fy m l q b B f fl d' sm g' v mk (gD B fl mk z xs) fu):=by
 refine nP (Q':=fun _ af=>∃d' g' fu,mM m l q b f sm g' v∧(fy m l q b B f fl d' sm g' v mk (gD B fl mk z xs) fu).le af) (mB 81 [] Tryz.func18 ?_) fun v af ⟨d',g',fu,h1,h2⟩=>⟨_,h2,d',g',fu,h1,rfl⟩
 repeat' first|refine aw @Tryz.f18.eq_1 ?_|fail
 refine aG (α:=Nat×Bool×Nat×List (List MV)) (fun a=>⟨81,[(16,.int .i64 (a.1:Int)),(15,.int .i64 (xs.length:Int)),(14,.aj 2 (xs.map chC) tt),(0,.ptr v 0 0),(1,.ptr b 0 0)],[]⟩)
  (fun a=>fy m l q b B f fl a.2.1 sm a.2.2.1 v mk (gD B fl mk z (xs.take a.1)) a.2.2.2) (fun a=>a.1≤xs.length∧mM m l q b f sm a.2.2.1 v) (fun a=>xs.length-a.1) ?_ ?_
 ·refine .of (.less ?_ ba) ⟨(0,d,g,ex),rfl,rfl,kv _,V⟩;exact wW
 ·rintro⟨i,dd,g0,tl⟩ ⟨hi,V1⟩;simp only at hi V1 ⊢;by_cases bh:i<xs.length
  rotate_left
  ·obtain rfl:i=xs.length:=oM;rw[eh];repeat' first|refine ed ?_|fail
   exact⟨_,_,_,V1,ba⟩
  obtain⟨⟨seq,id⟩,hxi⟩:=bX xs bh;have ay:=bJ (f:=chC) hxi;have bn:(xs.map chC).length=xs.length:=d7 _;have fi:gD B fl mk z (xs.take (i+1))=lW B fl mk (gD B fl mk z (xs.take i)) seq id:=by rw[aW hxi];unfold gD;rw[f0];rfl
  have pd:=P8 (B:=B) (fl:=fl) (mk:=mk) hz (xs.take i);obtain⟨z1,hz1e⟩:∃z1,gD B fl mk z (xs.take i)=z1:=⟨_,rfl⟩
  rw[hz1e] at fi pd ⊢;have VV:=V1;have DD:=V1.D;obtain⟨⟨d1,d2,d3,d4,d5,d6⟩,⟨f1,f2,f3,f4⟩,⟨s1,s2,s3,s4,s5⟩,⟨g1,g2,g3,g4,g5,g6⟩,⟨v1,v2,v3,v4,v5,v6,v7⟩⟩:=V1;have d1':=ls d1;have d2':=ls d2;have d3':=ls d3;have d4':=ls d4;have d5':=ls d5;have d6':=ls d6;have f1':=ls f1;have f2':=ls f2;have f3':=ls f3;have f4':=ls f4;have s1':=ls s1;have s2':=ls s2;have s3':=ls s3;have s4':=ls s4;have s5':=ls s5;have g1':=ls g1;have g2':=ls g2;have g3':=ls g3;have g4':=ls g4;have g5':=ls g5;have g6':=ls g6;have v1':=ls v1;have v2':=ls v2;have v3':=ls v3;have v4':=ls v4;have v5':=ls v5;have v6':=ls v6;have v7':=ls v7;simp only[fy,ln,dh,iu,dy];by_cases h0:id=0
  ·subst h0;rw[show lW B fl mk z1 seq 0={ z1 with now:=seq } from if_pos rfl] at fi;repeat' first|(refine wM ?_;(first|(have _:=ah)|(intro ah));intros)|refine bu @ay @bn ?_|fail
   clear ay bn hxi;refine .of (.less ?_ ?_) ⟨(i+1,dd,g0,tl),rfl,rfl,⟨by simp only;omega,VV⟩,by simp only;omega⟩
   ·exact wW
   ·simp only[fi];clear fi hz1e pd hz hx bh hi h3 h4 hb hd hp VV DD V;refine m7 (m7 (m7 (m7 (m7 (m7 (m7 (m7 bt ?_) ?_) ?_) ?_) ?_) ?_) ?_) ?_;all_goals simp[m6, *]
  ·have oz:=zJ hb h3 h4 DD ⟨f1,f2,f3,f4⟩ hp dd hd id;obtain⟨de,hde⟩:∃de,(dd || decide ((a8 B.ae B.dead id).2=0))=de:=⟨_,rfl⟩
   rw[hde] at oz;have dg:lW B fl mk z1 seq id=_:=if_neg h0;obtain⟨⟨c,is⟩,zf⟩:∃ci,kN B fl id=ci:=⟨_,rfl⟩
   rw[zf] at oz dg;have xl:=Bv c mk;have hpv:(fV c mk).c9=c.c9:=rfl;obtain⟨pc,hpc⟩:∃pc,fV c mk=pc:=⟨_,rfl⟩
   have vg:=Fx seq (mg z1.sh id) id pc is;simp only[hpc] at dg xl;obtain⟨T,hT⟩:∃T,oG seq (mg z1.sh id) id pc is=T:=⟨_,rfl⟩
   rw[hT] at vg;rw[hT] at dg;rw[dg] at fi;have tp:=G4 (id:=id) z1.sh;have jj:=G7 (id:=id) (v:=c.c9) z1.sh;have jn:=G2 (id:=id) z1.sh;have sd:=Uz z1.sh;obtain⟨old,hold⟩:∃o,mg z1.sh id=o:=⟨_,rfl⟩
   rw[hold] at vg tp fi;have so:=XF oz;obtain⟨K,hK,c1⟩:∃K:b9,pq (.dz [76]) K∧∀ms,K 76 ms=some ⟨[f,b,q,l,m],fun _=>True,some ([jm fl de],fun _=>.ar [.agg c.c,.bool is])⟩ :=
    ⟨nu [(76,⟨[f,b,q,l,m],fun _=>True,some ([jm fl de],fun _=>.ar [.agg c.c,.bool is])⟩)],gZ,fun _=>cH⟩
   by_cases ho:old=T.new
   ·rw[if_pos ho,decide_eq_true ho,Bool.not_true] at vg;simp only[if_pos ho] at fi;obtain⟨C2,k1,k2⟩:=yn 78 ⟨[],fun v=>v=.agg pc.c,none⟩ 77 ⟨[],fun v=>v=.ar [.agg tu0.c,.bool false],none⟩;clear oz zf hpc hT hold dg;cases is
    ·simp only[al,if_false] at fi;repeat' first|(refine wM ?_;(first|(have _:=ah)|(intro ah));intros)|refine bu @ay @bn ?_|fail
     refine bP mixed [76] dK K hK ?_;repeat' first|(refine kF (os:=[jm fl dd,bM B.sq l (.aj 2 (B.gr.map b3) false),.row 197 3 (B.dead.map bj),fh B.nx m (.vec 3 q 0 B.dead.length),.mp (dm B.ae)]) (c1 _) sS so ?_)|(refine wM ?_;(first|(have _:=ak)|(intro ak));intros)|refine aw @ai ?_|fail
     refine aJ mixed dK C2 ?_;repeat' first|(with_reducible refine aF (k1 _) xl ?_)|(with_reducible refine aF (k2 _) vg ?_)|(refine iM mixed (fun _ _=>none) [_,_,_,_,_,_] [] rfl dK ?_)|(refine wM ?_;(first|(have _:=ao)|(intro ao));intros)|refine wZ5 @ai @ie.{0} @tp @jj @sd ?_|fail
     refine bO (kX (t:=131) (l:=sm) (es:=yp z1.sh) (kd:=.i64) (n:=id) rfl (by rw[TM]) (by rw[td3]) rfl sS rfl sd ?_);rw[jn];show R _;repeat' first|refine aw @ai ?_|fail
     clear ay bn hxi tp jj sd jn vg xl so;refine .of (.less ?_ ?_) ⟨(i+1,de,g0,tl),rfl,rfl,⟨by simp only;omega,VV⟩,by simp only;omega⟩
     ·exact wW
     ·simp only[fi];clear fi hz1e pd hz hx bh hi h3 h4 hb hd hp VV DD V c1 k1 k2;refine m7 (m7 (m7 (m7 (m7 (m7 (m7 (m7 bt ?_) ?_) ?_) ?_) ?_) ?_) ?_) ?_;all_goals simp[m6,m8, *]
    ·simp only[if_true] at fi;repeat' first|(refine wM ?_;(first|(have _:=ah)|(intro ah));intros)|refine bu @ay @bn ?_|fail
     refine bP mixed [76] dK K hK ?_;repeat' first|(refine kF (os:=[jm fl dd,bM B.sq l (.aj 2 (B.gr.map b3) false),.row 197 3 (B.dead.map bj),fh B.nx m (.vec 3 q 0 B.dead.length),.mp (dm B.ae)]) (c1 _) sS so ?_)|(refine wM ?_;(first|(have _:=ak)|(intro ak));intros)|refine aw @ai ?_|fail
     refine aJ mixed dK C2 ?_;repeat' first|(with_reducible refine aF (k1 _) xl ?_)|(with_reducible refine aF (k2 _) vg ?_)|(refine wM ?_;(first|(have _:=ao)|(intro ao));intros)|refine wV ?_|refine wZ5 @ai @ie.{0} @tp @jj @sd ?_|fail
     clear ay bn hxi tp jj sd jn vg xl so;refine .of (.less ?_ ?_) ⟨(i+1,de,g0,tl),rfl,rfl,⟨by simp only;omega,VV⟩,by simp only;omega⟩
     ·exact wW
     ·simp only[fi];clear fi hz1e pd hz hx bh hi h3 h4 hb hd hp VV DD V c1 k1 k2;refine m7 (m7 (m7 (m7 (m7 (m7 (m7 (m7 bt ?_) ?_) ?_) ?_) ?_) ?_) ?_) ?_;all_goals simp[m6,m8, *]
   ·rw[if_neg ho,decide_eq_false ho,Bool.not_false] at vg;simp only[if_neg ho] at fi;obtain⟨C2,k1,k2⟩:=yn 78 ⟨[],fun v=>v=.agg pc.c,none⟩ 77 ⟨[],fun v=>v=.ar [.agg T.c,.bool true],none⟩;clear oz zf hpc hT hold dg;cases is
    ·simp only[al,if_false] at fi;repeat' first|(refine wM ?_;(first|(have _:=ah)|(intro ah));intros)|refine bu @ay @bn ?_|fail
     refine bP mixed [76] dK K hK ?_;repeat' first|(refine kF (os:=[jm fl dd,bM B.sq l (.aj 2 (B.gr.map b3) false),.row 197 3 (B.dead.map bj),fh B.nx m (.vec 3 q 0 B.dead.length),.mp (dm B.ae)]) (c1 _) sS so ?_)|(refine wM ?_;(first|(have _:=ak)|(intro ak));intros)|refine aw @ai ?_|fail
     refine aJ mixed dK C2 ?_;repeat' first|(with_reducible refine aF (k1 _) xl ?_)|(with_reducible refine aF (k2 _) vg ?_)|(refine wM ?_;(first|(have _:=ao)|(intro ao));intros)|refine wZ5 @ai @ie.{0} @tp @jj @sd ?_|fail
     refine T0 v7 sS sS (Bu v7 f sm mk z1.floor seq z1.log pd tl T) fun rr g' fu hvg ue=>?_;have gm:g'≠m:=fun e=>by subst e;simp[m6,m8, *] at ue
     have gl:g'≠l:=fun e=>by subst e;simp[m6,m8, *] at ue
     have gq:g'≠q:=fun e=>by subst e;simp[m6,m8, *] at ue
     have gb:g'≠b:=fun e=>by subst e;simp[m6,m8, *] at ue
     have gf:g'≠f:=fun e=>by subst e;simp[m6,m8, *] at ue
     have gs:g'≠sm:=fun e=>by subst e;simp[m6,m8, *] at ue
     have gn1:g'≠ah:=fun e=>by subst e;simp[m6,m8, *] at ue
     have gn2:g'≠ak:=fun e=>by subst e;simp[m6,m8, *] at ue
     have gn3:g'≠ao:=fun e=>by subst e;simp[m6,m8, *] at ue
     have VV':mM m l q b f sm g' v:=⟨VV.D,VV.hf,VV.hs,⟨gm,gl,gq,gb,gf,gs⟩,⟨v1,v2,v3,v4,v5,v6,hvg⟩⟩
     clear ue;have gm':=ls gm;have gl':=ls gl;have gq':=ls gq;have gb':=ls gb;have gf':=ls gf;have gs':=ls gs;have hvg':=ls hvg;have gn1':=ls gn1;have gn2':=ls gn2;have gn3':=ls gn3;repeat' first|(refine iM mixed (fun _ _=>none) [_,_,_,_,_,_] [] rfl dK ?_)|refine aw @ai ?_|fail
     refine bO (kX (t:=131) (l:=sm) (es:=yp z1.sh) (kd:=.i64) (n:=id) rfl (by rw[TM]) (by rw[td3]) rfl sS rfl sd ?_);rw[jn];show R _;repeat' first|refine aw @ai ?_|fail
     clear ay bn hxi tp jj sd jn vg xl so;refine .of (.less ?_ ?_) ⟨(i+1,de,g',fu),rfl,rfl,⟨by simp only;omega,VV'⟩,by simp only;omega⟩
     ·exact wW
     ·simp only[fi];clear VV' fi hz1e pd hz hx bh hi h3 h4 hb hd hp VV DD V c1 k1 k2;refine m7 (m7 (m7 (m7 (m7 (m7 (m7 (m7 bt ?_) ?_) ?_) ?_) ?_) ?_) ?_) ?_;all_goals simp[m6,m8, *]
    ·simp only[if_true] at fi;repeat' first|(refine wM ?_;(first|(have _:=ah)|(intro ah));intros)|refine bu @ay @bn ?_|fail
     refine bP mixed [76] dK K hK ?_;repeat' first|(refine kF (os:=[jm fl dd,bM B.sq l (.aj 2 (B.gr.map b3) false),.row 197 3 (B.dead.map bj),fh B.nx m (.vec 3 q 0 B.dead.length),.mp (dm B.ae)]) (c1 _) sS so ?_)|(refine wM ?_;(first|(have _:=ak)|(intro ak));intros)|refine aw @ai ?_|fail
     refine aJ mixed dK C2 ?_;repeat' first|(with_reducible refine aF (k1 _) xl ?_)|(with_reducible refine aF (k2 _) vg ?_)|(refine wM ?_;(first|(have _:=ao)|(intro ao));intros)|refine wZ5 @ai @ie.{0} @tp @jj @sd ?_|fail
     refine T0 v7 sS sS (Bu v7 f sm mk z1.floor seq z1.log pd tl T) fun rr g' fu hvg ue=>?_;have gm:g'≠m:=fun e=>by subst e;simp[m6,m8, *] at ue
     have gl:g'≠l:=fun e=>by subst e;simp[m6,m8, *] at ue
     have gq:g'≠q:=fun e=>by subst e;simp[m6,m8, *] at ue
     have gb:g'≠b:=fun e=>by subst e;simp[m6,m8, *] at ue
     have gf:g'≠f:=fun e=>by subst e;simp[m6,m8, *] at ue
     have gs:g'≠sm:=fun e=>by subst e;simp[m6,m8, *] at ue
     have gn1:g'≠ah:=fun e=>by subst e;simp[m6,m8, *] at ue
     have gn2:g'≠ak:=fun e=>by subst e;simp[m6,m8, *] at ue
     have gn3:g'≠ao:=fun e=>by subst e;simp[m6,m8, *] at ue
     have VV':mM m l q b f sm g' v:=⟨VV.D,VV.hf,VV.hs,⟨gm,gl,gq,gb,gf,gs⟩,⟨v1,v2,v3,v4,v5,v6,hvg⟩⟩
     clear ue;have gm':=ls gm;have gl':=ls gl;have gq':=ls gq;have gb':=ls gb;have gf':=ls gf;have gs':=ls gs;have hvg':=ls hvg;have gn1':=ls gn1;have gn2':=ls gn2;have gn3':=ls gn3;repeat' first|refine wV ?_|refine fx @ai @jj @sd ?_|fail
     clear ay bn hxi tp jj sd jn vg xl so;refine .of (.less ?_ ?_) ⟨(i+1,de,g',fu),rfl,rfl,⟨by simp only;omega,VV'⟩,by simp only;omega⟩
     ·exact wW
     ·simp only[fi];clear VV' fi hz1e pd hz hx bh hi h3 h4 hb hd hp VV DD V c1 k1 k2;refine m7 (m7 (m7 (m7 (m7 (m7 (m7 (m7 bt ?_) ?_) ?_) ?_) ?_) ?_) ?_) ?_;all_goals simp[m6,m8, *]
def VR:∀t:T,t.fl≠[]:=fun t=>by cases t<;>simp[T.fl]
def TT{x:ND}(h:bR [x]=0):rX [x]=.leaf x:=by
 have ht:=(Au h).2.1;cases hc:rX [x] with
 |leaf y=>rw[hc] at ht;simp only[T.fl,kk,and_true] at ht;rw[ht]
 |one y a=>rw[hc] at ht;simp only[T.fl,kk] at ht;exact absurd ht.2 (VR a)
 |two y a b=>rw[hc] at ht;simp only[T.fl,kk,List.append_eq_nil_iff] at ht;exact absurd ht.2.1 (VR a)
def LD{x:ND}(h:bR [x]=0)(gr:List GR)(c:CA):fJ gr [x] c=if x.op=1 then true else if x.op=2 then false else cW (qK c) (jx gr c.id) x:=by unfold fJ;rw[TT h];rfl
def pa1:PA:=⟨1,0,f80⟩
def Z1:CA:=bW 1 pa1
def rj:CA:=bW 2 pa1
def uc:BK:=⟨4,3,[Z1,rj],[],[⟨3,[2]⟩]⟩
abbrev ZT(cs:List CA):List (Int×Int):=cs.map fun c=>(c.id,c.c9)
def VF(cs:List CA):ZV cs=yp (ZT cs):=by unfold ZV yp ZT;rw[ib];rfl
def zL{B:BK}(hb:BkR B)(h3:B.gr.length≤1000000)(h4:∀g,g∈B.gr→g.mem.length≤1000000){m l q b:Nat}(D:eB m l q b){fl:List ND}(hp:bR fl=0)(tt:Bool){mk:UInt32}(hm:mk.toNat≤511) :
  aA Tryz.prog 15 [.ptr b 0 0,.aj 5 (fl.map ND.c) tt,.int .u32 (mk.toNat:Int)] (dh m l q b B []) (fun r af=>∃f sm g v d,mM m l q b f sm g v∧r=.ptr v 0 0∧af=fy m l q b B f fl d sm g v mk ⟨ZT (nk B fl),B.sq,B.sq,[]⟩ []):=by
 refine aA.gh ((Lq hb h3 h4 D [] hp tt hm).mono ?_);rintro _ _ ⟨ρ,kj,rfl,f,sm,v,d,⟨n1,n2,n3⟩,rfl,rfl⟩;have hf:=kj f (jm fl d) (by simp[m6,ls n1,ls n2]);have hs:=kj sm (.mp (ZV (nk B fl))) (by simp[m6,ls n3]);have hv:=kj v _ cj;simp only[aM] at hf hs hv;obtain⟨f1,f2,f3,f4,-⟩:=hf;obtain⟨s1,s2,s3,s4,-⟩:=hs;obtain⟨v1,v2,v3,v4,-⟩:=hv;rw[bS,bS,bS,dS];refine Gh.IW (b:=v) (t:=133) (e:=6) (pre:=[.ptr f 0 0,.int .u32 (mk.toNat:Int),.db sm,.int .i64 B.sq,.int .i64 B.sq]) (post:=[]) 128 31 cj fun g hg=>?_;simp only[aM] at hg;obtain⟨g1,g2,g3,g4,g5,g6,g7,-⟩:=hg;refine .done ⟨_,rfl,f,sm,g,v,d,⟨D,⟨f4,f3,f2,f1⟩,⟨s4,s3,s2,s1,n1⟩,⟨g7,g6,g5,g4,g3,g2⟩,⟨v4,v3,v2,v1,n2,n3,ls g1⟩⟩,rfl,?_⟩;rw[VF];funext j;by_cases h1:j=g
 ·subst h1;simp[m6,g1,pk]
 ·by_cases h2:j=v
  ·subst h2;simp[m6,h1]
  ·simp[m6,h1,h2]
def ID{B:BK}(hb:BkR B)(h3:B.gr.length≤1000000)(h4:∀g,g∈B.gr→g.mem.length≤1000000){m l q b n:Nat}(D:eB m l q b)(hn:n≠m∧n≠l∧n≠q∧n≠b){x:ND}(hp:bR [x]=0){mk:UInt32}(hm:mk.toNat≤511) :
  aA Tryz.prog 15 [.ptr b 0 0,.vec 5 n 0 1,.int .u32 (mk.toNat:Int)] ((dh m l q b B []).set n (.row 121 5 [x.c])) (fun r af=>∃f sm g v d,mM m l q b f sm g v∧r=.ptr v 0 0∧af=fy m l q b B f [x] d sm g v mk ⟨ZT (nk B [x]),B.sq,B.sq,[]⟩ []):=by
 have Zh:dh m l q b B [] n=none:=by simp only[aM];exact⟨hn.2.2.2,hn.2.2.1,hn.2.1,hn.1,rfl⟩
 refine aA.pre (ms':=[.ptr b 0 0,.aj 5 ([x].map ND.c) false,.int .u32 (mk.toNat:Int)]) rfl (n7 (m5.set n (.row 121 5 [x.c])) (m7 bt cj) (St.bC ba Zh) (fun k o hk=>?_) (fun p hp=>?_)) (zL hb h3 h4 D hp false hm)
 ·rw[cn (fun e=>by subst e;rw[Zh] at hk;cases hk)];rfl
 ·simp only[jD,cS,df,or_false] at hp;rcases hp with rfl|rfl|rfl
  ·exact .same _
  ·exact View.cq cj rfl
  ·exact .same _
def T2{P:Program}{g0:FuncId}{ms:List MV}{σ:St}{m l q b n:Nat}{on:aY}{B:BK}{fl:List ND}{mk:UInt32}{z:VS}{k:MV→St→Prop}{u:Nat→MV}
 (h:aA P g0 ms ((dh m l q b B []).set n on) fun r af=>∃f sm g v d,mM m l q b f sm g v∧r=u v∧af=fy m l q b B f fl d sm g v mk z [])(hle:((dh m l q b B []).set n on).le σ)(hn:dh m l q b B [] n=none)
 (hk:∀f sm g v d,mM m l q b f sm g v→(σ.del n) f=none→(σ.del n) sm=none→(σ.del n) g=none→(σ.del n) v=none→R (cD (u v) (((((σ.del n).set f (jm fl d)).set sm (.mp (yp z.sh))).set g (pk z.log [])).set v (mh f mk sm z.floor z.now (.vec 31 g 0 z.log.length))) k)):R (dR P g0 ms σ k) :=
 bU h hle fun r af hv hf=>by
  obtain⟨f,sm,g,v,d,V,rfl,rfl⟩:=hv;have hV:=V;obtain⟨D,⟨f1,f2,f3,f4⟩,⟨s1,s2,s3,s4,s5⟩,⟨g1,g2,g3,g4,g5,g6⟩,⟨v1,v2,v3,v4,v5,v6,v7⟩⟩:=V;have e:(fy m l q b B f fl d sm g v mk z []).over (σ.minus ((dh m l q b B []).set n on))=((((σ.del n).set f (jm fl d)).set sm (.mp (yp z.sh))).set g (pk z.log [])).set v (mh f mk sm z.floor z.now (.vec 31 g 0 z.log.length)):=by
   rw[bS,bS,bS,bS]
   congr 4
   funext j;by_cases h1:j=n
   ·subst h1;simp only[ne,nb,m8,hn,aD];simp
   ·simp only[ne,nb,m8,cn h1,if_neg h1];cases hb:dh m l q b B [] j with
    |none=>rfl
    |some o=>exact(hle j o (by rw[cn h1];exact hb)).symm
  have Z5:∀j o,fy m l q b B f fl d sm g v mk z [] j=some o→(j≠m∧j≠l∧j≠q∧j≠b)→(σ.del n) j=none:=fun j o hj fg=>by
   by_cases h1:j=n
   ·simp[m8,h1]
   ·rcases hf j o hj with h|⟨o',h⟩
    ·simp[m8,h1,h]
    ·rw[cn h1] at h;obtain⟨j1,j2,j3,j4⟩:=fg;simp[m6,m5,j1,j2,j3,j4] at h
  rw[e];refine hk f sm g v d hV (Z5 f (jm fl d) ?_ ⟨f1,f2,f3,f4⟩) (Z5 sm (.mp (yp z.sh)) ?_ ⟨s1,s2,s3,s4⟩) (Z5 g (pk z.log []) ?_ ⟨g1,g2,g3,g4⟩) (Z5 v _ cj ⟨v1,v2,v3,v4⟩)
  ·simp[m6,ls v5,ls g5,ls s5]
  ·simp[m6,ls v6,ls g6]
  ·simp[m6,ls v7]
def T1{P:Program}{g:FuncId}{ms:List MV}{σ τ:St}{m l b:Nat}{om ol ob:aY}{r:MV}{k:MV→St→Prop}(h:aA P g ms τ fun v af=>v=r∧af=((τ.set m om).set l ol).set b ob)(hle:τ.le σ)(hk:R (cD r (((σ.set m om).set l ol).set b ob) k)):R (dR P g ms σ k) :=
 bU h hle fun v af hv _=>by obtain⟨rfl,rfl⟩:=hv;rw[bS,bS,bS,nA hle];exact hk
abbrev mlb(m l b:Nat)(om ol ob:aY):St:=((m5.set m om).set l ol).set b ob
def WL{m l b:Nat}{om ol ob om' ol' ob':aY}:mlb m l b om' ol' ob'=(((mlb m l b om ol ob).set m om').set l ol').set b ob':=by
 funext j;by_cases h1:j=b
 ·simp[m6,h1]
 ·by_cases h2:j=l
  ·simp[m6,h1,h2]
  ·by_cases h3:j=m<;>simp[m6,h1,h2,h3]
def exE:ED:=⟨1,0,0,pa1⟩
def XL:exE.c=.int .i64 1::.int .i64 0::.int .i64 0::.int .u32 1::.int .u32 0::fc f80:=rfl
def VQ{nx sq:Int}{m l b:Nat}(lg:l≠m)(hbm:b≠m)(sc:b≠l)(D g:MV)(cs:List CA)(hn:cs.length<48)(xf:0≤nx)(hx:nx<1073741824)(gi:nx∉cs.map bg)(h0:0≤sq)(h1:sq≤1000000000000) :
  aA Tryz.prog 17 [.ptr b 0 0,.agg (.int .i64 1::.int .i64 0::.int .i64 0::.int .u32 1::.int .u32 0::fc f80)] (mlb m l b (.mp (dm cs)) (fh nx m D) (bM sq l g)) (fun v af=>v=.ar [.aj 2 (cR sq [nx]) false,.int .i64 0]∧af=(((mlb m l b (.mp (dm cs)) (fh nx m D) (bM sq l g)).set m (.mp (dm (cs++[bW nx pa1])))).set l (fh (nx+1) m D)).set b (bM (sq+1) l g)):=by rw[←XL];refine(Pn lg hbm sc D g cs pa1 dK hn xf hx gi h0 h1).mono ?_;rintro v af ⟨q1,q2⟩;exact⟨q1,q2.trans WL⟩
def R7{σ:St}{m l b:Nat}{om ol ob:aY}(hm:σ m=some om)(hl:σ l=some ol)(hb:σ b=some ob):(mlb m l b om ol ob).le σ:=m7 (m7 (m7 bt hm) hl) hb
def iA(l:List Int)(x:Int):List Int:=if x∈l then l else l.take (aT l x)++x::l.drop (aT l x)
def dQ(l:List Int)(x:Int):List Int:=l.filter fun y=>!decide (y=x)
def uB(l:List GR)(g:Int):List GR:=l.take (aT (l.map cd) g)++⟨g,[]⟩::l.drop (aT (l.map cd) g)
def k8(l:List GR)(g:Int):List GR:=l.filter fun x=>!decide (x.no=g)
def bH(l:List GR)(g:Int):List Int:=((l.find? fun x=>decide (x.no=g)).map GR.mem).getD []
def fD(l:List GR)(g:Int)(m:List Int):List GR:=l.map fun x=>if x.no=g then⟨g,m⟩ else x
def lz(l:List GR)(id:Int):List GR:=l.map fun x=>⟨x.no,dQ x.mem id⟩
def oR(l:List DE):List DE:=if 40<l.length then l.drop 1 else l
def mc(B:BK)(x:ED):Int×BK×List Int :=
 if aQ x≠0 then(aQ x,B,[])
 else if 1099511627676<B.sq then(8,B,[])
 else if x.kd=1 then(if 48≤B.ae.length∨1073741824≤B.nx then(8,B,[]) else(0,{ B with nx:=B.nx+1,ae:=B.ae++[bW B.nx x.p] },[B.nx]))
 else if x.kd=2 then(if (a8 B.ae B.dead x.id).2≠0 then((a8 B.ae B.dead x.id).2,B,[]) else if 1099511627776≤(a8 B.ae B.dead x.id).1.c9 then(8,B,[])
  else(0,{ B with ae:=vv B.ae x.id (dI (a8 B.ae B.dead x.id).1 x.p) },[x.id]))
 else if x.kd=3 then(if (a8 B.ae B.dead x.id).2≠0 then((a8 B.ae B.dead x.id).2,B,[])
  else(0,{ B with ae:=B.ae.filter (fun c=>!decide (c.id=x.id)),dead:=oR (B.dead++[⟨x.id,(a8 B.ae B.dead x.id).1.c9,B.sq+1⟩]),gr:=lz B.gr x.id },[x.id]))
 else if x.kd=4 then(if x.gr∈B.gr.map cd then(7,B,[]) else(0,{ B with gr:=uB B.gr x.gr },[0]))
 else if x.kd=5 then(if x.gr∈B.gr.map cd then(0,{ B with gr:=k8 B.gr x.gr },bH B.gr x.gr++[0]) else(6,B,[]))
 else if x.kd=6 then(if (a8 B.ae B.dead x.id).2≠0 then((a8 B.ae B.dead x.id).2,B,[]) else if x.gr∉B.gr.map cd then(6,B,[]) else if x.id∈bH B.gr x.gr then(7,B,[])
  else(0,{ B with gr:=fD B.gr x.gr (iA (bH B.gr x.gr) x.id) },[x.id]))
 else(if x.gr∉B.gr.map cd then(6,B,[]) else if x.id∉bH B.gr x.gr then(6,B,[]) else(0,{ B with gr:=fD B.gr x.gr (dQ (bH B.gr x.gr) x.id) },[x.id]))
def fw(B:BK)(x:ED):BK:={ (mc B x).2.1 with sq:=B.sq+((mc B x).2.2.length:Int) }
def iv(B:BK)(x:ED):Int:=(mc B x).1
def mb(B:BK)(x:ED):List Int:=(mc B x).2.2
def dF:Int→List Int→List (Int×Int)
 |_,[]=>[]
 |s,i::r=>(s+1,i)::dF (s+1) r
theorem FW:∀(s:Int) (l:List Int),(dF s l).map chC=cR s l
 |_,[]=>rfl
 |s,i::r=>by rw[dF,cR,dt,FW]
theorem TY{a b:Int}:∀{l:List Int},en l→(∀x,x∈l→a≤x∧x<b)→(l.length:Int)≤max (b-a) 0
 |[],_,_=>by simp only[f5];omega
 |x::l,h,hb=>by
  have h1:=(em.1 h)
  have hx:=hb x (du ..);have:=TY (a:=x+1) (b:=b) h1.2 fun y hy=>⟨by have:=h1.1 y hy;omega,(hb y (dl _ hy)).2⟩
  rw[ew];omega
theorem M5:∀{a b:List Int},en a→en b→(∀x,x∈a→x∈b)→a.length≤b.length
 |[],b,_,_,_=>ax
 |x::a,[],_,_,h=>absurd (h x (du ..)) df
 |x::a,y::b,ha,hb,h=>by
  have h1:=em.1 ha;have h2:=em.1 hb;rw[ew,ew];refine Nat.succ_le_succ (M5 h1.2 h2.2 fun z hz=>?_);have hxz:=h1.1 z hz;rcases cS.1 (h z (dl _ hz)) with rfl|q
  ·rcases cS.1 (h x (du ..)) with rfl|q
   ·omega
   ·have:=h2.1 x q;omega
  ·exact q
theorem QY:∀{last:Int} {l:List GR},jF last l=true→en (l.map cd)∧(∀g,g∈l→last<g.no∧0≤g.no∧g.no<16∧s6 0 g.mem=true)
 |_,[],_=>⟨.nil,fun g hg=>absurd hg df⟩
 |last,x::l,h=>by
  unfold jF at h;simp only[ag,decide_eq_true_eq] at h;obtain⟨⟨⟨h1,h2,h3⟩,h4⟩,h5⟩:=h;obtain⟨i1,i2⟩:=QY h5;refine⟨em.2 ⟨fun y hy=>?_,i1⟩,fun g hg=>?_⟩
  ·obtain⟨g,hg,rfl⟩:=cv.1 hy;exact(i2 g hg).1
  ·rcases cS.1 hg with rfl|hg
   ·exact⟨h1,h2,h3,h4⟩
   ·have:=i2 g hg;exact⟨oM,this.2⟩
theorem VU:∀{last:Int} {l:List GR},en (l.map cd)→(∀g,g∈l→last<g.no∧0≤g.no∧g.no<16∧s6 0 g.mem=true)→jF last l=true
 |_,[],_,_=>rfl
 |last,x::l,h,h'=>by obtain⟨i1,i2⟩:=em.1 h;obtain⟨h1,h2,h3,h4⟩:=h' x (du ..);unfold jF;simp only[ag,decide_eq_true_eq];refine⟨⟨⟨h1,h2,h3⟩,h4⟩,VU i2 fun g hg=>?_⟩;have:=h' g (dl _ hg);exact⟨i1 g.no (cv.2 ⟨g,hg,rfl⟩),this.2⟩
theorem Q3:∀{last:Int} {l:List Int},en l→(∀x,x∈l→last<x∧1≤x∧x<1073741824)→s6 last l=true
 |_,[],_,_=>rfl
 |last,x::l,h,h'=>by obtain⟨i1,i2⟩:=em.1 h;obtain⟨h1,h2,h3⟩:=h' x (du ..);unfold s6 jT;simp only[ag,decide_eq_true_eq];refine⟨⟨h1,h2,h3⟩,Q3 i2 fun y hy=>?_⟩;have:=h' y (dl _ hy);exact⟨i1 y hy,this.2⟩
structure dx (b:BK):Prop extends BkR b where
 qc:en (b.ae.map bg)
 dsq:∀d,d∈b.dead→d.sq≤b.sq
 mem:∀g,g∈b.gr→∀x,x∈g.mem→x∈b.ae.map bg
 ua:en (b.gr.map cd)
 gno:∀g,g∈b.gr→0≤g.no∧g.no<16
 upm:∀g,g∈b.gr→en g.mem
 mid:∀g,g∈b.gr→∀x,x∈g.mem→1≤x∧x<1073741824
 ng:b.gr.length≤16
 nm:∀g,g∈b.gr→g.mem.length≤48
def Wg{b:BK}(h:Nl b=true):dx b:=by
 have hr:=Qu h;unfold Nl at h;simp only[ag,decide_eq_true_eq,gz] at h;obtain⟨⟨-,h1⟩,h2⟩:=h;have hu:=TX hr.cok;obtain⟨g1,g2⟩:=QY hr.gok;have hm:∀g,g∈b.gr→∀x,x∈g.mem→x∈b.ae.map bg:=fun g hg x hx=>Classical.byContradiction fun hn=>by have ku:x∈i6 g.mem (b.ae.map bg):=ff.2 ⟨hx,by simpa using hn⟩;rw[h2 g hg] at ku;cases ku
 have hi:∀g,g∈b.gr→en g.mem:=fun g hg=>(F7 (g2 g hg).2.2.2).1;refine { toBkR:=hr,qc:=hu,dsq:=h1,mem:=hm,ua:=g1,gno:=fun g hg=>⟨(g2 g hg).2.1,(g2 g hg).2.2.1⟩,upm:=hi,mid:=fun g hg x hx=>((F7 (g2 g hg).2.2.2).2 x hx).2,ng:=?_,nm:=fun g hg=>?_ }
 ·have:=TY (a:=0) (b:=16) g1 fun x hx=>by obtain⟨g,hg,rfl⟩:=cv.1 hx;exact⟨(g2 g hg).2.1,(g2 g hg).2.2.1⟩
  rw[d7] at this;omega
 ·have:=M5 (hi g hg) hu (hm g hg);rw[d7] at this;have:=hr.nc;omega
section
variable {α:Type} {f:α→Int}
theorem sI{x:Int}:∀{l:List α},en (l.map f)→(∀y,y∈l.take (aT (l.map f) x)→f y<x)∧∀y,y∈l.drop (aT (l.map f) x)→x≤f y
 |[],_=>⟨fun y hy=>by simp[aT] at hy,fun y hy=>by simp[aT] at hy⟩
 |z::l,h=>by
  obtain⟨h1,h2⟩:=em.1 h;obtain⟨i1,i2⟩:=sI (x:=x) h2;by_cases hz:f z<x
  ·have e:aT ((z::l).map f) x=aT (l.map f) x+1:=by simp[aT,hz]
   rw[e,List.take_succ_cons,ix];refine⟨fun y hy=>?_,i2⟩;rcases cS.1 hy with rfl|hy
   ·exact hz
   ·exact i1 y hy
  ·have e:aT ((z::l).map f) x=0:=by
    unfold aT;rw[List.length_eq_zero_iff,hE];intro y hy;rcases cS.1 hy with rfl|hy
    ·simpa using hz
    ·have:=h1 y hy;simp;omega
   rw[e,List.take_zero,ia];refine⟨fun y hy=>absurd hy df,fun y hy=>?_⟩;rcases cS.1 hy with rfl|hy
   ·omega
   ·have:=h1 (f y) (cv.2 ⟨y,hy,rfl⟩);omega
def qI(l:List Int)(x:Int):aT l x≤l.length:=gy _ _
def oX{x:Int}{l:List α}(hu:en (l.map f))(hx:x∈l.map f):∃y a b,l=a++y::b∧f y=x∧a.length=aT (l.map f) x∧(∀z,z∈a→f z<x)∧∀z,z∈b→x<f z:=by
 obtain⟨y,hy,rfl⟩:=cv.1 hx;obtain⟨a,b,rfl⟩:=List.append_of_mem hy;rw[e8,dt] at hu;obtain⟨u1,u2,u3⟩:=gj.1 hu;obtain⟨u4,u5⟩:=em.1 u2;have ha:∀z,z∈a→f z<f y:=fun z hz=>u3 (f z) (cv.2 ⟨z,hz,rfl⟩) (f y) (du ..);have hb:∀z,z∈b→f y<f z:=fun z hz=>u4 (f z) (cv.2 ⟨z,hz,rfl⟩);refine⟨y,a,b,rfl,rfl,?_,ha,hb⟩;unfold aT;rw[e8,dt,fj,g9.2,hE.2,dy,d7]
 ·intro z hz;rcases cS.1 hz with rfl|hz
  ·simp
  ·obtain⟨w,hw,rfl⟩:=cv.1 hz;have:=hb w hw;simp;omega
 ·intro z hz;obtain⟨w,hw,rfl⟩:=cv.1 hz;simpa using ha w hw
def oL{x:Int}{l:List α}(hu:en (l.map f))(hx:x∈l.map f):∃y,l[aT (l.map f) x]?=some y∧f y=x∧l.find? (fun z=>decide (f z=x))=some y∧y∈l:=by obtain⟨y,a,b,e,hy,hl,ha,hb⟩:=oX hu hx;refine⟨y,by rw[←hl,e];simp,hy,?_,by rw[e];simp⟩;rw[e,List.find?_append,i5.2 fun z hz=>by have:=ha z hz;simp;omega];simp[hy]
def Ha{x:Int}{l:List α}(hx:x∉l.map f):l.find? (fun z=>decide (f z=x))=none :=
 i5.2 fun z hz=>by have:f z≠x:=fun h=>hx (cv.2 ⟨z,hz,h⟩);simpa using this
def vO{x:Int}{l:List α}(hu:en (l.map f))(hx:x∈l.map f):l.filter (fun z=>!decide (f z=x))=l.take (aT (l.map f) x)++l.drop (aT (l.map f) x+1):=by
 obtain⟨y,a,b,e,hy,hl,ha,hb⟩:=oX hu hx;have e1:l.take (aT (l.map f) x)=a:=by rw[←hl];rw[e];simp
 have e2:l.drop (aT (l.map f) x+1)=b:=by rw[←hl];rw[e];simp
 rw[e1,e2,e,fj,List.filter_cons,g9.2,g9.2]
 ·simp[hy]
 ·intro z hz;have:=hb z hz;simp;omega
 ·intro z hz;have:=ha z hz;simp;omega
def Ci{x:Int}{l:List α}(hx:x∉l.map f):l.filter (fun z=>!decide (f z=x))=l :=
 g9.2 fun z hz=>by have:f z≠x:=fun h=>hx (cv.2 ⟨z,hz,h⟩);simpa using this
def vP{x:Int}{l:List α}(hu:en (l.map f))(hx:x∈l.map f)(v:α):l.map (fun z=>if f z=x then v else z)=l.set (aT (l.map f) x) v:=by obtain⟨y,a,b,e,hy,hl,ha,hb⟩:=oX hu hx;rw[←hl];rw[e,e8,dt,if_pos hy,List.set_append_right _ _ (ky _),lf,List.set_cons_zero];have e1:a.map (fun z=>if f z=x then v else z)=a:=(g8 fun z hz=>if_neg (by have:=ha z hz;omega)).trans (List.map_id' a);have e2:b.map (fun z=>if f z=x then v else z)=b:=(g8 fun z hz=>if_neg (by have:=hb z hz;omega)).trans (List.map_id' b);rw[e1,e2]
def Mw{x:Int}{l:List α}(hu:en (l.map f))(hx:x∉l.map f){v:α}(hv:f v=x):en ((l.take (aT (l.map f) x)++v::l.drop (aT (l.map f) x)).map f):=by
 obtain⟨h1,h2⟩:=sI (x:=x) hu;have e:=gx (aT (l.map f) x) l;generalize aT (l.map f) x=k at h1 h2 e ⊢;rw[←e,e8] at hu;obtain⟨u1,u2,u3⟩:=gj.1 hu;rw[e8,dt,hv];have h3:∀y,y∈(l.drop k).map f→x<y:=fun y hy=>by obtain⟨z,hz,rfl⟩:=cv.1 hy;have:=h2 z hz;have fg:f z≠x:=fun h=>hx (cv.2 ⟨z,io hz,h⟩);omega
 have h4:∀y,y∈(l.take k).map f→y<x:=fun y hy=>by obtain⟨z,hz,rfl⟩:=cv.1 hy;exact h1 z hz
 refine gj.2 ⟨u1,em.2 ⟨h3,u2⟩,fun y hy z hz=>?_⟩;rcases cS.1 hz with rfl|hz
 ·exact h4 y hy
 ·exact u3 y hy z hz
def MF{l:List α}{k:Nat}{v z:α}:z∈l.take k++v::l.drop k↔z=v∨z∈l:=by
 have e:=gx k l;constructor
 ·intro h;rcases ez.1 h with h|h
  ·exact .inr (List.mem_of_mem_take h)
  ·rcases cS.1 h with h|h
   ·exact .inl h
   ·exact .inr (io h)
 ·rintro(rfl|h)
  ·simp
  ·rw[←e] at h;rcases ez.1 h with h|h
   ·exact ez.2 (.inl h)
   ·exact ez.2 (.inr (dl _ h))
end
def S6{l:List Int}{x:Int}(hu:en l):en (iA l x):=by
 unfold iA;split
 ·exact hu
 ·have h0:en (l.map id):=by rw[i8];exact hu
  have:=Mw (f:=id) (l:=l) (x:=x) h0 (by rw[i8];assumption) (v:=x) rfl;rw[i8,i8] at this;exact this
def Fy{l:List Int}{x y:Int}:y∈iA l x↔y=x∨y∈l:=by
 unfold iA;split
 ·rename_i h;exact⟨.inr,fun q=>q.elim (fun e=>e ▸ h) fun q=>q⟩
 ·exact MF
def Em{l:List Int}{x:Int}(hu:en l):en (dQ l x):=hu.filter _
def qQ{l:List Int}{x y:Int}:y∈dQ l x↔y∈l∧y≠x:=by unfold dQ;rw[ff];simp
def iF{l:List GR}(hu:en (l.map cd)){g:Int}(hg:g∈l.map cd):∃y,y∈l∧y.no=g∧bH l g=y.mem∧l[aT (l.map cd) g]?=some y:=by obtain⟨y,h1,h2,h3,h4⟩:=oL (f:=cd) hu hg;exact⟨y,h4,h2,by unfold bH;rw[h3];rfl,h1⟩
def pJ{cs:List CA}{ds:List DE}{id:Int}(h:(a8 cs ds id).2=0):(a8 cs ds id).1∈cs∧(a8 cs ds id).1.id=id:=by
 unfold a8 at h ⊢;split
 ·rename_i c hc;have:=im hc;exact⟨fd hc,by simpa using this⟩
 ·rename_i hc;rw[hc] at h;simp only at h;split at h<;>omega
theorem Jn(p:F8):∀(L:List Nat) (f:F8),(∀i,i∈L→i<8)→(∀i,i<8→fW (f.get i)=true)→(∀i,i<8→fW (p.get i)=true)→∀i,i<8→fW ((fT f p L).get i)=true
 |[],f,_,h,_,i,hi=>h i hi
 |k::L,f,hL,h,hp,i,hi=>by
  show fW ((fT (f.set k (p.get k)) p L).get i)=true;have hk:=hL k (du ..);refine Jn p L _ (fun j hj=>hL j (dl _ hj)) (fun j hj=>?_) hp i hi;rw[F8.Mo _ _ _ _ hk];split
  ·exact hp k hk
  ·exact h j hj
def Ia{p:PA}(h:bL p=0):p.mask.toNat≤511∧p.fp.toNat<65536∧∀i,i<8→fW (p.f.get i)=true:=by
 unfold bL at h;split at h
 ·omega
 ·split at h
  ·omega
  ·split at h
   ·rename_i h1 h2 h3;refine⟨oM,oM,fun i hi=>?_⟩;have:=gz.1 h3 i (List.mem_range.2 hi);rw[ag] at this;exact this.1
   ·omega
def Hv{c:CA}{p:PA}(hp:bL p=0)(h1:1≤c.id)(h2:c.id<1073741824)(h3:0≤c.c9)(h4:c.c9≤1099511627776)(h5:c.fp.toNat<65536)(h6:c.f.l.all fW=true):iY (dI c p)=true:=by obtain⟨p1,p2,p3⟩:=Ia hp;unfold iY dI jT yc;simp only[ag,decide_eq_true_eq];refine⟨⟨h1,h2,by split<;>omega,by split<;>omega,by split<;>omega⟩,?_⟩;exact(F8.LZ _ _).2 (Jn p.f _ c.f (fun i=>uZ) ((F8.LZ _ _).1 h6) p3)
def QW{p:PA}(hp:bL p=0){n:Int}(h1:1≤n)(h2:n<1073741824):iY (bW n p)=true :=
 Hv hp h1 h2 (show(0:Int)≤0 by decide) (show(0:Int)≤1099511627776 by decide) (show(0:UInt32).toNat<65536 by decide) (show f80.l.all fW=true by decide +kernel)
def fZ{c:CA}(h:iY c=true):(1≤c.id∧c.id<1073741824∧1≤c.c9∧c.c9≤1099511627776∧c.fp.toNat<65536)∧c.f.l.all fW=true:=by unfold iY jT yc at h;simpa only[ag,decide_eq_true_eq] using h
theorem xX{nx:Int}:∀{last:Int} {cs:List CA},kR nx last cs=true↔en (cs.map bg)∧∀c,c∈cs→iY c=true∧last<c.id∧c.id<nx
 |last,[]=>⟨fun _=>⟨.nil,fun c hc=>absurd hc df⟩,fun _=>rfl⟩
 |last,x::l=>by
  unfold kR;simp only[ag,decide_eq_true_eq];rw[xX (last:=x.id) (cs:=l),dt,show en (x.id::l.map bg)↔_ from em];constructor
  ·rintro⟨⟨h1,h2,h3⟩,h4,h5⟩;refine⟨⟨fun y hy=>?_,h4⟩,fun c hc=>?_⟩
   ·obtain⟨c,hc,rfl⟩:=cv.1 hy;exact(h5 c hc).2.1
   ·rcases cS.1 hc with rfl|hc
    ·exact⟨h1,h2,h3⟩
    ·have:=h5 c hc;exact⟨this.1,oM,this.2.2⟩
  ·rintro⟨⟨h1,h2⟩,h3⟩;obtain⟨q1,q2,q3⟩:=h3 x (du ..);refine⟨⟨q1,q2,q3⟩,h2,fun c hc=>?_⟩;have:=h3 c (dl _ hc);exact⟨this.1,h1 c.id (cv.2 ⟨c,hc,rfl⟩),this.2.2⟩
theorem sA{nx:Int}{cs:List CA}:∀{pre ds:List DE},AI nx cs pre ds=true↔(∀d,d∈ds→(1≤d.id∧d.id<nx∧1≤d.c9∧d.c9≤1099511627776∧0≤d.sq∧d.sq≤1099511627776)∧d.id∉cs.map bg∧∀e,e∈pre→e.id≠d.id∧e.sq≤d.sq)∧ds.Pairwise (fun e d=>e.id≠d.id∧e.sq≤d.sq)
 |pre,[]=>⟨fun _=>⟨fun d hd=>absurd hd df,.nil⟩,fun _=>rfl⟩
 |pre,x::l=>by
  unfold AI XJ yc;simp only[ag,decide_eq_true_eq,gz];rw[sA (pre:=pre++[x]) (ds:=l),em];constructor
  ·rintro⟨⟨⟨h1,h2⟩,h3⟩,h4,h5⟩;refine⟨fun d hd=>?_,fun d hd=>(h4 d hd).2.2 x ax,h5⟩;rcases cS.1 hd with rfl|hd
   ·exact⟨h1,h2,h3⟩
   ·have:=h4 d hd;exact⟨this.1,this.2.1,fun e he=>this.2.2 e (ez.2 (.inl he))⟩
  ·rintro⟨h1,h2,h3⟩;obtain⟨q1,q2,q3⟩:=h1 x (du ..);refine⟨⟨⟨q1,q2⟩,q3⟩,fun d hd=>?_,h3⟩;have:=h1 d (dl _ hd);refine⟨this.1,this.2.1,fun e he=>?_⟩;rcases ez.1 he with he|he
   ·exact this.2.2 e he
   ·rw[cx] at he;subst he;exact h2 d hd
def Aj{b:BK}(h1:1≤b.nx)(h2:b.nx≤1073741824)(h3:b.ae.length≤48)(h4:b.dead.length≤40)(h5:en (b.ae.map bg))(h6:∀c,c∈b.ae→iY c=true∧c.id<b.nx)
 (h7:∀d,d∈b.dead→(1≤d.id∧d.id<b.nx∧1≤d.c9∧d.c9≤1099511627776∧0≤d.sq∧d.sq≤b.sq)∧d.id∉b.ae.map bg)(h8:b.dead.Pairwise (fun e d=>e.id≠d.id∧e.sq≤d.sq))(h9:0≤b.sq)(h10:b.sq≤1099511627776)
 (h11:en (b.gr.map cd))(h12:∀g,g∈b.gr→(0≤g.no∧g.no<16)∧en g.mem∧∀x,x∈g.mem→x∈b.ae.map bg):dx b:=by
 have hc:kR b.nx 0 b.ae=true:=xX.2 ⟨h5,fun c hc=>⟨(h6 c hc).1,by have:=(fZ (h6 c hc).1).1;omega,(h6 c hc).2⟩⟩;have hm:∀g,g∈b.gr→∀x,x∈g.mem→1≤x∧x<1073741824:=fun g hg x hx=>by obtain⟨c,hc,rfl⟩:=cv.1 ((h12 g hg).2.2 x hx);have:=(fZ (h6 c hc).1).1;omega
 refine Wg ?_;unfold Nl W6 yc jT;simp only[ag,decide_eq_true_eq,gz];refine⟨⟨⟨⟨⟨⟨h1,h2,h3,h4⟩,hc,?_⟩,h9,h10⟩,VU h11 fun g hg=>?_⟩,fun d hd=>(h7 d hd).1.2.2.2.2.2⟩,fun g hg=>?_⟩
 ·refine sA.2 ⟨fun d hd=>?_,h8⟩;obtain⟨q1,q2⟩:=h7 d hd;exact⟨oM,q2,fun e he=>absurd he df⟩
 ·obtain⟨q1,q2,q3⟩:=h12 g hg;exact⟨oM,q1.1,q1.2,Q3 q2 fun x hx=>by have:=hm g hg x hx;omega⟩
 ·unfold i6;refine hE.2 fun x hx=>?_;simpa using(h12 g hg).2.2 x hx
def mP{B:BK}{x:ED}{e:Int}(h:mc B x=(e,B,[])):fw B x=B:=by unfold fw;rw[h];simp
def Xk{cs:List CA}{id:Int}{x:CA}(h:x.id=id):(vv cs id x).map bg=cs.map bg:=by
 unfold vv;rw[ib];refine g8 fun c _=>?_;simp only[Function.comp];split
 ·rename_i e;rw[h,e]
 ·rfl
def mW{B:BK}(hb:dx B)(g:Int):(bH B.gr g).length≤48:=by
 unfold bH;cases h:B.gr.find? fun x=>decide (x.no=g) with
 |none=>simp
 |some x=>exact hb.nm x (fd h)
def A7{B:BK}(hb:dx B)(g:Int):en (bH B.gr g)∧∀x,x∈bH B.gr g→x∈B.ae.map bg:=by
 unfold bH;cases h:B.gr.find? fun x=>decide (x.no=g) with
 |none=>exact⟨.nil,fun x hx=>absurd hx df⟩
 |some y=>exact⟨hb.upm y (fd h),hb.mem y (fd h)⟩
def dx.B5{B:BK}(hb:dx B):∀c,c∈B.ae→iY c=true∧c.id<B.nx:=fun c hc=>by have:=(xX.1 hb.cok).2 c hc;exact⟨this.1,this.2.2⟩
def dx.dds{B:BK}(hb:dx B):∀d,d∈B.dead→(1≤d.id∧d.id<B.nx∧1≤d.c9∧d.c9≤1099511627776∧0≤d.sq∧d.sq≤B.sq)∧d.id∉B.ae.map bg:=fun d hd=>by have:=(sA.1 hb.dok).1 d hd;have h:=hb.dsq d hd;exact⟨oM,this.2.1⟩
def dx.dps{B:BK}(hb:dx B):B.dead.Pairwise (fun e d=>e.id≠d.id∧e.sq≤d.sq):=(sA.1 hb.dok).2
def dx.grs{B:BK}(hb:dx B):∀g,g∈B.gr→(0≤g.no∧g.no<16)∧en g.mem∧∀x,x∈g.mem→x∈B.ae.map bg:=fun g hg=>⟨hb.gno g hg,hb.upm g hg,hb.mem g hg⟩
def pR{l:List GR}{g:Int}{m:List Int}:(fD l g m).map cd=l.map cd:=by
 unfold fD;rw[ib];refine g8 fun c _=>?_;simp only[Function.comp];split
 ·rename_i e;exact e.symm
 ·rfl
def WR{l:List GR}{id:Int}:(lz l id).map cd=l.map cd:=by unfold lz;rw[ib];rfl
def dx.S9{B:BK}(hb:dx B){sq:Int}(h1:B.sq≤sq)(h2:sq≤1099511627776){gr:List GR}(h11:en (gr.map cd))(h12:∀g,g∈gr→(0≤g.no∧g.no<16)∧en g.mem∧∀x,x∈g.mem→x∈B.ae.map bg):dx ⟨sq,B.nx,B.ae,B.dead,gr⟩ :=
 Aj hb.nx1 hb.nx2 hb.nc hb.nd hb.qc hb.B5 (fun d hd=>by have:=hb.dds d hd;exact⟨⟨this.1.1,this.1.2.1,this.1.2.2.1,this.1.2.2.2.1,this.1.2.2.2.2.1,by have:=this.1.2.2.2.2.2;simp only;omega⟩,this.2⟩) hb.dps (by have:=hb.tj;simp only;omega) h2 h11 h12
def FO{B:BK}(hb:dx B){g:Int}{m:List Int}(hg:0≤g∧g<16)(hm:en m∧∀x,x∈m→x∈B.ae.map bg):∀y,y∈fD B.gr g m→(0≤y.no∧y.no<16)∧en y.mem∧∀x,x∈y.mem→x∈B.ae.map bg:=fun y hy=>by
 obtain⟨z,hz,rfl⟩:=cv.1 hy;split
 ·exact⟨hg,hm⟩
 ·exact hb.grs z hz
def bF{x:ED}(h:aQ x=0):1≤x.kd∧x.kd≤7∧(0≤x.gr∧x.gr<16)∧(edI x.kd=true→1≤x.id∧x.id<1073741824)∧(edP x.kd=true→bL x.p=0):=by
 unfold aQ jT at h;split at h
 ·omega
 ·split at h
  ·omega
  ·split at h
   ·omega
   ·rename_i h1 h2 h3;refine⟨oM,oM,oM,fun q=>?_,fun q=>?_⟩
    ·have:¬(x.id<1∨1073741824≤x.id):=fun hn=>h3 (.inr (.inr ⟨q,hn⟩));omega
    ·rw[if_pos q] at h;exact h
def doW{B:BK}(hb:dx B)(x:ED):dx (fw B x):=by
 by_cases he:aQ x=0
 rotate_left
 ·rw[mP (x:=x) (e:=aQ x) (by unfold mc;rw[if_pos he])];exact hb
 by_cases hs:1099511627676<B.sq
 ·rw[mP (x:=x) (e:=8) (by unfold mc;rw[if_neg (by simpa using he),if_pos hs])];exact hb
 obtain⟨e1,e2,e3,e4,e5⟩:=bF he;have hsq1:=hb.tj;unfold fw mc;rw[if_neg (by simpa using he),if_neg hs];have same:dx { B with sq:=B.sq+(([]:List Int).length:Int) }:=by have:({ B with sq:=B.sq+(([]:List Int).length:Int) }:BK)=B:=ax;rw[this];exact hb
 by_cases k1:x.kd=1
 ·rw[if_pos k1];split
  ·exact same
  ·rename_i hf;have hp:=e5 (by rw[k1];rfl);have tc:=hb.nx1;refine Aj (by simp only;omega) (by simp only;omega) (by simp only[d9,cy];omega) hb.nd ?_ (fun c hc=>?_) (fun d hd=>?_) hb.dps (by simp only[cy];omega) (by simp only[cy];omega) hb.ua (fun g hg=>?_)
   ·simp only[e8,dt,f6];refine gj.2 ⟨hb.qc,j5 _ _,fun a ha b mw=>?_⟩;obtain⟨c,hc,rfl⟩:=cv.1 ha;rw[cx] at mw;subst mw;exact(hb.B5 c hc).2
   ·rcases ez.1 hc with hc|hc
    ·have:=hb.B5 c hc;exact⟨this.1,by simp only;omega⟩
    ·rw[cx] at hc;subst hc;exact⟨QW hp tc oM,by show B.nx<B.nx+1;omega⟩
   ·obtain⟨q1,q2⟩:=hb.dds d hd;refine⟨by simp only[cy];omega,fun hm=>?_⟩;simp only[e8,dt,f6,ez,cx] at hm;rcases hm with hm|hm
    ·exact q2 hm
    ·have:(bW B.nx x.p).id=B.nx:=rfl;omega
   ·obtain⟨q1,q2,q3⟩:=hb.grs g hg;exact⟨q1,q2,fun y hy=>by simp only[e8];exact ez.2 (.inl (q3 y hy))⟩
 rw[if_neg k1];by_cases k2:x.kd=2
 ·rw[if_pos k2];split
  ·exact same
  ·split
   ·exact same
   ·rename_i h1 h2;have hp:=e5 (by rw[k2];rfl);have hi:=e4 (by rw[k2];rfl);obtain⟨g1,g2⟩:=pJ (bi.1 h1);obtain⟨c,hc⟩:∃c,(a8 B.ae B.dead x.id).1=c:=⟨_,rfl⟩
    rw[hc] at g1 g2 h2 ⊢;obtain⟨⟨p1,p2,p3,p4,p5⟩,p6⟩:=fZ (hb.B5 c g1).1;have cm:=Hv hp p1 p2 oM p4 p5 p6;have hid:(dI c x.p).id=x.id:=g2;have lr:=Xk (cs:=B.ae) hid;refine Aj hb.nx1 hb.nx2 (by simp only[vv,d7];exact hb.nc) hb.nd (by simp only;rw[lr];exact hb.qc) (fun y hy=>?_) (fun d hd=>?_) hb.dps (by simp only[cy];omega) (by simp only[cy];omega) hb.ua (fun g hg=>?_)
    ·obtain⟨z,hz,rfl⟩:=cv.1 hy;split
     ·exact⟨cm,by rw[hid,←g2];exact(hb.B5 c g1).2⟩
     ·exact hb.B5 z hz
    ·obtain⟨q1,q2⟩:=hb.dds d hd;exact⟨by simp only[cy];omega,by simp only;rw[lr];exact q2⟩
    ·simp only;rw[lr];exact hb.grs g hg
 rw[if_neg k2];by_cases k3:x.kd=3
 ·rw[if_pos k3];split
  ·exact same
  ·rename_i h1;obtain⟨g1,g2⟩:=pJ (bi.1 h1);obtain⟨c,hc⟩:∃c,(a8 B.ae B.dead x.id).1=c:=⟨_,rfl⟩
   rw[hc] at g1 g2 ⊢;obtain⟨⟨p1,p2,p3,p4,p5⟩,p6⟩:=fZ (hb.B5 c g1).1;have mn:∀y,y∈(B.ae.filter fun z=>!decide (z.id=x.id)).map bg↔y∈B.ae.map bg∧y≠x.id:=fun y=>by
    constructor
    ·intro hy;obtain⟨z,hz,rfl⟩:=cv.1 hy;obtain⟨z1,z2⟩:=ff.1 hz;exact⟨cv.2 ⟨z,z1,rfl⟩,by simpa using z2⟩
    ·rintro⟨hy,fg⟩;obtain⟨z,hz,rfl⟩:=cv.1 hy;exact cv.2 ⟨z,ff.2 ⟨hz,by simpa using fg⟩,rfl⟩
   have hd2:∀d,d∈B.dead++[⟨x.id,c.c9,B.sq+1⟩]→(1≤d.id∧d.id<B.nx∧1≤d.c9∧d.c9≤1099511627776∧0≤d.sq∧d.sq≤B.sq+1)∧d.id∉(B.ae.filter fun z=>!decide (z.id=x.id)).map bg:=fun d hd=>by
    rcases ez.1 hd with hd|hd
    ·obtain⟨q1,q2⟩:=hb.dds d hd;exact⟨oM,fun h=>q2 ((mn _).1 h).1⟩
    ·rw[cx] at hd;subst hd;have:=(hb.B5 c g1).2;exact⟨by simp only;omega,fun h=>((mn _).1 h).2 rfl⟩
   have hp2:(B.dead++[(⟨x.id,c.c9,B.sq+1⟩:DE)]).Pairwise (fun e d=>e.id≠d.id∧e.sq≤d.sq):=by refine gj.2 ⟨hb.dps,j5 _ _,fun a ha b mw=>?_⟩;rw[cx] at mw;subst mw;obtain⟨q1,q2⟩:=hb.dds a ha;exact⟨fun h=>q2 (by rw[h];exact cv.2 ⟨c,g1,g2⟩),by simp only;omega⟩
   have Zj:=hb.nd;have dv:(∀d,d∈oR (B.dead++[⟨x.id,c.c9,B.sq+1⟩])→d∈B.dead++[⟨x.id,c.c9,B.sq+1⟩])∧(oR (B.dead++[⟨x.id,c.c9,B.sq+1⟩])).length≤40∧(oR (B.dead++[⟨x.id,c.c9,B.sq+1⟩])).Pairwise (fun e d=>e.id≠d.id∧e.sq≤d.sq):=by
    unfold oR;split
    ·refine⟨fun d hd=>io hd,?_,hp2.sublist (List.drop_sublist _ _)⟩;simp only[d8,d9,cy];omega
    ·exact⟨fun d hd=>hd,oM,hp2⟩
   obtain⟨w1,w2,w3⟩:=dv;refine Aj hb.nx1 hb.nx2 (ld (gy _ _) hb.nc) w2 ?_ (fun y hy=>hb.B5 y (ff.1 hy).1) (fun d hd=>?_) w3 (by simp only[cy];omega) (by simp only[cy];omega) (by simp only;rw[WR];exact hb.ua) (fun g hg=>?_)
   ·exact hb.qc.sublist (List.Sublist.map _ kg)
   ·have:=hd2 d (w1 d hd);exact⟨by simp only[cy];omega,this.2⟩
   ·obtain⟨z,hz,rfl⟩:=cv.1 hg;obtain⟨q1,q2,q3⟩:=hb.grs z hz;refine⟨q1,Em q2,fun y hy=>?_⟩;obtain⟨y1,y2⟩:=qQ.1 hy;exact(mn y).2 ⟨q3 y y1,y2⟩
 rw[if_neg k3];by_cases k4:x.kd=4
 ·rw[if_pos k4];split
  ·exact same
  ·rename_i hn;refine hb.S9 (by simp only[cy];omega) (by simp only[cy];omega) (Mw hb.ua hn rfl) fun g hg=>?_;rcases MF.1 hg with rfl|hg
   ·exact⟨e3,.nil,fun y hy=>absurd hy df⟩
   ·exact hb.grs g hg
 rw[if_neg k4];by_cases k5:x.kd=5
 ·rw[if_pos k5];split
  ·have:=mW hb x.gr;refine hb.S9 (by simp only[d9,cy];omega) (by simp only[d9,cy];omega) (hb.ua.sublist (List.Sublist.map _ kg)) fun g hg=>hb.grs g (ff.1 hg).1
  ·exact same
 rw[if_neg k5];obtain⟨m1,m2⟩:=A7 hb x.gr;by_cases k6:x.kd=6
 ·rw[if_pos k6];split
  ·exact same
  ·split
   ·exact same
   ·split
    ·exact same
    ·rename_i h1 h2 h3;obtain⟨g1,g2⟩:=pJ (bi.1 h1);refine hb.S9 (by simp only[cy];omega) (by simp only[cy];omega) (by rw[pR];exact hb.ua) (FO hb e3 ⟨S6 m1,fun y hy=>?_⟩);rcases Fy.1 hy with rfl|hy
     ·exact cv.2 ⟨_,g1,g2⟩
     ·exact m2 y hy
 ·rw[if_neg k6];split
  ·exact same
  ·split
   ·exact same
   ·exact hb.S9 (by simp only[cy];omega) (by simp only[cy];omega) (by rw[pR];exact hb.ua) (FO hb e3 ⟨Em m1,fun y hy=>m2 y (qQ.1 hy).1⟩)
def xH{l C:Nat}{P:Program}{f:FR}{σ:St}{o:Oper}{k:MV→St→Prop}{s x:Operand}{t xt el:TypeId}(ho:o.op=.call { callee:=.builtin .append,args:=#[s,x],argTypes:=#[t,xt] })
 (ht:(td P t).k=.slice el)(Zk:(td P xt).k.isInt=true)(hz:(td P el).jq=true)(h0:0<(td P el).size){tt:TypeId}{xs:List (List MV)}(iq:σ l=some (.row tt (td P el).size xs)){i:Nat}(hs:aH f s=.vec (td P el).size l 0 i)(ku:i≤xs.length)
 {n:Int}(hx:aH f x=.int .i64 n)(hn:0<n)(hC:C<i+n.toNat)(hm:i+n.toNat≤140737488355328)(hb:(i+n.toNat)*(td P el).bytes≤140737488355328)
 (hk:∀l',σ l'=none→k (.vec (td P el).size l' 0 (i+n.toNat)) (σ.set l' (.row el (td P el).size (xs.take i++gp n.toNat (td P el).zero)))):FT l C P o f σ k:=by
 intro Φ w a K Q' hG hi hr hK;obtain⟨l',na,hsl'⟩:=inv_eq hi;have hsx:fX σ (td P el).size (aH f s)=some (xs.take i):=by rw[hs];simp[fX,iq,ku]
 obtain⟨old,hold,zo,zt⟩:=i7 (P:=P) hsx hi (aL hr s);have hlen:(xs.take i).length=i:=by rw[e9];omega
 rw[hlen] at hold;have rs:=aL hr s;rw[hs] at rs;obtain⟨ad,cap,p,hv,hp,iz,dv,tg,hR⟩:=rs.eQ;obtain⟨p',dw,hpC⟩:=hG;rw[hp] at dw;cases dw;have hcC:cap=C:=oM;subst hcC;have e2:a.eval x=.int .i64 n:=by have:=aL hr x;rw[hx] at this;exact this.aZ
 obtain⟨z,wc,pd,qb,cm,xp,_⟩:=dZ hz w.drew;have ph:(td P el).zero.length=(td P el).size:=by rw[←pd,←qb];simp
 obtain⟨ii,d,zh,hd,dq,hby,_⟩:=dM cm;obtain⟨ik,hxu⟩:=D4 Zk;have w1:cp.wrap n=n:=IntWalk.i64_in n oM;have hf1:(bb (td P el).size i (.slice ad i cap)).run P w.drew=.ok old w.drew:=by have:=(hold w.drew rfl).2;rw[hv] at this;exact this
 have di:(be #[t,xt] o.type #[.slice ad i cap,.int .i64 n]).run P w=.ok (.slice (some ⟨w.heap.size,0,none⟩) (i+n.toNat) (grownCap w (i+n.toNat) cap el)) (w.drew.alloc (.cells (old++am z.cells n.toNat++am z.cells (grownCap w (i+n.toNat) cap el-(i+n.toNat))) el)):=by
  have gu:¬(i+n.toNat≤cap):=oM;have h48':¬(Builtin.nextslicecap (i+n.toNat) cap*ii.bytes > 2 ^ 48):=by rw[←hby];have:=growslice_fits (show cap<i+n.toNat by omega) hb;omega
  have h63:¬(((i+n.toNat:Nat):Int) > cp.max):=by simp only[IntKind.max,IntKind.signed,IntKind.bits];simp;omega
  have hneg:¬(n<0):=oM;have hbig:¬(n*ii.bytes > 2 ^ 48):=by
   rw[←hby];have:n*((td P el).bytes:Int)=((n.toNat*(td P el).bytes:Nat):Int):=by rw[Int.natCast_mul,Int.toNat_of_nonneg oM]
   have h1:n.toNat*(td P el).bytes≤(i+n.toNat)*(td P el).bytes:=kw _ oM;omega
  have Z9:¬(n.toNat*(td P el).size=0):=by have:0<n.toNat*(td P el).size:=Nat.mul_pos oM h0;omega
  unfold be;simp only[World.drew] at wc hf1;simp only[ke,fe,hD,m3,aO (bB ht),mx,aS cm,aO hxu,my,if_true,pZ,w1,if_neg hneg,typeInfo,run_program,zh,if_neg hbig,
   if_neg gu,Bool.not_true,al,if_false,h63,false_and,if_neg h48',run_choose,Question.forced,run_askRoom,if_neg Z9]
  simp only[hf1,wc,mx,newRow,m3,run_newObj,my];rfl
 obtain⟨i1,s1,r1⟩:=sF (σ1:=σ) (el:=el) (n:=i) (m:=n.toNat) (cap':=grownCap w (i+n.toNat) cap el) (xs:=xs.take i) (ys:=gp n.toNat (td P el).zero) (old:=old) (arr:=am z.cells n.toNat)
  (rest:=am z.cells (grownCap w (i+n.toNat) cap el-(i+n.toNat))) hi (fun _ _ q=>q) na zt (fun i x hx=>by rw[List.getElem?_replicate] at hx;split at hx<;>simp at hx;rw[←hx,ph]) hlen ax
  zo (uU (P:=P) (Φ:=Φ) pd qb xp h0 n.toNat) (by rw[size_zeroCells,qb]) (grownCap_ge w _ _ el) (grownCap_le_maxLen w _ _ el (by simp only[maxLen];omega))
 refine bQ (v:=_) (w':=_) ?_ (hK _ _ _ _ _ r1 i1 s1 (hk l' hsl'));rw[fI ho,hv,e2,di];rfl
def kI{l C:Nat}{P:Program}{c:Code}{f:FR}{σ:St}{Q:MQ}(h:R (il P c f σ Q)):Bf l C P c f σ Q:=Vb (bO h)
def DJ{P:Program}{f:FR}{σ:St}{Q:MQ}{c:Operand}{x y:Code}{t:Bool}(hc:aH f c=.bool t)(h1:t=true→il P x f σ Q)(h2:t=false→il P y f σ Q):il P (.cond c x y) f σ Q:=by
 intro F hF Φ w a hi hr hd;have he:a.eval c=.bool t:=by have:=aL hr c;rw[hc] at this;generalize a.eval c=v at this;cases this;rfl
 exact wpIn_cond_split he (fun ht=>h1 ht F hF.QE Φ w a hi hr hd) (fun hf=>h2 hf F hF.QF Φ w a hi hr hd)
def Ar:(Tryz.f301.name == "runtime.NumGoroutine")=false∧Tryz.f301.body.isNone=true∧bv Tryz.f301=none∧bx Tryz.f301=some (bz #[75,75] #[4]):=⟨by decide +kernel,by decide +kernel,by kernel_rfl,by kernel_rfl⟩
def CK{l v:Nat}(hvl:v≠l)(xs:List (List MV))(hx:xs.length≤1000000)(i:Nat)(hi:i≤xs.length)(x:List MV) :
  aA Tryz.prog 272 [.vec 1 l 0 xs.length,.int .i64 (i:Int),.vec 1 v 0 1] ((m5.set l (.row 3 1 xs)).set v (.row 3 1 [x])) (fun r af=>∃q,r=.vec 1 q 0 (xs.length+1)∧af=m5.set q (.row 3 1 (xs.take i++x::xs.drop i))):=by
 refine nP (Q':=fun r af=>∃q,r=.vec 1 q 0 (xs.length+1)∧(m5.set q (.row 3 1 (xs.take i++x::xs.drop i))).le af) ?_ (fun r af ⟨q,h1,h2⟩=>⟨_,h2,q,h1,rfl⟩);have Zg:=ls hvl;obtain⟨n,hn⟩:∃n,xs.length=n:=⟨_,rfl⟩
 rw[hn] at hx hi ⊢;by_cases ku:i=n
 ·refine(mB 95 [.tmp 6] Tryz.func272 ?_);repeat' first|(refine wM ?_;intros;rename_i ec)|refine aw @Tryz.f272.eq_1 ?_|fail
  all_goals
   rename_i q _ _;exact⟨_,rfl,m7 bt (by rw[aD,dk oM,f7 oM])⟩
 ·have bh:i<n:=oM;refine(aA.gY 95 [.tmp 6] Tryz.func272 rfl rfl rfl rfl ?_);refine bD (cA ?_);repeat' first|refine aw @ai ?_|fail
  refine bO (bD (cA ?_));repeat' first|refine aw @ai ?_|fail
  refine bO (bD (cA ?_));repeat' first|refine aw @ai ?_|fail
  refine bO (bD (cA ?_));repeat' first|refine aw @ai ?_|fail
  refine bO (bD (cA ?_));repeat' first|refine aw @ai ?_|fail
  refine bO (bD (cA ?_));repeat' first|refine aw @ai ?_|fail
  refine bO (HV (l:=l) (t:=3) (e:=1) (xs:=xs) sS fun C hC=>?_);refine lH (lH (eX [_,_,_,_] _ [_] rfl rfl ?_));repeat' first|refine aw @ai ?_|fail
  refine bO (Ja rfl (by rw[CZ]) rfl fun hC2=>?_);show R _;repeat' first|refine aw @ai ?_|fail
  refine bO (DH rfl (fun ht=>?_) (fun ht=>?_))
  ·simp only[decide_eq_true_eq] at ht;refine lH (eX [_,_,_,_,_,_,_,_] _ [_] rfl rfl ?_);repeat' first|refine aw @ai ?_|fail
   refine bO (xH rfl (by rw[CZ]) (by rw[td3];rfl) rfl (by rw[td3];decide) (tt:=3) (xs:=xs) (by rw[td3];simp[m6, *]) (by rw[td3];rfl) oM rfl oM oM oM (by rw[td3];simp;omega) fun l2 uf=>?_);have e1:(((n:Int)+1)-(i:Int)).toNat=n+1-i:=oM;rw[e1];simp only[aM] at uf;obtain⟨l3,l4,-⟩:=uf;have l3':=ls l3;have l4':=ls l4;have e2:i+(n+1-i)=n+1:=oM;rw[e2];obtain⟨Z,hZ⟩:∃Z,xs.take i++gp (n+1-i) (td Tryz.prog 3).zero=Z:=⟨_,rfl⟩
   have hZl:Z.length=n+1:=by rw[←hZ];simp;omega
   have hZt:Z.take i=xs.take i:=by rw[←hZ,ee (by simp;omega),dk (by simp;omega)]
   have dq:(td Tryz.prog 3).size=1:=by rw[td3]
   rw[hZ,dq];refine bO (kI (bO (bD (cF [_,_,_,_] _ [] rfl rfl ?_))));repeat' first|refine aw @ai ?_|fail
   refine bO (iK (l:=l2) (l0:=i) (tt:=3) (xs:=Z) (ys:=[x]) (m:=v) (m0:=0) (nm:=1) (cnt:=1) (n:=n+1-i) rfl (by rw[CZ]) (by rw[td3]) (by rw[dq];rfl) (by rw[dq];simp[m6, *]) oM (by rw[dq];rfl) (by show min 1 (n+1-i)=1;omega) (by rw[dq];simp[fX,m6, *]) oM ?_);rw[dq];show R _;repeat' first|refine aw @ai ?_|fail
   have hY:(bK Z i [x]).length=n+1:=by rw[nE (by simp;omega),hZl]
   have hYt:(bK Z i [x]).take (i+1)=xs.take i++[x]:=by unfold bK;rw[hZt,ee (by simp;omega),dk (by simp;omega)]
   obtain⟨Y,hYe⟩:∃Y,bK Z i [x]=Y:=⟨_,rfl⟩
   rw[hYe] at hY hYt ⊢;refine bO (bD (cA ?_));repeat' first|(refine iM mixed (fun _ _=>none) [_,_,_,_,_,_,_,_] [] rfl dK ?_)|refine aw @ai ?_|fail
   repeat' first|refine aw @ai ?_|fail
   refine bO (iK (l:=l2) (l0:=i+1) (tt:=3) (xs:=Y) (ys:=xs.drop i) (m:=l) (m0:=i) (nm:=n-i) (cnt:=n-i) (n:=n-i) rfl (by rw[CZ]) (by rw[td3]) (by rw[dq];rfl) (by rw[dq];simp[m6, *]) oM (by rw[dq];rfl) (by show min (n-i) (n-i)=n-i;omega) (by rw[dq];simp[fX,m6, *];exact dk (by rw[d8];omega)) oM ?_);have hF:bK Y (i+1) (xs.drop i)=xs.take i++x::xs.drop i:=by have hd:Y.drop (i+1+(xs.drop i).length)=[]:=f7 (by rw[d8];omega);unfold bK;rw[hYt,hd];simp
   rw[dq,hF];refine bO (cA ?_);repeat' first|refine aw @ai ?_|fail
   exact⟨l2,rfl,m7 bt cj⟩
  ·simp only[decide_eq_false_iff_not] at ht;have dq:(td Tryz.prog 3).size=1:=by rw[td3]
   refine kI (bO (cA ?_));repeat' first|refine aw @ai ?_|fail
   refine bO (lH (eX [_,_,_,_] _ [_] rfl rfl ?_));repeat' first|refine aw @ai ?_|fail
   refine bO (BO rfl (by rw[CZ]) (by rw[td3]) (by rw[dq];rfl) rfl oM oM ?_);rw[dq];show R _;repeat' first|refine aw @ai ?_|fail
   refine bO (kI (bO (bD (bD (cF [_,_,_,_,_,_] _ [_] rfl rfl ?_)))));repeat' first|refine aw @ai ?_|fail
   refine bO (xI rfl Tryz.func301 Ar.1 Ar.2.1 Ar.2.2.1 Ar.2.2.2 (by rw[CZ]) (by rw[td3]) hvl rfl rfl (ta:=3) (tb:=3) (ea:=1) (eb:=1) (xs:=[x]) (ys:=xs) rfl rfl sS sS ?_);show R _;repeat' first|refine aw @ai ?_|fail
   refine bO (DJ rfl (fun _=>bD (cA ?_)) (fun h=>by cases h));repeat' first|(refine iM mixed (fun _ _=>none) [_,_,_,_,_,_,_,_] [] rfl dK ?_)|refine aw @ai ?_|fail
   refine bO (iK (l:=l) (l0:=i+1) (tt:=3) (xs:=xs) (ys:=xs.drop i) (m:=l) (m0:=i) (nm:=n+1-i) (cnt:=n-i) (n:=n-i) rfl (by rw[CZ]) (by rw[td3]) (by rw[dq];rfl) (by rw[dq];simp[m6, *]) oM (by rw[dq];rfl) (by show min (n+1-i) (n-i)=n-i;omega) (by rw[dq];simp[fX,m6, *];exact dk (by rw[d8];omega)) oM ?_);obtain⟨Y,hYe⟩:∃Y,bK xs (i+1) (xs.drop i)=Y:=⟨_,rfl⟩
   have hYl:Y.length=n+1:=by rw[←hYe];unfold bK;simp;omega
   have hY1:Y.take i=xs.take i:=by rw[←hYe];unfold bK;rw[gn,ee (by simp;omega),List.take_take];congr 1;omega
   have hY2:Y.drop (i+1)=xs.drop i:=by have hd:xs.drop (i+1+(xs.drop i).length)=[]:=f7 (by rw[d8];omega);rw[←hYe];unfold bK;rw[hd,dy,jp (by simp;omega)]
   rw[dq,hYe];refine bO (bD (cF [_,_,_,_] _ [] rfl rfl ?_));repeat' first|refine aw @ai ?_|fail
   refine bO (iK (l:=l) (l0:=i) (tt:=3) (xs:=Y) (ys:=[x]) (m:=v) (m0:=0) (nm:=1) (cnt:=1) (n:=n+1-i) rfl (by rw[CZ]) (by rw[td3]) (by rw[dq];rfl) (by rw[dq];simp[m6, *]) oM (by rw[dq];rfl) (by show min 1 (n+1-i)=1;omega) (by rw[dq];simp[fX,m6, *]) oM ?_);have hF:bK Y i [x]=xs.take i++x::xs.drop i:=by unfold bK;show(Y.take i++[x])++Y.drop (i+1)=_;rw[hY1,hY2,gn];rfl
   rw[dq,hF];refine bO (cA ?_);repeat' first|refine aw @ai ?_|fail
   exact⟨l,rfl,m7 bt (by rw[cn Zg];exact cj)⟩
def Aq:(Tryz.f269.name == "runtime.NumGoroutine")=false∧Tryz.f269.body.isNone=true∧bv Tryz.f269=none∧bx Tryz.f269=some (bz #[39,39] #[4]):=⟨by decide +kernel,by decide +kernel,by kernel_rfl,by kernel_rfl⟩
def CJ{l v:Nat}(hvl:v≠l)(xs:List (List MV))(hx:xs.length≤1000000)(i:Nat)(hi:i≤xs.length)(x:List MV) :
  aA Tryz.prog 218 [.vec 2 l 0 xs.length,.int .i64 (i:Int),.vec 2 v 0 1] ((m5.set l (.row 200 2 xs)).set v (.row 200 2 [x])) (fun r af=>∃q,r=.vec 2 q 0 (xs.length+1)∧af=m5.set q (.row 200 2 (xs.take i++x::xs.drop i))):=by
 refine nP (Q':=fun r af=>∃q,r=.vec 2 q 0 (xs.length+1)∧(m5.set q (.row 200 2 (xs.take i++x::xs.drop i))).le af) ?_ (fun r af ⟨q,h1,h2⟩=>⟨_,h2,q,h1,rfl⟩);have Zg:=ls hvl;obtain⟨n,hn⟩:∃n,xs.length=n:=⟨_,rfl⟩
 rw[hn] at hx hi ⊢;by_cases ku:i=n
 ·refine(mB 95 [.tmp 6] Tryz.func218 ?_);repeat' first|(refine wM ?_;intros;rename_i ec)|refine aw @Tryz.f218.eq_1 ?_|fail
  all_goals
   rename_i q _ _;exact⟨_,rfl,m7 bt (by rw[aD,dk oM,f7 oM])⟩
 ·have bh:i<n:=oM;refine(aA.gY 95 [.tmp 6] Tryz.func218 rfl rfl rfl rfl ?_);refine bD (cA ?_);repeat' first|refine aw @ai ?_|fail
  refine bO (bD (cA ?_));repeat' first|refine aw @ai ?_|fail
  refine bO (bD (cA ?_));repeat' first|refine aw @ai ?_|fail
  refine bO (bD (cA ?_));repeat' first|refine aw @ai ?_|fail
  refine bO (bD (cA ?_));repeat' first|refine aw @ai ?_|fail
  refine bO (bD (cA ?_));repeat' first|refine aw @ai ?_|fail
  refine bO (HV (l:=l) (t:=200) (e:=2) (xs:=xs) sS fun C hC=>?_);refine lH (lH (eX [_,_,_,_] _ [_] rfl rfl ?_));repeat' first|refine aw @ai ?_|fail
  refine bO (Ja rfl (by rw[CY]) rfl fun hC2=>?_);show R _;repeat' first|refine aw @ai ?_|fail
  refine bO (DH rfl (fun ht=>?_) (fun ht=>?_))
  ·simp only[decide_eq_true_eq] at ht;refine lH (eX [_,_,_,_,_,_,_,_] _ [_] rfl rfl ?_);repeat' first|refine aw @ai ?_|fail
   refine bO (xH rfl (by rw[CY]) (by rw[td3];rfl) rfl (by rw[oF];decide) (tt:=200) (xs:=xs) (by rw[oF];simp[m6, *]) (by rw[oF];rfl) oM rfl oM oM oM (by rw[oF];simp;omega) fun l2 uf=>?_);have e1:(((n:Int)+1)-(i:Int)).toNat=n+1-i:=oM;rw[e1];simp only[aM] at uf;obtain⟨l3,l4,-⟩:=uf;have l3':=ls l3;have l4':=ls l4;have e2:i+(n+1-i)=n+1:=oM;rw[e2];obtain⟨Z,hZ⟩:∃Z,xs.take i++gp (n+1-i) (td Tryz.prog 200).zero=Z:=⟨_,rfl⟩
   have hZl:Z.length=n+1:=by rw[←hZ];simp;omega
   have hZt:Z.take i=xs.take i:=by rw[←hZ,ee (by simp;omega),dk (by simp;omega)]
   have dq:(td Tryz.prog 200).size=2:=by rw[oF]
   rw[hZ,dq];refine bO (kI (bO (bD (cF [_,_,_,_] _ [] rfl rfl ?_))));repeat' first|refine aw @ai ?_|fail
   refine bO (iK (l:=l2) (l0:=i) (tt:=200) (xs:=Z) (ys:=[x]) (m:=v) (m0:=0) (nm:=1) (cnt:=1) (n:=n+1-i) rfl (by rw[CY]) (by rw[oF]) (by rw[dq];rfl) (by rw[dq];simp[m6, *]) oM (by rw[dq];rfl) (by show min 1 (n+1-i)=1;omega) (by rw[dq];simp[fX,m6, *]) oM ?_);rw[dq];show R _;repeat' first|refine aw @ai ?_|fail
   have hY:(bK Z i [x]).length=n+1:=by rw[nE (by simp;omega),hZl]
   have hYt:(bK Z i [x]).take (i+1)=xs.take i++[x]:=by unfold bK;rw[hZt,ee (by simp;omega),dk (by simp;omega)]
   obtain⟨Y,hYe⟩:∃Y,bK Z i [x]=Y:=⟨_,rfl⟩
   rw[hYe] at hY hYt ⊢;refine bO (bD (cA ?_));repeat' first|(refine iM mixed (fun _ _=>none) [_,_,_,_,_,_,_,_] [] rfl dK ?_)|refine aw @ai ?_|fail
   repeat' first|refine aw @ai ?_|fail
   refine bO (iK (l:=l2) (l0:=i+1) (tt:=200) (xs:=Y) (ys:=xs.drop i) (m:=l) (m0:=i) (nm:=n-i) (cnt:=n-i) (n:=n-i) rfl (by rw[CY]) (by rw[oF]) (by rw[dq];rfl) (by rw[dq];simp[m6, *]) oM (by rw[dq];rfl) (by show min (n-i) (n-i)=n-i;omega) (by rw[dq];simp[fX,m6, *];exact dk (by rw[d8];omega)) oM ?_);have hF:bK Y (i+1) (xs.drop i)=xs.take i++x::xs.drop i:=by have hd:Y.drop (i+1+(xs.drop i).length)=[]:=f7 (by rw[d8];omega);unfold bK;rw[hYt,hd];simp
   rw[dq,hF];refine bO (cA ?_);repeat' first|refine aw @ai ?_|fail
   exact⟨l2,rfl,m7 bt cj⟩
  ·simp only[decide_eq_false_iff_not] at ht;have dq:(td Tryz.prog 200).size=2:=by rw[oF]
   refine kI (bO (cA ?_));repeat' first|refine aw @ai ?_|fail
   refine bO (lH (eX [_,_,_,_] _ [_] rfl rfl ?_));repeat' first|refine aw @ai ?_|fail
   refine bO (BO rfl (by rw[CY]) (by rw[oF]) (by rw[dq];rfl) rfl oM oM ?_);rw[dq];show R _;repeat' first|refine aw @ai ?_|fail
   refine bO (kI (bO (bD (bD (cF [_,_,_,_,_,_] _ [_] rfl rfl ?_)))));repeat' first|refine aw @ai ?_|fail
   refine bO (xI rfl Tryz.func269 Aq.1 Aq.2.1 Aq.2.2.1 Aq.2.2.2 (by rw[CY]) (by rw[oF]) hvl rfl rfl (ta:=200) (tb:=200) (ea:=2) (eb:=2) (xs:=[x]) (ys:=xs) rfl rfl sS sS ?_);show R _;repeat' first|refine aw @ai ?_|fail
   refine bO (DJ rfl (fun _=>bD (cA ?_)) (fun h=>by cases h));repeat' first|(refine iM mixed (fun _ _=>none) [_,_,_,_,_,_,_,_] [] rfl dK ?_)|refine aw @ai ?_|fail
   refine bO (iK (l:=l) (l0:=i+1) (tt:=200) (xs:=xs) (ys:=xs.drop i) (m:=l) (m0:=i) (nm:=n+1-i) (cnt:=n-i) (n:=n-i) rfl (by rw[CY]) (by rw[oF]) (by rw[dq];rfl) (by rw[dq];simp[m6, *]) oM (by rw[dq];rfl) (by show min (n+1-i) (n-i)=n-i;omega) (by rw[dq];simp[fX,m6, *];exact dk (by rw[d8];omega)) oM ?_);obtain⟨Y,hYe⟩:∃Y,bK xs (i+1) (xs.drop i)=Y:=⟨_,rfl⟩
   have hYl:Y.length=n+1:=by rw[←hYe];unfold bK;simp;omega
   have hY1:Y.take i=xs.take i:=by rw[←hYe];unfold bK;rw[gn,ee (by simp;omega),List.take_take];congr 1;omega
   have hY2:Y.drop (i+1)=xs.drop i:=by have hd:xs.drop (i+1+(xs.drop i).length)=[]:=f7 (by rw[d8];omega);rw[←hYe];unfold bK;rw[hd,dy,jp (by simp;omega)]
   rw[dq,hYe];refine bO (bD (cF [_,_,_,_] _ [] rfl rfl ?_));repeat' first|refine aw @ai ?_|fail
   refine bO (iK (l:=l) (l0:=i) (tt:=200) (xs:=Y) (ys:=[x]) (m:=v) (m0:=0) (nm:=1) (cnt:=1) (n:=n+1-i) rfl (by rw[CY]) (by rw[oF]) (by rw[dq];rfl) (by rw[dq];simp[m6, *]) oM (by rw[dq];rfl) (by show min 1 (n+1-i)=1;omega) (by rw[dq];simp[fX,m6, *]) oM ?_);have hF:bK Y i [x]=xs.take i++x::xs.drop i:=by unfold bK;show(Y.take i++[x])++Y.drop (i+1)=_;rw[hY1,hY2,gn];rfl
   rw[dq,hF];refine bO (cA ?_);repeat' first|refine aw @ai ?_|fail
   exact⟨l,rfl,m7 bt (by rw[cn Zg];exact cj)⟩
def CH{l:Nat}(xs:List (List MV))(hx:xs.length≤1000000)(i:Nat)(hi:i<xs.length) :
  aA Tryz.prog 265 [.vec 1 l 0 xs.length,.int .i64 (i:Int),.int .i64 ((i:Int)+1)] (m5.set l (.row 3 1 xs)) (fun r af=>∃q ex,r=.vec 1 q 0 (xs.length-1)∧af=m5.set q (.row 3 1 (xs.take i++xs.drop (i+1)++ex))):=by
 obtain⟨n,hn⟩:∃n,xs.length=n:=⟨_,rfl⟩
 rw[hn] at hx hi ⊢;refine(aA.gY 33 [.tmp 6] Tryz.func265 rfl rfl rfl rfl ?_);refine bD (cA ?_);repeat' first|refine aw @ai ?_|fail
 refine bO (bD (cF [_,_,_,_,_] _ [] rfl rfl ?_));repeat' first|refine aw @ai ?_|fail
 refine bO (BS rfl (by rw[CZ]) (by rw[td3]) rfl rfl rfl rfl oM oM oM oM ?_);show R _;repeat' first|refine aw @ai ?_|fail
 refine bO (cA ?_);repeat' first|(refine wO ?_;intros)|refine aw @ai ?_|fail
 have e1:min (n-(i+1)) (xs.length-(i+1))=n-(i+1):=oM;have e2:i+(n-(i+1))=n-1:=oM;have e3:(xs.drop (i+1)).take (n-(i+1))=xs.drop (i+1):=dk (by rw[d8];omega);have e4:(xs.take i++xs.drop (i+1)).length=n-1:=by rw[d9,e9,d8];omega
 rw[e1,e2,e3];refine⟨_,gp (n-(n-1)) [.int .i64 0]++((xs.take i++xs.drop (i+1))++xs.drop (n-1)).drop (n-1+(gp (n-(n-1)) [MV.int .i64 0]).length),rfl,?_⟩
 congr 2
 unfold bK;rw[ee oM,dk oM,gn]
def CG{l:Nat}(xs:List (List MV))(hx:xs.length≤1000000)(i:Nat)(hi:i<xs.length) :
  aA Tryz.prog 220 [.vec 2 l 0 xs.length,.int .i64 (i:Int),.int .i64 ((i:Int)+1)] (m5.set l (.row 200 2 xs)) (fun r af=>∃q ex,r=.vec 2 q 0 (xs.length-1)∧af=m5.set q (.row 200 2 (xs.take i++xs.drop (i+1)++ex))):=by
 obtain⟨n,hn⟩:∃n,xs.length=n:=⟨_,rfl⟩
 rw[hn] at hx hi ⊢;refine(aA.gY 33 [.tmp 6] Tryz.func220 rfl rfl rfl rfl ?_);refine bD (cA ?_);repeat' first|refine aw @ai ?_|fail
 refine bO (bD (cF [_,_,_,_,_] _ [] rfl rfl ?_));repeat' first|refine aw @ai ?_|fail
 refine bO (BS rfl (by rw[CY]) (by rw[oF]) rfl rfl rfl rfl oM oM oM oM ?_);show R _;repeat' first|refine aw @ai ?_|fail
 refine bO (cA ?_);repeat' first|(refine wO ?_;intros)|refine aw @ai ?_|fail
 have e1:min (n-(i+1)) (xs.length-(i+1))=n-(i+1):=oM;have e2:i+(n-(i+1))=n-1:=oM;have e3:(xs.drop (i+1)).take (n-(i+1))=xs.drop (i+1):=dk (by rw[d8];omega);have e4:(xs.take i++xs.drop (i+1)).length=n-1:=by rw[d9,e9,d8];omega
 rw[e1,e2,e3];refine⟨_,gp (n-(n-1)) [.int .i64 0,.aK]++((xs.take i++xs.drop (i+1))++xs.drop (n-1)).drop (n-1+(gp (n-(n-1)) [MV.int .i64 0,.aK]).length),rfl,?_⟩
 congr 2
 unfold bK;rw[ee oM,dk oM,gn]
def jw(l:List CA):List IT:=l.map fun c=>⟨1,c⟩
def dY(W:List CA)(cur:Int):List CA:=W.filter fun c=>decide (max cur 0<c.id)
def eU(W:List CA)(cur room:Int):List CA×Int :=
 if room<1 then([],max cur 0)
 else if ((dY W cur).length:Int)≤room then(dY W cur,1073741824)
 else((dY W cur).take room.toNat,((dY W cur).getD (room.toNat-1) ig).id)
def BB{W:List CA}{cur:Int}{i:Nat}{x:CA}(h:W[i]?=some x):dY (W.take (i+1)) cur=dY (W.take i) cur++if max cur 0<x.id then[x] else[]:=by
 unfold dY;rw[nQ h]
 congr 1
 by_cases h:max cur 0<x.id<;>simp[h]
def Tx{B:BK}(hb:BkR B){fl:List ND}{x:CA}(h:x∈nk B fl):a8 B.ae B.dead x.id=(x,0)∧kN B fl x.id=(x,true):=by
 unfold nk at h;obtain⟨h1,h2⟩:=ff.1 h;have hf:B.ae.find? (fun c=>decide (c.id=x.id))=some x:=by
  cases hc:B.ae.find? (fun c=>decide (c.id=x.id)) with
  |none =>
   have:=i5.1 hc x h1;simp at this
  |some y =>
   have e1:=fd hc;have e2:y.id=x.id:=by simpa using im hc
   obtain⟨i,hi,rfl⟩:=ip.1 e1;obtain⟨j,hj,rfl⟩:=ip.1 h1;have hp:=(k7 hb.cok).2;rcases Nat.lt_trichotomy i j with q|q|q
   ·have:=f9.1 hp i j hi hj q;omega
   ·subst q;rfl
   ·have:=f9.1 hp j i hj hi q;omega
 have hg:a8 B.ae B.dead x.id=(x,0):=by unfold a8;rw[hf]
 refine⟨hg,?_⟩;unfold kN;rw[hg,if_pos ⟨rfl,h2⟩]
def Fj{B:BK}{m l q b f:Nat}(hf:f≠b){fl:List ND}(d:Bool)(mk:UInt32)(cur room:Int)(W:List CA)(hr:room<1) :
  aA Tryz.prog 124 [.ptr b 0 0,.ptr f 0 0,.int .u32 (mk.toNat:Int),.int .i64 cur,.int .i64 room] (ln m l q b B f fl d) (fun r af=>r=.ar [.aj 28 (cf (jw (eU W cur room).1)) false,.int .i64 (eU W cur room).2]∧af=ln m l q b B f fl d):=by
 refine aA.MU (Q:=fun af=>af=ln m l q b B f fl d) (mB 66 [.tmp 10,.tmp 11] Tryz.func124 ?_);have e:eU W cur room=([],max cur 0):=if_pos hr;rw[e];obtain⟨M,hM⟩:∃M,max cur 0=M:=⟨_,rfl⟩
 by_cases hc:cur<0
 ·have hM0:M=0:=oM;subst hM0;repeat' first|(refine wO ?_;intros)|(refine wY ?_ ?_<;>intro h)|refine aw @Tryz.f124.eq_1 ?_|exact ev @Tryz.f124.eq_1|fail
  all_goals try(exfalso;omega)
  exact⟨_,m5,rfl,bt,ba,fun k o hk=>rfl,by rw[hM];exact dH (.nil _ _)⟩
 ·have hM0:M=cur:=oM;subst hM0;repeat' first|(refine wO ?_;intros)|(refine wY ?_ ?_<;>intro h)|refine aw @Tryz.f124.eq_1 ?_|exact ev @Tryz.f124.eq_1|fail
  all_goals try(exfalso;omega)
  exact⟨_,m5,rfl,bt,ba,fun k o hk=>rfl,by rw[hM];exact dH (.nil _ _)⟩
def Dj{B:BK}(hb:BkR B)(fl:List ND)(mk:UInt32):bY B fl mk 1073741824=(nk B fl).map fun c=>fV c mk:=by
 unfold bY nk
 congr 1
 refine List.filter_congr fun c hc=>?_;have:=(r7 hb hc).2.2;rw[decide_eq_true oM,Bool.true_and]
def My(l:List CA)(c:CA):cf (jw (l++[c]))=cf (jw l)++[.int .i64 1::.int .i64 c.id::.int .i64 c.c9::.int .u32 (c.fp.toNat:Int)::fc c.f]:=by simp[cf,jw]
def qY(l:List CA):(cf (jw l)).length=l.length:=by simp[cf,jw]
def Fl{B:BK}(hb:BkR B)(h3:B.gr.length≤1000000)(h4:∀g,g∈B.gr→g.mem.length≤1000000){m l q b f:Nat}(D:eB m l q b)(hf:f≠m∧f≠l∧f≠q∧f≠b){fl:List ND}(hp:bR fl=0)(hdd:B.dead.length≤1000000)(d:Bool)(mk:UInt32)(cur room:Int)(hr:1≤room) :
  aA Tryz.prog 124 [.ptr b 0 0,.ptr f 0 0,.int .u32 (mk.toNat:Int),.int .i64 cur,.int .i64 room] (ln m l q b B f fl d) (fun r af=>r=.ar [.aj 28 (cf (jw (eU (bY B fl mk 1073741824) cur room).1)) false,.int .i64 (eU (bY B fl mk 1073741824) cur room).2]∧af=ln m l q b B f fl (d || decide (0<B.ae.length))):=by
 rw[Dj hb];obtain⟨dn,wv⟩:∃dn,(d || decide (0<B.ae.length))=dn:=⟨_,rfl⟩
 have lr:=Ld hb h3 h4 D hf hp d;have oz:=fun(id:Int)=>zJ hb h3 h4 D hf hp dn hdd id;have hle0:∀d,(ln m l q b B f fl d).le ((((((m5.set m (.mp (dm B.ae))).set l (fh B.nx m (.vec 3 q 0 B.dead.length))).set q (.row 197 3 (B.dead.map bj))).set b (bM B.sq l (.aj 2 (B.gr.map b3) false))).set f (jm fl d))):=fun d=>by simp only[ln,dh,iu,dy];exact ba
 have rk:(nk B fl).length≤1000000:=(IU hb fl).2.2;have hSm:∀x,x∈nk B fl→0<B.ae.length:=fun x hx=>List.length_pos_of_mem (ff.1 hx).1;rw[wv] at lr ⊢;refine aA.MU (Q:=fun af=>af=ln m l q b B f fl dn) ?_;rw[show ln m l q b B f fl d=(((((m5.set m (.mp (dm B.ae))).set l (fh B.nx m (.vec 3 q 0 B.dead.length))).set q (.row 197 3 (B.dead.map bj))).set b (bM B.sq l (.aj 2 (B.gr.map b3) false))).set f (jm fl d)) by simp only[ln,dh,iu,dy]];obtain⟨f1,f2,f3,f4⟩:=hf;obtain⟨d1,d2,d3,d4,d5,d6⟩:=D;have e1:=ls d1;have e2:=ls d2;have e3:=ls d3;have e4:=ls d4;have e5:=ls d5;have e6:=ls d6;have f1':=ls f1;have f2':=ls f2;have f3':=ls f3;have f4':=ls f4;obtain⟨M,hM⟩:∃M,max cur 0=M:=⟨_,rfl⟩
 obtain⟨S,hS⟩:∃S,nk B fl=S:=⟨_,rfl⟩
 have ay:∀x,x∈S→a8 B.ae B.dead x.id=(x,0)∧kN B fl x.id=(x,true):=fun x hx=>Tx hb (hS ▸ hx);rw[hS] at lr rk hSm ⊢;obtain⟨W,hW⟩:∃W,S.map (fun c=>fV c mk)=W:=⟨_,rfl⟩
 have hWl:W.length=S.length:=by rw[←hW,d7]
 rw[hW];have qu:(S.map Zl).length=S.length:=d7 _;refine(aA.gY 66 [.tmp 10,.tmp 11] Tryz.func124 rfl rfl rfl rfl ?_);refine bD (cA ?_);repeat' first|(refine wM ?_;(first|(have _:=ao)|(have _:=ak;intro ao)|(have _:=ah;intro ak)|(intro ah));intros)|refine wV ?_|(refine wY ?_ ?_<;>intro h)|refine ed ?_|exact ll|fail
 refine bO (RV (good:=fun f' af=>f'=⟨66,[(4,.int .i64 room),(3,.int .i64 M),(2,.int .u32 (mk.toNat:Int)),(1,.ptr f 0 0),(0,.ptr b 0 0)],[]⟩∧af=(((((m5.set m (.mp (dm B.ae))).set l (fh B.nx m (.vec 3 q 0 B.dead.length))).set q (.row 197 3 (B.dead.map bj))).set b (bM B.sq l (.aj 2 (B.gr.map b3) false))).set f (jm fl d))) (cA ?_) ?_)
 ·repeat' first|(refine wM ?_;(first|(have _:=ao)|(have _:=ak;intro ao)|(have _:=ah;intro ak)|(intro ah));intros)|refine wV ?_|(refine wY ?_ ?_<;>intro h)|refine ed ?_|exact ll|fail
  all_goals
   refine .of (.less ?_ ba) ⟨rfl,rfl⟩;simp(maxSteps:=4000000) (disch:=first|decide|assumption|omega|(simp only[wL];omega)) only[go_sem,simprocAttr,bE,aX];all_goals first|rfl|omega|(simp;done)|(simp;omega)
 rintro _ _ ⟨rfl,rfl⟩;refine bD (cA ?_);repeat' first|(refine wM ?_;(first|(have _:=ao)|(have _:=ak;intro ao)|(have _:=ah;intro ak)|(intro ah));intros)|refine wV ?_|(refine wY ?_ ?_<;>intro h)|refine ed ?_|exact ll|fail
 all_goals try(exfalso;omega)
 refine bO (bD (cA ?_));repeat' first|(refine wM ?_;(first|(have _:=ao)|(have _:=ak;intro ao)|(have _:=ah;intro ak)|(intro ah));intros)|refine wV ?_|(refine wY ?_ ?_<;>intro h)|refine ed ?_|exact ll|fail
 refine bO (RV (good:=fun f' af=>f'=⟨66,[(12,.aj 28 (cf (jw (dY W cur))) false),(4,.int .i64 room)],[]⟩∧af=(((((m5.set m (.mp (dm B.ae))).set l (fh B.nx m (.vec 3 q 0 B.dead.length))).set q (.row 197 3 (B.dead.map bj))).set b (bM B.sq l (.aj 2 (B.gr.map b3) false))).set f (jm fl dn))) (cA ?_) ?_)
 ·repeat' first|(refine Gb lr (hle0 d) ?_)|(refine wM ?_;(first|(have _:=ao)|(have _:=ak;intro ao)|(have _:=ah;intro ak)|(intro ah));intros)|refine wV ?_|(refine wY ?_ ?_<;>intro h)|refine ed ?_|exact ll|fail
  refine aG (α:=Nat×Nat×List (List MV)) (fun z=>⟨66,[(27,.int .i64 (z.1:Int)),(26,.int .i64 (S.length:Int)),(25,.aj 1 (S.map Zl) false),(12,.vec 28 z.2.1 0 (dY (W.take z.1) cur).length),(4,.int .i64 room),(3,.int .i64 M),(2,.int .u32 (mk.toNat:Int)),(1,.ptr f 0 0),(0,.ptr b 0 0)],[]⟩)
   (fun z=>((((((m5.set m (.mp (dm B.ae))).set l (fh B.nx m (.vec 3 q 0 B.dead.length))).set q (.row 197 3 (B.dead.map bj))).set b (bM B.sq l (.aj 2 (B.gr.map b3) false))).set f (jm fl dn))).set z.2.1 (.row 164 28 (cf (jw (dY (W.take z.1) cur))++z.2.2)))
   (fun z=>z.1≤S.length∧z.2.1≠m∧z.2.1≠l∧z.2.1≠q∧z.2.1≠b∧z.2.1≠f) (fun z=>S.length-z.1) ?_ ?_
  ·refine Gh.yN 164 28 (fun r=>[(27,.int .i64 0),(26,.int .i64 (S.length:Int)),(25,.aj 1 (S.map Zl) false),(12,.vec 28 r 0 0),(4,.int .i64 room),(3,.int .i64 M),(2,.int .u32 (mk.toNat:Int)),(1,.ptr f 0 0),(0,.ptr b 0 0)]) (fun k=>by(repeat' (refine And.intro ?_ ?_))<;>first|exact trivial|exact .inl rfl|exact .inr ⟨rfl,.inl rfl⟩|exact .inr ⟨rfl,.inr rfl⟩) fun r hr=>?_;simp only[aM] at hr;obtain⟨r5,r4,r3,r2,r1,-⟩:=hr;exact .done ⟨(0,r,[]),rfl,by simp[dY,jw,cf],kv _,r1,r2,r3,r4,r5⟩
  ·rintro⟨i,r,xx⟩ ⟨hi,r1,r2,r3,r4,r5⟩;simp only at hi r1 r2 r3 r4 r5 ⊢;have r1':=ls r1;have r2':=ls r2;have r3':=ls r3;have r4':=ls r4;have r5':=ls r5;by_cases bh:i<S.length
   ·obtain⟨x,hx⟩:=bX S bh;have hat1:=bJ (f:=Zl) hx;have hWx:W[i]?=some (fV x mk):=by rw[←hW,ey,hx];rfl
    have hpi:(fV x mk).id=x.id:=rfl;have cc:=BB (cur:=cur) hWx;rw[hM,hpi] at cc;obtain⟨A,hA⟩:∃A,dY (W.take i) cur=A:=⟨_,rfl⟩
    rw[hA] at cc ⊢;have xf:=hSm x (dJ hx);have hdt:dn=true:=by rw[←wv];cases d<;>simp[xf]
    have so:=oz x.id;rw[(ay x (dJ hx)).1,(ay x (dJ hx)).2,show(dn || decide ((x,(0:Int)).2=0))=dn by rw[hdt];rfl] at so;have hpr:=Bv x mk;by_cases hle:x.id≤M
    ·rw[if_neg oM,dy] at cc;clear lr oz hle0 ay so hpr;repeat' first|(refine wM ?_;(first|(have _:=ao)|(have _:=ak;intro ao)|(have _:=ah;intro ak)|(intro ah));intros)|refine wV ?_|(refine wY ?_ ?_<;>intro h)|refine bu @hat1 @qu ?_|exact fk @hat1 @qu|fail
     all_goals try(exfalso;omega)
     all_goals
      refine .of (.less ?_ ?_) ⟨(i+1,r,xx),rfl,rfl,⟨by simp only;omega,r1,r2,r3,r4,r5⟩,by simp only;omega⟩
      ·simp only[cc];exact wW
      ·simp only[cc];exact ba
    ·rw[if_pos oM] at cc;have ksn:=My A (fV x mk);have kl:=qY A;have uq:(A++[fV x mk]).length=A.length+1:=ax;obtain⟨y,hy⟩:∃y,fV x mk=y:=⟨_,rfl⟩
     rw[hy] at hpr ksn cc uq;obtain⟨Q,hQ⟩:∃Q,cf (jw A)=Q:=⟨_,rfl⟩
     rw[hQ] at ksn kl ⊢;obtain⟨j,hj⟩:∃j,A.length=j:=⟨_,rfl⟩
     rw[hj] at kl uq ⊢;have fce:(∀c,c∈fc y.f→c.aP=true)=True:=eq_true (uX (dV y.f));have hj6:j≤1000000:=by rw[←hj,←hA];exact ld (gy _ _) (by rw[e9];omega)
     have gv:(Q++xx).drop (j+1)=xx.drop 1:=by rw[←kl,←hH,jy]
     have sr:(Q++xx).take j=Q:=gt kl;clear lr oz hle0 ay;repeat' first|(refine Gb so (Qt sS sS sS sS sS) ?_)|(with_reducible refine aC hpr ?_)|(refine wM ?_;(first|(have _:=ao)|(have _:=ak;intro ao)|(have _:=ah;intro ak)|(intro ah));intros)|refine wV ?_|(refine wY ?_ ?_<;>intro h)|refine wh @ai @hat1 @qu @kl @sr @gv @fce ?_|exact yz @ai @hat1 @qu @kl @sr @gv @fce|fail
     all_goals try(exfalso;omega)
     all_goals
      clear sr gv so;have q1:ao≠m:=bc;have q2:ao≠l:=bc;have q3:ao≠q:=bc;have q4:ao≠b:=bc;have q5:ao≠f:=bc
     ·have hex:xx=[]:=fv oM;subst hex;clear h;refine .of (.less ?_ ?_) ⟨(i+1,ao,[]),rfl,rfl,⟨by simp only;omega,q1,q2,q3,q4,q5⟩,by simp only;omega⟩
      ·simp only[cc,uq];exact wW
      ·simp only[cc,ksn];exact m7 (m7 (m7 (m7 (m7 (m7 bt sS) sS) sS) sS) sS) sS
     ·clear h;refine .of (.less ?_ ?_) ⟨(i+1,ao,xx.drop 1),rfl,rfl,⟨by simp only;omega,q1,q2,q3,q4,q5⟩,by simp only;omega⟩
      ·simp only[cc,uq];exact wW
      ·simp only[cc,ksn];exact m7 (m7 (m7 (m7 (m7 (m7 bt sS) sS) sS) sS) sS) sS
   ·have:i=S.length:=oM;subst this;have htl:W.take S.length=W:=by rw[←hWl];exact eh
    rw[htl];repeat' first|(refine wM ?_;(first|(have _:=ao)|(have _:=ak;intro ao)|(have _:=ah;intro ak)|(intro ah));intros)|refine wV ?_|(refine wY ?_ ?_<;>intro h)|refine ed ?_|exact ll|fail
    refine .of (n7 (l1:=[(12,.aj 28 (cf (jw (dY W cur))) false),(4,.int .i64 room)]) (σ1:=(((((m5.set m (.mp (dm B.ae))).set l (fh B.nx m (.vec 3 q 0 B.dead.length))).set q (.row 197 3 (B.dead.map bj))).set b (bM B.sq l (.aj 2 (B.gr.map b3) false))).set f (jm fl dn))) (m5.set r (.row 164 28 (cf (jw (dY W cur))++xx))) (m7 bt cj) (St.bC ba (by simp[m6,m5, *])) (fun k o hk=>?_) (fun p hp=>?_)) ⟨rfl,rfl⟩
    ·refine cn fun e=>?_;subst e;simp[m6,m5, *] at hk
    ·simp only[cS,df,or_false] at hp;rcases hp with rfl|rfl
     ·exact dT cj (qY _).symm
     ·exact .same _
 rintro _ _ ⟨rfl,rfl⟩;have kl:=qY (dY W cur);by_cases gk:((dY W cur).length:Int)≤room
 ·have e:eU W cur room=(dY W cur,1073741824):=by unfold eU;rw[if_neg oM,if_pos gk]
  rw[e];refine cA ?_;clear lr oz ay;repeat' first|(refine wM ?_;(first|(have _:=ao)|(have _:=ak;intro ao)|(have _:=ah;intro ak)|(intro ah));intros)|refine wV ?_|(refine wY ?_ ?_<;>intro h)|refine aw @kl ?_|exact ev @kl|fail
  all_goals try(exfalso;omega)
  exact⟨_,m5,rfl,bt,hle0 dn,fun k o hk=>rfl,.same _⟩
 ·obtain⟨n,hn⟩:∃n:Nat,room=n:=⟨room.toNat,oM⟩
  subst hn;obtain⟨R0,hR0⟩:∃R0,dY W cur=R0:=⟨_,rfl⟩
  rw[hR0] at kl gk ⊢;obtain⟨y,hy⟩:=bX R0 (show n-1<R0.length by omega);have e:eU W cur (n:Int)=(R0.take n,y.id):=by unfold eU;rw[hR0,if_neg oM,if_neg gk,Int.toNat_natCast,cr,hy];rfl
  have hR6:R0.length≤1000000:=by rw[←hR0];exact ld (gy _ _) oM
  have hto:((n:Int)-1).toNat=n-1:=oM;have hkt:(cf (jw R0)).take n=cf (jw (R0.take n)):=by simp[cf,jw,List.map_take]
  have tp:(cf (jw (R0.take n))).getD (n-1) []=.int .i64 1::.int .i64 y.id::.int .i64 y.c9::.int .u32 (y.fp.toNat:Int)::fc y.f:=by rw[←hkt,cr,i4,if_pos oM];simp[cf,jw,hy]
  have mz:(cf (jw (R0.take n))).length=n:=by rw[qY,e9];omega
  rw[e];clear lr oz ay;refine cA ?_;repeat' first|(refine wM ?_;(first|(have _:=ao)|(have _:=ak;intro ao)|(have _:=ah;intro ak)|(intro ah));intros)|refine wV ?_|(refine wY ?_ ?_<;>intro h)|refine xv @ai @kl @hto @hkt @tp @mz ?_|exact wC6 @ai @kl @hto @hkt @tp @mz|fail
  all_goals try(exfalso;omega)
  exact⟨_,m5,rfl,bt,hle0 dn,fun k o hk=>rfl,dH (.tight _ _)⟩
