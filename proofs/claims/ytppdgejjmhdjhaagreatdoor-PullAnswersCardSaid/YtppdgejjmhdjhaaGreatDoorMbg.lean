/- Parts of the proof; conditions: as its theorems name them. -/
import Derived.Test.YtppdgejjmhdjhaaGreatDoorMbf
set_option linter.all false
set_option maxHeartbeats 8000000
set_option maxRecDepth 100000
namespace Go.Proofs.YtppdgejjmhdjhaaGreatDoor
open CA renaming c->aa,id->ab
open Classical renaming not_not->ac,byContradiction->ad
open DE renaming c->ag
open ED renaming mk->al
open GR renaming no->am,c->an
open IT renaming k->ap
open List renaming length_append->au,length_cons->av,length_map->aI,getElem?_eq_some_iff->aN,mem_singleton->a0,length_take->a1,map_cons->a2,length_singleton->a3,map_append->a4,mem_map->a5,cons_append->a6,take_append_drop->a7,mem_cons_of_mem->a9,mem_append->bb,flatMap_append->be,flatMap_cons->bf,mem_cons->bg,mem_cons_self->bi,take_length->bp,length_drop->bs,getD_eq_getElem?_getD->bv,eq_nil_of_length_eq_zero->bx,getElem?_append_left->bz,map_nil->b0,filter_cons->b3,map_id->b4,find?_cons->b5,getElem?_append_right->b6,take_left'->b7,foldl_cons->b8,foldl_append->ca,mem_of_getElem?->cb,pairwise_cons->cd,filter_append->ce,drop_zero->cf,mem_of_find?_eq_some->ci,getElem?_cons_succ->ck,take_of_length_le->co,length_nil->cp,append_nil->cr,length_filter_le->ct,drop_succ_cons->cv,getElem?_take->cx,not_mem_nil->cy,length_set->cS,dropLast_cons_of_ne_nil->c0,drop_eq_getElem_cons->c8,getElem?_cons_zero->dc,sublist_cons_self->dd,map_set->de,mem_of_mem_drop->df,filter_eq_self->di
open Nat renaming zero_le->dj,le_refl->dk
open Ne renaming symm->dl
open Option renaming getD_some->dn,or_none->dq,toList_some->dw
open St renaming none->d0,set->d7,aB->d8,del->d9,bC->ea,minus->eb,ofList->ec
open TU renaming id->ee,c->eg
open View renaming cq->eh
open aA renaming less->ei,bV->ek,seen->el,gh->em
open aR renaming freeze->eo,drop->et
def uF(v f sm:Nat)(mk:UInt32)(floor now:Int)(log:MV):aA Tryz.prog 30 [.ptr v 0 0] (d0.set v (mh f mk sm floor now log)) (fun r af=>r=.int .i64 now∧af=d0.set v (mh f mk sm floor now log)):=by
 refine(mB 9 [.tmp 2] Tryz.func30 ?_);repeat' first|refine aw @Tryz.f30.eq_1 ?_|exact ev @Tryz.f30.eq_1|fail
 all_goals exact⟨rfl,rfl⟩
def IC(v f sm:Nat)(mk:UInt32)(floor now:Int)(log:MV):aA Tryz.prog 32 [.ptr v 0 0] (d0.set v (mh f mk sm floor now log)) (fun r af=>r=.int .u32 (mk.toNat:Int)∧af=d0.set v (mh f mk sm floor now log)):=by
 refine(mB 9 [.tmp 2] Tryz.func32 ?_);repeat' first|refine aw @Tryz.f32.eq_1 ?_|exact ev @Tryz.f32.eq_1|fail
 all_goals exact⟨rfl,rfl⟩
structure S2 where
 bk:BK
 fl:List ND
 mask:UInt32
abbrev S2.c(s:S2):List MV:=s.bk.c++[.aj 5 (s.fl.map ND.c) false,.int .u32 (s.mask.toNat:Int)]
structure ASK where
 frm:Int
 cur:Int
 aq:Int
 trim:Int
abbrev ASK.c(q:ASK):List MV:=[.int .i64 q.frm,.int .i64 q.cur,.int .i64 q.aq,.int .i64 q.trim]
def fG(l:List TU):List Int:=l.foldl (fun a t=>iA a t.id) []
def lQ:List TU→Int→Option Int
 |[],_=>none
 |t::l,id=>if t.id=id then some t.old else lQ l id
def gG:List TU→Int→Option TU
 |[],_=>none
 |t::l,id=>match gG l id with
  |some v=>some v
  |none=>if t.id=id then some t else none
def lT(old:Int)(t:TU):Option IT :=
 if old=t.new then none else if old=0 then some ⟨1,t.zc⟩ else if t.new=0 then some ⟨2,{ ig with id:=t.id }⟩ else some ⟨3,t.zc⟩
def km(l:List TU)(id:Int):List IT:=match lQ l id,gG l id with
 |some o,some t=>(lT o t).toList
 |_,_=>[]
def mA(l:List TU):List IT:=(fG l).flatMap (km l)
def lj(l:List TU)(from_ wg cur:Int):List TU:=l.filter fun t=>decide (from_<t.sq∧t.sq≤wg∧t.id≤cur)
def lP(l:List TU)(pg:Nat):Nat→Nat
 |0=>0
 |n+1=>if (mA (l.take (n+1))).length≤pg then n+1 else lP l pg n
def ZS(aq:Int):Nat:=(max aq 0).toNat
def vE(l:List TU)(now:Int)(n:Nat):List IT×Int:=(mA (l.take n),if n=l.length then now else(l.getD n tuZ).sq-1)
def eS(l:List TU)(from_ now cur aq:Int):List IT×Int :=
 vE (lj l from_ now cur) now (lP (lj l from_ now cur) (ZS aq) (lj l from_ now cur).length)
def TOk(t:TU):Prop:=t.new≠0→t.zc.id=t.id
def kE(l:List TU)(t:TU):fG (l++[t])=iA (fG l) t.id:=by unfold fG;rw[ca];rfl
def oA{α:Type}{P:List α→Prop}(h0:P [])(h1:∀l x,P l→P (l++[x])):∀l,P l:=fun l=>by
 have:∀n,n≤l.length→P (l.take n):=fun n=>by
  induction n with
  |zero=>intro _;exact h0
  |succ n ih =>
   intro h;obtain⟨x,hx⟩:=bX l (by omega:n<l.length);rw[aW hx];exact h1 _ _ (ih oM)
 have h:=this l.length (dk _)
 rwa [bp] at h
def Ex:∀l:List TU,en (fG l):=oA .nil fun l x h=>by rw[kE];exact S6 h
def oT{id:Int}:∀l:List TU,id∈fG l↔id∈l.map ee:=oA (by simp[fG]) fun l x h=>by rw[kE,Fy,h,a4];simp[or_comm]
theorem mK:∀(l:List TU) (x:TU) (id:Int),lQ (l++[x]) id=(lQ l id).or (if x.id=id then some x.old else none)
 |[],x,id=>by simp[lQ]
 |t::l,x,id=>by rw[a6,lQ,lQ,mK l x id];split<;>simp
theorem gA:∀(l:List TU) (x:TU) (id:Int),gG (l++[x]) id=if x.id=id then some x else gG l id
 |[],x,id=>by simp[gG]
 |t::l,x,id=>by
  rw[a6,gG,gA l x id,gG];by_cases h:x.id=id
  ·rw[if_pos h,if_pos h]
  ·rw[if_neg h,if_neg h]
theorem mJ:∀{l:List TU} {id:Int},lQ l id=none↔id∉l.map ee
 |[],id=>by simp[lQ]
 |t::l,id=>by
  rw[lQ];by_cases h:t.id=id
  ·simp[h]
  ·have h':¬id=t.id:=fun e=>h e.symm;rw[if_neg h,mJ,a2,bg];simp[h']
def pN{id:Int}:∀l:List TU,gG l id=none↔id∉l.map ee:=oA (by simp[gG]) fun l x h=>by
 rw[gA,a4];by_cases e:x.id=id
 ·rw[if_pos e];simp[e]
 ·have e':¬id=x.id:=fun q=>e q.symm;rw[if_neg e,h];simp[e']
def N3{id:Int}{t:TU}:∀l:List TU,gG l id=some t→t∈l∧t.id=id:=oA (by simp[gG]) fun l x h=>by
 rw[gA];by_cases e:x.id=id
 ·rw[if_pos e];rintro h;cases h;exact⟨ax,e⟩
 ·rw[if_neg e];intro q;exact⟨bb.2 (.inl (h q).1),(h q).2⟩
def KV{id:Int}:∀l:List TU,gH l id=(gG l id).map TU.new:=oA rfl fun l x h=>by
 rw[kJ,gA];split
 ·rfl
 ·exact h
def EA(l:List TU)(id:Int):(km l id).length≤1:=by
 unfold km;split
 ·unfold lT;split
  ·simp
  ·split
   ·simp
   ·split<;>simp
 ·simp
def WA{l:List TU}(hl:∀t,t∈l→TOk t){id:Int}{x:IT}(hx:x∈km l id):x.c.id=id:=by
 unfold km at hx;split at hx
 ·rename_i o t ho ht;obtain⟨h1,h2⟩:=N3 l ht;have:=hl t h1;unfold lT at hx;split at hx
  ·simp at hx
  ·split at hx
   ·rename_i q1 q2;simp only[dw,a0] at hx;subst hx;simp only;rw[this oM,h2]
   ·split at hx
    ·simp only[dw,a0] at hx;subst hx;exact h2
    ·rename_i q3;simp only[dw,a0] at hx;subst hx;simp only;rw[this q3,h2]
 ·simp at hx
def vV(l:List TU):(mA l).length≤(fG l).length:=by
 unfold mA;generalize fG l=ids
 induction ids with
 |nil=>simp
 |cons a r ih =>
  rw[bf,au,av];have:=EA l a;omega
def oS:∀l:List TU,(fG l).length≤l.length:=oA (dk _) fun l x h=>by
 rw[kE,au,a3];unfold iA;split
 ·omega
 ·rw[au,av,a1,bs];omega
def SD:mA []=[]:=rfl
def QR{f:Int→List IT}(hf:∀i x,x∈f i→x.c.id=i){ids:List Int}(hu:en ids){id:Int}(hn:id∉ids){x:IT}(hx:f id=[x]) :
  (iA ids id).flatMap f=(ids.flatMap f).take (((ids.take (aT ids id)).flatMap f).length)++x::(ids.flatMap f).drop (((ids.take (aT ids id)).flatMap f).length)∧(∀y,y∈(ids.flatMap f).take (((ids.take (aT ids id)).flatMap f).length)→y.c.id<id)∧∀y,y∈(ids.flatMap f).drop (((ids.take (aT ids id)).flatMap f).length)→id<y.c.id:=by
 have e:ids.flatMap f=(ids.take (aT ids id)).flatMap f++(ids.drop (aT ids id)).flatMap f:=by rw[←be,a7]
 have hu':en (ids.map _root_.id):=by rw[b4];exact hu
 obtain⟨b1,b2⟩:=sI (f:=_root_.id) (x:=id) hu';rw[b4] at b1 b2;rw[e,b7 rfl,List.drop_left' rfl];refine⟨?_,fun y hy=>?_,fun y hy=>?_⟩
 ·unfold iA;rw[if_neg hn,be,bf,hx];rfl
 ·obtain⟨i,hi,hy⟩:=List.mem_flatMap.1 hy;rw[hf i y hy];exact b1 i hi
 ·obtain⟨i,hi,hy⟩:=List.mem_flatMap.1 hy;rw[hf i y hy];have:=b2 i hi;have fg:i≠id:=fun q=>hn (q ▸ df hi);simp only[_root_.id] at this;omega
def NM{f:Int→List IT}{ids:List Int}{id:Int}(hx:f id=[]):(iA ids id).flatMap f=ids.flatMap f:=by
 unfold iA;split
 ·rfl
 ·rw[be,bf,hx,List.nil_append,←be,a7]
def sE(l:List TU)(pg n:Nat):lP l pg (n+1)=if (mA (l.take (n+1))).length≤pg then n+1 else lP l pg n:=rfl
theorem Mk(l:List TU)(pg:Nat):∀n,lP l pg n≤n
 |0=>dk _
 |n+1=>by
  unfold lP;split
  ·exact dk _
  ·exact Nat.le_succ_of_le (Mk l pg n)
def xh(l:List TU):Prop:=∀a t b,l=a++t::b→(gH a t.id).getD t.old=t.old
def xh.take{l:List TU}(h:xh l)(n:Nat):xh (l.take n):=fun a t b e=>by refine h a t (b++l.drop n) ?_;rw[←a6,←List.append_assoc,←e,a7]
def xh.at{l:List TU}(h:xh l){i:Nat}{t:TU}(hi:l[i]?=some t):(gH (l.take i) t.id).getD t.old=t.old :=
 h (l.take i) t (l.drop (i+1)) (by rw[←Ek hi,a7])
def L4:xh []:=fun a t b e=>by cases a<;>cases e
def Gu{l:List TU}{t:TU}(h:xh l)(ht:(gH l t.id).getD t.old=t.old):xh (l++[t]):=fun a u b e=>by
 rcases List.eq_nil_or_concat b with rfl|⟨b',z,rfl⟩
 ·obtain⟨rfl,e2⟩:=List.append_inj' e rfl;cases e2;exact ht
 ·rw[List.concat_eq_append,←a6,←List.append_assoc] at e;obtain⟨rfl,e2⟩:=List.append_inj' e rfl;exact h a u b' rfl
def QD{l:List TU}{t:TU}(h:xh (l++[t])):xh l∧(gH l t.id).getD t.old=t.old :=
 ⟨by have:=h.take l.length;rwa [b7 rfl] at this,h l t [] rfl⟩
def yA{l:List TU}{t:TU}{id:Int}(h:t.id≠id):km (l++[t]) id=km l id:=by unfold km;rw[mK,gA,if_neg h,if_neg h,dq]
theorem mQ{f g:Int→List IT}:∀{ids:List Int},(∀i,i∈ids→f i=g i)→ids.flatMap f=ids.flatMap g
 |[],_=>rfl
 |i::r,h=>by rw[bf,bf,h i (bi ..),mQ fun j hj=>h j (a9 _ hj)]
def yB(o:Int)(t:TU):((lT o t).toList.length:Int)=if t.new≠o then 1 else 0:=by
 unfold lT;by_cases h:o=t.new
 ·rw[if_pos h,if_neg (by simpa using h.symm)];rfl
 ·rw[if_neg h,if_pos (fun e=>h e.symm)];split
  ·rfl
  ·split<;>rfl
def O7{l:List TU}{t:TU}(hc:(gH l t.id).getD t.old=t.old) :
  ((mA (l++[t])).length:Int)=((mA l).length:Int)-(if t.old≠(lQ l t.id).getD t.old then 1 else 0)+if t.new≠(lQ l t.id).getD t.old then 1 else 0:=by
 by_cases hm:t.id∈l.map ee
 ·have hi:t.id∈fG l:=(oT l).2 hm;obtain⟨o,ho⟩:∃o,lQ l t.id=some o:=by
   cases h:lQ l t.id with
   |none=>exact absurd hm (mJ.1 h)
   |some o=>exact⟨o,rfl⟩
  obtain⟨u,hu⟩:∃u,gG l t.id=some u:=by
   cases h:gG l t.id with
   |none=>exact absurd hm ((pN l).1 h)
   |some o=>exact⟨o,rfl⟩
  rw[KV,hu] at hc;simp only[Option.map_some,dn] at hc;have hu':en ((fG l).map _root_.id):=by rw[b4];exact Ex l
  obtain⟨y,a,b,e,hy,-,ha,hb⟩:=oX (f:=_root_.id) (x:=t.id) hu' (by rw[b4];exact hi);simp only[_root_.id] at hy ha hb;subst hy;unfold mA;rw[kE,show iA (fG l) t.id=fG l from if_pos hi,e,be,be,bf,bf,
   mQ (g:=km l) (fun i h=>yA (by have:=ha i h;omega)),mQ (ids:=b) (g:=km l) (fun i h=>yA (by have:=hb i h;omega))]
  have e1:km l t.id=(lT o u).toList:=by unfold km;rw[ho,hu]
  have e2:km (l++[t]) t.id=(lT o t).toList:=by unfold km;rw[mK,gA,ho];simp
  have n1:=yB o u;have n2:=yB o t;rw[←e1,hc] at n1;rw[←e2] at n2;rw[ho,dn,←n1,←n2];simp only[au];omega
 ·have hi:t.id∉fG l:=fun h=>hm ((oT l).1 h);have ho:=mJ.2 hm;have e0:km (l++[t]) t.id=(lT t.old t).toList:=by unfold km;rw[mK,gA,if_pos rfl,ho];simp
  have n2:=yB t.old t;rw[←e0] at n2;unfold mA;rw[kE,show iA (fG l) t.id=_ from if_neg hi,be,bf];have hc1:∀i,i∈fG l→km (l++[t]) i=km l i:=fun i h=>yA fun e=>hi (e ▸ h);rw[mQ (g:=km l) fun i h=>hc1 i (List.mem_of_mem_take h),mQ (ids:=(fG l).drop _) (g:=km l) fun i h=>hc1 i (df h)];have hs:((fG l).flatMap (km l)).length=((((fG l).take (aT (fG l) t.id)).flatMap (km l))++(((fG l).drop (aT (fG l) t.id)).flatMap (km l))).length:=by rw[←be,a7]
  rw[ho,Option.getD_none,if_neg ax,hs,←n2];simp only[au];omega
def Jk(l:List TU)(x:TU)(f n c:Int):lj (l++[x]) f n c=if f<x.sq∧x.sq≤n∧x.id≤c then lj l f n c++[x] else lj l f n c:=by
 unfold lj;rw[ce,b3,List.filter_nil];split
 ·rename_i h;rw[if_pos (of_decide_eq_true h)]
 ·rename_i h;rw[if_neg (fun q=>h (decide_eq_true q)),cr]
def Ga{l:List Int}{x:Int}:en (l++[x])↔en l∧∀y,y∈l→y<x:=by unfold en;rw[List.pairwise_append];simp
def VD{f n c id:Int}(hid:id≤c):∀l:List TU,en (l.map TU.sq)→(∀u,u∈l→u.sq≤n)→gH (lj l f n c) id=none∨gH (lj l f n c) id=gH l id :=
 oA (fun _ _=>.inl rfl) fun l x ih hu hn=>by
  rw[a4,a2,b0,Ga] at hu;have ih':=ih hu.1 fun u h=>hn u (bb.2 (.inl h));have hx:=hn x ax;rw[Jk,kJ];by_cases e:x.id=id
  ·rw[if_pos e];by_cases hf:f<x.sq
   ·rw[if_pos ⟨hf,hx,oM⟩,kJ,if_pos e];exact .inr rfl
   ·rw[if_neg fun h=>hf h.1];have:lj l f n c=[]:=List.filter_eq_nil_iff.2 fun u h=>by have:=hu.2 u.sq (a5.2 ⟨u,h,rfl⟩);simp only[decide_eq_true_eq];omega
    rw[this];exact .inl rfl
  ·rw[if_neg e];split
   ·rw[kJ,if_neg e];exact ih'
   ·exact ih'
def Wi{f n c:Int}:∀l:List TU,en (l.map TU.sq)→(∀u,u∈l→u.sq≤n)→xh l→xh (lj l f n c) :=
 oA (fun _ _ _=>L4) fun l x ih hu hn hc=>by
  rw[a4,a2,b0,Ga] at hu;have ZH:∀u,u∈l→u.sq≤n:=fun u h=>hn u (bb.2 (.inl h));obtain⟨h1,h2⟩:=QD hc;have ih':=ih hu.1 ZH h1;rw[Jk];split
  ·rename_i h;refine Gu ih' ?_;rcases VD (f:=f) (n:=n) h.2.2 l hu.1 ZH with q|q
   ·rw[q];rfl
   ·rw[q];exact h2
  ·exact ih'
def F9{l:List TU}{f n c:Int}{t:TU}:t∈lj l f n c↔t∈l∧f<t.sq∧t.sq≤n∧t.id≤c:=by unfold lj;rw[List.mem_filter,decide_eq_true_eq]
def xO(l:List TU)(f n c:Int):(lj l f n c).length≤l.length:=ct _ _
def vG(f:F8):∀c,c∈fc f→c.aP=true:=List.all_eq_true.1 (dV f)
def Lg(old:Int)(t:TU):aA Tryz.prog 231 [.int .i64 old,.agg t.c] d0 (fun r _=>r=.ar [.agg ((lT old t).getD it0).k,.bool (lT old t).isSome]):=by
 refine ek (mB 29 [.cell 4 164,.tmp 5] Tryz.func231 ?_);have wz:=vG t.zc.f;unfold lT;by_cases h1:old=t.new
 ·rw[if_pos h1];repeat' first|(refine wO ?_;intros)|refine fx @Tryz.f231.eq_1 @ai @wz ?_|fail
  all_goals exact lE
 ·rw[if_neg h1];by_cases h2:old=0
  ·rw[if_pos h2];repeat' first|(refine wO ?_;intros)|refine fx @Tryz.f231.eq_1 @ai @wz ?_|fail
   all_goals exact lE
  ·rw[if_neg h2];by_cases h3:t.new=0
   ·rw[if_pos h3];repeat' first|(refine wO ?_;intros)|refine fx @Tryz.f231.eq_1 @ai @wz ?_|fail
    all_goals exact lE
   ·rw[if_neg h3];repeat' first|(refine wO ?_;intros)|refine fx @Tryz.f231.eq_1 @ai @wz ?_|fail
    all_goals exact lE
def CI(t:TU)(f n c:Int):aA Tryz.prog 230 [.agg t.c,.int .i64 f,.int .i64 n,.int .i64 c] d0 (fun r _=>r=.bool (decide (f<t.sq∧t.sq≤n∧t.id≤c))):=by
 refine ek (mB 25 [.tmp 8] Tryz.func230 ?_);by_cases h1:f<t.sq
 ·by_cases h2:t.sq≤n
  ·by_cases h3:t.id≤c
   ·rw[decide_eq_true ⟨h1,h2,h3⟩];repeat' first|(refine wO ?_;intros)|refine bu @Tryz.f230.eq_1 @ai ?_|fail
    all_goals first|exact⟨_,ba,rfl⟩|exact⟨_,ba⟩|(exfalso;omega)|(refine⟨_,ba,?_⟩;simp[*])
   ·rw[decide_eq_false fun h=>h3 h.2.2];repeat' first|(refine wO ?_;intros)|refine bu @Tryz.f230.eq_1 @ai ?_|fail
    all_goals first|exact⟨_,ba,rfl⟩|exact⟨_,ba⟩|(exfalso;omega)|(refine⟨_,ba,?_⟩;simp[*])
  ·rw[decide_eq_false fun h=>h2 h.2.1];repeat' first|(refine wO ?_;intros)|refine bu @Tryz.f230.eq_1 @ai ?_|fail
   all_goals first|exact⟨_,ba,rfl⟩|exact⟨_,ba⟩|(exfalso;omega)|(refine⟨_,ba,?_⟩;simp[*])
 ·rw[decide_eq_false fun h=>h1 h.1];repeat' first|(refine wO ?_;intros)|refine bu @Tryz.f230.eq_1 @ai ?_|fail
  all_goals first|exact⟨_,ba,rfl⟩|exact⟨_,ba⟩|(exfalso;omega)|(refine⟨_,ba,?_⟩;simp[*])
def IP(l:List TU)(hl:l.length≤1000000)(i:Nat){x:TU}(hx:l[i]?=some x)(tt:Bool):aA Tryz.prog 239 [.aj 31 (l.map eg) tt,.int .i64 (i:Int)] d0 (fun r _=>r=.bool (decide (x.id∉(l.take i).map ee))):=by
 refine ek (mB 22 [.tmp 4] Tryz.func239 ?_);obtain⟨res,iy⟩:∃b,decide (x.id∉(l.take i).map ee)=b:=⟨_,rfl⟩
 rw[iy];have qu:=(aN.1 hx).1;have hatx:=bJ (f:=eg) hx;have bn:(l.map eg).length=l.length:=aI _;repeat' first|refine aw @Tryz.f239.eq_1 ?_|fail
 refine aG (α:=Nat) (fun j=>⟨22,[(5,.int .i64 (j:Int)),(0,.aj 31 (l.map eg) tt),(1,.int .i64 (i:Int))],[]⟩) (fun _=>d0) (fun j=>j≤i∧∀y,y∈l.take j→y.id≠x.id) (fun j=>i-j) (.of (.less ?_ ba) ⟨0,rfl,rfl,dj _,ax⟩) ?_
 ·exact wW
 ·rintro j ⟨hj,ef⟩;by_cases bh:j<i
  ·obtain⟨y,hy⟩:=bX l (by omega:j<l.length);have ay:=bJ (f:=eg) hy;by_cases he:y.id=x.id
   ·have hk:res=false:=by rw[←iy];refine decide_eq_false fun h=>h ?_;exact a5.2 ⟨y,cb (by rw[cx,if_pos bh];exact hy:(l.take i)[j]?=some y),he⟩
    subst hk;repeat' first|(refine wO ?_;intros)|refine jf @ai @ay @hatx @bn ?_|fail
    all_goals exact lE
   ·have gi:∀z,z∈l.take (j+1)→z.id≠x.id:=fun z hz=>by
     rw[aW hy,bb,a0] at hz;rcases hz with hz|rfl
     ·exact ef z hz
     ·exact he
    repeat' first|(refine wO ?_;intros)|refine jf @ai @ay @hatx @bn ?_|fail
    all_goals try(exfalso;omega)
    all_goals
     refine .of (.less ?_ bt) ⟨j+1,rfl,rfl,⟨oM,gi⟩,oM⟩;exact wW
  ·obtain rfl:j=i:=oM;have hk:res=true:=by rw[←iy];refine decide_eq_true fun h=>?_;obtain⟨y,hy,e⟩:=a5.1 h;exact ef y hy e
   subst hk;repeat' first|refine ed ?_|fail
   all_goals exact lE
def PS(A:List IT)(hA:A.length≤1000000)(x:IT)(n:Nat)(hn:n≤A.length)(h1:∀y,y∈A.take n→y.c.id<x.c.id)(h2:∀y,y∈A.drop n→x.c.id<y.c.id)(tt:Bool) :
  aA Tryz.prog 240 [.aj 28 (A.map ap) tt,.agg x.k] d0 (fun r _=>r=.aj 28 ((A.take n++x::A.drop n).map ap) false):=by
 refine el (mB 39 [.tmp 4] Tryz.func240 ?_);have eu:(A.take n++x::A.drop n).map ap=(A.map ap).take n++x.k::(A.map ap).drop n:=by rw[a4,a2,List.map_take,List.map_drop]
 rw[eu];have bn:(A.map ap).length=A.length:=aI _;have ay:=fun(i:Nat) (y:IT) (h:A[i]?=some y)=>bJ (f:=ap) h;obtain⟨L,hLe⟩:∃L,A.map ap=L:=⟨_,rfl⟩
 rw[hLe] at bn ay ⊢;have wz:=vG x.c.f;repeat' first|(refine wM ?_;(first|(have _:=ah)|(intro ah));intros)|refine fx @Tryz.f240.eq_1 @ai @wz ?_|fail
 have hlo:∀i y,A[i]?=some y→i<n→y.c.id<x.c.id:=fun i y h hi=>h1 y (cb (by rw[cx,if_pos hi];exact h:(A.take n)[i]?=some y));have hhi:∀y,A[n]?=some y→x.c.id<y.c.id:=fun y h=>h2 y (by rw[Ek h];exact bi ..);clear eu h1 h2;refine aG (α:=Nat) (fun i=>⟨39,[(5,.int .i64 (i:Int)),(0,.aj 28 L tt),(3,.ptr ah 0 0)],[]⟩) (fun _=>d0.set ah (.row 164 28 [x.k])) (fun i=>i≤n) (fun i=>n-i) (.of (.less ?_ ba) ⟨0,rfl,rfl,dj _⟩) ?_
 ·exact wW
 ·intro i hi;have hi:i≤n:=hi;by_cases bh:i<n
  ·obtain⟨y,hy⟩:=bX A (by omega:i<A.length);have hay:=ay i y hy;have ot:=hlo i y hy bh;repeat' first|refine wV ?_|refine fx @ai @hay @bn ?_|fail
   all_goals try(exfalso;omega)
   all_goals
    refine .of (.less ?_ ba) ⟨i+1,rfl,rfl,(by omega:i+1≤n),oM⟩;exact wW
  ·obtain rfl:i=n:=oM;have hL:(L.take i).length=i:=by rw[a1];omega
   have hln:(L.take i++x.k::L.drop i).length=A.length+1:=by rw[au,av,a1,bs,bn];omega
   by_cases dy:i=A.length
   ·repeat' first|(refine wM ?_;intros)|refine wV ?_|refine jf @ai @bn @hL @wz ?_|fail
    all_goals try(exfalso;omega)
    all_goals
     have e:L.take i++x.k::L.drop i=L.take i++[x.k]++L.drop i:=ax;rw[e] at hln ⊢;exact eh cj (by rw[hln];omega)
   ·obtain⟨y,hy⟩:=bX A (by omega:i<A.length);have hay:=ay i y hy;have ot:=hhi y hy;repeat' first|(refine wM ?_;intros)|refine wV ?_|refine wZ5 @ai @hay @bn @hL @wz ?_|fail
    all_goals try(exfalso;omega)
    all_goals
     have e:L.take i++x.k::L.drop i=L.take i++[x.k]++L.drop i:=ax;rw[e] at hln ⊢;exact eh cj (by rw[hln];omega)
def KY{l:List TU}{i:Nat}{x:TU}(hx:l[i]?=some x)(hm:x.id∉(l.take i).map ee):lQ l x.id=some x.old:=by
 have:l=l.take i++x::l.drop (i+1):=by rw[←Ek hx,a7]
 rw[this];generalize l.take i=a at hm;clear this hx
 induction a with
 |nil=>simp[lQ]
 |cons t a ih =>
  rw[a2,bg] at hm;have h1:¬t.id=x.id:=fun e=>hm (.inl e.symm);rw[a6,lQ,if_neg h1];exact ih fun h=>hm (.inr h)
def QS{f:Int→List IT}(ids:List Int)(k:Nat):((ids.take k).flatMap f).length≤(ids.flatMap f).length:=by
 have:(ids.flatMap f).length=((ids.take k).flatMap f++(ids.drop k).flatMap f).length:=by rw[←be,a7]
 rw[this,au];omega
def DW(l:List TU)(hl:l.length≤1000000)(hT:∀t,t∈l→TOk t)(tt:Bool):aA Tryz.prog 185 [.aj 31 (l.map eg) tt] d0 (fun r _=>r=.aj 28 ((mA l).map ap) false):=by
 refine ek (mB 76 [.tmp 2] Tryz.func185 ?_);have bn:(l.map eg).length=l.length:=aI _;repeat' first|(refine wM ?_;(first|(have _:=ah)|(intro ah));intros)|refine aw @Tryz.f185.eq_1 ?_|fail
 refine aG (α:=Nat) (fun i=>⟨76,[(4,.int .i64 (i:Int)),(3,.aj 28 (((fG (l.take i)).flatMap (km l)).map ap) false),(0,.aj 31 (l.map eg) tt)],[]⟩) (fun _=>d0) (fun i=>i≤l.length) (fun i=>l.length-i) (.of (aR.Uo rfl ?_) ⟨0,rfl,rfl,dj _⟩) ?_
 ·intro p hp;simp only[bg,cy,or_false] at hp;rcases hp with rfl|rfl|rfl
  ·exact .same _
  ·exact(eh cj rfl:View _ (.vec 28 _ 0 0) (.aj 28 [] false))
  ·exact .same _
 ·intro i hi;have hi:i≤l.length:=hi;by_cases bh:i<l.length
  ·obtain⟨x,hx⟩:=bX l bh;have ay:=bJ (f:=eg) hx;have hf:=IP l hl i hx tt;by_cases hm:x.id∈(l.take i).map ee
   ·rw[decide_eq_false (fun h=>h hm)] at hf;have lr:fG (l.take (i+1))=fG (l.take i):=by rw[aW hx,kE];exact if_pos ((oT _).2 hm)
    repeat' first|(with_reducible first|refine up hf ?_)|refine aw @ai ?_|fail
    all_goals try(exfalso;omega)
    all_goals
     refine .of (.less ?_ bt) ⟨i+1,rfl,rfl,(by omega:i+1≤l.length),oM⟩;rw[lr];exact wW
   ·rw[decide_eq_true hm] at hf;have hn:x.id∉fG (l.take i):=fun h=>hm ((oT _).1 h);have lr:fG (l.take (i+1))=iA (fG (l.take i)) x.id:=by rw[aW hx,kE]
    have ho:=KY hx hm;have hl0:gG (l.take i) x.id=none:=(pN _).2 hm;have wb:=Ex (l.take i);have hfi:∀j y,y∈km l j→y.c.id=j:=fun j y hy=>WA hT hy;have hXl:((fG (l.take i)).flatMap (km l)).length≤1000000:=by
     have h1:∀ids:List Int,(ids.flatMap (km l)).length≤ids.length:=fun ids=>by
      induction ids with
      |nil=>simp
      |cons a r ih =>
       rw[bf,au,av];have:=EA l a;omega
     have h2:=h1 (fG (l.take i));have h3:=oS (l.take i);rw[a1] at h3;omega
    obtain⟨t,ht⟩:∃t,gG l x.id=some t:=by
     cases h:gG l x.id with
     |none=>exact absurd (a5.2 ⟨x,cb hx,rfl⟩) ((pN l).1 h)
     |some t=>exact⟨t,rfl⟩
    have hit:km l x.id=(lT x.old t).toList:=by unfold km;rw[ho,ht]
    have jj:∀y:IT,km l x.id=[y]→aA Tryz.prog 240 [.aj 28 (((fG (l.take i)).flatMap (km l)).map ap) false,.agg y.k] d0 (fun r _=>r=.aj 28 (((fG (l.take (i+1))).flatMap (km l)).map ap) false):=fun y hy=>by have hid:y.c.id=x.id:=hfi x.id y (by rw[hy];exact a0.2 rfl);obtain⟨e,u1,u2⟩:=QR hfi wb hn hy;rw[lr,e];exact PS _ hXl y _ (QS _ _) (fun z hz=>by rw[hid];exact u1 z hz) (fun z hz=>by rw[hid];exact u2 z hz) false
    have hput0:=fun(hy:km l x.id=[])=>NM (ids:=fG (l.take i)) hy;obtain⟨X,hX⟩:∃X,(fG (l.take i)).flatMap (km l)=X:=⟨_,rfl⟩
    obtain⟨X2,hX2⟩:∃X2,(fG (l.take (i+1))).flatMap (km l)=X2:=⟨_,rfl⟩
    have kx:∀(f1:FR),f1=⟨76,[(4,.int .i64 (((i+1:Nat):Int))),(3,.aj 28 (X2.map ap) false),(0,.aj 31 (l.map eg) tt)],[]⟩→f1=⟨76,[(4,.int .i64 (((i+1:Nat):Int))),(3,.aj 28 (((fG (l.take (i+1))).flatMap (km l)).map ap) false),(0,.aj 31 (l.map eg) tt)],[]⟩:=fun f1 h=>by rw[hX2];exact h
    rw[←lr] at hput0;rw[hX,hX2] at jj hput0;rw[hX];clear lr wb hn hXl;repeat' first|(with_reducible first|refine up hf ?_)|(refine wM ?_;(first|(have _:=ak)|(intro ak));intros)|refine bu @ai @ay ?_|fail
    all_goals try(exfalso;omega)
    refine aG (α:=Nat) (fun k=>⟨76,[(6,.int .i64 (k:Int)),(5,.ptr ak 0 0),(4,.int .i64 (i:Int)),(3,.aj 28 (X.map ap) false),(0,.aj 31 (l.map eg) tt)],[]⟩) (fun k=>d0.set ak (.row 128 31 [((gG (l.take k) x.id).getD x).c])) (fun k=>i≤k∧k≤l.length) (fun k=>l.length-k) (.of (.less ?_ ba) ⟨i,rfl,by rw[hl0];rfl,dk _,hi⟩) ?_
    ·exact wW
    ·rintro k ⟨ZD,yu⟩;have ZD:i≤k:=ZD;have yu:k≤l.length:=yu;by_cases mz:k<l.length
     ·obtain⟨y,hy⟩:=bX l mz;have haty:=bJ (f:=eg) hy;have hls:gG (l.take (k+1)) x.id=if y.id=x.id then some y else gG (l.take k) x.id:=by rw[aW hy,gA]
      obtain⟨z,hz⟩:∃z,(gG (l.take k) x.id).getD x=z:=⟨_,rfl⟩
      by_cases he:y.id=x.id
      ·rw[if_pos he] at hls;rw[hz];repeat' first|refine wV ?_|refine jf @ai @ay @haty @bn ?_|fail
       all_goals try(exfalso;omega)
       all_goals
        refine .of (.less ?_ (σ1:=d0.set ak (.row 128 31 [y.c])) (d8 bt sS)) ⟨k+1,rfl,by rw[hls];rfl,⟨oM,oM⟩,oM⟩;exact wW
      ·rw[if_neg he] at hls;rw[hz];repeat' first|refine wV ?_|refine jf @ai @ay @haty @bn ?_|fail
       all_goals try(exfalso;omega)
       all_goals
        refine .of (.less ?_ (σ1:=d0.set ak (.row 128 31 [z.c])) (d8 bt sS)) ⟨k+1,rfl,by rw[hls,hz],⟨oM,oM⟩,oM⟩;exact wW
     ·obtain rfl:k=l.length:=oM;rw[bp,ht,dn];have wz:=vG t.zc.f;unfold lT at hit;by_cases c1:x.old=t.new
      ·rw[if_pos c1] at hit;have e:=hput0 hit;repeat' first|refine fx @ai @ay @bn ?_|fail
       all_goals try(exfalso;omega)
       all_goals
        refine .of (.less ?_ bt) ⟨i+1,kx _ rfl,rfl,(by omega:i+1≤l.length),oM⟩;rw[e];exact wW
      ·rw[if_neg c1] at hit;by_cases c2:x.old=0
       ·rw[if_pos c2] at hit;have hp:=jj _ hit;repeat' first|(with_reducible first|refine up hp ?_)|refine jf @ai @ay @bn @wz ?_|fail
        all_goals try(exfalso;omega)
        all_goals
         refine .of (.less ?_ bt) ⟨i+1,kx _ rfl,rfl,(by omega:i+1≤l.length),oM⟩;exact wW
       ·rw[if_neg c2] at hit;by_cases c3:t.new=0
        ·rw[if_pos c3] at hit;have hp:=jj _ hit;repeat' first|(refine aC hp ?_)|refine jf @ai @ay @bn @wz ?_|fail
         all_goals try(exfalso;omega)
         all_goals
          refine .of (.less ?_ bt) ⟨i+1,kx _ rfl,rfl,(by omega:i+1≤l.length),oM⟩;exact wW
        ·rw[if_neg c3] at hit;have hp:=jj _ hit;repeat' first|(with_reducible first|refine up hp ?_)|refine jf @ai @ay @bn @wz ?_|fail
         all_goals try(exfalso;omega)
         all_goals
          refine .of (.less ?_ bt) ⟨i+1,kx _ rfl,rfl,(by omega:i+1≤l.length),oM⟩;exact wW
  ·obtain rfl:i=l.length:=oM;rw[bp];repeat' first|refine ed ?_|fail
   all_goals exact lE
def PW(B:BK)(fl:List ND)(id:Int):kN B fl id=((shown B fl id).getD ig,(shown B fl id).isSome):=by
 unfold kN shown a8;cases h:B.ae.find? (fun c=>decide (c.id=id)) with
 |none =>
  simp only;rw[if_neg (fun q=>by have:=q.1;split at this<;>omega)];rfl
 |some c =>
  simp only[true_and];split<;>rfl
def BN{B:BK}{fl:List ND}{id:Int}{c:CA}(h:shown B fl id=some c):c∈B.ae∧c.id=id:=by
 unfold shown at h;split at h
 ·cases h
 ·rename_i d hd;split at h
  ·cases h;exact⟨ci hd,by simpa using List.find?_some hd⟩
  ·cases h
theorem MY(id v j:Int):∀sh:List (Int×Int),mg (Zm sh id v) j=if j=id then v else mg sh j
 |[]=>by
  unfold Zm mg;by_cases h:j=id
  ·rw[if_pos h.symm,if_pos h]
  ·rw[if_neg (dl h),if_neg h];rfl
 |(i,u)::r=>by
  have ih:=MY id v j r;unfold Zm;by_cases h1:i=id
  ·rw[if_pos h1];subst h1;unfold mg;by_cases h:j=i
   ·rw[if_pos h.symm,if_pos h]
   ·rw[if_neg (dl h),if_neg h,if_neg (dl h)]
  ·rw[if_neg h1];unfold mg;rw[ih];by_cases h:i=j
   ·rw[if_pos h,if_pos h,if_neg oM]
   ·rw[if_neg h,if_neg h]
theorem I5{j:Int}:∀{sh:List (Int×Int)},j∉sh.map (·.1)→mg sh j=0
 |[],_=>rfl
 |(i,u)::r,h=>by rw[a2,bg] at h;unfold mg;rw[if_neg fun e=>h (.inl e.symm)];exact I5 fun q=>h (.inr q)
theorem MX(id j:Int):∀sh:List (Int×Int),(sh.map (·.1)).Nodup→mg (shD sh id) j=if j=id then 0 else mg sh j
 |[],_=>by
  unfold shD;split<;>rfl
 |(i,u)::r,hn=>by
  obtain⟨n1,n2⟩:=List.nodup_cons.1 hn;have ih:=MX id j r n2;unfold shD;by_cases h1:i=id
  ·rw[if_pos h1];subst h1;by_cases h:j=i
   ·rw[if_pos h,h];exact I5 n1
   ·rw[if_neg h];show _=mg ((i,u)::r) j;rw[mg,if_neg (dl h)]
  ·rw[if_neg h1];unfold mg;rw[ih];by_cases h:i=j
   ·rw[if_pos h,if_pos h,if_neg oM]
   ·rw[if_neg h,if_neg h]
theorem I6(id v:Int):∀sh:List (Int×Int),(Zm sh id v).map (·.1)=if id∈sh.map (·.1) then sh.map (·.1) else sh.map (·.1)++[id]
 |[]=>by simp[Zm]
 |(i,u)::r=>by
  unfold Zm;by_cases h1:i=id
  ·rw[if_pos h1,if_pos (by simp[h1])];rfl
  ·rw[if_neg h1,a2,I6 id v r];have h1':¬id=i:=fun e=>h1 e.symm;by_cases h:id∈r.map (·.1)
   ·rw[if_pos h,if_pos (by rw[a2];exact a9 _ h)];rfl
   ·rw[if_neg h,if_neg (by rw[a2,bg];exact fun q=>q.elim h1' h)];rfl
theorem I4(id:Int):∀sh:List (Int×Int),((shD sh id).map (·.1)).Sublist (sh.map (·.1))
 |[]=>.slnil
 |(i,u)::r=>by
  unfold shD;split
  ·exact dd _ _
  ·exact(I4 id r).cons_cons _
def KW{l:List Int}{x:Int}(h:l.Nodup)(hx:x∉l):(l++[x]).Nodup:=by rw[List.nodup_append];refine⟨h,ax,fun a ha b hb=>?_⟩;rw[a0] at hb;exact fun e=>hx (by rw[←hb,←e];exact ha)
structure LInv (z:VS):Prop where
 ch:xh z.log
 up:en (z.log.map TU.sq)
 now:∀t,t∈z.log→t.sq≤z.now
 tok:∀t,t∈z.log→TOk t
 idb:∀t,t∈z.log→1≤t.id∧t.id<1073741824
 new:∀id v,gH z.log id=some v→mg z.sh id=v
 key:(z.sh.map (·.1)).Nodup
 val:∀p,p∈z.sh→p.2≠0
 len:z.log.length≤40
 flo:z.floor≤z.now
 pos:0≤z.now
 sqb:∀t,t∈z.log→1≤t.sq
def KU{l:List TU}{id v:Int}(h:gH (l.drop 1) id=some v):gH l id=some v:=by
 cases l with
 |nil=>exact h
 |cons t l =>
  rw[cv,cf] at h;rw[gH,h]
def xh.tail{l:List TU}(h:xh l):xh (l.drop 1):=fun a t b e=>by
 cases l with
 |nil=>cases a<;>cases e
 |cons u l =>
  rw[cv,cf] at e;have:=h (u::a) t b (by rw[e];rfl);cases hn:gH a t.id with
  |none=>rfl
  |some v =>
   rw[gH,hn] at this;exact this
def Pb{log:List TU}{t:TU}:(jG log t).Sublist (log++[t]):=by
 unfold jG;split
 ·exact List.Sublist.refl _
 ·exact List.drop_sublist _ _
def O8{log:List TU}{t:TU}(h:xh (log++[t])):xh (jG log t):=by
 unfold jG;split
 ·exact h
 ·exact h.tail
def O9{log:List TU}{t:TU}{id v:Int}(h:gH (jG log t) id=some v):gH (log++[t]) id=some v:=by
 unfold jG at h;split at h
 ·exact h
 ·exact KU h
def SF{floor now:Int}{log:List TU}{t:TU}(h:floor≤now)(hl:∀u,u∈log++[t]→u.sq≤now):qB floor log t≤now:=by
 unfold qB;split
 ·exact h
 ·cases log with
  |nil=>exact hl t ax
  |cons u r=>exact hl u ax
noncomputable def oH(B:BK)(fl:List ND)(mk:UInt32)(old seq id:Int):TU:=oG seq old id (fV ((shown B fl id).getD ig) mk) (shown B fl id).isSome
def yY(B:BK)(fl:List ND)(mk:UInt32)(old seq id:Int):(oH B fl mk old seq id).new=dE B fl id:=by unfold oH oG dE;cases shown B fl id<;>rfl
def xK(B:BK)(fl:List ND)(mk:UInt32)(z:VS)(seq id:Int):lW B fl mk z seq id=if id=0 then { z with now:=seq } else
  ⟨if (shown B fl id).isSome=true then Zm z.sh id (dE B fl id) else shD z.sh id,if mg z.sh id=dE B fl id then z.floor else qB z.floor z.log (oH B fl mk (mg z.sh id) seq id),seq,if mg z.sh id=dE B fl id then z.log else jG z.log (oH B fl mk (mg z.sh id) seq id)⟩:=by
 unfold lW;split
 ·rfl
 ·have e:=yY B fl mk (mg z.sh id) seq id;unfold oH at e ⊢;simp only[PW,e];rfl
def LP{B:BK}{fl:List ND}{id:Int}(h:shown B fl id=none):dE B fl id=0:=by unfold dE;rw[h];rfl
def xL{B:BK}{fl:List ND}{mk:UInt32}{z:VS}(hk:(z.sh.map (·.1)).Nodup)(seq id j:Int):mg (lW B fl mk z seq id).sh j=if id≠0∧j=id then dE B fl id else mg z.sh j:=by
 rw[xK];by_cases h0:id=0
 ·rw[if_pos h0,if_neg fun h=>h.1 h0]
 ·rw[if_neg h0];simp only;cases hs:shown B fl id with
  |none =>
   simp only[Option.isSome_none,Bool.false_eq_true,if_false];rw[MX _ _ _ hk,LP hs];by_cases h:j=id
   ·rw[if_pos h,if_pos ⟨h0,h⟩]
   ·rw[if_neg h,if_neg fun q=>h q.2]
  |some c =>
   simp only[Option.isSome_some,if_true];rw[MY];by_cases h:j=id
   ·rw[if_pos h,if_pos ⟨h0,h⟩]
   ·rw[if_neg h,if_neg fun q=>h q.2]
theorem M0{id v:Int}{p:Int×Int}:∀{sh:List (Int×Int)},p∈Zm sh id v→p∈sh∨p.2=v
 |[],h=>.inr (by unfold Zm at h;rw[a0] at h;rw[h])
 |(i,u)::r,h=>by
  unfold Zm at h;split at h
  ·rcases bg.1 h with rfl|h
   ·exact .inr rfl
   ·exact .inl (a9 _ h)
  ·rcases bg.1 h with rfl|h
   ·exact .inl (bi ..)
   ·exact(M0 h).imp (a9 _) fun q=>q
theorem MW(id:Int):∀sh:List (Int×Int),(shD sh id).Sublist sh
 |[]=>.slnil
 |(i,u)::r=>by
  unfold shD;split
  ·exact dd _ _
  ·exact(MW id r).cons_cons _
def VJ{B:BK}(hb:dx B){fl:List ND}{id:Int}(h:(shown B fl id).isSome=true):dE B fl id≠0:=by obtain⟨c,hc⟩:=Option.isSome_iff_exists.1 h;obtain⟨⟨p1,p2,p3,p4,p5⟩,p6⟩:=fZ (hb.B5 c (BN hc).1).1;unfold dE;rw[hc,dn];omega
def yT{B:BK}(hb:dx B){fl:List ND}{mk:UInt32}{z:VS}(hz:LInv z){seq id:Int}(hs:z.now<seq)(hid:id=0∨1≤id∧id<1073741824):LInv (lW B fl mk z seq id):=by
 have oz:=fun j=>xL (B:=B) (fl:=fl) (mk:=mk) hz.key seq id j;have hlen:=Je (B:=B) (fl:=fl) (mk:=mk) hz.len seq id;rw[xK] at oz hlen ⊢;by_cases h0:id=0
 ·rw[if_pos h0];exact { hz with now:=fun t ht=>by have:=hz.now t ht;simp only;omega,flo:=by have:=hz.flo;simp only;omega,pos:=by have:=hz.pos;simp only;omega }
 rw[if_neg h0] at oz hlen ⊢;have hid':=hid.resolve_left h0;simp only at oz;have xd:((if (shown B fl id).isSome=true then Zm z.sh id (dE B fl id) else shD z.sh id).map (·.1)).Nodup:=by
  split
  ·rw[I6];split
   ·exact hz.key
   ·exact KW hz.key bc
  ·exact hz.key.sublist (I4 id z.sh)
 have hval:∀p,p∈(if (shown B fl id).isSome=true then Zm z.sh id (dE B fl id) else shD z.sh id)→p.2≠0:=fun p hp=>by
  split at hp
  ·rename_i q;rcases M0 hp with h|h
   ·exact hz.val p h
   ·rw[h];exact VJ hb q
  ·exact hz.val p ((MW id z.sh).subset hp)
 by_cases ho:mg z.sh id=dE B fl id
 ·simp only[if_pos ho] at hlen ⊢;refine⟨hz.ch,hz.up,fun t ht=>by have:=hz.now t ht;simp only;omega,hz.tok,hz.idb,fun j v hv=>?_,xd,hval,hlen,by have:=hz.flo;simp only;omega,by have:=hz.pos;simp only;omega,hz.sqb⟩;simp only;rw[oz];split
  ·rename_i q;rw[←ho,←q.2];exact hz.new j v hv
  ·exact hz.new j v hv
 ·simp only[if_neg ho] at hlen ⊢;obtain⟨T,hT⟩:∃T,oH B fl mk (mg z.sh id) seq id=T:=⟨_,rfl⟩
  have hTn:T.new=dE B fl id:=by rw[←hT];exact yY ..
  have hTi:T.id=id:=by rw[←hT];rfl
  have hTo:T.old=mg z.sh id:=by rw[←hT];rfl
  have hTs:T.sq=seq:=by rw[←hT];rfl
  have hTk:TOk T:=fun fg=>by
   rw[←hT] at fg ⊢;unfold oH oG at fg ⊢;cases xm:shown B fl id with
   |none=>rw[xm] at fg;exact absurd rfl fg
   |some c=>exact(BN xm).2
  rw[hT] at hlen ⊢;have hc:xh (z.log++[T]):=Gu hz.ch (by
   rw[hTi,hTo];cases hn:gH z.log id with
   |none=>rfl
   |some v=>exact(hz.new id v hn).symm)
  have hsub:=Pb (log:=z.log) (t:=T);have ef:∀u,u∈z.log++[T]→u.sq≤seq:=fun u hu=>by
   rcases bb.1 hu with hu|hu
   ·have:=hz.now u hu;omega
   ·rw[a0] at hu;subst hu;omega
  refine⟨O8 hc,?_,fun u hu=>ef u (hsub.subset hu),fun u hu=>?_,fun u hu=>?_,fun j v hv=>?_,xd,hval,hlen,SF (show z.floor≤seq by have:=hz.flo;omega) ef,show 0≤seq by have:=hz.pos;omega,fun u hu=>?_⟩
  ·refine List.Pairwise.sublist (hsub.map TU.sq) ?_;rw[a4];exact Ga.2 ⟨hz.up,fun y hy=>by
    obtain⟨u,hu,rfl⟩:=a5.1 hy;have:=hz.now u hu;rw[hTs];omega⟩
  ·rcases bb.1 (hsub.subset hu) with hu|hu
   ·exact hz.tok u hu
   ·rw[a0] at hu;subst hu;exact hTk
  ·rcases bb.1 (hsub.subset hu) with hu|hu
   ·exact hz.idb u hu
   ·rw[a0] at hu;subst hu;rw[hTi];exact hid'
  ·have:=O9 hv;rw[kJ,hTi] at this;simp only;rw[oz];by_cases e:id=j
   ·rw[if_pos e] at this;rw[if_pos ⟨h0,e.symm⟩,←hTn];exact Option.some.inj this
   ·rw[if_neg e] at this;rw[if_neg fun q=>e q.2.symm];exact hz.new j v this
  ·rcases bb.1 (hsub.subset hu) with hu|hu
   ·exact hz.sqb u hu
   ·rw[a0] at hu;subst hu;rw[hTs];have:=hz.pos;omega
def p7{B B':BK}{fl:List ND}{j:Int}(h1:B'.ae.find? (fun c=>decide (c.id=j))=B.ae.find? (fun c=>decide (c.id=j)))(h2:jx B'.gr j=jx B.gr j):shown B' fl j=shown B fl j:=by
 unfold shown;rw[h1];cases h:B.ae.find? (fun c=>decide (c.id=j)) with
 |none=>rfl
 |some c =>
  have hc:c.id=j:=by simpa using List.find?_some h
  simp only[fJ,hc,h2]
def Mu{j:Int}{l:List GR}{f:GR→GR}(h:∀x,x∈l→(f x).no=x.no∧(j∈(f x).mem↔j∈x.mem)):jx (l.map f) j=jx l j:=by
 unfold jx;generalize 0=s
 induction l generalizing s with
 |nil=>rfl
 |cons x l ih =>
  have ih':=fun s=>ih (fun y hy=>h y (a9 _ hy)) (s:=s);have hx:=h x (bi ..);have:se j s (f x)=se j s x:=by
   unfold se;rw[hx.1];by_cases q:j∈x.mem
   ·rw[if_pos q,if_pos (hx.2.2 q)]
   ·rw[if_neg q,if_neg fun z=>q (hx.2.1 z)]
  rw[a2,b8,b8,this];exact ih' _
def Ut{j g:Int}{a b:List GR}:jx (a++⟨g,[]⟩::b) j=jx (a++b) j:=by unfold jx;rw[ca,b8,ca];rfl
def Ms{j g:Int}{l:List GR}(h:∀x,x∈l→x.no=g→j∉x.mem):jx (k8 l g) j=jx l j:=by
 unfold jx k8;generalize 0=s
 induction l generalizing s with
 |nil=>rfl
 |cons x l ih =>
  have ih':=fun s=>ih (s:=s) fun y hy=>h y (a9 _ hy);rw[b3];by_cases e:x.no=g
  ·rw[if_neg (by simpa using e),b8];have:se j s x=s:=by unfold se;rw[if_neg (h x (bi ..) e)]
   rw[this];exact ih' s
  ·rw[if_pos (by simpa using e),b8,b8];exact ih' _
def Mv{j g:Int}{m:List Int}{l:List GR}(h:∀x,x∈l→x.no=g→(j∈m↔j∈x.mem)):jx (fD l g m) j=jx l j:=by
 unfold fD;refine Mu fun x hx=>?_;by_cases e:x.no=g
 ·rw[if_pos e];exact⟨e.symm,h x hx e⟩
 ·rw[if_neg e];exact⟨rfl,Iff.rfl⟩
def EH{α:Type}{f:α→Int}{l:List α}(hu:en (l.map f)){x y:α}(hx:x∈l)(hy:y∈l)(h:f x=f y):x=y:=by
 induction l with
 |nil=>cases hx
 |cons z l ih =>
  rw[a2] at hu;obtain⟨u1,u2⟩:=cd.1 hu;rcases bg.1 hx with rfl|vm<;>rcases bg.1 hy with rfl|hy'
  ·rfl
  ·have:=u1 (f y) (a5.2 ⟨y,hy',rfl⟩);omega
  ·have:=u1 (f x) (a5.2 ⟨x,vm,rfl⟩);omega
  ·exact ih u2 vm hy'
def vU{l:List GR}(hu:en (l.map am)){x:GR}(hx:x∈l):bH l x.no=x.mem:=by obtain⟨y,h1,h2,h3,-⟩:=iF hu (a5.2 ⟨x,hx,rfl⟩);rw[h3,EH (f:=am) hu h1 hx h2]
def Ul{l:List CA}{j:Int}{p:CA→Bool}(h:∀c,c∈l→c.id=j→p c=true):(l.filter p).find? (fun c=>decide (c.id=j))=l.find? (fun c=>decide (c.id=j)):=by
 induction l with
 |nil=>rfl
 |cons c l ih =>
  have ih':=ih fun d hd=>h d (a9 _ hd);rw[b3];by_cases e:c.id=j
  ·rw[if_pos (h c (bi ..) e),b5,b5];simp[e]
  ·split
   ·rw[b5,b5,ih']
   ·rw[b5,ih'];simp[e]
def Um{l:List CA}{i j:Int}{x:CA}(hx:x.id=i)(h:j≠i):(vv l i x).find? (fun c=>decide (c.id=j))=l.find? (fun c=>decide (c.id=j)):=by
 unfold vv
 induction l with
 |nil=>rfl
 |cons c l ih =>
  rw[a2,b5,b5,ih];by_cases e:c.id=i
  ·rw[if_pos e];have h1:¬x.id=j:=fun q=>h (q.symm.trans hx);have h2:¬c.id=j:=fun q=>h (q.symm.trans e);simp[h1,h2]
  ·rw[if_neg e]
def jN{B:BK}(hb:dx B)(x:ED)(fl:List ND) :
  (iv B x≠0∧mb B x=[]∧fw B x=B) ∨
  (iv B x=0∧∃i,mb B x=[i]∧(i=0∨1≤i∧i<1073741824)∧∀j,j≠i∨i=0→shown (fw B x) fl j=shown B fl j) ∨
  (iv B x=0∧mb B x=bH B.gr x.gr++[0]∧x.gr∈B.gr.map am∧fw B x={ B with gr:=k8 B.gr x.gr,sq:=B.sq+((bH B.gr x.gr).length+1:Nat) }):=by
 have err:∀{e:Int},e≠0→mc B x=(e,B,[])→(iv B x≠0∧mb B x=[]∧fw B x=B):=fun he h=>⟨by unfold iv;rw[h];exact he,by unfold mb;rw[h],mP h⟩
 have one:∀{B':BK} {i:Int},mc B x=(0,B',[i])→(i=0∨1≤i∧i<1073741824)→(∀j,j≠i∨i=0→B'.ae.find? (fun c=>decide (c.id=j))=B.ae.find? (fun c=>decide (c.id=j))∧jx B'.gr j=jx B.gr j) →
   (iv B x=0∧∃i,mb B x=[i]∧(i=0∨1≤i∧i<1073741824)∧∀j,j≠i∨i=0→shown (fw B x) fl j=shown B fl j):=fun {B' i} h h1 h2 =>
  ⟨by unfold iv;rw[h],i,by unfold mb;rw[h],h1,fun j hj=>p7 (by unfold fw;rw[h];exact(h2 j hj).1) (by unfold fw;rw[h];exact(h2 j hj).2)⟩
 by_cases he:aQ x=0
 rotate_left
 ·exact .inl (err he (by unfold mc;rw[if_pos he]))
 by_cases hs:1099511627676<B.sq
 ·exact .inl (err (e:=8) br (by unfold mc;rw[if_neg (by simpa using he),if_pos hs]))
 obtain⟨e1,e2,e3,e4,e5⟩:=bF he;have hT:mc B x=mc B x:=rfl
 conv at hT=>rhs;unfold mc
 rw[if_neg (by simpa using he),if_neg hs] at hT;have tc:=hb.nx1;by_cases k1:x.kd=1
 ·rw[if_pos k1] at hT;by_cases hf:48≤B.ae.length∨1073741824≤B.nx
  ·rw[if_pos hf] at hT;exact .inl (err br hT)
  ·rw[if_neg hf] at hT;refine .inr (.inl (one hT (.inr oM) fun j hj=>⟨?_,rfl⟩));have hj:j≠B.nx:=by rcases hj with h|h<;>omega
   have h0:¬B.nx=j:=fun q=>hj q.symm;rw[List.find?_append];have:([bW B.nx x.p]:List CA).find? (fun c=>decide (c.id=j))=none:=by rw[List.find?_eq_none];intro c hc;rw[a0] at hc;subst hc;rw[decide_eq_false (show ¬(bW B.nx x.p).id=j from h0)];exact Bool.false_ne_true
   rw[this,dq]
 rw[if_neg k1] at hT;by_cases k2:x.kd=2
 ·rw[if_pos k2] at hT;by_cases h1:(a8 B.ae B.dead x.id).2=0
  rotate_left
  ·rw[if_pos h1] at hT;exact .inl (err h1 hT)
  rw[if_neg (by simpa using h1)] at hT;by_cases h2:1099511627776≤(a8 B.ae B.dead x.id).1.c9
  ·rw[if_pos h2] at hT;exact .inl (err br hT)
  rw[if_neg h2] at hT;have hi:=e4 (by rw[k2];rfl);refine .inr (.inl (one hT (.inr hi) fun j hj=>⟨?_,rfl⟩));have hj:j≠x.id:=by rcases hj with h|h<;>omega
  exact Um (pJ h1).2 hj
 rw[if_neg k2] at hT;by_cases k3:x.kd=3
 ·rw[if_pos k3] at hT;by_cases h1:(a8 B.ae B.dead x.id).2=0
  rotate_left
  ·rw[if_pos h1] at hT;exact .inl (err h1 hT)
  rw[if_neg (by simpa using h1)] at hT;have hi:=e4 (by rw[k3];rfl);refine .inr (.inl (one hT (.inr hi) fun j hj=>?_));have hj:j≠x.id:=by rcases hj with h|h<;>omega
  refine⟨Ul fun c _ hc=>by simp[hc,hj],?_⟩;unfold lz;exact Mu fun y _=>⟨rfl,by simp only;rw[qQ];exact⟨fun q=>q.1,fun q=>⟨q,hj⟩⟩⟩
 rw[if_neg k3] at hT;by_cases k4:x.kd=4
 ·rw[if_pos k4] at hT;by_cases h1:x.gr∈B.gr.map am
  ·rw[if_pos h1] at hT;exact .inl (err br hT)
  ·rw[if_neg h1] at hT;refine .inr (.inl (one hT (.inl rfl) fun j hj=>⟨rfl,?_⟩));simp only[uB];rw[Ut,a7]
 rw[if_neg k4] at hT;by_cases k5:x.kd=5
 ·rw[if_pos k5] at hT;by_cases h1:x.gr∈B.gr.map am
  ·rw[if_pos h1] at hT;exact .inr (.inr ⟨by unfold iv;rw[hT],by unfold mb;rw[hT],h1,by unfold fw;rw[hT];simp⟩)
  ·rw[if_neg h1] at hT;exact .inl (err br hT)
 rw[if_neg k5] at hT;have gw:∀{m:List Int} {j:Int},(j∈m↔j∈bH B.gr x.gr)→jx (fD B.gr x.gr m) j=jx B.gr j:=fun h=>Mv fun y hy e=>by rw[h,←e,vU hb.ua hy]
 by_cases k6:x.kd=6
 ·rw[if_pos k6] at hT;by_cases h1:(a8 B.ae B.dead x.id).2=0
  rotate_left
  ·rw[if_pos h1] at hT;exact .inl (err h1 hT)
  rw[if_neg (by simpa using h1)] at hT;by_cases h2:x.gr∈B.gr.map am
  rotate_left
  ·rw[if_pos h2] at hT;exact .inl (err br hT)
  rw[if_neg (by simpa using h2)] at hT;by_cases h3:x.id∈bH B.gr x.gr
  ·rw[if_pos h3] at hT;exact .inl (err br hT)
  rw[if_neg h3] at hT;have hi:=e4 (by rw[k6];rfl);refine .inr (.inl (one hT (.inr hi) fun j hj=>⟨rfl,gw ?_⟩));have hj:j≠x.id:=by rcases hj with h|h<;>omega
  rw[Fy];exact⟨fun q=>q.resolve_left hj,.inr⟩
 ·rw[if_neg k6] at hT;by_cases h2:x.gr∈B.gr.map am
  rotate_left
  ·rw[if_pos h2] at hT;exact .inl (err br hT)
  rw[if_neg (by simpa using h2)] at hT;by_cases h3:x.id∈bH B.gr x.gr
  rotate_left
  ·rw[if_pos h3] at hT;exact .inl (err br hT)
  rw[if_neg (by simpa using h3)] at hT;have hi:=e4 (by rw[show x.kd=7 by omega];rfl);refine .inr (.inl (one hT (.inr hi) fun j hj=>⟨rfl,gw ?_⟩));have hj:j≠x.id:=by rcases hj with h|h<;>omega
  rw[qQ];exact⟨fun q=>q.1,fun q=>⟨q,hj⟩⟩
def rM(l:List GR)(g id:Int):List GR:=if g∈l.map am∧id∈bH l g then fD l g (dQ (bH l g) id) else l
def eA(B:BK)(g:Int):List (Int×Int)→List BK
 |[]=>[]
 |x::r=>⟨x.1,B.nx,B.ae,B.dead,rM B.gr g x.2⟩::eA ⟨x.1,B.nx,B.ae,B.dead,rM B.gr g x.2⟩ g r
def dL(B:BK)(x:ED):List BK:=if iv B x≠0 then[] else eA B x.gr (dF B.sq (mb B x)).dropLast++[fw B x]
noncomputable def qC(was now:BK)(fl:List ND)(mk:UInt32)(z:VS)(seq id:Int):VS :=
 if id=0 then { z with now:=seq } else
  { z with floor:=if dE was fl id=dE now fl id then z.floor else qB z.floor z.log (oH now fl mk (dE was fl id) seq id),now:=seq,log:=if dE was fl id=dE now fl id then z.log else jG z.log (oH now fl mk (dE was fl id) seq id) }
noncomputable def k9(fl:List ND)(mk:UInt32):VS→BK→List BK→List (Int×Int)→VS
 |z,was,n::r,x::s=>k9 fl mk (qC was n fl mk z x.1 x.2) n r s
 |z,_,_,_=>z
def y8(z w:VS):Prop:=z.floor=w.floor∧z.now=w.now∧z.log=w.log
structure Qo (B:BK) (fl:List ND) (z:VS):Prop extends LInv z where
 sh:∀j,mg z.sh j=dE B fl j
 at_:z.now=B.sq
def nI{B B':BK}{fl:List ND}{j:Int}(h:shown B fl j=shown B' fl j):dE B fl j=dE B' fl j:=by unfold dE;rw[h]
def yU(B:BK)(fl:List ND)(mk:UInt32)(z:VS)(seq id:Int):(lW B fl mk z seq id).now=seq:=by rw[xK];split<;>rfl
def yV{B was now:BK}{fl:List ND}{mk:UInt32}{z w:VS}(h:y8 z w){seq id:Int}(hs:id≠0→mg z.sh id=dE was fl id∧shown B fl id=shown now fl id):y8 (lW B fl mk z seq id) (qC was now fl mk w seq id):=by
 obtain⟨h1,h2,h3⟩:=h;rw[xK];unfold qC;by_cases h0:id=0
 ·rw[if_pos h0,if_pos h0];exact⟨h1,rfl,h3⟩
 ·rw[if_neg h0,if_neg h0];obtain⟨q1,q2⟩:=hs h0;have q3:=nI (fl:=fl) q2;have q4:oH B fl mk (dE was fl id) seq id=oH now fl mk (dE was fl id) seq id:=by unfold oH;rw[q2]
  refine⟨?_,rfl,?_⟩
  ·simp only[q1,q3,q4,h1,h3]
  ·simp only[q1,q3,q4,h1,h3]
def Vv{s:Int}{l:List Int}:dF s (l++[0])≠[]:=by cases l<;>simp[dF]
def L5{l:List GR}{g:Int}{m:List Int}:k8 (fD l g m) g=k8 l g:=by
 unfold k8 fD
 induction l with
 |nil=>rfl
 |cons x l ih =>
  rw[a2,b3,b3,ih];by_cases e:x.no=g
  ·rw[if_pos e];simp[e]
  ·rw[if_neg e]
def Hs{l:List GR}(hu:en (l.map am)){g:Int}(hg:g∈l.map am)(m:List Int):bH (fD l g m) g=m:=by obtain⟨y,h1,h2,-,-⟩:=iF hu hg;have hy:(⟨g,m⟩:GR)∈fD l g m:=a5.2 ⟨y,h1,by rw[if_pos h2]⟩;exact vU (l:=fD l g m) (by rw[pR];exact hu) hy
def NG{m:Int}{r:List Int}(hu:en (m::r)):dQ (m::r) m=r:=by obtain⟨u1,u2⟩:=cd.1 hu;unfold dQ;rw[b3,if_neg ax,di];intro y hy;have:=u1 y hy;simp;omega
def BU(B:BK)(fl:List ND)(mk:UInt32)(z:VS)(x:Int×Int)(l:List (Int×Int)):gD B fl mk z (x::l)=gD B fl mk (lW B fl mk z x.1 x.2) l:=rfl
theorem C8{F:BK}(hF:dx F){fl:List ND}{mk:UInt32}{g:Int}:∀(ms:List Int) (B:BK) (z w:VS) (s:Int),LInv z→(∀j,mg z.sh j=dE B fl j)→z.now=s→y8 z w→B.ae=F.ae→en (B.gr.map am)→g∈B.gr.map am→bH B.gr g=ms→en ms→(∀m,m∈ms→1≤m∧m<1073741824)→k8 B.gr g=F.gr →
  LInv (gD F fl mk z (dF s (ms++[0])))∧(∀j,mg (gD F fl mk z (dF s (ms++[0]))).sh j=dE F fl j)∧(gD F fl mk z (dF s (ms++[0]))).now=s+(ms.length+1:Nat)∧y8 (gD F fl mk z (dF s (ms++[0]))) (k9 fl mk w B (eA B g (dF s (ms++[0])).dropLast++[F]) (dF s (ms++[0])))
 |[],B,z,w,s,hz,oz,hn,h3,hc,hu,hg,hm,_,_,jv=>by
  have hx:∀x,x∈B.gr→x.no=g→x.mem=[]:=fun x hx e=>by rw[←vU hu hx,e,hm]
  have ti:∀j,shown F fl j=shown B fl j:=fun j=>p7 (by rw[hc]) (by rw[←jv];exact Ms fun x h e=>by rw[hx x h e];exact cy);have hl:dF s (([]:List Int)++[0])=[(s+1,0)]:=rfl;rw[hl];refine⟨yT (fl:=fl) (mk:=mk) hF hz oM (.inl rfl),fun j=>?_,?_,?_⟩
  ·rw[BU];show mg (lW F fl mk z (s+1) 0).sh j=_;rw[xL hz.key,if_neg fun h=>h.1 rfl,oz];exact(nI (fl:=fl) (ti j)).symm
  ·exact yU F fl mk z (s+1) 0
  ·exact yV (B:=F) (was:=B) (now:=F) (fl:=fl) (mk:=mk) h3 fun h=>absurd rfl h
 |m::r,B,z,w,s,hz,oz,hn,h3,hc,hu,hg,hm,ZO,hmb,jv=>by
  obtain⟨u1,u2⟩:=cd.1 ZO;have hm0:=hmb m (bi ..);have hl:dF s ((m::r)++[0])=(s+1,m)::dF (s+1) (r++[0]):=rfl;have hq:rM B.gr g m=fD B.gr g r:=by unfold rM;rw[if_pos ⟨hg,by rw[hm];exact bi ..⟩,hm,NG ZO]
  have hd:((s+1,m)::dF (s+1) (r++[0])).dropLast=(s+1,m)::(dF (s+1) (r++[0])).dropLast:=c0 Vv;obtain⟨B',hB'⟩:∃B':BK,B'=⟨s+1,B.nx,B.ae,B.dead,rM B.gr g m⟩:=⟨_,rfl⟩
  have hgr':B'.gr=fD B.gr g r:=by rw[hB'];exact hq
  have hcd':B'.ae=B.ae:=by rw[hB']
  have ku:∀x,x∈fD B.gr g r→x.no=g→x.mem=r:=fun x hx e=>by have:=vU (l:=fD B.gr g r) (by rw[pR];exact hu) hx;rw[e,Hs hu hg] at this;exact this.symm
  have hmr:m∉r:=fun h=>by have:=u1 m h;omega
  have hFm:shown F fl m=shown B' fl m:=p7 (by rw[hcd',hc]) (by rw[←jv,hgr',←L5 (m:=r)];exact Ms fun x hx e=>by rw[ku x hx e];exact hmr);have hBj:∀j,j≠m→shown B' fl j=shown B fl j:=fun j hj=>p7 (by rw[hcd']) (by
   rw[hgr'];refine Mv fun x hx e=>?_;rw[←vU hu hx,e,hm,bg];exact⟨.inr,fun h=>h.resolve_left hj⟩)
  rw[hl,hd,BU,eA,←hB',a6,k9];have key:=C8 (fl:=fl) (mk:=mk) hF r B' (lW F fl mk z (s+1) m) (qC B B' fl mk w (s+1) m) (s+1) (yT (fl:=fl) (mk:=mk) hF hz oM (.inr hm0)) (fun j=>by
   rw[xL hz.key];by_cases e:j=m
   ·rw[if_pos ⟨oM,e⟩,e];exact nI (fl:=fl) hFm
   ·rw[if_neg fun h=>e h.2,oz];exact(nI (fl:=fl) (hBj j e)).symm) (yU F fl mk z (s+1) m) (yV h3 fun _=>⟨oz m,hFm⟩) (by rw[hcd',hc]) (by rw[hgr',pR];exact hu) (by rw[hgr',pR];exact hg) (by rw[hgr',Hs hu hg]) u2 (fun y hy=>hmb y (a9 _ hy)) (by rw[hgr',L5,jv])
  refine⟨key.1,key.2.1,by rw[key.2.2.1,av];omega,key.2.2.2⟩
def QL(B:BK)(x:ED):(fw B x).sq=B.sq+((mb B x).length:Int):=rfl
def NI{B:BK}(hb:dx B){fl:List ND}{mk:UInt32}{z w:VS}(hz:Qo B fl z)(h3:y8 z w)(x:ED) :
  Qo (fw B x) fl (gD (fw B x) fl mk z (dF B.sq (mb B x)))∧y8 (gD (fw B x) fl mk z (dF B.sq (mb B x))) (k9 fl mk w B (dL B x) (dF B.sq (mb B x))):=by
 have hw:=doW hb x;rcases jN hb x fl with⟨e1,e2,e3⟩|⟨e1,i,e2,e3,e4⟩|⟨e1,e2,e3,e4⟩
 ·unfold dL;rw[if_pos e1,e2,e3];exact⟨hz,h3⟩
 ·unfold dL;have je:=QL B x;rw[e2] at je;rw[if_neg (by simpa using e1),e2];have hl:dF B.sq [i]=[(B.sq+1,i)]:=rfl;rw[hl];have bh:z.now<B.sq+1:=by rw[hz.at_];omega
  refine⟨⟨yT hw hz.toLInv bh e3,fun j=>?_,by rw[je];exact yU ..⟩,?_⟩
  ·show mg (lW (fw B x) fl mk z (B.sq+1) i).sh j=_;rw[xL hz.key];by_cases e:i≠0∧j=i
   ·rw[if_pos e,e.2]
   ·rw[if_neg e,hz.sh];refine(nI (e4 j ?_)).symm;by_cases h:j=i
    ·exact .inr (ad fun q=>e ⟨q,h⟩)
    ·exact .inl h
  ·exact yV h3 fun _=>⟨hz.sh i,rfl⟩
 ·obtain⟨m1,m2⟩:=A7 hb x.gr;obtain⟨y,hy,-,hym,-⟩:=iF hb.ua e3;obtain⟨c1,c2,c3,c4⟩:=C8 hw (fl:=fl) (mk:=mk) (g:=x.gr) (bH B.gr x.gr) B z w B.sq hz.toLInv hz.sh hz.at_ h3 (by rw[e4]) hb.ua e3 rfl m1 (fun m hm=>by rw[hym] at hm;exact hb.mid y hy m hm) (by rw[e4]);unfold dL;rw[if_neg (by simpa using e1),e2];exact⟨⟨c1,c2,by rw[c3,e4]⟩,c4⟩
def Ww{B:BK}(hb:dx B)(fl:List ND):en (Ux B fl):=by unfold Ux;exact hb.qc.sublist (List.Sublist.map _ List.filter_sublist)
def Nc{P:Program}{g:FuncId}{ms:List MV}{σ:St}{l v:Nat}{ol ov o:aY}{u:Nat→MV}{k:MV→St→Prop}(h:aA P g ms ((d0.set l ol).set v ov) fun r af=>∃q,r=u q∧af=d0.set q o)(hl:σ l=some ol)(hv:σ v=some ov)
 (hk:∀q,((σ.del l).del v) q=none→R (cD (u q) (((σ.del l).del v).set q o) k)):R (dR P g ms σ k) :=
 bU h (d8 (d8 bt hl) hv) fun r af hq hf=>by
  obtain⟨q,rfl,rfl⟩:=hq;have e:σ.minus ((d0.set l ol).set v ov)=(σ.del l).del v:=by
   funext j;by_cases h1:j=v
   ·subst h1;simp[eb,d9,d7]
   ·by_cases h2:j=l
    ·subst h2;simp[eb,d9,d7,h1]
    ·simp[eb,d9,d7,d0,h1,h2]
  have e2:(d0.set q o).over (σ.minus ((d0.set l ol).set v ov))=((σ.del l).del v).set q o:=by rw[bS,dS,e]
  rw[e2];refine hk q ?_;by_cases h1:q=v
  ·simp[d9,h1]
  ·by_cases h2:q=l
   ·simp[d9,h2]
   ·rcases hf q o cj with h|⟨o',h⟩
    ·simp[d9,h1,h2,h]
    ·simp[d7,d0,h1,h2] at h
def Nb{P:Program}{g:FuncId}{ms:List MV}{σ:St}{l:Nat}{ol:aY}{o:List (List MV)→aY}{u:Nat→MV}{k:MV→St→Prop}(h:aA P g ms (d0.set l ol) fun r af=>∃q ex,r=u q∧af=d0.set q (o ex))(hl:σ l=some ol)
 (hk:∀q ex,(σ.del l) q=none→R (cD (u q) ((σ.del l).set q (o ex)) k)):R (dR P g ms σ k) :=
 bU h (d8 bt hl) fun r af hq hf=>by
  obtain⟨q,ex,rfl,rfl⟩:=hq;have e:σ.minus (d0.set l ol)=σ.del l:=by
   funext j;by_cases h2:j=l
   ·subst h2;simp[eb,d9,d7]
   ·simp[eb,d9,d7,d0,h2]
  have e2:(d0.set q (o ex)).over (σ.minus (d0.set l ol))=(σ.del l).set q (o ex):=by rw[bS,dS,e]
  rw[e2];refine hk q ex ?_;by_cases h2:q=l
  ·simp[d9,h2]
  ·rcases hf q (o ex) cj with h|⟨o',h⟩
   ·simp[d9,h2,h]
   ·simp[d7,d0,h2] at h
def tN(x:Int)(l:List Int)(hl:l.length+1≤1000000)(t:Bool):aA Tryz.prog 114 [.aj 1 ((x::l).map aU) t] d0 (fun r af=>∃q,r=.vec 1 q 0 (l.length+1)∧af=d0.set q (.row 3 1 ((x::l).map aU))):=by
 refine(mB 8 [.tmp 2] Tryz.func114 ?_);repeat' first|(refine wO ?_;intros)|refine aw @Tryz.f114.eq_1 ?_|fail
 all_goals exact⟨_,rfl,rfl⟩
def Pq(l:List Int)(hl:l.length+1≤1000000)(hu:en l)(x:Int)(h1:1≤x)(h2:x<1073741824)(t:Bool):aA Tryz.prog 225 [.aj 1 (l.map aU) t,.int .i64 x] d0 (fun r _=>r=.aj 1 ((iA l x).map aU) false):=by
 have hb:=v8 l oM hu x t;by_cases hx:x∈l
 ·have hc:=qL l oM t;unfold iA;rw[if_pos hx];rw[decide_eq_true hx] at hb;refine ek (mB 30 [.tmp 4] Tryz.func225 ?_);repeat' first|(refine aC hb ?_)|(refine aC hc ?_)|refine aw @Tryz.f225.eq_1 ?_|fail
  all_goals exact lE
 ·rw[decide_eq_false hx] at hb;cases l with
  |nil=>exact Lo x h1 h2 t
  |cons y l =>
   have na:l.length+1≤1000000:=by rw[av] at hl;omega
   have hc:=tN y l na t;unfold iA;rw[if_neg hx];have wu:=qI (y::l) x;obtain⟨i,hi⟩:∃i,aT (y::l) x=i:=⟨_,rfl⟩
   rw[hi] at hb wu ⊢;have bn:((y::l).map aU).length=l.length+1:=by rw[aI,av]
   have ZC:=fun {q v:Nat} (h:v≠q)=>CK (l:=q) h ((y::l).map aU) (by rw[bn];omega) i (by rw[bn];exact wu) (aU x);have eu:((y::l).take i++x::(y::l).drop i).map aU=((y::l).map aU).take i++aU x::((y::l).map aU).drop i:=ax;rw[eu];rw[bn] at ZC;obtain⟨L,hL⟩:∃L,(y::l).map aU=L:=⟨_,rfl⟩
   simp only[hL] at hb hc ZC bn ⊢;have hn:(L.take i++aU x::L.drop i).length=l.length+1+1:=by rw[au,av,a1,bs,bn];simp at wu;omega
   refine el (mB 30 [.tmp 4] Tryz.func225 ?_);repeat' first|(refine aC hb ?_)|((refine hU hc ?_;intro q hq))|(refine Nc (ZC bc) sS sS (fun r hr=>?_))|(refine wO ?_;intros)|refine aw @Tryz.f225.eq_1 ?_|fail
   exact eh cj hn.symm
def Bq(l:List Int)(hl:l.length≤1000000)(hu:en l)(x:Int)(t:Bool):aA Tryz.prog 216 [.aj 1 (l.map aU) t,.int .i64 x] d0 (fun r _=>r=.aj 1 ((dQ l x).map aU) false):=by
 have hb:=v8 l hl hu x t;by_cases hx:x∈l
 rotate_left
 ·have hc:=qL l hl t;have e:dQ l x=l:=Ci (f:=id) (by rw[b4];exact hx);rw[e];rw[decide_eq_false hx] at hb;refine ek (mB 23 [.tmp 4] Tryz.func216 ?_);repeat' first|(refine aC hb ?_)|(refine aC hc ?_)|refine aw @Tryz.f216.eq_1 ?_|fail
  all_goals exact lE
 ·have h0:=vO (f:=id) (l:=l) (x:=x) (by rw[b4];exact hu) (by rw[b4];exact hx);obtain⟨y,h3,-⟩:=oL (f:=id) (l:=l) (x:=x) (by rw[b4];exact hu) (by rw[b4];exact hx);rw[b4] at h0 h3;have my:=(aN.1 h3).1;have e:dQ l x=l.take (aT l x)++l.drop (aT l x+1):=h0;rw[e];rw[decide_eq_true hx] at hb;obtain⟨i,hi⟩:∃i,aT l x=i:=⟨_,rfl⟩
  rw[hi] at hb my ⊢;clear h3 h0 e hi;cases l with
  |nil=>cases hx
  |cons y l =>
   have hc:=tN y l hl t;have bn:((y::l).map aU).length=l.length+1:=by rw[aI,av]
   have jn:=fun {q:Nat}=>CH (l:=q) ((y::l).map aU) (by rw[bn];exact hl) i (by rw[bn];exact my);have eu:((y::l).take i++(y::l).drop (i+1)).map aU=((y::l).map aU).take i++((y::l).map aU).drop (i+1):=ax;rw[eu];rw[bn] at jn;obtain⟨L,hL⟩:∃L,(y::l).map aU=L:=⟨_,rfl⟩
   simp only[hL] at hb hc jn bn ⊢;have hn:(L.take i++L.drop (i+1)).length=l.length+1-1:=by rw[au,a1,bs,bn];simp at my;omega
   refine el (mB 23 [.tmp 4] Tryz.func216 ?_);repeat' first|(refine aC hb ?_)|((refine hU hc ?_;intro q hq))|(refine Nb jn sS (fun r ex hr=>?_))|refine aw @Tryz.f216.eq_1 ?_|fail
   exact dT cj hn.symm
def aR.yH{v:MV}{q:Nat}{t:TypeId}{e:Nat}(A B:List (List MV))(pre post:List MV)(e':Nat)(tr:Bool):aR ⟨1,[(0,v)],[]⟩ (d0.set q (.row t e (A++(pre++.aK::post)::B))) ⟨1,[(0,v)],[]⟩ (d0.set q (.row t e (A++(pre++.aj e' [] tr::post)::B))):=by
 refine aR.qU d0 bt (fun k o1 hk=>?_) (fun k o hk=>rfl) (fun p hp=>by simp at hp;subst hp;exact .same _);by_cases e1:k=q
 ·subst e1;rw[aD] at hk;cases hk;refine⟨_,cj,.inr ⟨t,e,_,_,rfl,rfl,ax,fun i x x1 hx pw=>?_⟩⟩;by_cases hiA:i<A.length
  ·rw[bz hiA] at hx pw;rw[hx] at pw;cases pw;exact⟨rfl,fun j a b ha hb=>by rw[ha] at hb;cases hb;exact .inl rfl⟩
  ·rw[b6 oM] at hx pw
   match hi:i-A.length with
   |0 =>
    rw[hi] at hx pw;simp only[dc,Option.some.injEq] at hx pw;subst hx pw;refine⟨ax,fun j a b ha hb=>?_⟩;by_cases hj:j<pre.length
    ·rw[bz hj] at ha hb;rw[ha] at hb;cases hb;exact .inl rfl
    ·rw[b6 oM] at ha hb
     match hk:j-pre.length with
     |0 =>
      rw[hk] at ha hb;simp only[dc,Option.some.injEq] at ha hb;subst ha hb;exact .inr ⟨rfl,.nil _ _⟩
     |k+1 =>
      rw[hk] at ha hb;simp only[ck] at ha hb;rw[ha] at hb;cases hb;exact .inl rfl
   |i+1 =>
    rw[hi] at hx pw;simp only[ck] at hx pw;rw[hx] at pw;cases pw;exact⟨rfl,fun j a b ha hb=>by rw[ha] at hb;cases hb;exact .inl rfl⟩
 ·exact absurd hk (by rw[cn e1];exact fun h=>by cases h)
def Ln(l:List GR)(hl:l.length+1≤1000000)(hm:∀g,g∈l→g.mem.length≤1000000)(hu:en (l.map am))(g:Int)(h1:0≤g)(h2:g<16)(t:Bool) :
  aA Tryz.prog 148 [.aj 2 (l.map an) t,.int .i64 g] d0 (fun r _=>r=if g∈l.map am then .ar [.aK,.int .i64 7] else .ar [.aj 2 ((uB l g).map an) false,.int .i64 0]):=by
 have hb:=iG l oM hu g t;by_cases hx:g∈l.map am
 ·rw[if_pos hx];rw[decide_eq_true hx] at hb;refine ek (mB 28 [.tmp 4,.tmp 5] Tryz.func148 ?_);repeat' first|(refine aC hb ?_)|refine aw @Tryz.f148.eq_1 ?_|fail
  all_goals exact lE
 ·rw[if_neg hx];rw[decide_eq_false hx] at hb;cases l with
  |nil=>exact Iu g h1 h2 t
  |cons y l =>
   have hc:=pT y l (by rw[av] at hl;omega) hm t;unfold uB;have wu:=qI ((y::l).map am) g;rw[aI,av] at wu;rw[av] at hl;obtain⟨i,hi⟩:∃i,aT ((y::l).map am) g=i:=⟨_,rfl⟩
   rw[hi] at hb wu ⊢;have bn:((y::l).map an).length=l.length+1:=by rw[aI,av]
   have ZC:=fun {q v:Nat} (h:v≠q)=>CJ (l:=q) h ((y::l).map an) (by rw[bn];omega) i (by rw[bn];exact wu) [.int .i64 g,.aK];have eu:((y::l).take i++⟨g,[]⟩::(y::l).drop i).map an=((y::l).map an).take i++[.int .i64 g,.aj 1 [] false]::((y::l).map an).drop i:=ax;rw[eu];rw[bn] at ZC;clear hm hu hx eu hi;obtain⟨L,hL⟩:∃L,(y::l).map an=L:=⟨_,rfl⟩
   simp only[hL] at hb hc ZC bn ⊢;have hn:∀z:List MV,(L.take i++z::L.drop i).length=l.length+1+1:=fun z=>by rw[au,av,a1,bs,bn];omega
   refine em (mB 28 [.tmp 4,.tmp 5] Tryz.func148 ?_);repeat' first|(refine aC hb ?_)|((refine hU hc ?_;intro q hq))|(refine Nc (ZC bc) sS sS (fun r hr=>?_))|(refine wO ?_;intros)|refine aw @Tryz.f148.eq_1 ?_|fail
   all_goals try(exfalso;omega)
   refine .step (aR.yH (L.take i) (L.drop i) [.int .i64 g] [] 1 false) (.of (eo (l1:=[(0,.ar [.aj 2 (L.take i++[.int .i64 g,.aj 1 [] false]::L.drop i) false,.int .i64 0])]) (d0.set r (.row 200 2 (L.take i++[.int .i64 g,.aj 1 [] false]::L.drop i))) ba bt (fun k o hk=>by cases hk) (fun p hp=>?_)) ⟨_,rfl,rfl⟩);simp only[a0] at hp;subst hp;exact dH (eh cj (hn _).symm)
def zF(l:List GR)(hl:l.length≤1000000)(hm:∀g,g∈l→g.mem.length≤1000000)(hu:en (l.map am))(g:Int)(h1:0≤g)(h2:g<16)(t:Bool) :
  aA Tryz.prog 150 [.aj 2 (l.map an) t,.int .i64 g] d0 (fun r _=>r=if g∈l.map am then .ar [.aj 2 ((k8 l g).map an) false,.int .i64 0] else .ar [.aK,.int .i64 6]):=by
 have hb:=iG l hl hu g t;by_cases hx:g∈l.map am
 rotate_left
 ·rw[if_neg hx];rw[decide_eq_false hx] at hb;refine ek (mB 28 [.tmp 4,.tmp 5] Tryz.func150 ?_);repeat' first|(refine aC hb ?_)|refine aw @Tryz.f150.eq_1 ?_|fail
  all_goals exact lE
 ·rw[if_pos hx];rw[decide_eq_true hx] at hb;have e:k8 l g=_:=vO (f:=am) hu hx;obtain⟨y,h3,-⟩:=oL (f:=am) hu hx;have my:=(aN.1 h3).1;rw[e];obtain⟨i,hi⟩:∃i,aT (l.map am) g=i:=⟨_,rfl⟩
  rw[hi] at hb my ⊢;clear h3 e hi hu;cases l with
  |nil=>cases hx
  |cons y l =>
   clear hx;have hc:=pT y l (by rw[av] at hl;omega) hm t;have bn:((y::l).map an).length=l.length+1:=by rw[aI,av]
   have jn:=fun {q:Nat}=>CG (l:=q) ((y::l).map an) (by rw[bn];exact hl) i (by rw[bn];exact my);have eu:((y::l).take i++(y::l).drop (i+1)).map an=((y::l).map an).take i++((y::l).map an).drop (i+1):=ax;rw[eu];rw[bn] at jn;obtain⟨L,hL⟩:∃L,(y::l).map an=L:=⟨_,rfl⟩
   simp only[hL] at hb hc jn bn ⊢;have hn:(L.take i++L.drop (i+1)).length=l.length+1-1:=by rw[au,a1,bs,bn];simp at my;omega
   refine el (mB 28 [.tmp 4,.tmp 5] Tryz.func150 ?_);repeat' first|(refine aC hb ?_)|((refine hU hc ?_;intro q hq))|(refine Nb jn sS (fun r ex hr=>?_))|refine aw @Tryz.f150.eq_1 ?_|fail
   all_goals try(exfalso;omega)
   exact dH (dT cj hn.symm)
def tH{G:FuncId}(l:List GR)(hl:l.length≤1000000)(hm:∀g,g∈l→g.mem.length≤1000000)(hu:en (l.map am))(g:Int)(h3:0≤g)(h4:g<16)(hg:g∈l.map am)(id:Int)(h1:1≤id)(h2:id<1073741824)(k:Nat)(M:List Int)(t:Bool)
 (hf:aA Tryz.prog G [.aj 1 ((bH l g).map aU) false,.ptr k 0 0] (d0.set k (.row 3 1 [[.int .i64 id]])) (fun r af=>r=.ar [.aj 1 (M.map aU) false,.int .i64 0]∧af=d0.set k (.row 3 1 [[.int .i64 id]]))) :
  aA Tryz.prog 223 [.aj 2 (l.map an) t,.int .i64 g,.int .i64 id,.fn (.func G) [] [.ptr k 0 0]] (d0.set k (.row 3 1 [[.int .i64 id]])) (fun r af=>r=.ar [.aj 2 ((fD l g M).map an) false,.int .i64 0]∧af=d0):=by
 have hb:=iG l hl hu g t;rw[decide_eq_true hg] at hb;obtain⟨y,h5,h6,h7,h8⟩:=iF hu hg;have gw:fD l g M=_:=vP (f:=am) hu hg ⟨g,M⟩;have my:=(aN.1 h8).1;have ay:=bJ (f:=an) h8;rw[h7] at hf;rw[gw];obtain⟨i,hi⟩:∃i,aT (l.map am) g=i:=⟨_,rfl⟩
 rw[hi] at hb my ay ⊢;rw[de];cases l with
 |nil=>cases hg
 |cons z l =>
  have hc:=pT z l (by rw[av] at hl;omega) hm t;have bn:((z::l).map an).length=l.length+1:=by rw[aI,av]
  have hib':i<l.length+1:=by rw[av] at my;exact my
  clear hm hu hg hi gw h7 h8 my hl;obtain⟨L,hL⟩:∃L,(z::l).map an=L:=⟨_,rfl⟩
  simp only[hL] at hb hc bn ay ⊢;have hn:∀z:List MV,(L.set i z).length=l.length+1:=fun z=>by rw[cS,bn]
  have ay:L.getD i []=[.int .i64 g,.aj 1 (y.mem.map aU) false]:=by rw[ay,←h6]
  refine aA.DY (mB 58 [.tmp 8,.tmp 9] Tryz.func223 ?_);repeat' first|(refine aC hb ?_)|(refine eK hf ?_)|((refine hU hc ?_;intro q hq;have hqk:=(Ao hq).1;have hkq:=dl hqk))|refine bu @Tryz.f223.eq_1 @ay ?_|fail
  all_goals try(exfalso;omega)
  exact⟨d0.set q (.row 200 2 (L.set i (GR.mk g M).c)),d8 bt cj,bt,fun k o hk=>hk.elim,dH (eh cj (hn _).symm)⟩
def kV{G:FuncId}(l:List GR)(hl:l.length≤1000000)(hu:en (l.map am))(g:Int)(h3:0≤g)(h4:g<16)(id:Int)(h1:1≤id)(h2:id<1073741824)(k:Nat)(t:Bool)(e:Int)(he:e≠0)
 (hf:g∈l.map am→aA Tryz.prog G [.aj 1 ((bH l g).map aU) false,.ptr k 0 0] (d0.set k (.row 3 1 [[.int .i64 id]])) (fun r af=>r=.ar [.aK,.int .i64 e]∧af=d0.set k (.row 3 1 [[.int .i64 id]])))(he6:g∉l.map am→e=6) :
  aA Tryz.prog 223 [.aj 2 (l.map an) t,.int .i64 g,.int .i64 id,.fn (.func G) [] [.ptr k 0 0]] (d0.set k (.row 3 1 [[.int .i64 id]])) (fun r af=>r=.ar [.aK,.int .i64 e]∧af=d0.set k (.row 3 1 [[.int .i64 id]])):=by
 have hb:=iG l hl hu g t;by_cases hg:g∈l.map am
 ·rw[decide_eq_true hg] at hb;obtain⟨y,h5,h6,h7,h8⟩:=iF hu hg;have my:=(aN.1 h8).1;have ay:=bJ (f:=an) h8;have hf:=hf hg;rw[h7] at hf;obtain⟨i,hi⟩:∃i,aT (l.map am) g=i:=⟨_,rfl⟩
  rw[hi] at hb my ay;clear he6 hu hg hi h7 h8;refine(mB 58 [.tmp 8,.tmp 9] Tryz.func223 ?_);repeat' first|(refine aC hb ?_)|(refine eK hf ?_)|refine bu @Tryz.f223.eq_1 @ay ?_|exact fk @Tryz.f223.eq_1 @ay|fail
  all_goals first|exact⟨rfl,rfl⟩|(exfalso;omega)
 ·rw[decide_eq_false hg] at hb;rw[he6 hg];refine(mB 58 [.tmp 8,.tmp 9] Tryz.func223 ?_);repeat' first|(refine aC hb ?_)|refine aw @Tryz.f223.eq_1 ?_|exact ev @Tryz.f223.eq_1|fail
  all_goals first|exact⟨rfl,rfl⟩|(exfalso;omega)
def Ip(m:List Int)(hm:m.length+1≤1000000)(hu:en m)(id:Int)(k:Nat)(h1:1≤id)(h2:id<1073741824):aA Tryz.prog 224 [.aj 1 (m.map aU) false,.ptr k 0 0] (d0.set k (.row 3 1 [[.int .i64 id]])) (fun r af=>r=(if id∈m then .ar [.aK,.int .i64 7] else .ar [.aj 1 ((iA m id).map aU) false,.int .i64 0])∧af=d0.set k (.row 3 1 [[.int .i64 id]])):=by
 refine(mB 11 [.tmp 3,.tmp 4] Tryz.func224 ?_);have hh:=rI m oM hu id false;have hp:=Pq m hm hu id h1 h2 false;by_cases hx:id∈m
 ·rw[if_pos hx];rw[decide_eq_true hx] at hh;repeat' first|(refine aC hh ?_)|(refine aC hp ?_)|refine aw @Tryz.f224.eq_1 ?_|exact ev @Tryz.f224.eq_1|fail
  all_goals exact⟨rfl,rfl⟩
 ·rw[if_neg hx];rw[decide_eq_false hx] at hh;repeat' first|(refine aC hh ?_)|(refine aC hp ?_)|refine aw @Tryz.f224.eq_1 ?_|exact ev @Tryz.f224.eq_1|fail
  all_goals exact⟨rfl,rfl⟩
def Iv(m:List Int)(hm:m.length≤1000000)(hu:en m)(id:Int)(k:Nat):aA Tryz.prog 226 [.aj 1 (m.map aU) false,.ptr k 0 0] (d0.set k (.row 3 1 [[.int .i64 id]])) (fun r af=>r=(if id∈m then .ar [.aj 1 ((dQ m id).map aU) false,.int .i64 0] else .ar [.aK,.int .i64 6])∧af=d0.set k (.row 3 1 [[.int .i64 id]])):=by
 refine(mB 12 [.tmp 3,.tmp 4] Tryz.func226 ?_);have hh:=rI m hm hu id false;have hp:=Bq m hm hu id false;by_cases hx:id∈m
 ·rw[if_pos hx];rw[decide_eq_true hx] at hh;repeat' first|(refine aC hh ?_)|(refine aC hp ?_)|refine aw @Tryz.f226.eq_1 ?_|exact ev @Tryz.f226.eq_1|fail
  all_goals exact⟨rfl,rfl⟩
 ·rw[if_neg hx];rw[decide_eq_false hx] at hh;repeat' first|(refine aC hh ?_)|(refine aC hp ?_)|refine aw @Tryz.f226.eq_1 ?_|exact ev @Tryz.f226.eq_1|fail
  all_goals exact⟨rfl,rfl⟩
structure zy (l:List GR):Prop where
 len:l.length+1≤1000000
 mem:∀g,g∈l→g.mem.length+1≤1000000
 up:en (l.map am)
 upm:∀g,g∈l→en g.mem
def zy.RZ{l:List GR}(h:zy l)(g:Int):(bH l g).length+1≤1000000∧en (bH l g):=by
 unfold bH;cases hf:l.find? fun x=>decide (x.no=g) with
 |none=>exact⟨ax,.nil⟩
 |some x=>exact⟨h.mem x (ci hf),h.upm x (ci hf)⟩
def Iq(l:List GR)(h:zy l)(g id:Int)(h3:0≤g)(h4:g<16)(h1:1≤id)(h2:id<1073741824)(t:Bool):aA Tryz.prog 152 [.aj 2 (l.map an) t,.int .i64 g,.int .i64 id] d0
  (fun r _=>r=if g∈l.map am then(if id∈bH l g then .ar [.aK,.int .i64 7] else .ar [.aj 2 ((fD l g (iA (bH l g) id)).map an) false,.int .i64 0]) else .ar [.aK,.int .i64 6]):=by
 refine ek (mB 15 [.tmp 6,.tmp 7] Tryz.func152 ?_);obtain⟨m1,m2⟩:=h.RZ g;have hm:∀g,g∈l→g.mem.length≤1000000:=fun g hg=>by have:=h.mem g hg;omega
 have hl:=h.len;have hj:=fun k=>Ip (bH l g) m1 m2 id k h1 h2;by_cases hg:g∈l.map am
 ·rw[if_pos hg];by_cases hi:id∈bH l g
  ·simp only[if_pos hi] at hj ⊢;have ht:=fun k=>kV l oM h.up g h3 h4 id h1 h2 k t 7 br (fun _=>hj k) (fun h=>absurd hg h);repeat' first|(refine eK (ht _) ?_)|(refine wO ?_;intros)|refine aw @Tryz.f152.eq_1 ?_|fail
   all_goals exact lE
  ·simp only[if_neg hi] at hj ⊢;have ht:=fun k=>tH l oM hm h.up g h3 h4 hg id h1 h2 k _ t (hj k);repeat' first|(refine eK (ht _) ?_)|(refine wO ?_;intros)|refine aw @Tryz.f152.eq_1 ?_|fail
   all_goals exact lE
 ·rw[if_neg hg];have ht:=fun k=>kV (G:=224) l oM h.up g h3 h4 id h1 h2 k t 6 br (fun h=>absurd h hg) (fun _=>rfl);repeat' first|(refine eK (ht _) ?_)|(refine wO ?_;intros)|refine aw @Tryz.f152.eq_1 ?_|fail
  all_goals exact lE
def Iw(l:List GR)(h:zy l)(g id:Int)(h3:0≤g)(h4:g<16)(h1:1≤id)(h2:id<1073741824)(t:Bool):aA Tryz.prog 153 [.aj 2 (l.map an) t,.int .i64 g,.int .i64 id] d0
  (fun r _=>r=if g∈l.map am then(if id∈bH l g then .ar [.aj 2 ((fD l g (dQ (bH l g) id)).map an) false,.int .i64 0] else .ar [.aK,.int .i64 6]) else .ar [.aK,.int .i64 6]):=by
 refine ek (mB 15 [.tmp 6,.tmp 7] Tryz.func153 ?_);obtain⟨m1,m2⟩:=h.RZ g;have hm:∀g,g∈l→g.mem.length≤1000000:=fun g hg=>by have:=h.mem g hg;omega
 have hl:=h.len;have hj:=fun k=>Iv (bH l g) oM m2 id k;by_cases hg:g∈l.map am
 ·rw[if_pos hg];by_cases hi:id∈bH l g
  ·simp only[if_pos hi] at hj ⊢;have ht:=fun k=>tH l oM hm h.up g h3 h4 hg id h1 h2 k _ t (hj k);repeat' first|(refine eK (ht _) ?_)|(refine wO ?_;intros)|refine aw @Tryz.f153.eq_1 ?_|fail
   all_goals exact lE
  ·simp only[if_neg hi] at hj ⊢;have ht:=fun k=>kV l oM h.up g h3 h4 id h1 h2 k t 6 br (fun _=>hj k) (fun h=>absurd hg h);repeat' first|(refine eK (ht _) ?_)|(refine wO ?_;intros)|refine aw @Tryz.f153.eq_1 ?_|fail
   all_goals exact lE
 ·rw[if_neg hg];have ht:=fun k=>kV (G:=226) l oM h.up g h3 h4 id h1 h2 k t 6 br (fun h=>absurd h hg) (fun _=>rfl);repeat' first|(refine eK (ht _) ?_)|(refine wO ?_;intros)|refine aw @Tryz.f153.eq_1 ?_|fail
  all_goals exact lE
def Lj(l:List GR)(hl:l.length≤1000000)(hu:en (l.map am))(g:Int)(t:Bool)(hg:g∈l.map am)(hn:bH l g=[]) :
  aA Tryz.prog 149 [.aj 2 (l.map an) t,.int .i64 g] d0 (fun r _=>r=.aj 1 [] true):=by
 have hb:=iG l hl hu g t;refine ek (mB 21 [.tmp 4] Tryz.func149 ?_);rw[decide_eq_true hg] at hb;obtain⟨y,h5,h6,h7,h8⟩:=iF hu hg;have my:=(aN.1 h8).1;have ay:=bJ (f:=an) h8;have hy:y.mem=[]:=h7.symm.trans hn;have ay:(l.map an).getD (aT (l.map am) g) []=[.int .i64 y.no,.aj 1 [] false]:=by rw[ay];show[_,MV.aj 1 (y.mem.map aU) false]=_;rw[hy];first|done|rfl
 obtain⟨i,hi⟩:∃i,aT (l.map am) g=i:=⟨_,rfl⟩
 rw[hi] at hb my ay;clear hu hg hi h7 h8;have hc:=sZ 1 false true;repeat' first|(refine aC hb ?_)|(refine aC hc ?_)|refine bu @Tryz.f149.eq_1 @ay ?_|fail
 all_goals exact lE
def Li(l:List GR)(hl:l.length≤1000000)(hu:en (l.map am))(g:Int)(t:Bool)(hg:g∉l.map am) :
  aA Tryz.prog 149 [.aj 2 (l.map an) t,.int .i64 g] d0 (fun r _=>r=.aK):=by
 have hb:=iG l hl hu g t;refine ek (mB 21 [.tmp 4] Tryz.func149 ?_);rw[decide_eq_false hg] at hb;repeat' first|(refine aC hb ?_)|refine aw @Tryz.f149.eq_1 ?_|fail
 all_goals exact lE
def Lk(l:List GR)(hl:l.length≤1000000)(hu:en (l.map am))(g:Int)(t:Bool){x:Int}{M:List Int}(hn:bH l g=x::M)(hM:M.length+1≤1000000) :
  aA Tryz.prog 149 [.aj 2 (l.map an) t,.int .i64 g] d0 (fun r af=>∃q,r=.vec 1 q 0 (M.length+1)∧af=d0.set q (.row 3 1 ((x::M).map aU))):=by
 have hb:=iG l hl hu g t;by_cases hg:g∈l.map am
 ·rw[decide_eq_true hg] at hb;obtain⟨y,h5,h6,h7,h8⟩:=iF hu hg;have my:=(aN.1 h8).1;have ay:=bJ (f:=an) h8;have hy:y.mem=x::M:=h7.symm.trans hn;have ay:(l.map an).getD (aT (l.map am) g) []=[.int .i64 y.no,.aj 1 ((x::M).map aU) false]:=by rw[ay];show[_,MV.aj 1 (y.mem.map aU) false]=_;rw[hy];first|done|rfl
  obtain⟨i,hi⟩:∃i,aT (l.map am) g=i:=⟨_,rfl⟩
  rw[hi] at hb my ay;clear hu hg hi h7 h8 hn hy;have hc:=tN x M hM false;obtain⟨K,hK⟩:∃K,(x::M).map aU=K:=⟨_,rfl⟩
  rw[hK] at ay hc ⊢;refine(mB 21 [.tmp 4] Tryz.func149 ?_);repeat' first|(refine aC hb ?_)|((refine hU hc ?_;intro q hq))|refine bu @Tryz.f149.eq_1 @ay ?_|fail
  all_goals first|exact⟨_,rfl,rfl⟩|(exfalso;omega)
 ·unfold bH at hn;rw[Ha (f:=am) hg] at hn;cases hn
def UM{l:List GR}{id:Int}{i:Nat}{y:GR}(h:l[i]?=some y):((lz (l.take i) id).map an++(l.drop i).map an).set i (GR.mk y.no (dQ y.mem id)).c=(lz (l.take (i+1)) id).map an++(l.drop (i+1)).map an∧((lz (l.take i) id).map an++(l.drop i).map an).getD i []=y.c:=by
 have hi:=(aN.1 h).1;have hlen:((lz (l.take i) id).map an).length=i:=by rw[aI];unfold lz;rw[aI,a1];omega
 have hd:l.drop i=y::l.drop (i+1):=by rw[c8 hi];rw[(aN.1 h).2]
 rw[hd];constructor
 ·rw[aW h];have:lz (l.take i++[y]) id=lz (l.take i) id++[⟨y.no,dQ y.mem id⟩]:=by unfold lz;rw[a4];rfl
  rw[this,a4,List.set_append_right _ _ oM,hlen,Nat.sub_self];simp
 ·rw[bv,b6 oM,hlen,Nat.sub_self];rfl
def zH(l:List GR)(h:zy l)(id:Int)(t:Bool):aA Tryz.prog 147 [.aj 2 (l.map an) t,.int .i64 id] d0 (fun r _=>r=.aj 2 ((lz l id).map an) false):=by
 cases l with
 |nil =>
  have hc:=vC 2 t false;refine ek (mB 27 [.tmp 4] Tryz.func147 ?_);repeat' first|(refine aC hc ?_)|refine aw @Tryz.f147.eq_1 ?_|fail
  refine aG (α:=Unit) (fun _=>⟨27,[(11,.int .i64 0),(10,.int .i64 0),(5,.aj 2 [] false),(1,.int .i64 id)],[]⟩) (fun _=>d0) (fun _=>True) (fun _=>0) (.of (.less ?_ ba) ⟨(),rfl,rfl,trivial⟩) ?_
  ·exact wW
  ·intro _ _;repeat' first|refine ed ?_|fail
   all_goals exact lE
 |cons y l =>
  have hl:=h.len;rw[av] at hl;have hc:=AE y l oM t;obtain⟨L,hL⟩:∃L,y::l=L:=⟨_,rfl⟩
  have tn:L.length=l.length+1:=by rw[←hL];rfl
  obtain⟨n,hn⟩:∃n,l.length+1=n:=⟨_,rfl⟩
  rw[hL] at h hc ⊢;rw[hn] at hc tn hl;refine el (mB 27 [.tmp 4] Tryz.func147 ?_);repeat' first|((refine hU hc ?_;intro q hq))|refine aw @Tryz.f147.eq_1 ?_|fail
  refine aG (α:=Nat) (fun i=>⟨27,[(11,.int .i64 (i:Int)),(10,.int .i64 (n:Int)),(5,.vec 2 q 0 n),(1,.int .i64 id)],[]⟩) (fun i=>d0.set q (.row 200 2 ((lz (L.take i) id).map an++(L.drop i).map an))) (fun i=>i≤n) (fun i=>n-i) (.of (.less ?_ ba) ⟨0,rfl,rfl,dj _⟩) ?_
  ·exact wW
  ·intro i hi;have hi:i≤n:=hi;by_cases bh:i<n
   ·obtain⟨z,hz⟩:=bX L (show i<L.length by omega);obtain⟨gw,jo⟩:=UM (id:=id) hz;have hlen:((lz (L.take i) id).map an++(L.drop i).map an).length=n:=by unfold lz;simp;omega
    obtain⟨X,hX⟩:∃X,(lz (L.take i) id).map an++(L.drop i).map an=X:=⟨_,rfl⟩
    rw[hX] at gw jo hlen ⊢;have hd:=Bq z.mem (by have:=h.mem z (dJ hz);omega) (h.upm z (dJ hz)) id false;obtain⟨Y,hY⟩:∃Y,(dQ z.mem id).map aU=Y:=⟨_,rfl⟩
    have gw:X.set i [.int .i64 z.no,.aj 1 Y false]=(lz (L.take (i+1)) id).map an++(L.drop (i+1)).map an:=by rw[←gw,←hY]
    rw[hY] at hd;repeat' first|(refine aC hd ?_)|refine fx @jo @hlen @gw ?_|fail
    all_goals try(exfalso;omega)
    all_goals
     refine .of (.less ?_ ba) ⟨i+1,rfl,rfl,(by omega:i+1≤n),oM⟩;exact wW
   ·have:i=n:=oM;subst this;rw[co oM,List.drop_of_length_le oM,b0,cr];have hlen:((lz L id).map an).length=i:=by unfold lz;simp;omega
    repeat' first|refine ed ?_|fail
    all_goals try(exfalso;omega)
    all_goals exact eh cj hlen.symm
theorem G0{id:Int}:∀{cs:List CA},en (cs.map ab)→vL id (dm cs)=dm (cs.filter fun c=>!decide (c.id=id))
 |[],_=>rfl
 |c::cs,h=>by
  obtain⟨h1,h2⟩:=cd.1 h;by_cases hc:c.id=id
  ·have e:cs.filter (fun c=>!decide (c.id=id))=cs:=di.2 fun z hz=>by have:=h1 z.id (a5.2 ⟨z,hz,rfl⟩);simp;omega
   rw[List.filter_cons_of_neg (by simp[hc]),e];simp[dm,vL,hc]
  ·rw[List.filter_cons_of_pos (by simp[hc])];have ih:=G0 (id:=id) h2;simp only[dm,a2,vL,if_neg hc] at ih ⊢;rw[ih]
def Ig(y:DE)(L:List DE)(hl:L.length+1≤1000000)(tt:Bool):aA Tryz.prog 214 [.aj 3 ((y::L).map ag) tt] d0 (fun r af=>∃q,r=.vec 3 q 0 (L.length+1)∧af=d0.set q (.row 197 3 ((y::L).map ag))):=by
 refine(mB 8 [.tmp 2] Tryz.func214 ?_);repeat' first|(refine wO ?_;intros)|refine aw @Tryz.f214.eq_1 ?_|fail
 all_goals exact⟨_,rfl,rfl⟩
def zE{g n:Nat}(xs:List (List MV))(y:DE)(L:List DE)(hn:n=L.length+1)(hl:L.length+1≤1000000)(h:(xs.drop 1).take n=(y::L).map ag)(hx:1+n≤xs.length) :
  aA Tryz.prog 214 [.vec 3 g 1 n] (d0.set g (.row 197 3 xs)) (fun r af=>∃q,r=.vec 3 q 0 (L.length+1)∧af=d0.set q (.row 197 3 ((y::L).map ag))) :=
 aA.pre (ms':=[.aj 3 ((y::L).map ag) false]) rfl (eo (d0.set g (.row 197 3 xs)) ba bt (fun k o hk=>by cases hk) (fun p hp=>by
  simp only[jD,a0] at hp;subst hp;rw[←h];exact View.vec cj hx)) (Ig y L hl false)
def vA{ds:List DE}{t:DE}(h:ds.length=40):∃y L',oR (ds++[t])=y::L'∧L'.length=39∧∀R:List (List MV),((ds.map ag++[t.c]++R).drop 1).take 40=(y::L').map ag:=by
 cases ds with
 |nil=>simp at h
 |cons d ds =>
  simp only[av] at h;cases ds with
  |nil=>simp at h
  |cons y L =>
   simp only[av] at h;refine⟨y,L++[t],?_,by rw[au,a3];omega,fun R=>?_⟩
   ·unfold oR;rw[if_pos (by simp;omega)];rfl
   ·rw[a2,a6,a6,cv,cf,←List.map_singleton (f:=ag),←a4];exact b7 (by simp;omega)
def Iy(nx:Int){m l q:Nat}(lg:l≠m)(hqm:q≠m)(yx:q≠l)(cs:List CA)(ds:List DE)(hd:ds.length≤1000000)(ex:List (List MV))(id sq:Int)(he:(a8 cs ds id).2≠0) :
  aA Tryz.prog 145 [.ptr l 0 0,.int .i64 id,.int .i64 sq] (iu nx m l q cs ds ex) (fun r af=>r=.int .i64 (a8 cs ds id).2∧af=iu nx m l q cs ds ex):=by
 refine ei (Q':=fun r af=>r=.int .i64 (a8 cs ds id).2∧(iu nx m l q cs ds ex).le af) (mB 81 [.tmp 6] Tryz.func145 ?_) fun v af h=>⟨_,h.2,h.1,rfl⟩
 have hg:=jB nx lg hqm yx cs ds hd ex id;have bn:=dl lg;have hmq:=dl hqm;have hlq:=dl yx;obtain⟨⟨c,e⟩,od⟩:∃z,a8 cs ds id=z:=⟨_,rfl⟩
 rw[od] at hg he ⊢;simp only[iu] at hg he ⊢;repeat' first|(refine dB hg ba ?_)|(refine wO ?_;intros)|refine bu @Tryz.f145.eq_1 @ai ?_|fail
 all_goals first|(exfalso;omega)|skip
 exact ea ba (by simp[d7,d0, *])
def Ft(nx:Int){m l q:Nat}(lg:l≠m)(hqm:q≠m)(yx:q≠l)(cs:List CA)(hu:en (cs.map ab))(ds:List DE)(hd:ds.length≤40)(ex:List (List MV))(id sq:Int){c:CA}(hc:a8 cs ds id=(c,0))(h0:0≤sq)(h1:sq≤1099511627776)(h2:∀d,d∈ds→d.sq≤sq) :
  aA Tryz.prog 145 [.ptr l 0 0,.int .i64 id,.int .i64 sq] (iu nx m l q cs ds ex) (fun r af=>∃q' fu,(q'≠m∧q'≠l)∧r=.int .i64 0∧af=iu nx m l q' (cs.filter fun c=>!decide (c.id=id)) (oR (ds++[⟨id,c.c9,sq⟩])) fu):=by
 refine ei (Q':=fun r af=>∃q' fu,(q'≠m∧q'≠l)∧r=.int .i64 0∧(iu nx m l q' (cs.filter fun c=>!decide (c.id=id)) (oR (ds++[⟨id,c.c9,sq⟩])) fu).le af) ?_ fun v af ⟨q',fu,h1,h2,h3⟩=>⟨_,h3,q',fu,h1,h2,rfl⟩
 have hg:=jB nx lg hqm yx cs ds oM ex id;have bn:=dl lg;have hmq:=dl hqm;have hlq:=dl yx;have jn:=G0 (id:=id) hu;have sd:=sH cs;rw[hc] at hg;obtain⟨F,hF⟩:∃F,cs.filter (fun c=>!decide (c.id=id))=F:=⟨_,rfl⟩
 rw[hF] at jn ⊢;have hdm:(ds.map ag).length=ds.length:=aI _;have uy:ds.length=0∨0<ds.length∧∃d,((ds.map ag++ex).getD (ds.length-1) []=ag d)∧d.sq≤sq:=by
  rcases Nat.eq_zero_or_pos ds.length with h|h
  ·exact .inl h
  ·obtain⟨d,xi⟩:=bX ds (show ds.length-1<ds.length by omega);exact .inr ⟨h,d,by rw[GP oM];exact bJ xi,h2 d (dJ xi)⟩
 simp only[iu] at hg ⊢;clear hu;refine(aA.gY 81 [.tmp 6] Tryz.func145 rfl rfl rfl rfl ?_);refine bD (cA ?_);repeat' first|refine aw @ai ?_|fail
 refine bO (bD (cA ?_));repeat' first|(refine dB hg ba ?_)|(refine wM ?_;(first|(have _:=ah)|(intro ah));intros)|refine aw @ai ?_|fail
 refine bO (bD (cA ?_));repeat' first|refine aw @ai ?_|fail
 refine bO (bD (cA ?_));repeat' first|refine aw @ai ?_|fail
 have wv:((ds.length:Int)-1).toNat=ds.length-1:=oM;have gv:(ds.map ag++ex).drop (ds.length+1)=ex.drop 1:=by rw[←hdm,←List.drop_drop,List.drop_left]
 have fi:(ds.map ag++ex).take ds.length=ds.map ag:=b7 hdm;have dv:ds.length+1≤40→oR (ds++[⟨id,c.c9,sq⟩])=ds++[⟨id,c.c9,sq⟩]:=fun h=>if_neg (by rw[au,a3];omega);have hQ:(ds++[(⟨id,c.c9,sq⟩:DE)]).map ag=ds.map ag++[[.int .i64 id,.int .i64 c.c9,.int .i64 sq]]:=a4;rcases uy with hz|⟨vh,d,ay,je⟩
 ·refine bO (bD (cA ?_));repeat' first|refine bu @ai @hz ?_|fail
  all_goals try(exfalso;omega)
  refine bO (bD (cF [_,_,_,_,_] _ [] rfl rfl ?_));repeat' first|refine aw @ai ?_|fail
  refine bO (kX (t:=249) (l:=m) (es:=dm cs) (kd:=.i64) (n:=id) rfl (by rw[Jh]) (by rw[td3]) rfl sS rfl sd ?_);rw[jn];refine bO (cA ?_);repeat' first|(refine wM ?_;(first|(have _:=ao)|(have _:=ak;intro ao)|(intro ak));intros)|refine wV ?_|(refine wY ?_ ?_<;>intro h)|refine jf @ai @hdm @gv @fi ?_|fail
  all_goals
   obtain rfl:ds=[]:=bx hz;rw[dv ax];have n1:ao≠m:=bc;have n2:ao≠l:=bc
  ·obtain rfl:ex=[]:=bx (by simp at h;omega);clear gv fi hdm wv hQ dv jn sd hF hg h hz h2 hd hc h0 h1;refine⟨ao,[],⟨n1,n2⟩,d8 (d8 (d8 bt ?_) ?_) ?_⟩;all_goals simp[d7, *]
  ·clear gv fi hdm wv hQ dv jn sd hF hg h hz h2 hd hc h0 h1;refine⟨ao,ex.drop 1,⟨n1,n2⟩,d8 (d8 (d8 bt ?_) ?_) ?_⟩;all_goals simp[d7, *]
 ·refine bO (bD (cA ?_));repeat' first|refine jf @ai @ay @wv @hdm ?_|fail
  all_goals try(exfalso;omega)
  refine bO (bD (cF [_,_,_,_,_] _ [] rfl rfl ?_));repeat' first|refine aw @ai ?_|fail
  refine bO (kX (t:=249) (l:=m) (es:=dm cs) (kd:=.i64) (n:=id) rfl (by rw[Jh]) (by rw[td3]) rfl sS rfl sd ?_);rw[jn];refine bO (cA ?_);repeat' first|(refine wM ?_;(first|(have _:=ao)|(have _:=ak;intro ao)|(intro ak));intros)|refine wV ?_|(refine wY ?_ ?_<;>intro h)|refine jf @ai @hdm @gv @fi ?_|fail
  all_goals
   have n1:ao≠m:=bc;have n2:ao≠l:=bc
  ·obtain rfl:ex=[]:=bx oM;have wa:ds.length=40:=oM;obtain⟨y,L',kr,hL',hw⟩:=vA (t:=(⟨id,c.c9,sq⟩:DE)) wa;rw[kr];refine xQ cj (zE (ds.map ag++[]++[[.int .i64 id,.int .i64 c.c9,.int .i64 sq]]) y L' oM oM ?_ ?_) fun q2 vi=>?_
   ·rw[wa];exact(by have:=hw [];simpa using this)
   ·rw[wa];simp only[au,aI,av,cp,wa];omega
   clear hw kr gv fi hdm wv dv jn sd hF hg h ay h2 hd hc h0 h1;have m1:q2≠m:=fun e=>by subst e;simp[d7,d9, *] at vi
   have m2:q2≠l:=fun e=>by subst e;simp[d7,d9, *] at vi
   clear vi;have m1':=dl m1;have m2':=dl m2;repeat' first|refine aw @ai ?_|fail
   refine⟨q2,[],⟨m1,m2⟩,d8 (d8 (d8 bt ?_) ?_) ?_⟩;all_goals simp[d7, *]
  ·obtain rfl:ex=[]:=bx oM;rw[dv oM];clear gv fi hdm wv dv jn sd hF hg h ay h2 hd hc h0 h1;refine⟨ao,[],⟨n1,n2⟩,d8 (d8 (d8 bt ?_) ?_) ?_⟩;all_goals simp[d7, *]
  ·have wa:ds.length=40:=oM;obtain⟨y,L',kr,hL',hw⟩:=vA (t:=(⟨id,c.c9,sq⟩:DE)) wa;rw[kr];refine xQ cj (zE (ds.map ag++[[.int .i64 id,.int .i64 c.c9,.int .i64 sq]]++ex.drop 1) y L' oM oM ?_ ?_) fun q2 vi=>?_
   ·rw[wa];exact hw _
   ·rw[wa];simp only[au,aI,av,cp,wa];omega
   clear hw kr gv fi hdm wv dv jn sd hF hg h ay h2 hd hc h0 h1;have m1:q2≠m:=fun e=>by subst e;simp[d7,d9, *] at vi
   have m2:q2≠l:=fun e=>by subst e;simp[d7,d9, *] at vi
   clear vi;have m1':=dl m1;have m2':=dl m2;repeat' first|refine aw @ai ?_|fail
   refine⟨q2,[],⟨m1,m2⟩,d8 (d8 (d8 bt ?_) ?_) ?_⟩;all_goals simp[d7, *]
  ·rw[dv oM];clear gv fi hdm wv dv jn sd hF hg h ay h2 hd hc h0 h1;refine⟨ao,ex.drop 1,⟨n1,n2⟩,d8 (d8 (d8 bt ?_) ?_) ?_⟩;all_goals simp[d7, *]
def iI{sq:Int}(l:Nat)(g:MV){b p:Nat}(hbp:b≠p)(G:List (List MV))(ids:List Int)(hl:ids.length≤1000000)(h0:0≤sq)(h1:sq≤1099511627776) :
  aA Tryz.prog 146 [.ptr b 0 0,.aj 2 G false,.int .i64 0,.vec 1 p 0 ids.length] ((d0.set p (.row 3 1 (ids.map aU))).set b (bM sq l g)) (fun v af=>v=.ar [.aj 2 (cR sq ids) false,.int .i64 0]∧af=d0.set b (bM (sq+ids.length) l (.aj 2 G false))):=by refine(mB 20 [.tmp 8,.tmp 9] Tryz.func146 ?_);have h:=rL l (.aj 2 G false) hbp ids h0 h1 hl;have hpb:=dl hbp;repeat' first|(refine eK h ?_)|refine aw @Tryz.f146.eq_1 ?_|exact ev @Tryz.f146.eq_1|fail
def iH(b:Nat)(X Y:MV){e:Int}(he:e≠0):aA Tryz.prog 146 [.ptr b 0 0,X,.int .i64 e,Y] d0 (fun v _=>v=.ar [.aK,.int .i64 e]):=by
 refine(mB 20 [.tmp 8,.tmp 9] Tryz.func146 ?_);repeat' first|refine aw @Tryz.f146.eq_1 ?_|exact ev @Tryz.f146.eq_1|fail
 all_goals first|rfl|(exfalso;omega)
abbrev pz(l:List GR):MV:=.aj 2 (l.map an) false
def Fg{sq:Int}(l b:Nat)(L:List GR)(h:zy L)(g:Int)(h0:0≤sq)(h1:sq≤1099511627776)(h3:0≤g)(h4:g<16)(p:PA)(k i:Int) :
  aA Tryz.prog 72 [.ptr b 0 0,.agg (al k i g p).c] (d0.set b (bM sq l (pz L))) (fun v af=>v=(if g∈L.map am then .ar [.aK,.int .i64 7] else .ar [.aj 2 (cR sq [0]) false,.int .i64 0])∧af=d0.set b (if g∈L.map am then bM sq l (pz L) else bM (sq+1) l (pz (uB L g)))):=by
 have ho:=Ln L h.len (fun g hg=>by have:=h.mem g hg;omega) h.up g h3 h4 false;by_cases hg:g∈L.map am
 ·simp only[if_pos hg] at ho ⊢;refine ei (Q':=fun v af=>v=.ar [.aK,.int .i64 7]∧(d0.set b (bM sq l (pz L))).le af) (mB 25 [.tmp 4,.tmp 5] Tryz.func72 ?_) fun v af h=>⟨_,h.2,h.1,rfl⟩
  have hr:=fun X Y=>iH b X Y (e:=7) br;obtain⟨C,c1⟩:∃C:b9,∀ms,C 148 ms=some ⟨[],fun v=>v=.ar [.aK,.int .i64 7],none⟩:=⟨oK 148 (.ar [.aK,.int .i64 7]),fun _=>dG⟩
  repeat' first|((with_reducible refine aJ mixed ?chk C ?_);(case chk=>decide +kernel))|(with_reducible refine aF (c1 _) ho ?_)|(refine aC (hr _ _) ?_)|(refine wM ?_;(first|(have _:=ak)|(have _:=ah;intro ak)|(intro ah));intros)|refine bu @Tryz.f72.eq_1 @ai ?_|fail
  exact d8 bt (by simp[d7,d9, *])
 ·simp only[if_neg hg] at ho ⊢;refine ei (Q':=fun v af=>v=.ar [.aj 2 (cR sq [0]) false,.int .i64 0]∧(d0.set b (bM (sq+1) l (pz (uB L g)))).le af) (mB 25 [.tmp 4,.tmp 5] Tryz.func72 ?_) fun v af h=>⟨_,h.2,h.1,rfl⟩
  have hr:=fun {p:Nat} (hp:b≠p)=>iI l (pz L) hp ((uB L g).map an) [0] ax h0 h1;obtain⟨R,hR⟩:∃R,(uB L g).map an=R:=⟨_,rfl⟩
  simp only[pz,hR] at ho hr ⊢;obtain⟨C,c1⟩:∃C:b9,∀ms,C 148 ms=some ⟨[],fun v=>v=.ar [.aj 2 R false,.int .i64 0],none⟩:=⟨oK 148 (.ar [.aj 2 R false,.int .i64 0]),fun _=>dG⟩
  repeat' first|((with_reducible refine aJ mixed ?chk C ?_);(case chk=>decide +kernel))|(with_reducible refine aF (c1 _) ho ?_)|(refine wM ?_;(first|(have _:=ak)|(have _:=ah;intro ak)|(intro ah));intros)|refine bu @Tryz.f72.eq_1 @ai ?_|fail
  have n1:b≠ak:=bc;refine lN n1 cj sS (hr n1) ?_;repeat' first|refine ed ?_|fail
  exact d8 bt (by simp[d7,d9, *])
def Fh{sq:Int}(l b:Nat)(L:List GR)(h:zy L)(g id:Int)(h0:0≤sq)(h1:sq≤1099511627776)(h3:0≤g)(h4:g<16)(h5:1≤id)(h6:id<1073741824)(p:PA)(k:Int) :
  aA Tryz.prog 75 [.ptr b 0 0,.agg (al k id g p).c] (d0.set b (bM sq l (pz L))) (fun v af=>v=(if g∈L.map am∧id∈bH L g then .ar [.aj 2 (cR sq [id]) false,.int .i64 0] else .ar [.aK,.int .i64 6])∧af=d0.set b (if g∈L.map am∧id∈bH L g then bM (sq+1) l (pz (fD L g (dQ (bH L g) id))) else bM sq l (pz L))):=by
 have ho:=Iw L h g id h3 h4 h5 h6 false;by_cases hg:g∈L.map am∧id∈bH L g
 rotate_left
 ·have ho:aA Tryz.prog 153 [.aj 2 (L.map an) false,.int .i64 g,.int .i64 id] d0 (fun r _=>r=.ar [.aK,.int .i64 6]):=by
   by_cases h1:g∈L.map am
   ·by_cases h2:id∈bH L g
    ·exact absurd ⟨h1,h2⟩ hg
    ·simp only[if_pos h1,if_neg h2] at ho;exact ho
   ·simp only[if_neg h1] at ho;exact ho
  simp only[if_neg hg];refine ei (Q':=fun v af=>v=.ar [.aK,.int .i64 6]∧(d0.set b (bM sq l (pz L))).le af) (mB 29 [.tmp 4,.tmp 5] Tryz.func75 ?_) fun v af h=>⟨_,h.2,h.1,rfl⟩
  have hr:=fun X Y=>iH b X Y (e:=6) br;obtain⟨C,c1⟩:∃C:b9,∀ms,C 153 ms=some ⟨[],fun v=>v=.ar [.aK,.int .i64 6],none⟩:=⟨oK 153 (.ar [.aK,.int .i64 6]),fun _=>dG⟩
  repeat' first|((with_reducible refine aJ mixed ?chk C ?_);(case chk=>decide +kernel))|(with_reducible refine aF (c1 _) ho ?_)|(refine aC (hr _ _) ?_)|(refine wM ?_;(first|(have _:=ak)|(have _:=ah;intro ak)|(intro ah));intros)|refine bu @Tryz.f75.eq_1 @ai ?_|fail
  exact d8 bt (by simp[d7,d9, *])
 ·have e:=hg;obtain⟨e1,e2⟩:=e;simp only[if_pos e1,if_pos e2] at ho;simp only[if_pos hg];refine ei (Q':=fun v af=>v=.ar [.aj 2 (cR sq [id]) false,.int .i64 0]∧(d0.set b (bM (sq+1) l (pz (fD L g (dQ (bH L g) id))))).le af) (mB 29 [.tmp 4,.tmp 5] Tryz.func75 ?_) fun v af h=>⟨_,h.2,h.1,rfl⟩
  have hr:=fun {p:Nat} (hp:b≠p)=>iI l (pz L) hp ((fD L g (dQ (bH L g) id)).map an) [id] ax h0 h1;obtain⟨R,hR⟩:∃R,(fD L g (dQ (bH L g) id)).map an=R:=⟨_,rfl⟩
  simp only[pz,hR] at ho hr ⊢;obtain⟨C,c1⟩:∃C:b9,∀ms,C 153 ms=some ⟨[],fun v=>v=.ar [.aj 2 R false,.int .i64 0],none⟩:=⟨oK 153 (.ar [.aj 2 R false,.int .i64 0]),fun _=>dG⟩
  repeat' first|((with_reducible refine aJ mixed ?chk C ?_);(case chk=>decide +kernel))|(with_reducible refine aF (c1 _) ho ?_)|(refine wM ?_;(first|(have _:=ak)|(have _:=ah;intro ak)|(intro ah));intros)|refine bu @Tryz.f75.eq_1 @ai ?_|fail
  have n1:b≠ak:=bc;refine lN n1 cj sS (hr n1) ?_;repeat' first|refine ed ?_|fail
  exact d8 bt (by simp[d7,d9, *])
def Cy{sq:Int}(l b:Nat)(L:List GR)(h:zy L)(g:Int)(h3:0≤g)(h4:g<16)(hg:g∉L.map am)(p:PA)(k i:Int) :
  aA Tryz.prog 73 [.ptr b 0 0,.agg (al k i g p).c] (d0.set b (bM sq l (pz L))) (fun v af=>v=.ar [.aK,.int .i64 6]∧af=d0.set b (bM sq l (pz L))):=by
 have hl:=h.len;have ho:=zF L oM (fun g hg=>by have:=h.mem g hg;omega) h.up g h3 h4 false;have hm:=Li L oM h.up g false hg;simp only[if_neg hg] at ho;refine ei (Q':=fun v af=>v=.ar [.aK,.int .i64 6]∧(d0.set b (bM sq l (pz L))).le af) (mB 35 [.tmp 4,.tmp 5] Tryz.func73 ?_) fun v af h=>⟨_,h.2,h.1,rfl⟩
 have hr:=fun X Y=>iH b X Y (e:=6) br;obtain⟨C,c1,c2⟩:=yn 150 ⟨[],fun v=>v=.ar [.aK,.int .i64 6],none⟩ 149 ⟨[],fun v=>v=.aK,none⟩;repeat' first|((with_reducible refine aJ mixed ?chk C ?_);(case chk=>decide +kernel))|(with_reducible refine aF (c1 _) ho ?_)|(with_reducible refine aF (c2 _) hm ?_)|(refine aC (hr _ _) ?_)|(refine wO ?_;intros)|refine bu @Tryz.f73.eq_1 @ai ?_|fail
 exact d8 bt (by simp[d7,d9, *])
def Cz{sq:Int}(l b:Nat)(L:List GR)(h:zy L)(g:Int)(h0:0≤sq)(h1:sq≤1099511627776)(h3:0≤g)(h4:g<16)(hg:g∈L.map am)(p:PA)(k i:Int) :
  aA Tryz.prog 73 [.ptr b 0 0,.agg (al k i g p).c] (d0.set b (bM sq l (pz L))) (fun v af=>v=.ar [.aj 2 (cR sq (bH L g++[0])) false,.int .i64 0]∧af=d0.set b (bM (sq+(bH L g++[0]).length) l (pz (k8 L g)))):=by
 have hl:=h.len;have ho:=zF L oM (fun g hg=>by have:=h.mem g hg;omega) h.up g h3 h4 false;simp only[if_pos hg] at ho;obtain⟨m1,m2⟩:=h.RZ g;refine ei (Q':=fun v af=>v=.ar [.aj 2 (cR sq (bH L g++[0])) false,.int .i64 0]∧(d0.set b (bM (sq+(bH L g++[0]).length) l (pz (k8 L g)))).le af) (mB 35 [.tmp 4,.tmp 5] Tryz.func73 ?_) fun v af h=>⟨_,h.2,h.1,rfl⟩
 obtain⟨R,hR⟩:∃R,(k8 L g).map an=R:=⟨_,rfl⟩
 have hr:=fun {p:Nat} (hp:b≠p)=>iI l (pz L) hp R (bH L g++[0]) (by simp;omega) h0 h1;simp only[pz,hR] at ho hr ⊢;cases hM:bH L g with
 |nil =>
  have hm:=Lj L oM h.up g false hg hM;rw[hM] at hr;simp only[List.nil_append,a2,b0,av,cp] at hr ⊢;obtain⟨C,c1,c2⟩:=yn 150 ⟨[],fun v=>v=.ar [.aj 2 R false,.int .i64 0],none⟩ 149 ⟨[],fun v=>v=.aj 1 [] true,none⟩;repeat' first|((with_reducible refine aJ mixed ?chk C ?_);(case chk=>decide +kernel))|(with_reducible refine aF (c1 _) ho ?_)|(with_reducible refine aF (c2 _) hm ?_)|(refine wM ?_;(first|(have _:=ao)|(have _:=ak;intro ao)|(have _:=ah;intro ak)|(intro ah));intros)|refine bu @Tryz.f73.eq_1 @ai ?_|fail
  have n1:b≠ao:=bc;refine lN n1 (by simp[d7, *];done) (by simp[d7, *];done) (hr n1) ?_;repeat' first|refine ed ?_|fail
  exact d8 bt (by simp[d7,d9, *])
 |cons x M =>
  rw[hM,av] at m1;have hm:=Lk L oM h.up g false hM oM;rw[hM] at hr;obtain⟨C,c1,c2⟩:=yn 150 ⟨[],fun v=>v=.ar [.aj 2 R false,.int .i64 0],none⟩ 149 ⟨[],fun _=>True,some ([.row 3 1 ((x::M).map aU)],fun q=>.vec 1 q 0 (M.length+1))⟩;have bn:((x::M).map aU).length=M.length+1:=by rw[aI,av]
  have hq:(x::M++[0]).map aU=(x::M).map aU++[[.int .i64 0]]:=by rw[a4];rfl
  have hn:(x::M++[0]).length=M.length+1+1:=ax;rw[hq,hn] at hr;rw[hn];generalize cR sq (x::M++[0])=Z at hr ⊢;obtain⟨Y,hY⟩:∃Y,(x::M).map aU=Y:=⟨_,rfl⟩
  rw[hY] at bn hr hm;simp only[hY] at c2;repeat' first|((with_reducible refine aJ mixed ?chk C ?_);(case chk=>decide +kernel))|(with_reducible refine aF (c1 _) ho ?_)|((with_reducible refine Re (c2 _) hm ?_;intro qq hqq;simp only[aM] at hqq;obtain⟨q1,q2,-⟩:=hqq;have q1':=dl q1;have q2':=dl q2))|(refine wM ?_;(first|(have _:=ao)|(have _:=ak;intro ao)|(have _:=ah;intro ak)|(intro ah));intros)|refine fx @Tryz.f73.eq_1 @ai @bn ?_|fail
  have n1:b≠ao:=bc;refine lN n1 cj (by simp[d7,d9, *];done) (hr n1) ?_;repeat' first|refine ed ?_|fail
  exact d8 bt (by simp[d7,d9, *])
def Fc{nx sq:Int}{m l q b:Nat}(D:eB m l q b)(cs:List CA)(ds:List DE)(hd:ds.length≤1000000)(ex:List (List MV))(L:List GR)(g id:Int)(p:PA)(k:Int)(he:(a8 cs ds id).2≠0) :
  aA Tryz.prog 74 [.ptr b 0 0,.agg (al k id g p).c] (dh m l q b ⟨sq,nx,cs,ds,L⟩ ex) (fun v af=>v=.ar [.aK,.int .i64 (a8 cs ds id).2]∧af=dh m l q b ⟨sq,nx,cs,ds,L⟩ ex):=by
 refine ei (Q':=fun v af=>v=.ar [.aK,.int .i64 (a8 cs ds id).2]∧(dh m l q b ⟨sq,nx,cs,ds,L⟩ ex).le af) ?_ fun v af h=>⟨_,h.2,h.1,rfl⟩
 have hg:=jB nx D.lm D.qm D.ql cs ds hd ex id;obtain⟨⟨c,e⟩,od⟩:∃z,a8 cs ds id=z:=⟨_,rfl⟩
 rw[od] at hg he ⊢;simp only[dh,iu] at hg he ⊢;have hg:aA Tryz.prog 151 [.ptr l 0 0,.int .i64 id] (ec [q,l,m] [.row 197 3 (ds.map ag++ex),fh nx m (.vec 3 q 0 ds.length),.mp (dm cs)]) (fun v af=>v=.ar [.agg c.c,.int .i64 e]∧af=ec [q,l,m] [.row 197 3 (ds.map ag++ex),fh nx m (.vec 3 q 0 ds.length),.mp (dm cs)]):=hg;obtain⟨d1,d2,d3,d4,d5,d6⟩:=D;have e1:=dl d1;have e2:=dl d2;have e3:=dl d3;have e4:=dl d4;have e5:=dl d5;have e6:=dl d6;refine(mB 44 [.tmp 4,.tmp 5] Tryz.func74 ?_);obtain⟨C,c1⟩:=kw1 151 ⟨[q,l,m],fun v=>v=.ar [.agg c.c,.int .i64 e],none⟩;repeat' first|((with_reducible refine aJ mixed ?chk C ?_);(case chk=>decide +kernel))|(refine eR [q,l,m] [.row 197 3 (ds.map ag++ex),fh nx m (.vec 3 q 0 ds.length),.mp (dm cs)] (c1 _) sS hg ?_)|(refine wO ?_;intros)|refine jf @Tryz.f74.eq_1 @ai @a2.{0,0} @b0.{0,0} ?_|fail
 all_goals try(exfalso;omega)
 refine d8 (d8 (d8 (d8 bt ?_) ?_) ?_) ?_;all_goals simp[d7, *]
def Ff{nx sq:Int}{m l q b:Nat}(D:eB m l q b)(cs:List CA)(ds:List DE)(hd:ds.length≤1000000)(ex:List (List MV))(L:List GR)(h:zy L)(g id:Int)(p:PA)(k:Int)(he:(a8 cs ds id).2=0)(h0:0≤sq)(h1:sq≤1099511627776)(h3:0≤g)(h4:g<16)(h5:1≤id)(h6:id<1073741824) :
  aA Tryz.prog 74 [.ptr b 0 0,.agg (al k id g p).c] (dh m l q b ⟨sq,nx,cs,ds,L⟩ ex) (fun v af=>v=(if g∈L.map am then(if id∈bH L g then .ar [.aK,.int .i64 7] else .ar [.aj 2 (cR sq [id]) false,.int .i64 0]) else .ar [.aK,.int .i64 6]) ∧
   af=dh m l q b (if g∈L.map am∧id∉bH L g then⟨sq+1,nx,cs,ds,fD L g (iA (bH L g) id)⟩ else⟨sq,nx,cs,ds,L⟩) ex):=by
 have hj:=Iq L h g id h3 h4 h5 h6 false;have hg:=jB nx D.lm D.qm D.ql cs ds hd ex id;obtain⟨⟨c,e⟩,od⟩:∃z,a8 cs ds id=z:=⟨_,rfl⟩
 rw[od] at hg he;simp only at he;subst he;simp only[iu] at hg;have hg:aA Tryz.prog 151 [.ptr l 0 0,.int .i64 id] (ec [q,l,m] [.row 197 3 (ds.map ag++ex),fh nx m (.vec 3 q 0 ds.length),.mp (dm cs)]) (fun v af=>v=.ar [.agg c.c,.int .i64 0]∧af=ec [q,l,m] [.row 197 3 (ds.map ag++ex),fh nx m (.vec 3 q 0 ds.length),.mp (dm cs)]):=hg;obtain⟨d1,d2,d3,d4,d5,d6⟩:=D;have e1:=dl d1;have e2:=dl d2;have e3:=dl d3;have e4:=dl d4;have e5:=dl d5;have e6:=dl d6;by_cases hgo:g∈L.map am∧id∉bH L g
 ·simp only[if_pos hgo,if_pos hgo.1,if_neg hgo.2] at hj ⊢;refine ei (Q':=fun v af=>v=.ar [.aj 2 (cR sq [id]) false,.int .i64 0]∧(dh m l q b ⟨sq+1,nx,cs,ds,fD L g (iA (bH L g) id)⟩ ex).le af) ?_ fun v af h=>⟨_,h.2,h.1,rfl⟩
  obtain⟨R,hR⟩:∃R,(fD L g (iA (bH L g) id)).map an=R:=⟨_,rfl⟩
  have hr:=fun {p:Nat} (hp:b≠p)=>iI (sq:=sq) l (pz L) hp R [id] ax h0 h1;simp only[dh,iu,pz,hR] at hj hr ⊢;obtain⟨C,c1,c2⟩:=yn 151 ⟨[q,l,m],fun v=>v=.ar [.agg c.c,.int .i64 0],none⟩ 152 ⟨[],fun v=>v=.ar [.aj 2 R false,.int .i64 0],none⟩;clear hgo;generalize cR sq [id]=Z at hr ⊢;refine(mB 44 [.tmp 4,.tmp 5] Tryz.func74 ?_);repeat' first|((with_reducible refine aJ mixed ?chk C ?_);(case chk=>decide +kernel))|(refine eR [q,l,m] [.row 197 3 (ds.map ag++ex),fh nx m (.vec 3 q 0 ds.length),.mp (dm cs)] (c1 _) sS hg ?_)|(with_reducible refine aF (c2 _) hj ?_)|(refine wM ?_;(first|(have _:=ao)|(have _:=ak;intro ao)|(have _:=ah;intro ak)|(intro ah));intros)|refine jf @Tryz.f74.eq_1 @ai @a2.{0,0} @b0.{0,0} ?_|fail
  have n1:b≠ao:=bc;refine lN n1 cj sS (hr n1) ?_;repeat' first|refine ed ?_|fail
  refine d8 (d8 (d8 (d8 bt ?_) ?_) ?_) ?_;all_goals simp[d7,d9, *]
 ·obtain⟨e,he,hj⟩:∃e:Int,e≠0∧aA Tryz.prog 152 [.aj 2 (L.map an) false,.int .i64 g,.int .i64 id] d0 (fun r _=>r=.ar [.aK,.int .i64 e])∧(if g∈L.map am then(if id∈bH L g then .ar [.aK,.int .i64 7] else .ar [.aj 2 (cR sq [id]) false,.int .i64 0]) else .ar [.aK,.int .i64 6])=MV.ar [.aK,.int .i64 e]:=by
   by_cases h1:g∈L.map am
   ·have h2:id∈bH L g:=ad fun h=>hgo ⟨h1,h⟩;simp only[if_pos h1,if_pos h2] at hj ⊢;exact⟨7,br,hj,rfl⟩
   ·simp only[if_neg h1] at hj ⊢;exact⟨6,br,hj,rfl⟩
  obtain⟨hj,hv⟩:=hj;rw[hv,if_neg hgo];refine ei (Q':=fun v af=>v=.ar [.aK,.int .i64 e]∧(dh m l q b ⟨sq,nx,cs,ds,L⟩ ex).le af) ?_ fun v af h=>⟨_,h.2,h.1,rfl⟩
  have hr:=fun X Y=>iH b X Y he;simp only[dh,iu];obtain⟨C,c1,c2⟩:=yn 151 ⟨[q,l,m],fun v=>v=.ar [.agg c.c,.int .i64 0],none⟩ 152 ⟨[],fun v=>v=.ar [.aK,.int .i64 e],none⟩;clear hgo hv;refine(mB 44 [.tmp 4,.tmp 5] Tryz.func74 ?_);repeat' first|((with_reducible refine aJ mixed ?chk C ?_);(case chk=>decide +kernel))|(refine eR [q,l,m] [.row 197 3 (ds.map ag++ex),fh nx m (.vec 3 q 0 ds.length),.mp (dm cs)] (c1 _) sS hg ?_)|(with_reducible refine aF (c2 _) hj ?_)|(refine aC (hr _ _) ?_)|(refine wM ?_;(first|(have _:=ao)|(have _:=ak;intro ao)|(have _:=ah;intro ak)|(intro ah));intros)|refine jf @Tryz.f74.eq_1 @ai @a2.{0,0} @b0.{0,0} ?_|fail
  all_goals try(exfalso;omega)
  refine d8 (d8 (d8 (d8 bt ?_) ?_) ?_) ?_;all_goals simp[d7,d9, *]
def VE{P:Program}{g:FuncId}{ms:List MV}{σ:St}{nx:Int}{m l q:Nat}(lg:l≠m)(hqm:q≠m)(yx:q≠l){cs vz:List CA}{ds ds':List DE}{ex:List (List MV)}{r:MV}{k:MV→St→Prop}
 (h:aA P g ms (iu nx m l q cs ds ex) fun v af=>∃q' fu,(q'≠m∧q'≠l)∧v=r∧af=iu nx m l q' vz ds' fu)(hle:(iu nx m l q cs ds ex).le σ)
 (hk:∀q' fu,q'≠m→q'≠l→(σ.del q) q'=none→R (cD r ((((σ.del q).set m (.mp (dm vz))).set l (fh nx m (.vec 3 q' 0 ds'.length))).set q' (.row 197 3 (ds'.map ag++fu))) k)):R (dR P g ms σ k) :=
 bU h hle fun v af hv hf=>by
  obtain⟨q',fu,⟨h1,h2⟩,rfl,rfl⟩:=hv;have e:(iu nx m l q' vz ds' fu).over (σ.minus (iu nx m l q cs ds ex))=(((σ.del q).set m (.mp (dm vz))).set l (fh nx m (.vec 3 q' 0 ds'.length))).set q' (.row 197 3 (ds'.map ag++fu)):=by
   rw[bS,bS,bS,dS];funext j;by_cases j1:j=q'
   ·subst j1;simp[d7]
   ·by_cases j2:j=l
    ·subst j2;simp[d7,j1]
    ·by_cases j3:j=m
     ·subst j3;simp[d7,j1,j2]
     ·by_cases j4:j=q
      ·subst j4;simp[d7,eb,d9,j1,j2,j3]
      ·simp[d7,eb,d0,d9,j1,j2,j3,j4]
  rw[e];refine hk q' fu h1 h2 ?_;by_cases j4:q'=q
  ·simp[d9,j4]
  ·rcases hf q' (.row 197 3 (ds'.map ag++fu)) cj with h|⟨o',h⟩
   ·simp[d9,j4,h]
   ·simp[d7,d0,j4,h1,h2] at h
def E9{nx sq:Int}{m l q b:Nat}(D:eB m l q b)(cs:List CA)(ds:List DE)(hd:ds.length≤1000000)(ex:List (List MV))(L:List GR)(h:zy L)(g id:Int)(p:PA)(k:Int)(he:(a8 cs ds id).2≠0)(h0:0≤sq)(h1:sq≤1099511627776) :
  aA Tryz.prog 71 [.ptr b 0 0,.agg (al k id g p).c] (dh m l q b ⟨sq,nx,cs,ds,L⟩ ex) (fun v af=>v=.ar [.aK,.int .i64 (a8 cs ds id).2]∧af=dh m l q b ⟨sq,nx,cs,ds,L⟩ ex):=by
 refine ei (Q':=fun v af=>v=.ar [.aK,.int .i64 (a8 cs ds id).2]∧(dh m l q b ⟨sq,nx,cs,ds,L⟩ ex).le af) ?_ fun v af h=>⟨_,h.2,h.1,rfl⟩
 have hg:=Iy nx D.lm D.qm D.ql cs ds hd ex id (sq+1) he;have Zg:=zH L h id false;have hr:=fun X Y=>iH b X Y he;obtain⟨e,od⟩:∃z,(a8 cs ds id).2=z:=⟨_,rfl⟩
 rw[od] at hg he hr ⊢;simp only[dh,iu] at hg he Zg ⊢;obtain⟨d1,d2,d3,d4,d5,d6⟩:=D;have e1:=dl d1;have e2:=dl d2;have e3:=dl d3;have e4:=dl d4;have e5:=dl d5;have e6:=dl d6;refine(mB 34 [.tmp 4,.tmp 5] Tryz.func71 ?_);obtain⟨R,hR⟩:∃R,(lz L id).map an=R:=⟨_,rfl⟩
 rw[hR] at Zg;obtain⟨C,c1⟩:=kw1 147 ⟨[],fun v=>v=.aj 2 R false,none⟩;repeat' first|(refine bZ mixed C [_,_,_,_,_,_,_,_,_,_,_] [_] rfl dK ?_)|(refine bZ mixed C [_,_,_,_,_,_,_,_,_,_,_,_] [_,_,_,_] rfl dK ?_)|(with_reducible refine aF (c1 _) Zg ?_)|(refine dB hg (d8 (d8 (d8 bt sS) sS) sS) ?_)|(refine aC (hr _ _) ?_)|(refine wO ?_;intros)|refine jf @Tryz.f71.eq_1 @ai @a2.{0,0} @b0.{0,0} ?_|fail
 exact ea (ea ba (by simp[d7,d0, *])) (by simp[d7,d0, *])
def Fa{nx sq:Int}{m l q b:Nat}(D:eB m l q b)(cs:List CA)(hu:en (cs.map ab))(ds:List DE)(hd:ds.length≤40)(ex:List (List MV))(L:List GR)(h:zy L)(g id:Int)(p:PA)(k:Int){c:CA}(hc:a8 cs ds id=(c,0))(h0:0≤sq)(h1:sq<1099511627776)(h2:∀d,d∈ds→d.sq≤sq) :
  aA Tryz.prog 71 [.ptr b 0 0,.agg (al k id g p).c] (dh m l q b ⟨sq,nx,cs,ds,L⟩ ex) (fun v af=>∃q' fu,eB m l q' b∧v=.ar [.aj 2 (cR sq [id]) false,.int .i64 0]∧af=dh m l q' b ⟨sq+1,nx,cs.filter (fun c=>!decide (c.id=id)),oR (ds++[⟨id,c.c9,sq+1⟩]),lz L id⟩ fu):=by
 refine ei (Q':=fun v af=>∃q' fu,eB m l q' b∧v=.ar [.aj 2 (cR sq [id]) false,.int .i64 0]∧(dh m l q' b ⟨sq+1,nx,cs.filter (fun c=>!decide (c.id=id)),oR (ds++[⟨id,c.c9,sq+1⟩]),lz L id⟩ fu).le af) ?_ fun v af ⟨q',fu,q1,q2,q3⟩=>⟨_,q3,q',fu,q1,q2,rfl⟩
 have hg:=Ft nx D.lm D.qm D.ql cs hu ds hd ex id (sq+1) hc oM oM fun d hd=>by have:=h2 d hd;omega
 have Zg:=zH L h id false;have hr:=fun {p:Nat} (hp:b≠p)=>iI (sq:=sq) l (pz L) hp ((lz L id).map an) [id] ax h0 oM;obtain⟨F,hF⟩:∃F,cs.filter (fun c=>!decide (c.id=id))=F:=⟨_,rfl⟩
 obtain⟨T,hT⟩:∃T,oR (ds++[⟨id,c.c9,sq+1⟩])=T:=⟨_,rfl⟩
 obtain⟨R,hR⟩:∃R,(lz L id).map an=R:=⟨_,rfl⟩
 rw[hF,hT] at hg;rw[hF,hT];rw[hR] at Zg;simp only[dh,pz,hR] at hr ⊢;obtain⟨d1,d2,d3,d4,d5,d6⟩:=D;have e1:=dl d1;have e2:=dl d2;have e3:=dl d3;have e4:=dl d4;have e5:=dl d5;have e6:=dl d6;obtain⟨C,c1⟩:=kw1 147 ⟨[],fun v=>v=.aj 2 R false,none⟩;clear hu hd hc h2 hF hT hR;generalize cR sq [id]=Z at hr ⊢;simp only[iu];refine(mB 34 [.tmp 4,.tmp 5] Tryz.func71 ?_);repeat' first|(refine bZ mixed C [_,_,_,_,_,_,_,_,_,_,_] [_] rfl dK ?_)|(refine bZ mixed C [_,_,_,_,_,_,_,_,_,_,_,_] [_,_,_,_] rfl dK ?_)|(with_reducible refine aF (c1 _) Zg ?_)|((refine VE d1 d2 d3 hg ?_ ?_;exact(d8 (d8 (d8 bt sS) sS) sS);intro q' fu q1 q2 q3;have q1':=dl q1;have q2':=dl q2;have q4:q'≠b:=(fun e=>by subst e;simp[d7,d9, *] at q3);have q4':=dl q4;have q5:q'≠ah:=(fun e=>by subst e;simp[d7,d9, *] at q3);have q5':=dl q5))|(refine wM ?_;(first|(have _:=ak)|(have _:=ah;intro ak)|(intro ah));intros)|refine jf @Tryz.f71.eq_1 @ai @a2.{0,0} @b0.{0,0} ?_|fail
 have n1:b≠ak:=bc;refine lN n1 cj (by simp[d7,d9, *]) (hr n1) ?_;repeat' first|refine ed ?_|fail
 refine⟨q',fu,⟨d1,q1,q2,d4,d5,q4'⟩,d8 (d8 (d8 (d8 bt ?_) ?_) ?_) ?_⟩;all_goals simp[d7,d9, *]
def K0{nx:Int}{m l:Nat}(lg:l≠m)(D:MV)(cs:List CA)(p:PA)(hp:bL p=0)(hn:48≤cs.length∨1073741824≤nx) :
  aA Tryz.prog 142 [.ptr l 0 0,.agg p.c] ((d0.set m (.mp (dm cs))).set l (fh nx m D)) (fun v af=>v=.ar [.agg ig.c,.int .i64 8]∧af=(d0.set m (.mp (dm cs))).set l (fh nx m D)):=by
 refine ei (Q':=fun v af=>v=.ar [.agg ig.c,.int .i64 8]∧((d0.set m (.mp (dm cs))).set l (fh nx m D)).le af) ?_ fun v af h=>⟨_,h.2,h.1,rfl⟩
 refine(aA.gY 52 [.cell 4 126,.tmp 5] Tryz.func142 rfl rfl rfl rfl ?_);have kr:=j0 p;rw[hp] at kr;have hlen:(dm cs).length=cs.length:=aI _;have bn:=dl lg;refine bD (cA ?_);repeat' first|(refine wO ?_;intros)|refine aw @ai ?_|fail
 refine bO (bD (cA ?_));repeat' first|refine aw @ai ?_|fail
 refine bO (bD (cA ?_));repeat' first|(refine aC kr ?_)|refine aw @ai ?_|fail
 refine bO (bD (bD (cF [_,_,_,_] _ [_,_,_,_,_,_,_,_] rfl rfl ?_)));repeat' first|refine aw @ai ?_|fail
 refine bO (BR (t:=249) (l:=m) (es:=dm cs) rfl (by rw[Jh]) rfl sS ?_);show R _;by_cases h48:48≤cs.length
 ·repeat' first|refine bu @ai @hlen ?_|fail
  all_goals try(exfalso;omega)
  all_goals
   refine bO (cA ?_);repeat' first|refine aw @ai ?_|fail
   refine⟨rfl,d8 (d8 bt ?_) ?_⟩
   ·simp[d7, *]
   ·simp[d7, *]
 ·have hx:1073741824≤nx:=hn.resolve_left h48;repeat' first|refine bu @ai @hlen ?_|fail
  all_goals try(exfalso;omega)
  all_goals
   refine bO (cA ?_);repeat' first|refine aw @ai ?_|fail
   refine⟨rfl,d8 (d8 bt ?_) ?_⟩
   ·simp[d7, *]
   ·simp[d7, *]
def CE{nx sq:Int}{m l b:Nat}(lg:l≠m)(hbm:b≠m)(sc:b≠l)(D g:MV)(cs:List CA)(p:PA)(hp:bL p=0)(hn:48≤cs.length∨1073741824≤nx) :
  aA Tryz.prog 69 [.ptr b 0 0,.agg (al 1 0 0 p).c] (((d0.set m (.mp (dm cs))).set l (fh nx m D)).set b (bM sq l g)) (fun v af=>v=.ar [.aK,.int .i64 8]∧af=((d0.set m (.mp (dm cs))).set l (fh nx m D)).set b (bM sq l g)):=by
 refine ei (Q':=fun v af=>v=.ar [.aK,.int .i64 8]∧(((d0.set m (.mp (dm cs))).set l (fh nx m D)).set b (bM sq l g)).le af) (mB 26 [.tmp 4,.tmp 5] Tryz.func69 ?_) fun v af h=>⟨_,h.2,h.1,rfl⟩
 have Zv:=K0 lg D cs p hp hn;have Zv:aA Tryz.prog 142 [.ptr l 0 0,.agg p.c] (ec [l,m] [fh nx m D,.mp (dm cs)]) (fun v af=>v=.ar [.agg ig.c,.int .i64 8]∧af=ec [l,m] [fh nx m D,.mp (dm cs)]):=Zv;have bn:=dl lg;have hmb:=dl hbm;have qw:=dl sc;obtain⟨c,hc⟩:∃c,ig=c:=⟨_,rfl⟩
 rw[hc] at Zv;obtain⟨C,c1⟩:=kw1 142 ⟨[l,m],fun v=>v=.ar [.agg c.c,.int .i64 8],none⟩;repeat' first|((with_reducible refine aJ mixed ?chk C ?_);(case chk=>decide +kernel))|(refine eR [l,m] [fh nx m D,.mp (dm cs)] (c1 _) sS Zv ?_)|(refine wO ?_;intros)|refine bu @Tryz.f69.eq_1 @ai ?_|fail
 refine d8 (d8 (d8 bt ?_) ?_) ?_;all_goals simp[d7, *]
def uj(cs:List CA)(ds:List DE)(id:Int):Int:=if (a8 cs ds id).2≠0 then(a8 cs ds id).2 else 8
def Bx(nx:Int){m l q:Nat}(lg:l≠m)(hqm:q≠m)(yx:q≠l)(cs:List CA)(ds:List DE)(hd:ds.length≤1000000)(ex:List (List MV))(id:Int)(p:PA)(hp:bL p=0)(hw:(a8 cs ds id).2≠0∨1099511627776≤(a8 cs ds id).1.c9) :
  aA Tryz.prog 144 [.ptr l 0 0,.int .i64 id,.agg p.c] (iu nx m l q cs ds ex) (fun v af=>v=.ar [.agg ig.c,.int .i64 (uj cs ds id)]∧af=iu nx m l q cs ds ex):=by
 refine ei (Q':=fun v af=>v=.ar [.agg ig.c,.int .i64 (uj cs ds id)]∧(iu nx m l q cs ds ex).le af) (mB 46 [.cell 6 126,.tmp 7] Tryz.func144 ?_) fun v af h=>⟨_,h.2,h.1,rfl⟩
 have kr:=j0 p;rw[hp] at kr;have hg:=jB nx lg hqm yx cs ds hd ex id;unfold uj;obtain⟨⟨c,e⟩,od⟩:∃z,a8 cs ds id=z:=⟨_,rfl⟩
 rw[od] at hg hw ⊢;have bn:=dl lg;have hmq:=dl hqm;have hlq:=dl yx;simp only[iu] at hg hw ⊢;by_cases he:e=0
 ·subst he;have hv:=hw.resolve_left fun h=>h rfl;rw[if_neg br];repeat' first|(refine aC kr ?_)|(refine dB hg (d8 (d8 (d8 bt sS) sS) sS) ?_)|(refine wO ?_;intros)|refine bu @Tryz.f144.eq_1 @ai ?_|fail
  all_goals try(exfalso;omega)
  refine⟨rfl,d8 (d8 (d8 bt ?_) ?_) ?_⟩;all_goals simp[d7, *]
 ·rw[if_pos he];clear hw;repeat' first|(refine aC kr ?_)|(refine dB hg (d8 (d8 (d8 bt sS) sS) sS) ?_)|(refine wO ?_;intros)|refine bu @Tryz.f144.eq_1 @ai ?_|fail
  all_goals try(exfalso;omega)
  refine⟨rfl,d8 (d8 (d8 bt ?_) ?_) ?_⟩;all_goals simp[d7, *]
def tG{nx sq:Int}{m l q b:Nat}(D:eB m l q b)(cs:List CA)(ds:List DE)(hd:ds.length≤1000000)(ex:List (List MV))(g:MV)(id:Int)(p:PA)(hp:bL p=0)(hw:(a8 cs ds id).2≠0∨1099511627776≤(a8 cs ds id).1.c9) :
  aA Tryz.prog 70 [.ptr b 0 0,.agg (al 2 id 0 p).c] ((iu nx m l q cs ds ex).set b (bM sq l g)) (fun v af=>v=.ar [.aK,.int .i64 (uj cs ds id)]∧af=(iu nx m l q cs ds ex).set b (bM sq l g)):=by
 refine ei (Q':=fun v af=>v=.ar [.aK,.int .i64 (uj cs ds id)]∧((iu nx m l q cs ds ex).set b (bM sq l g)).le af) (mB 28 [.tmp 4,.tmp 5] Tryz.func70 ?_) fun v af h=>⟨_,h.2,h.1,rfl⟩
 have hg:=Bx nx D.lm D.qm D.ql cs ds hd ex id p hp hw;have he:uj cs ds id≠0:=by
  unfold uj;split
  ·assumption
  ·decide
 obtain⟨e,uv⟩:∃e,uj cs ds id=e:=⟨_,rfl⟩
 rw[uv] at hg he ⊢;clear hw;simp only[iu] at hg ⊢;have hg:aA Tryz.prog 144 [.ptr l 0 0,.int .i64 id,.agg p.c] (ec [q,l,m] [.row 197 3 (ds.map ag++ex),fh nx m (.vec 3 q 0 ds.length),.mp (dm cs)]) (fun v af=>v=.ar [.agg ig.c,.int .i64 e]∧af=ec [q,l,m] [.row 197 3 (ds.map ag++ex),fh nx m (.vec 3 q 0 ds.length),.mp (dm cs)]):=hg;obtain⟨d1,d2,d3,d4,d5,d6⟩:=D;have e1:=dl d1;have e2:=dl d2;have e3:=dl d3;have e4:=dl d4;have e5:=dl d5;have e6:=dl d6;obtain⟨c,hc⟩:∃c,ig=c:=⟨_,rfl⟩
 rw[hc] at hg;obtain⟨C,c1⟩:=kw1 144 ⟨[q,l,m],fun v=>v=.ar [.agg c.c,.int .i64 e],none⟩;repeat' first|((with_reducible refine aJ mixed ?chk C ?_);(case chk=>decide +kernel))|(refine eR [q,l,m] [.row 197 3 (ds.map ag++ex),fh nx m (.vec 3 q 0 ds.length),.mp (dm cs)] (c1 _) sS hg ?_)|(refine wO ?_;intros)|refine bu @Tryz.f70.eq_1 @ai ?_|fail
 all_goals try(exfalso;omega)
 refine d8 (d8 (d8 (d8 bt ?_) ?_) ?_) ?_;all_goals simp[d7, *]
def lp(B:BK)(x:ED):MV:=if iv B x=0 then .aj 2 (cR B.sq (mb B x)) false else .aK
def sy(m l b:Nat)(B:BK)(x:ED)(v:MV)(af:St):Prop:=∃q' fu,eB m l q' b∧v=.ar [lp B x,.int .i64 (iv B x)]∧af=dh m l q' b (fw B x) fu
def WW{τ:St}{b:Nat}{o o':aY}:(d0.set b o').over ((τ.set b o).minus (d0.set b o))=τ.set b o':=by
 funext j;by_cases j1:j=b
 ·subst j1;simp[St.over,d7]
 ·simp[St.over,d7,d0,eb,j1];try (cases τ j<;>rfl)
def tW{P:Program}{g:FuncId}{ms:List MV}{τ:St}{b:Nat}{o o':aY}{r:MV}(h:aA P g ms (d0.set b o) fun v af=>v=r∧af=d0.set b o'):aA P g ms (τ.set b o) fun v af=>v=r∧af=τ.set b o' :=
 (h.frame (d8 bt cj)).mono fun v σ1 ⟨af,⟨h1,h2⟩,h3,_⟩=>⟨h1,by rw[h3,h2];exact WW⟩
def fP{m l q b:Nat}{B:BK}{x:ED}{e:Int}(D:eB m l q b)(he:e≠0)(h:mc B x=(e,B,[]))(ex:List (List MV)):sy m l b B x (.ar [.aK,.int .i64 e]) (dh m l q b B ex):=by
 have h1:iv B x=e:=by unfold iv;rw[h]
 refine⟨q,ex,D,?_,?_⟩
 ·unfold lp;rw[h1,if_neg he]
 ·rw[mP h]
def tP{m l q b:Nat}{B B':BK}{x:ED}{ids:List Int}(D:eB m l q b)(h:mc B x=(0,B',ids))(ex:List (List MV)){n:Int}(hn:n=ids.length):sy m l b B x (.ar [.aj 2 (cR B.sq ids) false,.int .i64 0]) (dh m l q b ⟨B.sq+n,B'.nx,B'.ae,B'.dead,B'.gr⟩ ex):=by
 have h1:iv B x=0:=by unfold iv;rw[h]
 refine⟨q,ex,D,?_,?_⟩
 ·unfold lp mb;rw[h1,if_pos rfl,h]
 ·unfold fw;rw[h,hn]
def iS{B:BK}{x:ED}(he:aQ x=0)(hs:B.sq≤1099511627676):mc B x=if x.kd=1 then(if 48≤B.ae.length∨1073741824≤B.nx then(8,B,[]) else(0,{ B with nx:=B.nx+1,ae:=B.ae++[bW B.nx x.p] },[B.nx]))
 else if x.kd=2 then(if (a8 B.ae B.dead x.id).2≠0 then((a8 B.ae B.dead x.id).2,B,[]) else if 1099511627776≤(a8 B.ae B.dead x.id).1.c9 then(8,B,[])
  else(0,{ B with ae:=vv B.ae x.id (dI (a8 B.ae B.dead x.id).1 x.p) },[x.id]))
 else if x.kd=3 then(if (a8 B.ae B.dead x.id).2≠0 then((a8 B.ae B.dead x.id).2,B,[])
  else(0,{ B with ae:=B.ae.filter (fun c=>!decide (c.id=x.id)),dead:=oR (B.dead++[⟨x.id,(a8 B.ae B.dead x.id).1.c9,B.sq+1⟩]),gr:=lz B.gr x.id },[x.id]))
 else if x.kd=4 then(if x.gr∈B.gr.map am then(7,B,[]) else(0,{ B with gr:=uB B.gr x.gr },[0]))
 else if x.kd=5 then(if x.gr∈B.gr.map am then(0,{ B with gr:=k8 B.gr x.gr },bH B.gr x.gr++[0]) else(6,B,[]))
 else if x.kd=6 then(if (a8 B.ae B.dead x.id).2≠0 then((a8 B.ae B.dead x.id).2,B,[]) else if x.gr∉B.gr.map am then(6,B,[]) else if x.id∈bH B.gr x.gr then(7,B,[])
  else(0,{ B with gr:=fD B.gr x.gr (iA (bH B.gr x.gr) x.id) },[x.id]))
 else(if x.gr∉B.gr.map am then(6,B,[]) else if x.id∉bH B.gr x.gr then(6,B,[]) else(0,{ B with gr:=fD B.gr x.gr (dQ (bH B.gr x.gr) x.id) },[x.id])):=by unfold mc;rw[if_neg (by simpa using he),if_neg oM]
def sC{x:ED}(h:aQ x=0):(edG x.kd=false→x.gr=0)∧(edI x.kd=false→x.id=0):=by
 unfold aQ at h;split at h
 ·omega
 ·split at h
  ·omega
  ·rename_i h1 h2;refine⟨fun q=>ad fun hn=>h2 (.inl ⟨q,hn⟩),fun q=>ad fun hn=>h2 (.inr (.inl ⟨q,hn⟩))⟩
def dx.se{B:BK}(hb:dx B):zy B.gr:=⟨by have:=hb.ng;omega,fun g hg=>by have:=hb.nm g hg;omega,hb.ua,hb.upm⟩
def SP{B:BK}(hb:dx B){m l q b:Nat}(D:eB m l q b)(ex:List (List MV))(p:PA)(id gr:Int)(he:aQ ⟨1,id,gr,p⟩=0)(hs:B.sq≤1099511627676):aA Tryz.prog 69 [.ptr b 0 0,.agg (al 1 id gr p).c] (dh m l q b B ex) (sy m l b B ⟨1,id,gr,p⟩):=by
 obtain⟨n1,n2⟩:=sC he;obtain rfl:gr=0:=n1 rfl;obtain rfl:id=0:=n2 rfl;have hp:=(bF he).2.2.2.2 rfl;have hd:=iS he hs;simp only[if_pos] at hd;have hm:=D.bm;have hl:=D.bl;have hbq:=D.bq;have hsw:∀B':BK,dh m l q b B' ex=(((d0.set m (.mp (dm B'.ae))).set l (fh B'.nx m (.vec 3 q 0 B'.dead.length))).set b (bM B'.sq l (pz B'.gr))).set q (.row 197 3 (B'.dead.map ag++ex)):=fun B'=>set_comm _ _ _ (dl hbq);have hq0:∀B':BK,((((d0.set m (.mp (dm B'.ae))).set l (fh B'.nx m (.vec 3 q 0 B.dead.length))).set b (bM B'.sq l (pz B'.gr))):St) q=none:=fun B'=>by simp only[aM];exact⟨dl hbq,D.ql,D.qm,rfl⟩
 rw[hsw B];by_cases hf:48≤B.ae.length∨1073741824≤B.nx
 ·rw[if_pos hf] at hd;have h:=CE (sq:=B.sq) D.lm hm hl (.vec 3 q 0 B.dead.length) (pz B.gr) B.ae p hp hf;refine(aA.LY (hq0 B) (hq0 B) h).mono ?_;rintro v af ⟨rfl,rfl⟩;have:=fP D br hd ex;rw[hsw B] at this;exact this
 ·rw[if_neg hf] at hd;have pw:=hb.nx1;have je:=hb.tj;have h:=wA (nx:=B.nx) (sq:=B.sq) D.lm hm hl (.vec 3 q 0 B.dead.length) (pz B.gr) B.ae p hp oM oM oM (fun hn=>by
   obtain⟨c,hc,h⟩:=a5.1 hn;have:=(hb.B5 c hc).2;omega) je oM
  refine(aA.LY (hq0 B) (hq0 ⟨B.sq+1,B.nx+1,B.ae++[bW B.nx p],B.dead,B.gr⟩) h).mono ?_;rintro v af ⟨rfl,rfl⟩;have:=tP D hd ex (n:=1) rfl;rw[hsw] at this;exact this
def SQ{B:BK}(hb:dx B){m l q b:Nat}(D:eB m l q b)(ex:List (List MV))(p:PA)(id gr:Int)(he:aQ ⟨2,id,gr,p⟩=0)(hs:B.sq≤1099511627676):aA Tryz.prog 70 [.ptr b 0 0,.agg (al 2 id gr p).c] (dh m l q b B ex) (sy m l b B ⟨2,id,gr,p⟩):=by
 obtain⟨n1,n2⟩:=sC he;obtain rfl:gr=0:=n1 rfl;have hp:=(bF he).2.2.2.2 rfl;have hd:=iS he hs;rw[if_neg ax,if_pos rfl] at hd;simp only at hd;have je:=hb.tj;have Zj:=hb.nd;by_cases h1:(a8 B.ae B.dead id).2≠0
 ·rw[if_pos h1] at hd;have h:=tG (nx:=B.nx) (sq:=B.sq) D B.ae B.dead oM ex (pz B.gr) id p hp (.inl h1);unfold uj at h;rw[if_pos h1] at h;refine h.mono ?_;rintro v af ⟨rfl,rfl⟩;exact fP D h1 hd ex
 ·rw[if_neg h1] at hd;by_cases h2:1099511627776≤(a8 B.ae B.dead id).1.c9
  ·rw[if_pos h2] at hd;have h:=tG (nx:=B.nx) (sq:=B.sq) D B.ae B.dead oM ex (pz B.gr) id p hp (.inr h2);unfold uj at h;rw[if_neg h1] at h;refine h.mono ?_;rintro v af ⟨rfl,rfl⟩;exact fP D br hd ex
  ·rw[if_neg h2] at hd;have h3:=ac.1 h1;obtain⟨g1,g2⟩:=pJ h3;have hc:a8 B.ae B.dead id=((a8 B.ae B.dead id).1,0):=Prod.ext rfl h3;have hv:=(fZ (hb.B5 _ g1).1).1;have h:=Fi (nx:=B.nx) (sq:=B.sq) D B.ae hb.qc B.dead oM ex (pz B.gr) id p hp hc oM oM je oM;refine h.mono ?_;rintro v af ⟨rfl,rfl⟩;exact tP D hd ex (n:=1) rfl
def SR{B:BK}(hb:dx B){m l q b:Nat}(D:eB m l q b)(ex:List (List MV))(p:PA)(id gr:Int)(he:aQ ⟨3,id,gr,p⟩=0)(hs:B.sq≤1099511627676):aA Tryz.prog 71 [.ptr b 0 0,.agg (al 3 id gr p).c] (dh m l q b B ex) (sy m l b B ⟨3,id,gr,p⟩):=by
 have hd:=iS he hs;rw[if_neg ax,if_neg ax,if_pos rfl] at hd;simp only at hd;have je:=hb.tj;have Zj:=hb.nd;by_cases h1:(a8 B.ae B.dead id).2≠0
 ·rw[if_pos h1] at hd;have h:=E9 (nx:=B.nx) (sq:=B.sq) D B.ae B.dead oM ex B.gr hb.se gr id p 3 h1 je oM;refine h.mono ?_;rintro v af ⟨rfl,rfl⟩;exact fP D h1 hd ex
 ·rw[if_neg h1] at hd;have h3:=ac.1 h1;have hc:a8 B.ae B.dead id=((a8 B.ae B.dead id).1,0):=Prod.ext rfl h3;have h:=Fa (nx:=B.nx) (sq:=B.sq) D B.ae hb.qc B.dead Zj ex B.gr hb.se gr id p 3 hc je oM hb.dsq;refine h.mono ?_;rintro v af ⟨q',fu,D',rfl,rfl⟩;exact tP D' hd fu (n:=1) rfl
def SV{B:BK}(hb:dx B){m l q b:Nat}(D:eB m l q b)(ex:List (List MV))(p:PA)(id gr:Int)(he:aQ ⟨4,id,gr,p⟩=0)(hs:B.sq≤1099511627676):aA Tryz.prog 72 [.ptr b 0 0,.agg (al 4 id gr p).c] (dh m l q b B ex) (sy m l b B ⟨4,id,gr,p⟩):=by
 have hd:=iS he hs;obtain⟨g1,g2⟩:=(bF he).2.2.1;rw[if_neg ax,if_neg ax,if_neg ax,if_pos rfl] at hd;simp only at hd g1 g2;have je:=hb.tj;have h:=Fg (sq:=B.sq) l b B.gr hb.se gr je oM g1 g2 p 4 id;by_cases hg:gr∈B.gr.map am
 ·simp only[if_pos hg] at hd h;refine(tW h).mono ?_;rintro v af ⟨rfl,rfl⟩;exact fP D br hd ex
 ·simp only[if_neg hg] at hd h;refine(tW h).mono ?_;rintro v af ⟨rfl,rfl⟩;exact tP D hd ex (n:=1) rfl
def SW{B:BK}(hb:dx B){m l q b:Nat}(D:eB m l q b)(ex:List (List MV))(p:PA)(id gr:Int)(he:aQ ⟨5,id,gr,p⟩=0)(hs:B.sq≤1099511627676):aA Tryz.prog 73 [.ptr b 0 0,.agg (al 5 id gr p).c] (dh m l q b B ex) (sy m l b B ⟨5,id,gr,p⟩):=by
 have hd:=iS he hs;obtain⟨g1,g2⟩:=(bF he).2.2.1;rw[if_neg ax,if_neg ax,if_neg ax,if_neg ax,if_pos rfl] at hd;simp only at hd g1 g2;have je:=hb.tj;by_cases hg:gr∈B.gr.map am
 ·simp only[if_pos hg] at hd;have h:=Cz (sq:=B.sq) l b B.gr hb.se gr je oM g1 g2 hg p 5 id;refine(tW h).mono ?_;rintro v af ⟨rfl,rfl⟩;exact tP D hd ex rfl
 ·simp only[if_neg hg] at hd;have h:=Cy (sq:=B.sq) l b B.gr hb.se gr g1 g2 hg p 5 id;refine(tW h).mono ?_;rintro v af ⟨rfl,rfl⟩;exact fP D br hd ex
def SX{B:BK}(hb:dx B){m l q b:Nat}(D:eB m l q b)(ex:List (List MV))(p:PA)(id gr:Int)(he:aQ ⟨6,id,gr,p⟩=0)(hs:B.sq≤1099511627676):aA Tryz.prog 74 [.ptr b 0 0,.agg (al 6 id gr p).c] (dh m l q b B ex) (sy m l b B ⟨6,id,gr,p⟩):=by
 have hd:=iS he hs;obtain⟨g1,g2⟩:=(bF he).2.2.1;obtain⟨i1,i2⟩:=(bF he).2.2.2.1 rfl;rw[if_neg ax,if_neg ax,if_neg ax,if_neg ax,if_neg ax,if_pos rfl] at hd;simp only at hd g1 g2 i1 i2;have je:=hb.tj;have Zj:=hb.nd;by_cases h1:(a8 B.ae B.dead id).2≠0
 ·rw[if_pos h1] at hd;refine(Fc (nx:=B.nx) (sq:=B.sq) D B.ae B.dead oM ex B.gr gr id p 6 h1).mono ?_;rintro v af ⟨rfl,rfl⟩;exact fP D h1 hd ex
 ·rw[if_neg h1] at hd;have h:=Ff (nx:=B.nx) (sq:=B.sq) D B.ae B.dead oM ex B.gr hb.se gr id p 6 (ac.1 h1) je oM g1 g2 i1 i2;by_cases hg:gr∈B.gr.map am
  ·rw[if_neg (fun h=>h hg)] at hd;by_cases hm:id∈bH B.gr gr
   ·simp only[if_pos hm,if_pos hg,if_neg (fun h:gr∈B.gr.map am∧id∉bH B.gr gr=>h.2 hm)] at hd h;refine h.mono ?_;rintro v af ⟨rfl,rfl⟩;exact fP D br hd ex
   ·simp only[if_neg hm,if_pos hg,if_pos (show gr∈B.gr.map am∧id∉bH B.gr gr from⟨hg,hm⟩)] at hd h;refine h.mono ?_;rintro v af ⟨rfl,rfl⟩;exact tP D hd ex (n:=1) rfl
  ·simp only[if_pos hg,if_neg hg,if_neg (fun h:gr∈B.gr.map am∧id∉bH B.gr gr=>hg h.1)] at hd h;refine h.mono ?_;rintro v af ⟨rfl,rfl⟩;exact fP D br hd ex
def SY{B:BK}(hb:dx B){m l q b:Nat}(D:eB m l q b)(ex:List (List MV))(p:PA)(id gr:Int)(he:aQ ⟨7,id,gr,p⟩=0)(hs:B.sq≤1099511627676):aA Tryz.prog 75 [.ptr b 0 0,.agg (al 7 id gr p).c] (dh m l q b B ex) (sy m l b B ⟨7,id,gr,p⟩):=by
 have hd:=iS he hs;obtain⟨g1,g2⟩:=(bF he).2.2.1;obtain⟨i1,i2⟩:=(bF he).2.2.2.1 rfl;rw[if_neg ax,if_neg ax,if_neg ax,if_neg ax,if_neg ax,if_neg ax] at hd;simp only at hd g1 g2 i1 i2;have je:=hb.tj;have h:=Fh (sq:=B.sq) l b B.gr hb.se gr id je oM g1 g2 i1 i2 p 7;by_cases hg:gr∈B.gr.map am
 ·rw[if_neg (fun h=>h hg)] at hd;by_cases hm:id∈bH B.gr gr
  ·rw[if_neg (fun h=>h hm)] at hd;simp only[if_pos (show gr∈B.gr.map am∧id∈bH B.gr gr from⟨hg,hm⟩)] at h;refine(tW h).mono ?_;rintro v af ⟨rfl,rfl⟩;exact tP D hd ex (n:=1) rfl
  ·rw[if_pos hm] at hd;simp only[if_neg (fun h:gr∈B.gr.map am∧id∈bH B.gr gr=>hm h.2)] at h;refine(tW h).mono ?_;rintro v af ⟨rfl,rfl⟩;exact fP D br hd ex
 ·rw[if_pos hg] at hd;simp only[if_neg (fun h:gr∈B.gr.map am∧id∈bH B.gr gr=>hg h.1)] at h;refine(tW h).mono ?_;rintro v af ⟨rfl,rfl⟩;exact fP D br hd ex
def nV(σ τ:St):σ.le (σ.over τ):=fun j o h=>by simp[St.over,h]
def DoQ(m l b:Nat)(B:BK)(x:ED)(v:MV)(af:St):Prop:=∃q' fu,eB m l q' b∧v=.ar [lp B x,.int .i64 (iv B x)]∧(dh m l q' b (fw B x) fu).le af
def qP{P:Program}{g:FuncId}{ms:List MV}{σ:St}{m l b:Nat}{B:BK}{x:ED}(h:aA P g ms σ (DoQ m l b B x)):aA P g ms σ (sy m l b B x) :=
 h.less fun v af ⟨q',fu,h1,h2,h3⟩=>⟨_,h3,q',fu,h1,h2,rfl⟩
def Po{B:BK}(hb:dx B){m l q b:Nat}(D:eB m l q b)(ex:List (List MV))(x:ED)(he:aQ x≠0∨1099511627676<B.sq):aA Tryz.prog 17 [.ptr b 0 0,.agg x.c] (dh m l q b B ex) (sy m l b B x):=by
 refine qP ?_;have er:=eH x;by_cases h1:aQ x=0
 ·have h2:=he.resolve_left fun h=>h h1;have hd:mc B x=(8,B,[]):=by unfold mc;rw[if_neg (by simpa using h1),if_pos h2]
  obtain⟨q2,rj,D2,v2,s2⟩:=fP D br hd ex;rw[h1] at er;have hv:lp B x=.aK:=by simp only[MV.ar.injEq,List.cons.injEq] at v2;exact v2.1.symm
  have he8:iv B x=8:=by unfold iv;rw[hd]
  have hB:fw B x=B:=mP hd;unfold DoQ;rw[hv,he8,hB];simp only[dh,iu];clear he hd v2 s2;refine(mB 31 [.tmp 4,.tmp 5] Tryz.func17 ?_);repeat' first|(refine aC er ?_)|(refine wO ?_;intros)|refine bu @Tryz.f17.eq_1 @ai ?_|fail
  all_goals first|(exfalso;omega)|skip
  exact⟨q,ex,D,ea ba (by simp[d7,d0, *])⟩
 ·have hd:mc B x=(aQ x,B,[]):=by unfold mc;rw[if_pos h1]
  obtain⟨q2,rj,D2,v2,s2⟩:=fP D h1 hd ex;have hv:lp B x=.aK:=by simp only[MV.ar.injEq,List.cons.injEq] at v2;exact v2.1.symm
  have he8:iv B x=aQ x:=by unfold iv;rw[hd]
  have hB:fw B x=B:=mP hd;unfold DoQ;rw[hv,he8,hB];obtain⟨e,uv⟩:∃e,aQ x=e:=⟨_,rfl⟩
  rw[uv] at er h1 ⊢;simp only[dh,iu];clear he hd v2 s2;refine(mB 31 [.tmp 4,.tmp 5] Tryz.func17 ?_);repeat' first|(refine aC er ?_)|(refine wO ?_;intros)|refine bu @Tryz.f17.eq_1 @ai ?_|fail
  all_goals first|(exfalso;omega)|skip
  exact⟨q,ex,D,ea ba (by simp[d7,d0, *])⟩
def K4{B:BK}(hb:dx B){m l q b:Nat}(D:eB m l q b)(ex:List (List MV))(p:PA)(id gr:Int)(he:aQ ⟨1,id,gr,p⟩=0)(hs:B.sq≤1099511627676):aA Tryz.prog 17 [.ptr b 0 0,.agg (al 1 id gr p).c] (dh m l q b B ex) (sy m l b B ⟨1,id,gr,p⟩):=by
 refine qP ?_;have er:=eH ⟨1,id,gr,p⟩;rw[he] at er;have ko:=SP hb D ex p id gr he hs;unfold DoQ;unfold sy at ko;generalize lp B ⟨1,id,gr,p⟩=V at ko ⊢;generalize iv B ⟨1,id,gr,p⟩=E at ko ⊢;generalize fw B ⟨1,id,gr,p⟩=B' at ko ⊢;obtain⟨d1,d2,d3,d4,d5,d6⟩:=D;have e1:=dl d1;have e2:=dl d2;have e3:=dl d3;have e4:=dl d4;have e5:=dl d5;have e6:=dl d6;clear he hb;simp only[dh,iu];refine(mB 31 [.tmp 4,.tmp 5] Tryz.func17 ?_);repeat' first|(refine aC er ?_)|(refine bZ mixed (fun _ _=>none) [_,_,_,_,_,_,_] [_,_,_,_] rfl dK ?_)|(refine wO ?_;intros)|refine bu @Tryz.f17.eq_1 @ai ?_|fail
 all_goals try(exfalso;omega)
 refine bU ko (ea (ea ba (by simp[d7,d0, *])) (by simp[d7,d0, *])) fun v af hv _=>?_;obtain⟨q',fu,D',rfl,rfl⟩:=hv;repeat' first|refine ed ?_|fail
 exact⟨q',fu,D',nV _ _⟩
def K5{B:BK}(hb:dx B){m l q b:Nat}(D:eB m l q b)(ex:List (List MV))(p:PA)(id gr:Int)(he:aQ ⟨2,id,gr,p⟩=0)(hs:B.sq≤1099511627676):aA Tryz.prog 17 [.ptr b 0 0,.agg (al 2 id gr p).c] (dh m l q b B ex) (sy m l b B ⟨2,id,gr,p⟩):=by
 refine qP ?_;have er:=eH ⟨2,id,gr,p⟩;rw[he] at er;have ko:=SQ hb D ex p id gr he hs;unfold DoQ;unfold sy at ko;generalize lp B ⟨2,id,gr,p⟩=V at ko ⊢;generalize iv B ⟨2,id,gr,p⟩=E at ko ⊢;generalize fw B ⟨2,id,gr,p⟩=B' at ko ⊢;obtain⟨d1,d2,d3,d4,d5,d6⟩:=D;have e1:=dl d1;have e2:=dl d2;have e3:=dl d3;have e4:=dl d4;have e5:=dl d5;have e6:=dl d6;clear he hb;simp only[dh,iu];refine(mB 31 [.tmp 4,.tmp 5] Tryz.func17 ?_);repeat' first|(refine aC er ?_)|(refine bZ mixed (fun _ _=>none) [_,_,_,_,_,_,_] [_,_,_,_] rfl dK ?_)|(refine wO ?_;intros)|refine bu @Tryz.f17.eq_1 @ai ?_|fail
 all_goals try(exfalso;omega)
 refine bU ko (ea (ea ba (by simp[d7,d0, *])) (by simp[d7,d0, *])) fun v af hv _=>?_;obtain⟨q',fu,D',rfl,rfl⟩:=hv;repeat' first|refine ed ?_|fail
 exact⟨q',fu,D',nV _ _⟩
def K6{B:BK}(hb:dx B){m l q b:Nat}(D:eB m l q b)(ex:List (List MV))(p:PA)(id gr:Int)(he:aQ ⟨3,id,gr,p⟩=0)(hs:B.sq≤1099511627676):aA Tryz.prog 17 [.ptr b 0 0,.agg (al 3 id gr p).c] (dh m l q b B ex) (sy m l b B ⟨3,id,gr,p⟩):=by
 refine qP ?_;have er:=eH ⟨3,id,gr,p⟩;rw[he] at er;have ko:=SR hb D ex p id gr he hs;unfold DoQ;unfold sy at ko;generalize lp B ⟨3,id,gr,p⟩=V at ko ⊢;generalize iv B ⟨3,id,gr,p⟩=E at ko ⊢;generalize fw B ⟨3,id,gr,p⟩=B' at ko ⊢;obtain⟨d1,d2,d3,d4,d5,d6⟩:=D;have e1:=dl d1;have e2:=dl d2;have e3:=dl d3;have e4:=dl d4;have e5:=dl d5;have e6:=dl d6;clear he hb;simp only[dh,iu];refine(mB 31 [.tmp 4,.tmp 5] Tryz.func17 ?_);repeat' first|(refine aC er ?_)|(refine bZ mixed (fun _ _=>none) [_,_,_,_,_,_,_] [_,_,_,_] rfl dK ?_)|(refine wO ?_;intros)|refine bu @Tryz.f17.eq_1 @ai ?_|fail
 all_goals try(exfalso;omega)
 refine bU ko (ea (ea ba (by simp[d7,d0, *])) (by simp[d7,d0, *])) fun v af hv _=>?_;obtain⟨q',fu,D',rfl,rfl⟩:=hv;repeat' first|refine ed ?_|fail
 exact⟨q',fu,D',nV _ _⟩
def K7{B:BK}(hb:dx B){m l q b:Nat}(D:eB m l q b)(ex:List (List MV))(p:PA)(id gr:Int)(he:aQ ⟨4,id,gr,p⟩=0)(hs:B.sq≤1099511627676):aA Tryz.prog 17 [.ptr b 0 0,.agg (al 4 id gr p).c] (dh m l q b B ex) (sy m l b B ⟨4,id,gr,p⟩):=by
 refine qP ?_;have er:=eH ⟨4,id,gr,p⟩;rw[he] at er;have ko:=SV hb D ex p id gr he hs;unfold DoQ;unfold sy at ko;generalize lp B ⟨4,id,gr,p⟩=V at ko ⊢;generalize iv B ⟨4,id,gr,p⟩=E at ko ⊢;generalize fw B ⟨4,id,gr,p⟩=B' at ko ⊢;obtain⟨d1,d2,d3,d4,d5,d6⟩:=D;have e1:=dl d1;have e2:=dl d2;have e3:=dl d3;have e4:=dl d4;have e5:=dl d5;have e6:=dl d6;clear he hb;simp only[dh,iu];refine(mB 31 [.tmp 4,.tmp 5] Tryz.func17 ?_);repeat' first|(refine aC er ?_)|(refine bZ mixed (fun _ _=>none) [_,_,_,_,_,_,_] [_,_,_,_] rfl dK ?_)|(refine wO ?_;intros)|refine bu @Tryz.f17.eq_1 @ai ?_|fail
 all_goals try(exfalso;omega)
 refine bU ko (ea (ea ba (by simp[d7,d0, *])) (by simp[d7,d0, *])) fun v af hv _=>?_;obtain⟨q',fu,D',rfl,rfl⟩:=hv;repeat' first|refine ed ?_|fail
 exact⟨q',fu,D',nV _ _⟩
def K8{B:BK}(hb:dx B){m l q b:Nat}(D:eB m l q b)(ex:List (List MV))(p:PA)(id gr:Int)(he:aQ ⟨5,id,gr,p⟩=0)(hs:B.sq≤1099511627676):aA Tryz.prog 17 [.ptr b 0 0,.agg (al 5 id gr p).c] (dh m l q b B ex) (sy m l b B ⟨5,id,gr,p⟩):=by
 refine qP ?_;have er:=eH ⟨5,id,gr,p⟩;rw[he] at er;have ko:=SW hb D ex p id gr he hs;unfold DoQ;unfold sy at ko;generalize lp B ⟨5,id,gr,p⟩=V at ko ⊢;generalize iv B ⟨5,id,gr,p⟩=E at ko ⊢;generalize fw B ⟨5,id,gr,p⟩=B' at ko ⊢;obtain⟨d1,d2,d3,d4,d5,d6⟩:=D;have e1:=dl d1;have e2:=dl d2;have e3:=dl d3;have e4:=dl d4;have e5:=dl d5;have e6:=dl d6;clear he hb;simp only[dh,iu];refine(mB 31 [.tmp 4,.tmp 5] Tryz.func17 ?_);repeat' first|(refine aC er ?_)|(refine bZ mixed (fun _ _=>none) [_,_,_,_,_,_,_] [_,_,_,_] rfl dK ?_)|(refine wO ?_;intros)|refine bu @Tryz.f17.eq_1 @ai ?_|fail
 all_goals try(exfalso;omega)
 refine bU ko (ea (ea ba (by simp[d7,d0, *])) (by simp[d7,d0, *])) fun v af hv _=>?_;obtain⟨q',fu,D',rfl,rfl⟩:=hv;repeat' first|refine ed ?_|fail
 exact⟨q',fu,D',nV _ _⟩
def K9{B:BK}(hb:dx B){m l q b:Nat}(D:eB m l q b)(ex:List (List MV))(p:PA)(id gr:Int)(he:aQ ⟨6,id,gr,p⟩=0)(hs:B.sq≤1099511627676):aA Tryz.prog 17 [.ptr b 0 0,.agg (al 6 id gr p).c] (dh m l q b B ex) (sy m l b B ⟨6,id,gr,p⟩):=by
 refine qP ?_;have er:=eH ⟨6,id,gr,p⟩;rw[he] at er;have ko:=SX hb D ex p id gr he hs;unfold DoQ;unfold sy at ko;generalize lp B ⟨6,id,gr,p⟩=V at ko ⊢;generalize iv B ⟨6,id,gr,p⟩=E at ko ⊢;generalize fw B ⟨6,id,gr,p⟩=B' at ko ⊢;obtain⟨d1,d2,d3,d4,d5,d6⟩:=D;have e1:=dl d1;have e2:=dl d2;have e3:=dl d3;have e4:=dl d4;have e5:=dl d5;have e6:=dl d6;clear he hb;simp only[dh,iu];refine(mB 31 [.tmp 4,.tmp 5] Tryz.func17 ?_);repeat' first|(refine aC er ?_)|(refine bZ mixed (fun _ _=>none) [_,_,_,_,_,_,_] [_,_,_,_] rfl dK ?_)|(refine wO ?_;intros)|refine bu @Tryz.f17.eq_1 @ai ?_|fail
 all_goals try(exfalso;omega)
 refine bU ko (ea (ea ba (by simp[d7,d0, *])) (by simp[d7,d0, *])) fun v af hv _=>?_;obtain⟨q',fu,D',rfl,rfl⟩:=hv;repeat' first|refine ed ?_|fail
 exact⟨q',fu,D',nV _ _⟩
def La{B:BK}(hb:dx B){m l q b:Nat}(D:eB m l q b)(ex:List (List MV))(p:PA)(id gr:Int)(he:aQ ⟨7,id,gr,p⟩=0)(hs:B.sq≤1099511627676):aA Tryz.prog 17 [.ptr b 0 0,.agg (al 7 id gr p).c] (dh m l q b B ex) (sy m l b B ⟨7,id,gr,p⟩):=by
 refine qP ?_;have er:=eH ⟨7,id,gr,p⟩;rw[he] at er;have ko:=SY hb D ex p id gr he hs;unfold DoQ;unfold sy at ko;generalize lp B ⟨7,id,gr,p⟩=V at ko ⊢;generalize iv B ⟨7,id,gr,p⟩=E at ko ⊢;generalize fw B ⟨7,id,gr,p⟩=B' at ko ⊢;obtain⟨d1,d2,d3,d4,d5,d6⟩:=D;have e1:=dl d1;have e2:=dl d2;have e3:=dl d3;have e4:=dl d4;have e5:=dl d5;have e6:=dl d6;clear he hb;simp only[dh,iu];refine(mB 31 [.tmp 4,.tmp 5] Tryz.func17 ?_);repeat' first|(refine aC er ?_)|(refine bZ mixed (fun _ _=>none) [_,_,_,_,_,_,_] [_,_,_,_] rfl dK ?_)|(refine wO ?_;intros)|refine bu @Tryz.f17.eq_1 @ai ?_|fail
 all_goals try(exfalso;omega)
 refine bU ko (ea (ea ba (by simp[d7,d0, *])) (by simp[d7,d0, *])) fun v af hv _=>?_;obtain⟨q',fu,D',rfl,rfl⟩:=hv;repeat' first|refine ed ?_|fail
 exact⟨q',fu,D',nV _ _⟩
def SO{B:BK}(hb:dx B){m l q b:Nat}(D:eB m l q b)(ex:List (List MV))(x:ED):aA Tryz.prog 17 [.ptr b 0 0,.agg x.c] (dh m l q b B ex) (sy m l b B x):=by
 by_cases he:aQ x≠0∨1099511627676<B.sq
 ·exact Po hb D ex x he
 ·have h1:aQ x=0:=ac.1 fun h=>he (.inl h);have h2:B.sq≤1099511627676:=by have:¬1099511627676<B.sq:=fun h=>he (.inr h);omega
  obtain⟨k1,k2,-⟩:=bF h1;obtain⟨k,id,gr,p⟩:=x;simp only at k1 k2;have:k=1∨k=2∨k=3∨k=4∨k=5∨k=6∨k=7:=oM;rcases this with rfl|rfl|rfl|rfl|rfl|rfl|rfl
  ·exact K4 hb D ex p id gr h1 h2
  ·exact K5 hb D ex p id gr h1 h2
  ·exact K6 hb D ex p id gr h1 h2
  ·exact K7 hb D ex p id gr h1 h2
  ·exact K8 hb D ex p id gr h1 h2
  ·exact K9 hb D ex p id gr h1 h2
  ·exact La hb D ex p id gr h1 h2
def Dm{α:Type}{f:α→Int}{x:Int}{l:List α}(hu:en (l.map f)){i:Nat}{y:α}(h:l[i]?=some y)(hy:f y=x):aT (l.map f) x=i∧x∈l.map f:=by
 have hx:x∈l.map f:=a5.2 ⟨y,dJ h,hy⟩;refine⟨?_,hx⟩;obtain⟨z,a,b,e,hz,hl,ha,hb⟩:=oX hu hx;rw[←hl];rcases Nat.lt_trichotomy i a.length with q|q|q
 ·rw[e,bz q] at h;have:=ha y (dJ h);omega
 ·exact q.symm
 ·rw[e,b6 oM] at h
  match hk:i-a.length with
  |0=>omega
  |k+1 =>
   rw[hk,ck] at h;have:=hb y (dJ h);omega
def Fp(cs:List CA)(id:Int):Int:=if id∈cs.map ab then(aT (cs.map ab) id:Int) else -1
abbrev s18(nx:Int)(cs:List CA)(ds:List DE):MV:=.agg [.int .i64 nx,.aj 27 (cs.map aa) false,.aj 3 (ds.map ag) false]
def lK(nx:Int)(cs:List CA)(ds:List DE)(hl:cs.length≤1000000)(hu:en (cs.map ab))(id:Int):aA Tryz.prog 168 [s18 nx cs ds,.int .i64 id] d0 (fun r _=>r=.int .i64 (Fp cs id)):=by
 refine ek (mB 22 [.tmp 4] Tryz.func168 ?_);obtain⟨P,hP⟩:∃P,Fp cs id=P:=⟨_,rfl⟩
 rw[hP];repeat' first|(refine wM ?_;(first|(have _:=ah)|(intro ah));intros)|refine bu @Tryz.f168.eq_1 @ai ?_|fail
 refine aG (α:=Nat) (fun i=>⟨22,[(5,.int .i64 (i:Int)),(2,.ptr ah 0 0),(1,.int .i64 id)],[]⟩) (fun _=>d0.set ah (.row 38 3 [[.int .i64 nx,.aj 27 (cs.map aa) false,.aj 3 (ds.map ag) false]])) (fun i=>i≤cs.length∧∀c,c∈cs.take i→c.id≠id) (fun i=>cs.length-i) (.of (.less ?_ ba) ⟨0,rfl,rfl,dj _,ax⟩) ?_
 ·exact wW
 ·rintro i ⟨hi,ef⟩;by_cases bh:i<cs.length
  ·obtain⟨x,hx⟩:=bX cs bh;have ay:=bJ (f:=aa) hx;by_cases he:x.id=id
   ·have hk:P=(i:Int):=by obtain⟨k1,k2⟩:=Dm hu hx he;rw[←hP];unfold Fp;rw[if_pos k2,k1]
    rw[hk];repeat' first|refine bu @ai @ay ?_|fail
    all_goals exact lE
   ·have gi:∀y,y∈cs.take (i+1)→y.id≠id:=fun y hy=>by
     rw[aW hx,bb,a0] at hy;rcases hy with hy|rfl
     ·exact ef y hy
     ·exact he
    repeat' first|refine bu @ai @ay ?_|fail
    all_goals try(exfalso;omega)
    all_goals
     refine .of (.less ?_ ba) ⟨i+1,rfl,rfl,⟨oM,gi⟩,oM⟩;exact wW
  ·have:i=cs.length:=oM;subst this;rw[bp] at ef;have hk:P = -1:=by rw[←hP];unfold Fp;exact if_neg fun h=>by obtain⟨c,h1,h2⟩:=a5.1 h;exact ef c h1 h2
   rw[hk];repeat' first|refine aw @ai ?_|fail
   all_goals exact lE
def gM(nx:Int)(cs:List CA)(ds:List DE)(hl:cs.length≤1000000)(hd:ds.length≤1000000)(hu:en (cs.map ab))(id:Int):aA Tryz.prog 166 [s18 nx cs ds,.int .i64 id] d0 (fun r _=>r=.ar [.agg (a8 cs ds id).1.c,.int .i64 (a8 cs ds id).2]):=by
 refine ek (mB 35 [.cell 4 126,.tmp 5] Tryz.func166 ?_);have hp:=lK nx cs ds hl hu id;unfold Fp at hp;by_cases hc:id∈cs.map ab
 ·rw[if_pos hc] at hp;obtain⟨c,h1,h2,h3,h4⟩:=oL (f:=ab) hu hc;have ay:=bJ (f:=aa) h1;have bh:=(aN.1 h1).1;have hg:a8 cs ds id=(c,0):=by unfold a8;rw[h3]
  rw[hg];obtain⟨i,hi⟩:∃i,aT (cs.map ab) id=i:=⟨_,rfl⟩
  rw[hi] at hp ay bh;clear h1 h3 hi hc hu;repeat' first|(refine aC hp ?_)|(refine wM ?_;(first|(have _:=ak)|(have _:=ah;intro ak)|(intro ah));intros)|refine fx @Tryz.f166.eq_1 @ai @ay ?_|fail
  all_goals exact lE
 ·rw[if_neg hc] at hp;have hf:cs.find? (fun c=>decide (c.id=id))=none:=Ha (f:=ab) hc;have hg:a8 cs ds id=(ig,if id∈ds.map DE.id then 9 else 6):=by unfold a8;rw[hf]
  rw[hg];simp only;obtain⟨E,hE⟩:∃E:Int,(if id∈ds.map DE.id then 9 else 6)=E:=⟨_,rfl⟩
  rw[hE];clear hg hf hc hu;repeat' first|(refine aC hp ?_)|(refine wM ?_;(first|(have _:=ak)|(have _:=ah;intro ak)|(intro ah));intros)|refine bu @Tryz.f166.eq_1 @ai ?_|fail
  refine aG (α:=Nat) (fun i=>⟨35,[(7,.int .i64 (i:Int)),(4,.ptr ak 0 0),(2,.ptr ah 0 0),(1,.int .i64 id)],[]⟩) (fun _=>(d0.set ah (.row 38 3 [[.int .i64 nx,.aj 27 (cs.map aa) false,.aj 3 (ds.map ag) false]])).set ak (.row 126 27 [ig.c])) (fun i=>i≤ds.length∧∀c,c∈ds.take i→c.id≠id) (fun i=>ds.length-i) (.of (.less ?_ ba) ⟨0,rfl,rfl,dj _,ax⟩) ?_
  ·exact wW
  ·rintro i ⟨hi,ef⟩;by_cases bh:i<ds.length
   ·obtain⟨x,hx⟩:=bX ds bh;have ay:=bJ (f:=ag) hx;by_cases he:x.id=id
    ·have hk:E=9:=by rw[←hE];exact if_pos (a5.2 ⟨x,dJ hx,he⟩)
     rw[hk];repeat' first|refine bu @ai @ay ?_|fail
     all_goals exact lE
    ·have gi:∀y,y∈ds.take (i+1)→y.id≠id:=fun y hy=>by
      rw[aW hx,bb,a0] at hy;rcases hy with hy|rfl
      ·exact ef y hy
      ·exact he
     repeat' first|refine bu @ai @ay ?_|fail
     all_goals try(exfalso;omega)
     all_goals
      refine .of (.less ?_ ba) ⟨i+1,rfl,rfl,⟨oM,gi⟩,oM⟩;exact wW
   ·have:i=ds.length:=oM;subst this;rw[bp] at ef;have hk:E=6:=by rw[←hE];exact if_neg fun h=>by obtain⟨c,h1,h2⟩:=a5.1 h;exact ef c h1 h2
    rw[hk];repeat' first|refine aw @ai ?_|fail
    all_goals exact lE
def uA(f p:F8)(m:Nat):Nat→F8
 |0=>f
 |i+1=>if bit m i=true then(uA f p m i).set i (p.get i) else uA f p m i
theorem DG(f p:F8)(m:Nat):∀k,uA f p m k=fT f p ((List.range k).filter fun i=>bit m i)
 |0=>rfl
 |k+1=>by
  rw[uA,DG f p m k,List.range_succ,ce,fT,fT,ca];by_cases h:bit m k=true
  ·rw[if_pos h];simp[h]
  ·rw[if_neg h];simp[h]
def rP(c:CA)(p:PA)(h0:0≤c.c9)(h1:c.c9≤1099511627776):aA Tryz.prog 167 [.agg c.c,.agg p.c] d0 (fun r _=>r=.agg (dI c p).c):=by
 refine ek (mB 35 [.cell 4 126] Tryz.func167 ?_);have bn:=uI p.mask;obtain⟨ml,ZG⟩:∃b,bit p.mask.toNat 8=b:=⟨_,rfl⟩
 rw[ZG] at bn;obtain⟨v,hv⟩:∃v,(if c.c9<1099511627776 then c.c9+1 else c.c9)=v:=⟨_,rfl⟩
 obtain⟨lb,qw⟩:∃lb:UInt32,(if ml=true then p.fp else c.fp)=lb:=⟨_,rfl⟩
 have oh:(dI c p).c=.int .i64 c.id::.int .i64 v::.int .u32 ((lb.toNat:Nat):Int)::fc (uA c.f p.f p.mask.toNat 8):=by rw[DG,←qw,←hv,←ZG];rfl
 rw[oh];clear ZG oh;have hb:∀i:Nat,i<8→aA Tryz.prog 178 [.int .u32 (p.mask.toNat:Int),.int .i64 (i:Int)] d0 (fun r _=>r=.bool (bit p.mask.toNat i)):=fun i h=>sN p.mask i oM;have uz:(if 1099511627775<c.c9 then 1099511627775 else c.c9)+1=v:=by rw[←hv];split<;>split<;>omega
 have ZP:IntKind.i64.wrap ((if 1099511627775<c.c9 then 1099511627775 else c.c9)+1)=v:=by rw[IntWalk.i64_in _ (by split<;>omega)];exact uz
 cases ml;all_goals simp only[Bool.false_eq_true,if_false,if_true] at qw
 ·subst qw;repeat' first|(with_reducible first|refine up bn ?_)|(refine wM ?_;(first|(have _:=az)|(have _:=ao;intro az)|(have _:=ak;intro ao)|(have _:=ah;intro ak)|(intro ah));intros)|refine jf @Tryz.f167.eq_1 @ai @uz @ZP ?_|fail
  refine aG (α:=Nat) (fun i=>⟨35,[(6,.int .i64 (i:Int)),(5,.ptr az 0 0),(4,.ptr ao 0 0),(3,.ptr ak 0 0),(2,.ptr ah 0 0)],[]⟩)
   (fun i=>(((d0.set ah (.row 126 27 [c.c])).set ak (.row 57 26 [p.c])).set ao (.row 126 27 [ig.c])).set az (.row 126 27 [.int .i64 c.id::.int .i64 v::.int .u32 (c.fp.toNat:Int)::fc (uA c.f p.f p.mask.toNat i)])) (fun i=>i≤8) (fun i=>8-i) (.of (.less ?_ ba) ⟨0,rfl,rfl,dj _⟩) ?_
  ·exact wW
  ·rintro i hi;by_cases h8:i<8
   ·have rq:=hb i h8;have da:uA c.f p.f p.mask.toNat (i+1)=if bit p.mask.toNat i=true then(uA c.f p.f p.mask.toNat i).set i (p.f.get i) else uA c.f p.f p.mask.toNat i:=rfl;obtain⟨g,hg⟩:∃g,uA c.f p.f p.mask.toNat i=g:=⟨_,rfl⟩
    rw[hg] at da ⊢;cases hbb:bit p.mask.toNat i<;>rw[hbb] at rq da
    ·rw[if_neg ax] at da;repeat' first|(with_reducible first|refine up rq ?_)|refine aw @ai ?_|fail
     all_goals try(exfalso;omega)
     all_goals
      refine .of (.less ?_ ba) ⟨i+1,rfl,by rw[da],oM,oM⟩;exact wW
    ·rw[if_pos rfl] at da;repeat' first|(with_reducible first|refine up rq ?_)|refine aw @ai ?_|fail
     all_goals try(exfalso;omega)
     all_goals
      refine .of (.less ?_ ba) ⟨i+1,rfl,by rw[da];first|rfl|skip,oM,oM⟩;exact wW
   ·have:i=8:=oM;subst this;repeat' first|refine aw @ai ?_|fail
    all_goals exact lE
 ·subst qw;repeat' first|(with_reducible first|refine up bn ?_)|(refine wM ?_;(first|(have _:=az)|(have _:=ao;intro az)|(have _:=ak;intro ao)|(have _:=ah;intro ak)|(intro ah));intros)|refine jf @Tryz.f167.eq_1 @ai @uz @ZP ?_|fail
  refine aG (α:=Nat) (fun i=>⟨35,[(6,.int .i64 (i:Int)),(5,.ptr az 0 0),(4,.ptr ao 0 0),(3,.ptr ak 0 0),(2,.ptr ah 0 0)],[]⟩)
   (fun i=>(((d0.set ah (.row 126 27 [c.c])).set ak (.row 57 26 [p.c])).set ao (.row 126 27 [ig.c])).set az (.row 126 27 [.int .i64 c.id::.int .i64 v::.int .u32 (p.fp.toNat:Int)::fc (uA c.f p.f p.mask.toNat i)])) (fun i=>i≤8) (fun i=>8-i) (.of (.less ?_ ba) ⟨0,rfl,rfl,dj _⟩) ?_
  ·exact wW
  ·rintro i hi;by_cases h8:i<8
   ·have rq:=hb i h8;have da:uA c.f p.f p.mask.toNat (i+1)=if bit p.mask.toNat i=true then(uA c.f p.f p.mask.toNat i).set i (p.f.get i) else uA c.f p.f p.mask.toNat i:=rfl;obtain⟨g,hg⟩:∃g,uA c.f p.f p.mask.toNat i=g:=⟨_,rfl⟩
    rw[hg] at da ⊢;cases hbb:bit p.mask.toNat i<;>rw[hbb] at rq da
    ·rw[if_neg ax] at da;repeat' first|(with_reducible first|refine up rq ?_)|refine aw @ai ?_|fail
     all_goals try(exfalso;omega)
     all_goals
      refine .of (.less ?_ ba) ⟨i+1,rfl,by rw[da],oM,oM⟩;exact wW
    ·rw[if_pos rfl] at da;repeat' first|(with_reducible first|refine up rq ?_)|refine aw @ai ?_|fail
     all_goals try(exfalso;omega)
     all_goals
      refine .of (.less ?_ ba) ⟨i+1,rfl,by rw[da];first|rfl|skip,oM,oM⟩;exact wW
   ·have:i=8:=oM;subst this;repeat' first|refine aw @ai ?_|fail
    all_goals exact lE
def zO(n:Int)(p:PA):aA Tryz.prog 165 [.int .i64 n,.agg p.c] d0 (fun r _=>r=.agg (bW n p).c):=by
 refine ek (mB 9 [.cell 4 126] Tryz.func165 ?_);have hm:=rP ⟨n,0,0,f80⟩ p (show(0:Int)≤0 by decide) (show(0:Int)≤1099511627776 by decide);have e:(CA.mk n 0 0 f80).c=.int .i64 n::(aa ig).drop 1:=rfl;rw[e] at hm;unfold bW;obtain⟨x,hx⟩:∃x,dI ⟨n,0,0,f80⟩ p=x:=⟨_,rfl⟩
 rw[hx] at hm ⊢;repeat' first|(refine aC hm ?_)|(refine wO ?_;intros)|refine bu @Tryz.f165.eq_1 @ai ?_|fail
 all_goals exact lE
def FI(l:List Int)(hl:l.length≤1000000)(x:Int)(t:Bool):aA Tryz.prog 275 [.aj 1 (l.map aU) t,.int .i64 x] d0 (fun r _=>r=.int .i64 (aT l x:Int)):=by
 refine ek (mB 22 [.tmp 4] Tryz.func275 ?_);repeat' first|refine aw @Tryz.f275.eq_1 ?_|fail
 refine aG (α:=Nat) (fun i=>⟨22,[(6,.int .i64 (i:Int)),(5,.int .i64 (aT (l.take i) x:Int)),(0,.aj 1 (l.map aU) t),(1,.int .i64 x)],[]⟩) (fun _=>d0) (fun i=>i≤l.length) (fun i=>l.length-i) (.of (.less ?_ ba) ⟨0,rfl,rfl,dj _⟩) ?_
 ·simp(maxSteps:=4000000) (disch:=first|decide|assumption|omega|(simp only[wL];omega)) only[go_sem,simprocAttr,bE,aX];all_goals first|rfl|(simp[aT];done)
 ·rintro i hi;have hi:i≤l.length:=hi;by_cases bh:i<l.length
  ·obtain⟨y,hy⟩:=bX l bh;have ay:=bJ (f:=aU) hy;have hb:=qI (l.take i) x;rw[a1] at hb;have cc:aT (l.take (i+1)) x=aT (l.take i) x+if y<x then 1 else 0:=by rw[aW hy];unfold aT;rw[ce,au];by_cases h:y<x<;>simp[h]
   obtain⟨k,hk⟩:∃k,aT (l.take i) x=k:=⟨_,rfl⟩
   rw[hk] at cc hb ⊢;by_cases h:y<x
   ·rw[if_pos h] at cc;repeat' first|refine aw @ay ?_|fail
    all_goals try(exfalso;omega)
    all_goals
     refine .of (.less ?_ ba) ⟨i+1,rfl,rfl,(by omega:i+1≤l.length),oM⟩;simp(maxSteps:=4000000) (disch:=first|decide|assumption|omega|(simp only[wL];omega)) only[go_sem,simprocAttr,bE,aX,cc];all_goals first|rfl|(simp;done)
   ·rw[if_neg h] at cc;repeat' first|refine aw @ay ?_|fail
    all_goals try(exfalso;omega)
    all_goals
     refine .of (.less ?_ ba) ⟨i+1,rfl,rfl,(by omega:i+1≤l.length),oM⟩;simp(maxSteps:=4000000) (disch:=first|decide|assumption|omega|(simp only[wL];omega)) only[go_sem,simprocAttr,bE,aX,cc];all_goals first|rfl|(simp;done)
  ·have:i=l.length:=oM;subst this;rw[bp];repeat' first|refine ed ?_|fail
   all_goals exact lE
def Lx(l:List Int)(hl:l.length≤1000000)(x:Int)(h1:1≤x)(h2:x<1073741824)(t:Bool):aA Tryz.prog 229 [.aj 1 (l.map aU) t,.int .i64 x] d0 (fun r _=>r=.aj 1 ((iA l x).map aU) false):=by
 have hh:=lJ l t hl x;have hp:=FI l hl x t;refine el (mB 38 [.tmp 4] Tryz.func229 ?_);unfold iA;by_cases hx:x∈l
 ·rw[if_pos hx];rw[decide_eq_true hx] at hh;have bn:(l.map aU).length=l.length:=aI _;obtain⟨L,hL⟩:∃L,l.map aU=L:=⟨_,rfl⟩
  rw[hL] at hh hp bn ⊢;repeat' first|(refine aC hh ?_)|(refine aC hp ?_)|(refine wO ?_;intros)|refine bu @Tryz.f229.eq_1 @bn ?_|fail
  all_goals first|exact eh cj bn.symm|(exfalso;omega)
 ·rw[if_neg hx];rw[decide_eq_false hx] at hh;have hb:=qI l x;have bn:(l.map aU).length=l.length:=aI _;have eu:(l.take (aT l x)++x::l.drop (aT l x)).map aU=(l.map aU).take (aT l x)++aU x::(l.map aU).drop (aT l x):=ax;rw[eu];obtain⟨i,hi⟩:∃i,aT l x=i:=⟨_,rfl⟩
  rw[hi] at hp hb ⊢;obtain⟨L,hL⟩:∃L,l.map aU=L:=⟨_,rfl⟩
  rw[hL] at hh hp bn ⊢;have hn:(L.take i++aU x::L.drop i).length=l.length+1:=by rw[au,av,a1,bs,bn];omega
  have ht:(L.take i).length=i:=by rw[a1];omega
  repeat' first|(refine aC hh ?_)|(refine aC hp ?_)|(refine wO ?_;intros)|refine fx @Tryz.f229.eq_1 @bn @ht ?_|fail
  all_goals try(exfalso;omega)
  all_goals
   have e:L.take i++[[.int .i64 x]]++L.drop i=L.take i++aU x::L.drop i:=ax;rw[e];exact eh cj (by rw[hn];omega)
def zM(l:List Int)(hl:l.length≤1000000)(x:Int)(t:Bool):aA Tryz.prog 160 [.aj 1 (l.map aU) t,.int .i64 x] d0 (fun r _=>r=.aj 1 ((dQ l x).map aU) false):=by
 have hm:=IV l [x] t false hl ax;have e:i6 l [x]=dQ l x:=by unfold i6 dQ;simp
 rw[e] at hm;simp only[a2,b0] at hm;refine ek (mB 9 [.tmp 4] Tryz.func160 ?_);repeat' first|(refine wM ?_;(first|(have _:=ah)|(intro ah));intros)|refine aw @Tryz.f160.eq_1 ?_|fail
 refine Qc _ ah hm cj rfl (sT (.same _) (.cq cj rfl)) ?_;repeat' first|refine ed ?_|fail
 all_goals exact lE
def Is(l:List GR)(g:Int):Int:=if g∈l.map am then(aT (l.map am) g:Int) else -1
def mC(l:List GR)(hl:l.length≤1000000)(hu:en (l.map am))(g:Int)(t:Bool):aA Tryz.prog 228 [.aj 2 (l.map an) t,.int .i64 g] d0 (fun r _=>r=.int .i64 (Is l g)):=by
 refine ek (mB 20 [.tmp 4] Tryz.func228 ?_);obtain⟨P,hP⟩:∃P,Is l g=P:=⟨_,rfl⟩
 rw[hP];repeat' first|refine aw @Tryz.f228.eq_1 ?_|fail
 refine aG (α:=Nat) (fun i=>⟨20,[(5,.int .i64 (i:Int)),(0,.aj 2 (l.map an) t),(1,.int .i64 g)],[]⟩) (fun _=>d0) (fun i=>i≤l.length∧∀c,c∈l.take i→c.no≠g) (fun i=>l.length-i) (.of (.less ?_ ba) ⟨0,rfl,rfl,dj _,ax⟩) ?_
 ·exact wW
 ·rintro i ⟨hi,ef⟩;by_cases bh:i<l.length
  ·obtain⟨x,hx⟩:=bX l bh;have ay:=bJ (f:=an) hx;by_cases he:x.no=g
   ·have hk:P=(i:Int):=by obtain⟨k1,k2⟩:=Dm (f:=am) hu hx he;rw[←hP];unfold Is;rw[if_pos k2,k1]
    rw[hk];repeat' first|refine aw @ay ?_|fail
    all_goals exact lE
   ·have gi:∀y,y∈l.take (i+1)→y.no≠g:=fun y hy=>by
     rw[aW hx,bb,a0] at hy;rcases hy with hy|rfl
     ·exact ef y hy
     ·exact he
    repeat' first|refine aw @ay ?_|fail
    all_goals try(exfalso;omega)
    all_goals
     refine .of (.less ?_ ba) ⟨i+1,rfl,rfl,⟨oM,gi⟩,oM⟩;exact wW
  ·have:i=l.length:=oM;subst this;rw[bp] at ef;have hk:P = -1:=by rw[←hP];unfold Is;exact if_neg fun h=>by obtain⟨c,h1,h2⟩:=a5.1 h;exact ef c h1 h2
   rw[hk];repeat' first|refine ed ?_|fail
   all_goals exact lE
def nZ(l:List GR)(hl:l.length≤1000000)(hu:en (l.map am))(g:Int)(h1:0≤g)(h2:g<16)(t:Bool) :
  aA Tryz.prog 170 [.aj 2 (l.map an) t,.int .i64 g] d0 (fun r _=>r=if g∈l.map am then .ar [.aj 2 ((k8 l g).map an) false,.int .i64 0] else .ar [.aK,.int .i64 6]):=by
 have hp:=mC l hl hu g t;unfold Is at hp;by_cases hx:g∈l.map am
 rotate_left
 ·rw[if_neg hx] at hp ⊢;refine ek (mB 28 [.tmp 4,.tmp 5] Tryz.func170 ?_);repeat' first|(refine aC hp ?_)|refine aw @Tryz.f170.eq_1 ?_|fail
  all_goals exact lE
 ·rw[if_pos hx] at hp ⊢;have e:k8 l g=_:=vO (f:=am) hu hx;obtain⟨y,h3,-⟩:=oL (f:=am) hu hx;have my:=(aN.1 h3).1;rw[e];obtain⟨i,hi⟩:∃i,aT (l.map am) g=i:=⟨_,rfl⟩
  rw[hi] at hp my ⊢;clear h3 e hi hu hx;have bn:(l.map an).length=l.length:=aI _;have eu:(l.take i++l.drop (i+1)).map an=(l.map an).take i++(l.map an).drop (i+1):=ax;rw[eu];obtain⟨L,hL⟩:∃L,l.map an=L:=⟨_,rfl⟩
  rw[hL] at hp bn ⊢;have ht:(L.take i).length=i:=by rw[a1];omega
  have hn:(L.take i++L.drop (i+1)).length=i+(l.length-(i+1)):=by rw[au,bs,ht,bn]
  refine el (mB 28 [.tmp 4,.tmp 5] Tryz.func170 ?_);repeat' first|(refine aC hp ?_)|(refine wO ?_;intros)|refine fx @Tryz.f170.eq_1 @bn @ht ?_|fail
  all_goals try(exfalso;omega)
  all_goals exact dH (eh cj hn.symm)
def kW(l:List GR)(hl:l.length≤1000000)(hu:en (l.map am))(g:Int)(t:Bool) :
  aA Tryz.prog 169 [.aj 2 (l.map an) t,.int .i64 g] d0 (fun r _=>r=if g∈l.map am then .aj 1 ((bH l g).map aU) false else .aK):=by
 have hp:=mC l hl hu g t;unfold Is at hp;refine ek (mB 16 [.tmp 4] Tryz.func169 ?_);by_cases hx:g∈l.map am
 ·rw[if_pos hx] at hp ⊢;obtain⟨y,h5,h6,h7,h8⟩:=iF hu hx;have my:=(aN.1 h8).1;have ay:=bJ (f:=an) h8;rw[h7];obtain⟨i,hi⟩:∃i,aT (l.map am) g=i:=⟨_,rfl⟩
  rw[hi] at hp my ay;clear h8 hi hu hx h7;repeat' first|(refine aC hp ?_)|refine bu @Tryz.f169.eq_1 @ay ?_|fail
  all_goals exact lE
 ·rw[if_neg hx] at hp ⊢;repeat' first|(refine aC hp ?_)|refine aw @Tryz.f169.eq_1 ?_|fail
  all_goals exact lE
def zN(l:List GR)(hl:l.length≤1000000)(hu:en (l.map am))(g id:Int)(h1:0≤g)(h2:g<16)(h3:1≤id)(h4:id<1073741824)(t:Bool) :
  aA Tryz.prog 157 [.aj 2 (l.map an) t,.int .i64 g,.int .i64 id] d0 (fun r _=>r=if g∈l.map am then .ar [.int .i64 (aT (l.map am) g:Int),.int .i64 0] else .ar [.int .i64 0,.int .i64 6]):=by
 have hp:=mC l hl hu g t;unfold Is at hp;refine ek (mB 29 [.tmp 6,.tmp 7] Tryz.func157 ?_);by_cases hx:g∈l.map am
 ·rw[if_pos hx] at hp ⊢;obtain⟨i,hi⟩:∃i,aT (l.map am) g=i:=⟨_,rfl⟩
  rw[hi] at hp ⊢;repeat' first|(refine aC hp ?_)|refine aw @Tryz.f157.eq_1 ?_|fail
  all_goals exact lE
 ·rw[if_neg hx] at hp ⊢;repeat' first|(refine aC hp ?_)|refine aw @Tryz.f157.eq_1 ?_|fail
  all_goals exact lE
def BH(l:List GR)(hl:l.length≤1000000){i:Nat}{y:GR}(hy:l[i]?=some y)(m:List Int)(t:Bool) :
  aA Tryz.prog 159 [.aj 2 (l.map an) t,.int .i64 (i:Int),.aj 1 (m.map aU) false] d0 (fun r _=>r=.aj 2 ((l.set i ⟨y.no,m⟩).map an) false):=by
 have my:=(aN.1 hy).1;have ay:=bJ (f:=an) hy;have bn:(l.map an).length=l.length:=aI _;rw[de];obtain⟨L,hL⟩:∃L,l.map an=L:=⟨_,rfl⟩
 rw[hL] at ay bn ⊢;have hn:∀z:List MV,(L.set i z).length=l.length:=fun z=>by rw[cS,bn]
 refine el (mB 22 [.tmp 6] Tryz.func159 ?_);repeat' first|(refine wO ?_;intros)|refine fx @Tryz.f159.eq_1 @ay @bn ?_|fail
 all_goals try(exfalso;omega)
 all_goals exact eh cj (hn _).symm
def wU(l:List GR)(h:zy l)(g id:Int)(h1:0≤g)(h2:g<16)(h3:1≤id)(h4:id<1073741824)(t:Bool):aA Tryz.prog 172 [.aj 2 (l.map an) t,.int .i64 g,.int .i64 id] d0
  (fun r _=>r=if g∈l.map am then(if id∈bH l g then .ar [.aK,.int .i64 7] else .ar [.aj 2 ((fD l g (iA (bH l g) id)).map an) false,.int .i64 0]) else .ar [.aK,.int .i64 6]):=by
 have hl:=h.len;obtain⟨m1,m2⟩:=h.RZ g;have hf:=zN l oM h.up g id h1 h2 h3 h4 t;refine ek (mB 37 [.tmp 6,.tmp 7] Tryz.func172 ?_);by_cases hg:g∈l.map am
 ·rw[if_pos hg] at hf ⊢;obtain⟨y,h5,h6,h7,h8⟩:=iF h.up hg;have my:=(aN.1 h8).1;have ay:=bJ (f:=an) h8;have gw:fD l g (iA (bH l g) id)=l.set (aT (l.map am) g) ⟨g,iA (bH l g) id⟩:=vP (f:=am) h.up hg _;have hh:=lJ (bH l g) false oM id;have hp:=Lx (bH l g) oM id h3 h4 false;have ht:=BH l oM h8 (iA (bH l g) id) t;rw[h6] at ht;rw[gw];rw[h7] at hh hp ht ⊢;obtain⟨i,hi⟩:∃i,aT (l.map am) g=i:=⟨_,rfl⟩
  rw[hi] at hf my ay ht ⊢;generalize (l.set i ⟨g,iA y.mem id⟩).map an=R at ht ⊢;obtain⟨Y,hY⟩:∃Y,(iA y.mem id).map aU=Y:=⟨_,rfl⟩
  rw[hY] at hp ht;by_cases hm:id∈y.mem
  ·rw[if_pos hm];rw[decide_eq_true hm] at hh;clear h8 hi gw h7 hg;repeat' first|(refine aC hf ?_)|(refine aC hh ?_)|refine bu @Tryz.f172.eq_1 @ay ?_|fail
   all_goals exact lE
  ·rw[if_neg hm];rw[decide_eq_false hm] at hh;clear h8 hi gw h7 hg;repeat' first|(refine aC hf ?_)|(refine aC hh ?_)|(refine aC hp ?_)|(refine aC ht ?_)|refine bu @Tryz.f172.eq_1 @ay ?_|fail
   all_goals exact lE
 ·rw[if_neg hg] at hf ⊢;repeat' first|(refine aC hf ?_)|refine aw @Tryz.f172.eq_1 ?_|fail
  all_goals exact lE
def uK(l:List GR)(h:zy l)(g id:Int)(h1:0≤g)(h2:g<16)(h3:1≤id)(h4:id<1073741824)(t:Bool):aA Tryz.prog 80 [.aj 2 (l.map an) t,.int .i64 g,.int .i64 id] d0
  (fun r _=>r=if g∈l.map am then(if id∈bH l g then .ar [.aj 2 ((fD l g (dQ (bH l g) id)).map an) false,.int .i64 0] else .ar [.aK,.int .i64 6]) else .ar [.aK,.int .i64 6]):=by
 have hl:=h.len;obtain⟨m1,m2⟩:=h.RZ g;have hf:=zN l oM h.up g id h1 h2 h3 h4 t;refine ek (mB 38 [.tmp 6,.tmp 7] Tryz.func80 ?_);by_cases hg:g∈l.map am
 ·rw[if_pos hg] at hf ⊢;obtain⟨y,h5,h6,h7,h8⟩:=iF h.up hg;have my:=(aN.1 h8).1;have ay:=bJ (f:=an) h8;have gw:fD l g (dQ (bH l g) id)=l.set (aT (l.map am) g) ⟨g,dQ (bH l g) id⟩:=vP (f:=am) h.up hg _;have hh:=lJ (bH l g) false oM id;have hp:=zM (bH l g) oM id false;have ht:=BH l oM h8 (dQ (bH l g) id) t;rw[h6] at ht;rw[gw];rw[h7] at hh hp ht ⊢;obtain⟨i,hi⟩:∃i,aT (l.map am) g=i:=⟨_,rfl⟩
  rw[hi] at hf my ay ht ⊢;generalize (l.set i ⟨g,dQ y.mem id⟩).map an=R at ht ⊢;obtain⟨Y,hY⟩:∃Y,(dQ y.mem id).map aU=Y:=⟨_,rfl⟩
  rw[hY] at hp ht;by_cases hm:id∈y.mem
  ·rw[if_pos hm];rw[decide_eq_true hm] at hh;clear h8 hi gw h7 hg;repeat' first|(refine aC hf ?_)|(refine aC hh ?_)|(refine aC hp ?_)|(refine aC ht ?_)|refine bu @Tryz.f80.eq_1 @ay ?_|fail
   all_goals exact lE
  ·rw[if_neg hm];rw[decide_eq_false hm] at hh;clear h8 hi gw h7 hg;repeat' first|(refine aC hf ?_)|(refine aC hh ?_)|refine bu @Tryz.f80.eq_1 @ay ?_|fail
   all_goals exact lE
 ·rw[if_neg hg] at hf ⊢;repeat' first|(refine aC hf ?_)|refine aw @Tryz.f80.eq_1 ?_|fail
  all_goals exact lE
def zP(l:List GR)(h:zy l)(id:Int)(t:Bool):aA Tryz.prog 85 [.aj 2 (l.map an) t,.int .i64 id] d0 (fun r _=>r=.aj 2 ((lz l id).map an) false):=by
 have hl:=h.len;refine el (mB 31 [.tmp 4] Tryz.func85 ?_);repeat' first|(refine wM ?_;(first|(have _:=ah)|(intro ah));intros)|refine aw @Tryz.f85.eq_1 ?_|fail
 refine aG (α:=Nat×Nat) (fun z=>⟨31,[(6,.int .i64 (z.1:Int)),(5,.vec 2 z.2 0 z.1),(0,.aj 2 (l.map an) t),(1,.int .i64 id)],[]⟩) (fun z=>d0.set z.2 (.row 200 2 ((lz (l.take z.1) id).map an))) (fun z=>z.1≤l.length) (fun z=>l.length-z.1) (.of (.less ?_ ba) ⟨(0,ah),rfl,rfl,dj _⟩) ?_
 ·exact wW
 ·rintro⟨i,q⟩ hi;have hi:i≤l.length:=hi;simp only;by_cases bh:i<l.length
  ·obtain⟨z,hz⟩:=bX l bh;have ay:=bJ (f:=an) hz;have hlen:((lz (l.take i) id).map an).length=i:=by rw[aI];unfold lz;rw[aI,a1];omega
   have cc:(lz (l.take (i+1)) id).map an=(lz (l.take i) id).map an++[(GR.mk z.no (dQ z.mem id)).c]:=by rw[aW hz];unfold lz;rw[a4,a4];rfl
   have hd:=zM z.mem (by have:=h.mem z (dJ hz);omega) id false;obtain⟨X,hX⟩:∃X,(lz (l.take i) id).map an=X:=⟨_,rfl⟩
   rw[hX] at hlen cc ⊢;obtain⟨Y,hY⟩:∃Y,(dQ z.mem id).map aU=Y:=⟨_,rfl⟩
   have cc:(lz (l.take (i+1)) id).map an=X++[[.int .i64 z.no,.aj 1 Y false]]:=by rw[cc,←hY]
   rw[hY] at hd;obtain⟨C,c1⟩:∃C:b9,∀ms,C 160 ms=some ⟨[],fun v=>v=.aj 1 Y false,none⟩:=⟨oK 160 (.aj 1 Y false),fun _=>dG⟩
   repeat' first|((with_reducible refine aJ mixed ?chk C ?_);(case chk=>decide +kernel))|(with_reducible refine aF (c1 _) hd ?_)|(refine wM ?_;(first|(have _:=ao)|(have _:=ak;intro ao)|(intro ak));intros)|refine bu @ay @hlen ?_|fail
   all_goals try(exfalso;omega)
   all_goals
    refine .of (.less ?_ ?_) ⟨(i+1,ao),rfl,rfl,(by omega:i+1≤l.length),by simp only;omega⟩
    ·exact wW
    ·simp only[cc];exact d8 bt cj
  ·have:i=l.length:=oM;subst this;rw[bp];have hlen:((lz l id).map an).length=l.length:=by unfold lz;simp
   repeat' first|refine ed ?_|fail
   all_goals try(exfalso;omega)
   all_goals exact eh cj hlen.symm
def BF(l:List GR)(hl:l.length+1≤1000000)(hu:en (l.map am))(g:Int)(h1:0≤g)(h2:g<16)(t:Bool) :
  aA Tryz.prog 171 [.aj 2 (l.map an) t,.int .i64 g] d0 (fun r _=>r=if g∈l.map am then .ar [.aK,.int .i64 7] else .ar [.aj 2 ((uB l g).map an) false,.int .i64 0]):=by
 have hp:=mC l oM hu g t;unfold Is at hp;by_cases hx:g∈l.map am
 ·rw[if_pos hx] at hp ⊢;refine ek (mB 54 [.tmp 4,.tmp 5] Tryz.func171 ?_);repeat' first|(refine aC hp ?_)|refine aw @Tryz.f171.eq_1 ?_|fail
  all_goals exact lE
 ·rw[if_neg hx] at hp ⊢;have wu:=qI (l.map am) g;rw[aI] at wu;obtain⟨b1,b2⟩:=sI (f:=am) (x:=g) hu;unfold uB;obtain⟨k,hk⟩:∃k,aT (l.map am) g=k:=⟨_,rfl⟩
  rw[hk] at wu b1 b2 ⊢;have bn:(l.map an).length=l.length:=aI _;have eu:(l.take k++⟨g,[]⟩::l.drop k).map an=(l.map an).take k++[.int .i64 g,.aj 1 [] false]::(l.map an).drop k:=ax;obtain⟨W,hW⟩:∃W,(l.map an).take k++[.int .i64 g,.aj 1 [] false]::(l.map an).drop k=W:=⟨_,rfl⟩
  rw[eu,hW];clear hk eu hx;refine em (mB 54 [.tmp 4,.tmp 5] Tryz.func171 ?_);repeat' first|(refine aC hp ?_)|(refine wM ?_;(first|(have _:=ah)|(intro ah));intros)|refine aw @Tryz.f171.eq_1 ?_|fail
  all_goals try(exfalso;omega)
  refine aG (α:=Nat×Nat) (fun z=>⟨54,[(7,.int .i64 (z.1:Int)),(6,.vec 2 z.2 0 z.1),(0,.aj 2 (l.map an) t),(1,.int .i64 g)],[]⟩) (fun z=>d0.set z.2 (.row 200 2 ((l.take z.1).map an))) (fun z=>z.1≤k) (fun z=>k-z.1) (.of (.less ?_ ba) ⟨(0,ah),rfl,rfl,dj _⟩) ?_
  ·exact wW
  ·rintro⟨i,q⟩ hi;have hi:i≤k:=hi;simp only;have hlen:((l.take i).map an).length=i:=by rw[aI,a1];omega
   by_cases bh:i<k
   ·obtain⟨z,hz⟩:=bX l (show i<l.length by omega);have ay:=bJ (f:=an) hz;have hzg:z.no<g:=b1 z (by
     have:(l.take k)[i]?=some z:=by rw[cx,if_pos bh];exact hz
     exact dJ this)
    have cc:(l.take (i+1)).map an=(l.take i).map an++[z.c]:=by rw[aW hz,a4];rfl
    obtain⟨X,hX⟩:∃X,(l.take i).map an=X:=⟨_,rfl⟩
    rw[hX] at hlen cc ⊢;repeat' first|(refine wM ?_;(first|(have _:=ao)|(have _:=ak;intro ao)|(intro ak));intros)|refine bu @ay @hlen ?_|fail
    all_goals try(exfalso;omega)
    all_goals
     refine .of (.less ?_ ?_) ⟨(i+1,ao),rfl,rfl,(by omega:i+1≤k),by simp only;omega⟩
     ·exact wW
     ·simp only[cc];exact d8 bt cj
   ·have:i=k:=oM;subst this;have dy:i<l.length→∃z:GR,(l.map an).getD i []=z.c∧g≤z.no:=fun bh=>by
     obtain⟨z,hz⟩:=bX l bh;refine⟨z,bJ (f:=an) hz,b2 z ?_⟩;have:(l.drop i)[0]?=some z:=by rw[List.getElem?_drop];exact hz
     exact dJ this
    rw[List.map_take] at hlen ⊢;obtain⟨L,hL⟩:∃L,l.map an=L:=⟨_,rfl⟩
    rw[hL] at bn hlen dy hW ⊢;clear b1 b2 hL hp hu;have hn:∀z:List MV,(L.take i++z::L.drop i).length=i+1+(l.length-i):=fun z=>by rw[au,av,bs,hlen,bn];omega
    by_cases ZF:i<l.length
    ·obtain⟨z,ay,hzg⟩:=dy ZF;repeat' first|(refine wM ?_;(first|(have _:=az)|(have _:=ao;intro az)|(have _:=ak;intro ao)|(intro ak));intros)|refine fx @ay @hlen @bn ?_|fail
     all_goals try(exfalso;omega)
     all_goals
      have e:L.take i++[[.int .i64 g,.aK]]++L.drop i=L.take i++([.int .i64 g]++.aK::[])::L.drop i:=ax;rw[e];refine .step (et (σ1:=d0.set az (.row 200 2 (L.take i++([.int .i64 g]++.aK::[])::L.drop i))) (d8 bt cj)) (.step (aR.yH (L.take i) (L.drop i) [.int .i64 g] [] 1 false) (.of (eo (l1:=[(0,.ar [.aj 2 W false,.int .i64 0])]) (d0.set az (.row 200 2 W)) (d8 bt (by rw[←hW];exact cj)) bt (fun k o hk=>by cases hk) (fun p hp=>?_)) ⟨_,rfl,rfl⟩));simp only[a0] at hp;subst hp;exact dH (eh cj (by rw[←hW];exact(hn _).symm))
    ·clear dy;repeat' first|(refine wM ?_;(first|(have _:=az)|(have _:=ao;intro az)|(have _:=ak;intro ao)|(intro ak));intros)|refine bu @hlen @bn ?_|fail
     all_goals try(exfalso;omega)
     all_goals
      have e:L.take i++[[.int .i64 g,.aK]]++L.drop i=L.take i++([.int .i64 g]++.aK::[])::L.drop i:=ax;rw[e];refine .step (et (σ1:=d0.set az (.row 200 2 (L.take i++([.int .i64 g]++.aK::[])::L.drop i))) (d8 bt cj)) (.step (aR.yH (L.take i) (L.drop i) [.int .i64 g] [] 1 false) (.of (eo (l1:=[(0,.ar [.aj 2 W false,.int .i64 0])]) (d0.set az (.row 200 2 W)) (d8 bt (by rw[←hW];exact cj)) bt (fun k o hk=>by cases hk) (fun p hp=>?_)) ⟨_,rfl,rfl⟩));simp only[a0] at hp;subst hp;exact dH (eh cj (by rw[←hW];exact(hn _).symm))
def aR.Cg{v:MV}{σ:St}(q o:Nat){oq:aY}{t:TypeId}{e:Nat}(pre post:List MV){m m1:MV}(hq:σ q=some oq)(ho:σ o=some (.row t e [pre++m::post]))(fg:o≠q)(hv:View (d0.set q oq) m m1)(hc:m1.aP=true) :
  aR ⟨1,[(0,v)],[]⟩ σ ⟨1,[(0,v)],[]⟩ ((σ.del q).set o (.row t e [pre++m1::post])) :=
 aR.Dh q o pre post hq ho fg hv hc cj (fun k x hk=>by
  by_cases h1:k=o
  ·subst h1;exact⟨fg,.inl rfl⟩
  ·rw[cn h1] at hk;simp only[d9] at hk;split at hk
   ·cases hk
   ·exact⟨bc,.inr hk⟩) (fun p hp=>by simp at hp;subst hp;exact .same _)
abbrev dO(B:BK):aY:=.row 41 5 [B.c]
def Pt(o:Nat)(B:BK)(hl:B.ae.length≤1000000)(p:PA)(hp:bL p=0)(h0:0≤B.nx)(h1:B.nx≤1073741824) :
  aA Tryz.prog 82 [.ptr o 0 1,.agg p.c] (d0.set o (dO B)) (fun v af=>if 48≤B.ae.length∨1073741824≤B.nx then v=.ar [.agg ig.c,.int .i64 8]∧af=d0.set o (dO B)
   else v=.ar [.agg (bW B.nx p).c,.int .i64 0]∧af=d0.set o (dO ⟨B.sq,B.nx+1,B.ae++[bW B.nx p],B.dead,B.gr⟩)):=by
 have kr:=gC p;rw[hp] at kr;by_cases hf:48≤B.ae.length∨1073741824≤B.nx
 ·simp only[if_pos hf];refine ei (Q':=fun v af=>v=.ar [.agg ig.c,.int .i64 8]∧(d0.set o (dO B)).le af) (mB 55 [.cell 4 126,.tmp 5] Tryz.func82 ?_) fun v af h=>⟨_,h.2,h.1,rfl⟩
  repeat' first|(refine aC kr ?_)|(refine wM ?_;(first|(have _:=ak)|(have _:=ah;intro ak)|(intro ah));intros)|(refine wY ?_ ?_<;>intro h)|refine bu @Tryz.f82.eq_1 @ai ?_|fail
  all_goals try(exfalso;omega)
  all_goals exact⟨rfl,ea (ea ba (by simp[d7,d0, *])) (by simp[d7,d0, *])⟩
 ·simp only[if_neg hf];have kj:=zO B.nx p;obtain⟨c,hc⟩:∃c,bW B.nx p=c:=⟨_,rfl⟩
  rw[hc] at kj ⊢;obtain⟨C,c1⟩:∃C:b9,∀ms,C 165 ms=some ⟨[],fun v=>v=.agg c.c,none⟩:=⟨oK 165 (.agg c.c),fun _=>dG⟩
  have bn:(B.ae.map aa).length=B.ae.length:=aI _;have hq:(B.ae++[c]).map aa=B.ae.map aa++[c.c]:=a4;refine em (mB 55 [.cell 4 126,.tmp 5] Tryz.func82 ?_);repeat' first|(refine aC kr ?_)|((with_reducible refine aJ mixed ?chk C ?_);(case chk=>decide +kernel))|(with_reducible refine aF (c1 _) kj ?_)|(refine wM ?_;(first|(have _:=dt)|(have _:=du;intro dt)|(have _:=bj;intro du)|(have _:=az;intro bj)|(have _:=ao;intro az)|(have _:=ak;intro ao)|(have _:=ah;intro ak)|(intro ah));intros)|refine fx @Tryz.f82.eq_1 @ai @bn ?_|fail
  all_goals try(exfalso;omega)
  all_goals
   have n7:o≠dt:=bc;refine .step (aR.Cg dt o (oq:=.row 126 27 (B.ae.map aa++[c.c])) (t:=41) (e:=5) (m:=.vec 27 dt 0 (B.ae.length+1)) [.int .i64 B.sq,.int .i64 (B.nx+1)] [.aj 3 (B.dead.map ag) false,.aj 2 (B.gr.map an) false] (m1:=.aj 27 (B.ae.map aa++[c.c]) false) sS sS n7 (eh cj ax) rfl) (.of (et (σ1:=d0.set o (dO ⟨B.sq,B.nx+1,B.ae++[c],B.dead,B.gr⟩)) (d8 bt (by rw[aD,dO,BK.c,hq];rfl))) ⟨_,rfl,rfl,rfl⟩)
def iJ(g:Int)(W:BK)(x:Int×Int):BK:=⟨x.1,W.nx,W.ae,W.dead,rM W.gr g x.2⟩
def Jq(B:BK)(g:Int)(l:List (Int×Int)):BK:=l.foldl (iJ g) B
theorem xJ(g:Int):∀(l:List (Int×Int)) (B:BK) (x:Int×Int),eA B g (l++[x])=eA B g l++[iJ g (Jq B g l) x]
 |[],B,x=>rfl
 |y::l,B,x=>by rw[a6,eA,eA,xJ g l,a6];rfl
def Qd(g:Int)(l:List (Int×Int))(B:BK)(x:Int×Int):Jq B g (l++[x])=iJ g (Jq B g l) x:=by unfold Jq;rw[ca];rfl
theorem oE(g:Int):∀(l:List (Int×Int)) (B:BK),(eA B g l).length=l.length
 |[],_=>rfl
 |y::l,B=>by rw[eA,av,av,oE g l]
theorem lL:∀(s:Int) (l:List Int),(dF s l).length=l.length
 |_,[]=>rfl
 |s,i::l=>by rw[dF,av,av,lL]
theorem M4:∀(s:Int) (l:List Int) (x:Int×Int),x∈dF s l→s<x.1∧x.1≤s+(l.length:Int)∧x.2∈l
 |_,[],x,h=>by cases h
 |s,i::l,x,h=>by
  rw[dF] at h;rw[av];rcases bg.1 h with rfl|h
  ·exact⟨by simp only;omega,by simp only;omega,bi ..⟩
  ·have:=M4 (s+1) l x h;exact⟨oM,oM,a9 _ this.2.2⟩
def zY{B:BK}{x:ED}(hb:dx B):(dL B x).length=(dF B.sq (mb B x)).length:=by
 unfold dL;rcases jN hb x [] with⟨e1,e2,-⟩|⟨e1,i,e2,-⟩|⟨e1,e2,-⟩
 ·rw[if_pos e1,e2];rfl
 ·rw[if_neg (by simpa using e1),e2];rfl
 ·rw[if_neg (by simpa using e1),au,oE,List.length_dropLast,lL,e2];simp
def W0{W:BK}(hw:dx W){g:Int}(hg:0≤g∧g<16){x:Int×Int}(h1:W.sq≤x.1)(h2:x.1≤1099511627776):dx (iJ g W x):=by
 unfold iJ;refine hw.S9 h1 h2 ?_ ?_
 ·unfold rM;split
  ·rw[pR];exact hw.ua
  ·exact hw.ua
 ·unfold rM;split
  ·obtain⟨m1,m2⟩:=A7 hw g;exact FO hw hg ⟨Em m1,fun y hy=>m2 y (qQ.1 hy).1⟩
  ·exact hw.grs
theorem Xj{g:Int}(hg:0≤g∧g<16):∀(l:List Int) (s:Int) (W:BK),dx W→W.sq≤s→s+(l.length:Int)≤1099511627776→(∀n,dx (Jq W g ((dF s l).take n)))∧∀Z,Z∈eA W g (dF s l)→dx Z
 |[],s,W,hw,h1,h2=>⟨fun n=>by simpa[dF,Jq] using hw,fun Z hZ=>by cases hZ⟩
 |i::l,s,W,hw,h1,h2=>by
  rw[av] at h2;have hq:dx (iJ g W (s+1,i)):=W0 hw hg (by simp only;omega) (by simp only;omega);obtain⟨r1,r2⟩:=Xj hg l (s+1) (iJ g W (s+1,i)) hq (by show s+1≤s+1;omega) oM;rw[dF];refine⟨fun n=>?_,fun Z hZ=>?_⟩
  ·cases n with
   |zero=>exact hw
   |succ n=>rw[List.take_succ_cons];exact r1 n
  ·rw[eA] at hZ;rcases bg.1 hZ with rfl|hZ
   ·exact hq
   ·exact r2 Z hZ
theorem D3(s:Int):∀(l:List Int) (x:Int),(dF s (l++[x])).dropLast=dF s l
 |[],x=>rfl
 |i::l,x=>by rw[a6,dF,c0 (by cases l<;>simp[dF]),D3 (s+1) l x,dF]
def L8{B:BK}(hb:dx B){x:ED}(h0:iv B x=0):∃l,(dF B.sq (mb B x)).dropLast=dF B.sq l∧l.length+1=(mb B x).length∧(∀i,i∈l→1≤i∧i<1073741824)∧B.sq+(l.length:Int)≤1099511627776:=by
 have je:=(doW hb x).sq2;have hs:=QL B x;rcases jN hb x [] with⟨e1,-⟩|⟨e1,i,e2,-⟩|⟨e1,e2,e3,-⟩
 ·exact absurd h0 e1
 ·exact⟨[],by rw[e2];rfl,by rw[e2];rfl,fun i hi=>(by cases hi),(by have:=hb.sq2;simp only[cp];omega)⟩
 ·obtain⟨y,hy,-,hym,-⟩:=iF hb.ua e3;refine⟨bH B.gr x.gr,by rw[e2];exact D3 _ _ _,by rw[e2,au];rfl,fun i hi=>?_,?_⟩
  ·rw[hym] at hi;exact hb.mid y hy i hi
  ·rw[hs,e2,au] at je;simp only[a3] at je;omega
def L9{B:BK}{x:ED}(h0:iv B x=0):0≤x.gr∧x.gr<16:=by refine(bF ?_).2.2.1;refine ad fun he=>?_;unfold iv mc at h0;rw[if_pos he] at h0;exact he h0
def P5{B:BK}(hb:dx B){x:ED}:∀Z,Z∈dL B x→dx Z:=by
 unfold dL;by_cases h0:iv B x=0
 ·rw[if_neg (by simpa using h0)];obtain⟨l,h1,-,-,h4⟩:=L8 hb h0;intro Z hZ;rcases bb.1 hZ with hZ|hZ
  ·rw[h1] at hZ;exact(Xj (L9 h0) l B.sq B hb (Int.le_refl _) h4).2 Z hZ
  ·rw[a0] at hZ;subst hZ;exact doW hb x
 ·rw[if_pos h0];intro Z hZ;cases hZ
theorem AK(fl:List ND)(mk:UInt32):∀(S:List BK) (P:List (Int×Int)) (z:VS) (was n:BK) (p:Int×Int),S.length=P.length→k9 fl mk z was (S++[n]) (P++[p])=qC (S.getLastD was) n fl mk (k9 fl mk z was S P) p.1 p.2
 |[],[],z,was,n,p,_=>rfl
 |s::S,q::P,z,was,n,p,h=>by
  rw[a6,a6,k9,k9,AK fl mk S P _ s n p (by simpa using h)];cases S with
  |nil=>rfl
  |cons a b=>rfl
 |[],q::P,z,was,n,p,h=>by simp at h
 |s::S,[],z,was,n,p,h=>by simp at h
def P7{was now:BK}{fl:List ND}{mk:UInt32}{z:VS}(h:z.log.length≤40)(seq id:Int):(qC was now fl mk z seq id).log.length≤40:=by
 unfold qC;split
 ·exact h
 ·simp only;split
  ·exact h
  ·exact HY h
theorem Da{fl:List ND}{mk:UInt32}:∀(S:List BK) (P:List (Int×Int)) (z:VS) (was:BK),z.log.length≤40→(k9 fl mk z was S P).log.length≤40
 |[],_,z,was,h=>by unfold k9;exact h
 |s::S,[],z,was,h=>by unfold k9;exact h
 |s::S,p::P,z,was,h=>by rw[k9];exact Da S P _ s (P7 h _ _)
def FM(o:Nat){B:BK}(hb:dx B)(id:Int)(p:PA)(hp:bL p=0)(hw:(a8 B.ae B.dead id).2≠0∨1099511627776≤(a8 B.ae B.dead id).1.c9) :
  aA Tryz.prog 83 [.ptr o 0 1,.int .i64 id,.agg p.c] (d0.set o (dO B)) (fun v af=>v=.ar [.agg ig.c,.int .i64 (uj B.ae B.dead id)]∧af=d0.set o (dO B)):=by
 have kr:=gC p;rw[hp] at kr;have Zi:=hb.nc;have Zj:=hb.nd;have hg:=gM B.nx B.ae B.dead oM oM hb.qc id;unfold uj;obtain⟨⟨c,e⟩,od⟩:∃z,a8 B.ae B.dead id=z:=⟨_,rfl⟩
 rw[od] at hg hw ⊢;refine ei (Q':=fun v af=>v=.ar [.agg ig.c,.int .i64 (if e≠0 then e else 8)]∧(d0.set o (dO B)).le af) (mB 57 [.cell 6 126,.tmp 7] Tryz.func83 ?_) fun v af h=>⟨_,h.2,h.1,rfl⟩
 by_cases he:e=0
 ·subst he;have hv:=hw.resolve_left fun h=>h rfl;rw[if_neg br];simp only at hv hg;clear hw;repeat' first|(refine aC kr ?_)|(refine aC hg ?_)|(refine wO ?_;intros)|refine bu @Tryz.f83.eq_1 @ai ?_|fail
  all_goals try(exfalso;omega)
  all_goals exact⟨rfl,ea (ea (ea ba (by simp[d7,d0, *])) (by simp[d7,d0, *])) (by simp[d7,d0, *])⟩
 ·rw[if_pos he];simp only at hg;clear hw;repeat' first|(refine aC kr ?_)|(refine aC hg ?_)|(refine wO ?_;intros)|refine bu @Tryz.f83.eq_1 @ai ?_|fail
  all_goals try(exfalso;omega)
  all_goals exact⟨rfl,ea (ea (ea ba (by simp[d7,d0, *])) (by simp[d7,d0, *])) (by simp[d7,d0, *])⟩
def IY(o:Nat){B:BK}(hb:dx B)(id:Int)(p:PA)(hp:bL p=0){c:CA}(hc:a8 B.ae B.dead id=(c,0))(hv:c.c9<1099511627776) :
  aA Tryz.prog 83 [.ptr o 0 1,.int .i64 id,.agg p.c] (d0.set o (dO B)) (fun v af=>v=.ar [.agg (dI c p).c,.int .i64 0]∧af=d0.set o (dO ⟨B.sq,B.nx,vv B.ae id (dI c p),B.dead,B.gr⟩)):=by
 have kr:=gC p;rw[hp] at kr;have Zi:=hb.nc;have Zj:=hb.nd;have hg:=gM B.nx B.ae B.dead oM oM hb.qc id;have qh:=lK B.nx B.ae B.dead oM hb.qc id;have cm:=pJ (cs:=B.ae) (ds:=B.dead) (id:=id) (by rw[hc]);rw[hc] at hg cm;obtain⟨hm,hid⟩:=cm;simp only at hg hm hid;have zf:=(fZ (hb.B5 c hm).1).1;have ku:id∈B.ae.map ab:=a5.2 ⟨c,hm,hid⟩;have gw:vv B.ae id (dI c p)=B.ae.set (aT (B.ae.map ab) id) (dI c p):=vP (f:=ab) hb.qc ku _;obtain⟨y,hy,-⟩:=oL (f:=ab) hb.qc ku;have my:=(aN.1 hy).1;have ay:=bJ (f:=aa) hy;unfold Fp at qh;rw[if_pos ku] at qh;rw[gw];have hme:=rP c p oM oM;obtain⟨x,hx⟩:∃x,dI c p=x:=⟨_,rfl⟩
 rw[hx] at hme ⊢;obtain⟨i,hi⟩:∃i,aT (B.ae.map ab) id=i:=⟨_,rfl⟩
 rw[hi] at qh my ay ⊢;obtain⟨C,c1,c2⟩:=yn 168 ⟨[],fun v=>v=.int .i64 (i:Int),none⟩ 167 ⟨[],fun v=>v=.agg x.c,none⟩;have bn:(B.ae.map aa).length=B.ae.length:=aI _;have hq:(B.ae.set i x).map aa=(B.ae.map aa).set i x.c:=de;have hln:((B.ae.map aa).set i x.c).length=B.ae.length:=by rw[cS,bn]
 clear hy hi gw ku hm hid zf;refine em (mB 57 [.cell 6 126,.tmp 7] Tryz.func83 ?_);repeat' first|(refine aC kr ?_)|(refine aC hg ?_)|((with_reducible refine aJ mixed ?chk C ?_);(case chk=>decide +kernel))|(with_reducible refine aF (c1 _) qh ?_)|(with_reducible refine aF (c2 _) hme ?_)|(refine aC hme ?_)|(refine wM ?_;(first|(have _:=bj)|(have _:=az;intro bj)|(have _:=ao;intro az)|(have _:=ak;intro ao)|(have _:=ah;intro ak)|(intro ah));intros)|refine jf @Tryz.f83.eq_1 @ai @bn @ay ?_|fail
 all_goals try(exfalso;omega)
 all_goals
  have n5:o≠bj:=bc;refine .step (aR.Cg bj o (oq:=.row 126 27 ((B.ae.map aa).set i x.c)) (t:=41) (e:=5) (m:=.vec 27 bj 0 B.ae.length) [.int .i64 B.sq,.int .i64 B.nx] [.aj 3 (B.dead.map ag) false,.aj 2 (B.gr.map an) false] (m1:=.aj 27 ((B.ae.map aa).set i x.c) false) sS sS n5 (eh cj hln.symm) rfl) (.of (et (σ1:=d0.set o (dO ⟨B.sq,B.nx,B.ae.set i x,B.dead,B.gr⟩)) (d8 bt (by rw[aD,dO,BK.c,hq];rfl))) ⟨_,rfl,rfl,rfl⟩)
def aR.two{v:MV}{σ:St}{o q1 q2 n1 lo n2:Nat}{a b:Int}{G:MV}{t1 t2:TypeId}{xs ys zs:List (List MV)}(h0:σ o=some (.row 41 5 [[.int .i64 a,.int .i64 b,.vec 27 q1 0 n1,.vec 3 q2 lo n2,G]]))(h1:σ q1=some (.row t1 27 xs))(h2:σ q2=some (.row t2 3 ys))
 (hn:n1=xs.length)(hz:(ys.drop lo).take n2=zs)(hle:lo+n2≤ys.length)(e1:o≠q1)(e2:o≠q2)(e3:q1≠q2):aR ⟨1,[(0,v)],[]⟩ σ ⟨1,[(0,v)],[]⟩ (d0.set o (.row 41 5 [[.int .i64 a,.int .i64 b,.aj 27 xs false,.aj 3 zs false,G]])):=by
 refine(aR.Cg q1 o [.int .i64 a,.int .i64 b] [.vec 3 q2 lo n2,G] (m1:=.aj 27 xs false) h1 h0 e1 (eh cj hn) rfl).trans ((aR.Cg q2 o [.int .i64 a,.int .i64 b,.aj 27 xs false] [G] (m1:=.aj 3 zs false) (oq:=.row t2 3 ys) ?_ cj e2 ?_ rfl).trans (et (d8 bt cj)))
 ·rw[cn (dl e2)];simp[d9,dl e3,h2]
 ·rw[←hz];exact View.vec cj hle
def IH(o:Nat){B:BK}(hb:dx B)(id sq:Int)(he:(a8 B.ae B.dead id).2≠0) :
  aA Tryz.prog 84 [.ptr o 0 1,.int .i64 id,.int .i64 sq] (d0.set o (dO B)) (fun v af=>v=.int .i64 (a8 B.ae B.dead id).2∧af=d0.set o (dO B)):=by
 have Zi:=hb.nc;have Zj:=hb.nd;have hg:=gM B.nx B.ae B.dead oM oM hb.qc id;obtain⟨⟨c,e⟩,od⟩:∃z,a8 B.ae B.dead id=z:=⟨_,rfl⟩
 rw[od] at hg he ⊢;simp only at hg he;refine ei (Q':=fun v af=>v=.int .i64 e∧(d0.set o (dO B)).le af) (mB 99 [.tmp 6] Tryz.func84 ?_) fun v af h=>⟨_,h.2,h.1,rfl⟩
 repeat' first|(refine aC hg ?_)|(refine wO ?_;intros)|refine bu @Tryz.f84.eq_1 @ai ?_|fail
 all_goals try(exfalso;omega)
 all_goals exact ea ba (by simp[d7,d0, *])
def II(o:Nat){B:BK}(hb:dx B)(id:Int){c:CA}(hc:a8 B.ae B.dead id=(c,0))(h1:B.sq<1099511627776) :
  aA Tryz.prog 84 [.ptr o 0 1,.int .i64 id,.int .i64 (B.sq+1)] (d0.set o (dO B)) (fun v af=>v=.int .i64 0∧af=d0.set o (dO ⟨B.sq,B.nx,B.ae.filter (fun c=>!decide (c.id=id)),oR (B.dead++[⟨id,c.c9,B.sq+1⟩]),B.gr⟩)):=by
 have Zi:=hb.nc;have Zj:=hb.nd;have je:=hb.tj;have hg:=gM B.nx B.ae B.dead oM oM hb.qc id;have qh:=lK B.nx B.ae B.dead oM hb.qc id;have cm:=pJ (cs:=B.ae) (ds:=B.dead) (id:=id) (by rw[hc]);rw[hc] at hg cm;obtain⟨hm,hid⟩:=cm;simp only at hg hm hid;have ku:id∈B.ae.map ab:=a5.2 ⟨c,hm,hid⟩;have lh:B.ae.filter (fun c=>!decide (c.id=id))=_:=vO (f:=ab) hb.qc ku;obtain⟨y,hy,-⟩:=oL (f:=ab) hb.qc ku;have my:=(aN.1 hy).1;unfold Fp at qh;rw[if_pos ku] at qh;rw[lh];obtain⟨i,hi⟩:∃i,aT (B.ae.map ab) id=i:=⟨_,rfl⟩
 rw[hi] at qh my ⊢;have bn:(B.ae.map aa).length=B.ae.length:=aI _;have hdl:(B.dead.map ag).length=B.dead.length:=aI _;have ht:((B.ae.map aa).take i).length=i:=by rw[a1];omega
 have ZI:(B.ae.take i++B.ae.drop (i+1)).map aa=(B.ae.map aa).take i++(B.ae.map aa).drop (i+1):=ax;have vi:(B.dead++[(⟨id,c.c9,B.sq+1⟩:DE)]).map ag=B.dead.map ag++[[.int .i64 id,.int .i64 c.c9,.int .i64 (B.sq+1)]]:=a4;have tc:((B.ae.map aa).take i++(B.ae.map aa).drop (i+1)).length=i+(B.ae.length-(i+1)):=by rw[au,ht,bs,bn]
 have uy:B.dead.length=0∨0<B.dead.length∧∃d,((B.dead.map ag).getD (B.dead.length-1) []=ag d)∧d.sq≤B.sq:=by
  rcases Nat.eq_zero_or_pos B.dead.length with h|h
  ·exact .inl h
  ·obtain⟨d,xi⟩:=bX B.dead (show B.dead.length-1<B.dead.length by omega);exact .inr ⟨h,d,bJ xi,hb.dsq d (dJ xi)⟩
 have wv:((B.dead.length:Int)-1).toNat=B.dead.length-1:=oM;clear hy hi lh ku hm hid;refine em (mB 99 [.tmp 6] Tryz.func84 ?_);have uz:min i B.ae.length=i:=oM;have dv:B.dead.length+1≤40→oR (B.dead++[⟨id,c.c9,B.sq+1⟩])=B.dead++[⟨id,c.c9,B.sq+1⟩]:=fun h=>if_neg (by rw[au,a3];omega);have eu:∀D:List DE,(dO ⟨B.sq,B.nx,B.ae.take i++B.ae.drop (i+1),D,B.gr⟩)=.row 41 5 [[.int .i64 B.sq,.int .i64 B.nx,.aj 27 ((B.ae.take i++B.ae.drop (i+1)).map aa) false,.aj 3 (D.map ag) false,.aj 2 (B.gr.map an) false]]:=fun D=>rfl;rcases uy with hz|⟨vh,d,ay,hds⟩
 ·repeat' first|(refine aC hg ?_)|(refine aC qh ?_)|(refine wM ?_;(first|(have _:=rb)|(have _:=dt;intro rb)|(have _:=du;intro dt)|(have _:=bj;intro du)|(have _:=az;intro bj)|(have _:=ao;intro az)|(have _:=ak;intro ao)|(have _:=ah;intro ak)|(intro ah));intros)|refine wV ?_|refine xv @Tryz.f84.eq_1 @ai @bn @hdl @ht @hz ?_|fail
  all_goals try(exfalso;omega)
  all_goals
   have w1:o≠az:=bc;have w2:o≠rb:=bc;have w3:az≠rb:=bc;have w4:az≠dt:=bc;rw[dv oM,eu];refine .of (aR.two (q1:=az) (q2:=rb) (lo:=0) (n2:=1) (n1:=min i B.ae.length+(B.ae.length-(i+1))) (t1:=126) (t2:=197) (xs:=(B.ae.take i++B.ae.drop (i+1)).map aa) (ys:=(B.dead++[(⟨id,c.c9,B.sq+1⟩:DE)]).map ag) cj ?_ ?_ ?_ ?_ ?_ w1 w2 w3) ⟨_,rfl,rfl,rfl⟩
   ·rw[cn (dl w1),cn w3,cn w4,aD]
   ·rw[cn (dl w2),aD,vi]
   ·rw[ZI,tc,uz]
   ·rw[cf];exact co (by rw[aI,au,a3];omega)
   ·rw[aI,au,a3];omega
 ·repeat' first|(refine aC hg ?_)|(refine aC qh ?_)|(refine wM ?_;(first|(have _:=rb)|(have _:=dt;intro rb)|(have _:=du;intro dt)|(have _:=bj;intro du)|(have _:=az;intro bj)|(have _:=ao;intro az)|(have _:=ak;intro ao)|(have _:=ah;intro ak)|(intro ah));intros)|refine wV ?_|(refine wY ?_ ?_<;>intro h)|refine wh @Tryz.f84.eq_1 @ai @bn @hdl @ht @wv @ay ?_|fail
  all_goals try(exfalso;omega)
  all_goals
   have w1:o≠az:=bc;have w2:o≠rb:=bc;have w3:az≠rb:=bc;have w4:az≠dt:=bc
  ·have wa:B.dead.length=40:=oM;obtain⟨y,L',kr,hL',hw⟩:=vA (t:=(⟨id,c.c9,B.sq+1⟩:DE)) wa;rw[kr,eu];refine .of (aR.two (q1:=az) (q2:=rb) (lo:=1) (n2:=B.dead.length) (n1:=min i B.ae.length+(B.ae.length-(i+1))) (t1:=126) (t2:=197) (xs:=(B.ae.take i++B.ae.drop (i+1)).map aa) (ys:=(B.dead++[(⟨id,c.c9,B.sq+1⟩:DE)]).map ag) cj ?_ ?_ ?_ ?_ ?_ w1 w2 w3) ⟨_,rfl,rfl,rfl⟩
   ·rw[cn (dl w1),cn w3,cn w4,aD]
   ·rw[cn (dl w2),aD,vi]
   ·rw[ZI,tc,uz]
   ·have:=hw [];rw[cr] at this;rw[vi,wa];exact this
   ·rw[aI,au,a3];omega
  ·rw[dv oM,eu];refine .of (aR.two (q1:=az) (q2:=rb) (lo:=0) (n2:=B.dead.length+1) (n1:=min i B.ae.length+(B.ae.length-(i+1))) (t1:=126) (t2:=197) (xs:=(B.ae.take i++B.ae.drop (i+1)).map aa) (ys:=(B.dead++[(⟨id,c.c9,B.sq+1⟩:DE)]).map ag) cj ?_ ?_ ?_ ?_ ?_ w1 w2 w3) ⟨_,rfl,rfl,rfl⟩
   ·rw[cn (dl w1),cn w3,cn w4,aD]
   ·rw[cn (dl w2),aD,vi]
   ·rw[ZI,tc,uz]
   ·rw[cf];exact co (by rw[aI,au,a3];omega)
   ·rw[aI,au,a3];omega
def jH(o:Nat)(B:BK)(id:Int)(h0:0≤B.sq)(h1:B.sq≤1099511627776):aA Tryz.prog 88 [.ptr o 0 0,.aK,.int .i64 id] (d0.set o (dO B)) (fun v af=>v=.aj 2 (cR B.sq [id]) false∧af=d0.set o (dO { B with sq:=B.sq+1 })):=by
 refine aA.DY (mB 24 [.tmp 6] Tryz.func88 ?_);repeat' first|(refine wM ?_;(first|(have _:=ak)|(have _:=ah;intro ak)|(intro ah));intros)|refine bu @Tryz.f88.eq_1 @ai ?_|fail
 all_goals
  have n1:o≠ak:=bc;exact⟨d0.set ak (.row 73 2 [[.int .i64 (B.sq+1),.int .i64 id]]),d8 bt cj,d8 bt sS,fun k o hk=>(cn fun e=>by subst e;simp[d7,d0, *] at hk).trans rfl,eh cj rfl⟩
def zU{o q:Nat}(yw:o≠q)(B:BK)(id:Int)(h0:0≤B.sq)(h1:B.sq≤1099511627776)(xs:List (List MV))(n:Nat)(hn:xs.length=n)(tc:n≤1000000):aA Tryz.prog 88 [.ptr o 0 0,.vec 2 q 0 n,.int .i64 id] ((d0.set q (.row 73 2 xs)).set o (dO B))
  (fun v af=>∃q',o≠q'∧v=.vec 2 q' 0 (n+1)∧af=(d0.set q' (.row 73 2 (xs++[[.int .i64 (B.sq+1),.int .i64 id]]))).set o (dO { B with sq:=B.sq+1 })):=by
 refine ei (Q':=fun v af=>∃q',o≠q'∧v=.vec 2 q' 0 (n+1)∧((d0.set q' (.row 73 2 (xs++[[.int .i64 (B.sq+1),.int .i64 id]]))).set o (dO { B with sq:=B.sq+1 })).le af) (mB 24 [.tmp 6] Tryz.func88 ?_) fun v af ⟨q',h1,h2,h3⟩=>⟨_,h3,q',h1,h2,rfl⟩
 have hqo:=dl yw;repeat' first|(refine wM ?_;(first|(have _:=ak)|(have _:=ah;intro ak)|(intro ah));intros)|refine fx @Tryz.f88.eq_1 @ai @hn ?_|fail
 all_goals
  have n1:o≠ak:=bc;exact⟨ak,n1,rfl,d8 (d8 bt cj) sS⟩
def Av{P:Program}{g:FuncId}{ms:List MV}{σ:St}{o q:Nat}(yw:o≠q){oq oo on oo':aY}{u:Nat→MV}{k:MV→St→Prop}(hq:σ q=some oq)(ho:σ o=some oo)(h:aA P g ms ((d0.set q oq).set o oo) fun v af=>∃q',o≠q'∧v=u q'∧af=(d0.set q' on).set o oo')
 (hk:∀q',o≠q'→(σ.del q) q'=none→R (cD (u q') (((σ.del q).set q' on).set o oo') k)):R (dR P g ms σ k) :=
 bU h (d8 (d8 bt hq) ho) fun r af hv hf=>by
  obtain⟨q',h1,rfl,rfl⟩:=hv;have e:((d0.set q' on).set o oo').over (σ.minus ((d0.set q oq).set o oo))=((σ.del q).set q' on).set o oo':=by
   rw[bS,bS,dS];funext j;by_cases j1:j=o
   ·subst j1;simp[d7]
   ·by_cases j2:j=q'
    ·subst j2;simp[d7,j1]
    ·by_cases j3:j=q
     ·subst j3;simp[d7,eb,d9,j1,j2]
     ·simp[d7,eb,d0,d9,j1,j2,j3]
  rw[e];refine hk q' h1 ?_;by_cases j3:q'=q
  ·simp[d9,j3]
  ·rcases hf q' on (by simp[d7,dl h1]) with h|⟨o',h⟩
   ·simp[d9,j3,h]
   ·simp[d7,d0,j3,dl h1] at h
def FC(o:Nat){B:BK}(hb:dx B)(g:Int)(h3:0≤g)(h4:g<16)(hg:g∉B.gr.map am):aA Tryz.prog 86 [.ptr o 0 0,.int .i64 g] (d0.set o (dO B)) (fun v af=>v=.ar [.aK,.int .i64 6]∧af=d0.set o (dO B)):=by
 have hng:=hb.ng;have hm:=kW B.gr oM hb.ua g false;have hc:=nZ B.gr oM hb.ua g h3 h4 false;rw[if_neg hg] at hm hc;refine ei (Q':=fun v af=>v=.ar [.aK,.int .i64 6]∧(d0.set o (dO B)).le af) (mB 50 [.tmp 4,.tmp 5] Tryz.func86 ?_) fun v af h=>⟨_,h.2,h.1,rfl⟩
 repeat' first|(refine aC hm ?_)|(refine aC hc ?_)|refine bu @Tryz.f86.eq_1 @ai ?_|fail
 all_goals exact ba
def FD(o:Nat){B:BK}(hb:dx B)(g:Int)(h3:0≤g)(h4:g<16)(hg:g∈B.gr.map am)(hs:B.sq≤1099511627676):aA Tryz.prog 86 [.ptr o 0 0,.int .i64 g] (d0.set o (dO B))
  (fun v af=>v=.ar [.aj 2 (cR B.sq (bH B.gr g++[0])) false,.int .i64 0]∧af=d0.set o (dO ⟨B.sq+(bH B.gr g++[0]).length,B.nx,B.ae,B.dead,k8 B.gr g⟩)):=by
 have hng:=hb.ng;have je:=hb.tj;have hm:=kW B.gr oM hb.ua g false;have hc:=nZ B.gr oM hb.ua g h3 h4 false;rw[if_pos hg] at hm hc;have hMl:=mW hb g;obtain⟨M,hM⟩:∃M,bH B.gr g=M:=⟨_,rfl⟩
 rw[hM] at hm hMl ⊢;obtain⟨R,hR⟩:∃R,(k8 B.gr g).map an=R:=⟨_,rfl⟩
 rw[hR] at hc;have eu:dO ⟨B.sq+(M++[0]).length,B.nx,B.ae,B.dead,k8 B.gr g⟩=.row 41 5 [[.int .i64 (B.sq+(M++[0]).length),.int .i64 B.nx,.aj 27 (B.ae.map aa) false,.aj 3 (B.dead.map ag) false,.aj 2 R false]]:=by rw[←hR]
 rw[eu];have bn:(M.map aU).length=M.length:=aI _;refine em (mB 50 [.tmp 4,.tmp 5] Tryz.func86 ?_);repeat' first|(refine aC hm ?_)|(refine aC hc ?_)|(refine wM ?_;(first|(have _:=ah)|(intro ah));intros)|refine bu @Tryz.f86.eq_1 @ai ?_|fail
 refine aG (α:=Nat×Nat) (fun z=>⟨50,[(10,.int .i64 (z.1:Int)),(9,.vec 2 z.2 0 z.1),(7,.aj 2 R false),(6,.aj 1 (M.map aU) false),(0,.ptr o 0 0)],[]⟩)
  (fun z=>(d0.set z.2 (.row 73 2 (cR B.sq (M.take z.1)))).set o (dO { B with sq:=B.sq+z.1 })) (fun z=>z.1≤M.length∧o≠z.2) (fun z=>M.length-z.1) (.of (.less ?_ ?_) ⟨(0,ah),rfl,rfl,⟨dj _,bc⟩⟩) ?_
 ·exact wW
 ·have n1:o≠ah:=bc;refine d8 (d8 bt ?_) ?_
  ·simp[d7, *];rfl
  ·simp[d7, *]
 ·rintro⟨i,q⟩ ⟨hi,yw⟩;simp only at hi yw ⊢;have hqo:=dl yw;have jv:(cR B.sq (M.take i)).length=i:=by rw[mN,a1];omega
  by_cases bh:i<M.length
  ·obtain⟨x,hx⟩:=bX M bh;have ay:=bJ (f:=aU) hx;have cc:=mF B.sq (M.take i) x;rw[←aW hx,a1,show min i M.length=i by omega] at cc;obtain⟨X,hX⟩:∃X,cR B.sq (M.take i)=X:=⟨_,rfl⟩
   rw[hX] at jv cc ⊢;have dg:=zU yw { B with sq:=B.sq+i } x (by simp only;omega) (by simp only;omega) X i jv oM;simp only[dO] at dg ⊢;repeat' first|refine bu @ay @bn ?_|fail
   all_goals try(exfalso;omega)
   refine Av yw (by simp[d7, *];done) cj dg fun q' h1 h2=>?_;have h1':=dl h1;repeat' first|refine ed ?_|fail
   refine .of (.less ?_ ?_) ⟨(i+1,q'),rfl,rfl,⟨by simp only;omega,h1⟩,by simp only;omega⟩
   ·exact wW
   ·simp only[cc];refine d8 (d8 bt ?_) ?_
    ·simp[d7, *]
    ·have:B.sq+((i+1:Nat):Int)=B.sq+(i:Int)+1:=oM;rw[this];simp[d7, *]
  ·have:i=M.length:=oM;subst this;rw[bp] at jv ⊢;have cc:=mF B.sq M 0;have hn:(M++[0]).length=M.length+1:=ax;have Zx:=mN B.sq (M++[0]);rw[hn] at Zx;obtain⟨X,hX⟩:∃X,cR B.sq M=X:=⟨_,rfl⟩
   obtain⟨Y,hY⟩:∃Y,cR B.sq (M++[0])=Y:=⟨_,rfl⟩
   rw[hX] at jv cc ⊢;rw[hY] at cc Zx ⊢;have dg:=zU yw ⟨B.sq+M.length,B.nx,B.ae,B.dead,k8 B.gr g⟩ 0 (by simp only;omega) (by simp only;omega) X M.length jv oM;simp only[dO,BK.c,hR,←cc] at dg ⊢;repeat' first|refine aw @bn ?_|fail
   all_goals try(exfalso;omega)
   refine Av yw (by simp[d7, *];done) cj dg fun q' h1 h2=>?_;have h1':=dl h1;repeat' first|refine ed ?_|fail
   have hsq2:B.sq+((M.length+1:Nat):Int)=B.sq+(M.length:Int)+1:=oM;rw[hsq2];refine .of (eo (l1:=[(0,.ar [.aj 2 Y false,.int .i64 0])]) (d0.set q' (.row 73 2 Y)) (d8 bt sS) (d8 bt sS) (fun k o2 hk=>(cn fun e=>by subst e;simp[d7,d0, *] at hk).trans rfl) (fun p hp=>?_)) ⟨_,rfl,rfl,rfl⟩;simp only[a0] at hp;subst hp;exact dH (eh cj Zx.symm)
def zb(o:Nat)(B:BK)(x:ED)(v:MV)(af:St):Prop:=v=.ar [lp B x,.int .i64 (iv B x)]∧af=d0.set o (dO (fw B x))
def Aa(o:Nat)(B:BK)(x:ED)(v:MV)(af:St):Prop:=v=.ar [lp B x,.int .i64 (iv B x)]∧(d0.set o (dO (fw B x))).le af
def jO{P:Program}{g:FuncId}{ms:List MV}{σ:St}{o:Nat}{B:BK}{x:ED}(h:aA P g ms σ (Aa o B x)):aA P g ms σ (zb o B x):=h.less fun v af ⟨h1,h2⟩=>⟨_,h2,h1,rfl⟩
def fO{B:BK}{x:ED}{e:Int}(he:e≠0)(h:mc B x=(e,B,[])):lp B x=.aK∧iv B x=e∧fw B x=B:=by
 have h1:iv B x=e:=by unfold iv;rw[h]
 exact⟨by unfold lp;rw[h1,if_neg he],h1,mP h⟩
def nO{B B':BK}{x:ED}{ids:List Int}(h:mc B x=(0,B',ids)){n:Int}(hn:n=ids.length):lp B x=.aj 2 (cR B.sq ids) false∧iv B x=0∧fw B x=⟨B.sq+n,B'.nx,B'.ae,B'.dead,B'.gr⟩:=by
 have h1:iv B x=0:=by unfold iv;rw[h]
 exact⟨by unfold lp mb;rw[h1,if_pos rfl,h],h1,by unfold fw;rw[h,hn]⟩
def Tc(o:Nat){B:BK}(hb:dx B)(p:PA)(id gr:Int)(he:aQ ⟨4,id,gr,p⟩=0)(hs:B.sq≤1099511627676):aA Tryz.prog 87 [.ptr o 0 0,.agg (al 4 id gr p).c] (d0.set o (dO B)) (zb o B ⟨4,id,gr,p⟩):=by
 have hd:=iS he hs;obtain⟨g1,g2⟩:=(bF he).2.2.1;obtain rfl:id=0:=(sC he).2 rfl;rw[if_neg ax,if_neg ax,if_neg ax,if_pos rfl] at hd;simp only at hd g1 g2;have je:=hb.tj;have hng:=hb.ng;have ho:=BF B.gr oM hb.ua gr g1 g2 false;refine jO ?_;unfold Aa;by_cases hg:gr∈B.gr.map am
 ·simp only[if_pos hg] at hd ho;obtain⟨q1,q2,q3⟩:=fO br hd;rw[q1,q2,q3];obtain⟨C,c1⟩:∃C:b9,∀ms,C 171 ms=some ⟨[],fun v=>v=.ar [.aK,.int .i64 7],none⟩:=⟨oK 171 (.ar [.aK,.int .i64 7]),fun _=>dG⟩
  refine(mB 75 [.tmp 4,.tmp 5] Tryz.func87 ?_);repeat' first|((with_reducible refine aJ mixed ?chk C ?_);(case chk=>decide +kernel))|(with_reducible refine aF (c1 _) ho ?_)|(refine wO ?_;intros)|refine bu @Tryz.f87.eq_1 @ai ?_|fail
  all_goals try(exfalso;omega)
  all_goals exact ea ba (by simp[d7,d0, *])
 ·simp only[if_neg hg] at hd ho;obtain⟨q1,q2,q3⟩:=nO hd (n:=1) rfl;rw[q1,q2,q3];obtain⟨R,hR⟩:∃R,(uB B.gr gr).map an=R:=⟨_,rfl⟩
  rw[hR] at ho;have dg:=jH o ⟨B.sq,B.nx,B.ae,B.dead,uB B.gr gr⟩ 0 je (by simp only;omega);simp only[dO,BK.c,hR] at dg ⊢;obtain⟨C,c1⟩:∃C:b9,∀ms,C 171 ms=some ⟨[],fun v=>v=.ar [.aj 2 R false,.int .i64 0],none⟩:=⟨oK 171 (.ar [.aj 2 R false,.int .i64 0]),fun _=>dG⟩
  generalize cR B.sq [0]=Z at dg ⊢;clear hd q1 q2 q3;refine(mB 75 [.tmp 4,.tmp 5] Tryz.func87 ?_);repeat' first|((with_reducible refine aJ mixed ?chk C ?_);(case chk=>decide +kernel))|(with_reducible refine aF (c1 _) ho ?_)|(refine wO ?_;intros)|refine bu @Tryz.f87.eq_1 @ai ?_|fail
  all_goals try(exfalso;omega)
  refine cB (by simp[d7, *];done) dg ?_;repeat' first|refine ed ?_|fail
  all_goals exact d8 bt sS
def Te(o:Nat){B:BK}(hb:dx B)(p:PA)(id gr:Int)(he:aQ ⟨7,id,gr,p⟩=0)(hs:B.sq≤1099511627676):aA Tryz.prog 87 [.ptr o 0 0,.agg (al 7 id gr p).c] (d0.set o (dO B)) (zb o B ⟨7,id,gr,p⟩):=by
 have hd:=iS he hs;obtain⟨g1,g2⟩:=(bF he).2.2.1;obtain⟨i1,i2⟩:=(bF he).2.2.2.1 rfl;rw[if_neg ax,if_neg ax,if_neg ax,if_neg ax,if_neg ax,if_neg ax] at hd;simp only at hd g1 g2 i1 i2;have je:=hb.tj;have ho:=uK B.gr hb.se gr id g1 g2 i1 i2 false;refine jO ?_;unfold Aa;by_cases hg:gr∈B.gr.map am∧id∈bH B.gr gr
 rotate_left
 ·have hd:mc B ⟨7,id,gr,p⟩=(6,B,[]):=by
   rw[hd];by_cases h1:gr∈B.gr.map am
   ·rw[if_neg (fun h=>h h1),if_pos fun h2=>hg ⟨h1,h2⟩]
   ·rw[if_pos h1]
  have ho:aA Tryz.prog 80 [.aj 2 (B.gr.map an) false,.int .i64 gr,.int .i64 id] d0 (fun r _=>r=.ar [.aK,.int .i64 6]):=by
   by_cases h1:gr∈B.gr.map am
   ·simp only[if_pos h1,if_neg fun h2=>hg ⟨h1,h2⟩] at ho;exact ho
   ·simp only[if_neg h1] at ho;exact ho
  obtain⟨q1,q2,q3⟩:=fO br hd;rw[q1,q2,q3];obtain⟨C,c1⟩:∃C:b9,∀ms,C 80 ms=some ⟨[],fun v=>v=.ar [.aK,.int .i64 6],none⟩:=⟨oK 80 (.ar [.aK,.int .i64 6]),fun _=>dG⟩
  clear hg;refine(mB 75 [.tmp 4,.tmp 5] Tryz.func87 ?_);repeat' first|((with_reducible refine aJ mixed ?chk C ?_);(case chk=>decide +kernel))|(with_reducible refine aF (c1 _) ho ?_)|(refine wO ?_;intros)|refine bu @Tryz.f87.eq_1 @ai ?_|fail
  all_goals try(exfalso;omega)
  all_goals exact ea ba (by simp[d7,d0, *])
 ·rw[if_neg (fun h=>h hg.1),if_neg (fun h=>h hg.2)] at hd;simp only[if_pos hg.1,if_pos hg.2] at ho;obtain⟨q1,q2,q3⟩:=nO hd (n:=1) rfl;rw[q1,q2,q3];obtain⟨R,hR⟩:∃R,(fD B.gr gr (dQ (bH B.gr gr) id)).map an=R:=⟨_,rfl⟩
  rw[hR] at ho;have dg:=jH o ⟨B.sq,B.nx,B.ae,B.dead,fD B.gr gr (dQ (bH B.gr gr) id)⟩ id je (by simp only;omega);simp only[dO,BK.c,hR] at dg ⊢;obtain⟨C,c1⟩:∃C:b9,∀ms,C 80 ms=some ⟨[],fun v=>v=.ar [.aj 2 R false,.int .i64 0],none⟩:=⟨oK 80 (.ar [.aj 2 R false,.int .i64 0]),fun _=>dG⟩
  generalize cR B.sq [id]=Z at dg ⊢;clear hd q1 q2 q3 hg;refine(mB 75 [.tmp 4,.tmp 5] Tryz.func87 ?_);repeat' first|((with_reducible refine aJ mixed ?chk C ?_);(case chk=>decide +kernel))|(with_reducible refine aF (c1 _) ho ?_)|(refine wO ?_;intros)|refine bu @Tryz.f87.eq_1 @ai ?_|fail
  all_goals try(exfalso;omega)
  refine cB (by simp[d7, *];done) dg ?_;repeat' first|refine ed ?_|fail
  all_goals exact d8 bt sS
def Td(o:Nat){B:BK}(hb:dx B)(p:PA)(id gr:Int)(he:aQ ⟨6,id,gr,p⟩=0)(hs:B.sq≤1099511627676):aA Tryz.prog 87 [.ptr o 0 0,.agg (al 6 id gr p).c] (d0.set o (dO B)) (zb o B ⟨6,id,gr,p⟩):=by
 have hd:=iS he hs;obtain⟨g1,g2⟩:=(bF he).2.2.1;obtain⟨i1,i2⟩:=(bF he).2.2.2.1 rfl;rw[if_neg ax,if_neg ax,if_neg ax,if_neg ax,if_neg ax,if_pos rfl] at hd;simp only at hd g1 g2 i1 i2;have je:=hb.tj;have Zi:=hb.nc;have Zj:=hb.nd;have ho:=wU B.gr hb.se gr id g1 g2 i1 i2 false;have nq:=gM B.nx B.ae B.dead oM oM hb.qc id;refine jO ?_;unfold Aa;by_cases h1:(a8 B.ae B.dead id).2≠0
 ·rw[if_pos h1] at hd;obtain⟨q1,q2,q3⟩:=fO h1 hd;rw[q1,q2,q3];obtain⟨⟨c,e⟩,od⟩:∃z,a8 B.ae B.dead id=z:=⟨_,rfl⟩
  rw[od] at nq h1 ⊢;simp only at nq h1 ⊢;obtain⟨C,c1⟩:∃C:b9,∀ms,C 166 ms=some ⟨[],fun v=>v=.ar [.agg c.c,.int .i64 e],none⟩:=⟨oK 166 (.ar [.agg c.c,.int .i64 e]),fun _=>dG⟩
  clear hd q1 q2 q3 od;refine(mB 75 [.tmp 4,.tmp 5] Tryz.func87 ?_);repeat' first|((with_reducible refine aJ mixed ?chk C ?_);(case chk=>decide +kernel))|(with_reducible refine aF (c1 _) nq ?_)|(refine wO ?_;intros)|refine bu @Tryz.f87.eq_1 @ai ?_|fail
  all_goals try(exfalso;omega)
  all_goals exact ea ba (by simp[d7,d0, *])
 ·rw[if_neg h1] at hd;have h1:=ac.1 h1;obtain⟨⟨c,e⟩,od⟩:∃z,a8 B.ae B.dead id=z:=⟨_,rfl⟩
  rw[od] at nq h1;simp only at nq h1;subst h1;by_cases hg:gr∈B.gr.map am∧id∉bH B.gr gr
  rotate_left
  ·obtain⟨e,he0,hd,ho⟩:∃e:Int,e≠0∧mc B ⟨6,id,gr,p⟩=(e,B,[])∧aA Tryz.prog 172 [.aj 2 (B.gr.map an) false,.int .i64 gr,.int .i64 id] d0 (fun r _=>r=.ar [.aK,.int .i64 e]):=by
    rw[hd];by_cases h1:gr∈B.gr.map am
    ·have h2:id∈bH B.gr gr:=ad fun h2=>hg ⟨h1,h2⟩;simp only[if_pos h1,if_pos h2] at ho;exact⟨7,br,by rw[if_neg (fun h=>h h1),if_pos h2],ho⟩
    ·simp only[if_neg h1] at ho;exact⟨6,br,by rw[if_pos h1],ho⟩
   obtain⟨q1,q2,q3⟩:=fO he0 hd;rw[q1,q2,q3];obtain⟨C,c1,c2⟩:=yn 172 ⟨[],fun v=>v=.ar [.aK,.int .i64 e],none⟩ 166 ⟨[],fun v=>v=.ar [.agg c.c,.int .i64 0],none⟩;clear hg hd q1 q2 q3 od;refine(mB 75 [.tmp 4,.tmp 5] Tryz.func87 ?_);repeat' first|((with_reducible refine aJ mixed ?chk C ?_);(case chk=>decide +kernel))|(with_reducible refine aF (c1 _) ho ?_)|(with_reducible refine aF (c2 _) nq ?_)|(refine wO ?_;intros)|refine bu @Tryz.f87.eq_1 @ai ?_|fail
   all_goals try(exfalso;omega)
   all_goals exact ea ba (by simp[d7,d0, *])
  ·rw[if_neg (fun h=>h hg.1),if_neg hg.2] at hd;simp only[if_pos hg.1,if_neg hg.2] at ho;obtain⟨q1,q2,q3⟩:=nO hd (n:=1) rfl;rw[q1,q2,q3];obtain⟨R,hR⟩:∃R,(fD B.gr gr (iA (bH B.gr gr) id)).map an=R:=⟨_,rfl⟩
   rw[hR] at ho;have dg:=jH o ⟨B.sq,B.nx,B.ae,B.dead,fD B.gr gr (iA (bH B.gr gr) id)⟩ id je (by simp only;omega);simp only[dO,BK.c,hR] at dg ⊢;obtain⟨C,c1,c2⟩:=yn 172 ⟨[],fun v=>v=.ar [.aj 2 R false,.int .i64 0],none⟩ 166 ⟨[],fun v=>v=.ar [.agg c.c,.int .i64 0],none⟩;generalize cR B.sq [id]=Z at dg ⊢;clear hd q1 q2 q3 hg od;refine(mB 75 [.tmp 4,.tmp 5] Tryz.func87 ?_);repeat' first|((with_reducible refine aJ mixed ?chk C ?_);(case chk=>decide +kernel))|(with_reducible refine aF (c1 _) ho ?_)|(with_reducible refine aF (c2 _) nq ?_)|(refine wO ?_;intros)|refine bu @Tryz.f87.eq_1 @ai ?_|fail
   all_goals try(exfalso;omega)
   refine cB (by simp[d7, *];done) dg ?_;repeat' first|refine ed ?_|fail
   all_goals exact d8 bt sS
def Pv(o:Nat){B:BK}(x:ED)(he:aQ x≠0∨1099511627676<B.sq):aA Tryz.prog 20 [.ptr o 0 0,.agg x.c] (d0.set o (dO B)) (zb o B x):=by
 refine jO ?_;unfold Aa;have er:=cC x;by_cases h1:aQ x=0
 ·have h2:=he.resolve_left fun h=>h h1;have hd:mc B x=(8,B,[]):=by unfold mc;rw[if_neg (by simpa using h1),if_pos h2]
  obtain⟨q1,q2,q3⟩:=fO br hd;rw[q1,q2,q3];rw[h1] at er;clear he hd q1 q2 q3;refine(mB 92 [.tmp 4,.tmp 5] Tryz.func20 ?_);repeat' first|(refine aC er ?_)|(refine wO ?_;intros)|refine bu @Tryz.f20.eq_1 @ai ?_|fail
  all_goals try(exfalso;omega)
  all_goals exact ea ba (by simp[d7,d0, *])
 ·have hd:mc B x=(aQ x,B,[]):=by unfold mc;rw[if_pos h1]
  obtain⟨q1,q2,q3⟩:=fO h1 hd;rw[q1,q2,q3];obtain⟨e,uv⟩:∃e,aQ x=e:=⟨_,rfl⟩
  rw[uv] at er h1 ⊢;clear he hd q1 q2 q3;refine(mB 92 [.tmp 4,.tmp 5] Tryz.func20 ?_);repeat' first|(refine aC er ?_)|(refine wO ?_;intros)|refine bu @Tryz.f20.eq_1 @ai ?_|fail
  all_goals try(exfalso;omega)
  all_goals exact ea ba (by simp[d7,d0, *])
def Tg(o:Nat){B:BK}(hb:dx B)(p:PA)(id gr:Int)(he:aQ ⟨1,id,gr,p⟩=0)(hs:B.sq≤1099511627676):aA Tryz.prog 20 [.ptr o 0 0,.agg (al 1 id gr p).c] (d0.set o (dO B)) (zb o B ⟨1,id,gr,p⟩):=by
 have er:=cC ⟨1,id,gr,p⟩;rw[he] at er;have hd:=iS he hs;have hp:=(bF he).2.2.2.2 rfl;simp only[if_pos] at hd;have je:=hb.tj;have Zi:=hb.nc;have yv:=hb.nx1;have ha:=Pt o B oM p hp oM hb.nx2;refine jO ?_;unfold Aa;by_cases hf:48≤B.ae.length∨1073741824≤B.nx
 ·rw[if_pos hf] at hd;simp only[if_pos hf] at ha;obtain⟨q1,q2,q3⟩:=fO br hd;rw[q1,q2,q3];obtain⟨K,hK,c1⟩:∃K:b9,pq (.dz [82]) K∧∀ms,K 82 ms=some ⟨[o],fun _=>True,some ([dO B],fun _=>.ar [.agg ig.c,.int .i64 8])⟩ :=
   ⟨nu [(82,⟨[o],fun _=>True,some ([dO B],fun _=>.ar [.agg ig.c,.int .i64 8])⟩)],gZ,fun _=>cH⟩
  clear hd q1 q2 q3 hf he;refine(mB 92 [.tmp 4,.tmp 5] Tryz.func20 ?_);repeat' first|(refine aC er ?_)|(refine bP mixed [82] dK K hK ?_)|(refine cZ (o:=dO B) (c1 _) sS ha ?_)|(refine wO ?_;intros)|refine bu @Tryz.f20.eq_1 @ai ?_|fail
  all_goals try(exfalso;omega)
  exact ea (ea ba (by simp[d7,d0, *])) (by simp[d7,d0, *])
 ·rw[if_neg hf] at hd;simp only[if_neg hf] at ha;obtain⟨q1,q2,q3⟩:=nO hd (n:=1) rfl;rw[q1,q2,q3];have zf:(bW B.nx p).id=B.nx:=rfl;have dg:=jH o ⟨B.sq,B.nx+1,B.ae++[bW B.nx p],B.dead,B.gr⟩ B.nx je (by simp only;omega);obtain⟨c,hc⟩:∃c,bW B.nx p=c:=⟨_,rfl⟩
  rw[hc] at ha dg zf ⊢;obtain⟨X,hX⟩:∃X,B.ae++[c]=X:=⟨_,rfl⟩
  rw[hX] at ha dg ⊢;obtain⟨K,hK,c1⟩:∃K:b9,pq (.dz [82]) K∧∀ms,K 82 ms=some ⟨[o],fun _=>True,some ([dO ⟨B.sq,B.nx+1,X,B.dead,B.gr⟩],fun _=>.ar [.agg c.c,.int .i64 0])⟩ :=
   ⟨nu [(82,⟨[o],fun _=>True,some ([dO ⟨B.sq,B.nx+1,X,B.dead,B.gr⟩],fun _=>.ar [.agg c.c,.int .i64 0])⟩)],gZ,fun _=>cH⟩
  clear hd q1 q2 q3 hf he;generalize cR B.sq [B.nx]=Z at dg ⊢;refine(mB 92 [.tmp 4,.tmp 5] Tryz.func20 ?_);repeat' first|(refine aC er ?_)|(refine bP mixed [82] dK K hK ?_)|(refine cZ (o:=dO B) (c1 _) sS ha ?_)|(refine wO ?_;intros)|refine fx @Tryz.f20.eq_1 @ai @zf ?_|fail
  all_goals try(exfalso;omega)
  refine cB (by simp[d7, *];done) dg ?_;repeat' first|refine ed ?_|fail
  exact d8 bt sS
def Th(o:Nat){B:BK}(hb:dx B)(p:PA)(id gr:Int)(he:aQ ⟨2,id,gr,p⟩=0)(hs:B.sq≤1099511627676):aA Tryz.prog 20 [.ptr o 0 0,.agg (al 2 id gr p).c] (d0.set o (dO B)) (zb o B ⟨2,id,gr,p⟩):=by
 have er:=cC ⟨2,id,gr,p⟩;rw[he] at er;have hd:=iS he hs;have hp:=(bF he).2.2.2.2 rfl;rw[if_neg ax,if_pos rfl] at hd;simp only at hd;have je:=hb.tj;refine jO ?_;unfold Aa;by_cases hw:(a8 B.ae B.dead id).2≠0∨1099511627776≤(a8 B.ae B.dead id).1.c9
 ·have ha:=FM o hb id p hp hw;have hd:mc B ⟨2,id,gr,p⟩=(uj B.ae B.dead id,B,[]):=by
   rw[hd];unfold uj;by_cases h1:(a8 B.ae B.dead id).2≠0
   ·rw[if_pos h1,if_pos h1]
   ·rw[if_neg h1,if_neg h1,if_pos (hw.resolve_left h1)]
  have he0:uj B.ae B.dead id≠0:=by
   unfold uj;split
   ·assumption
   ·decide
  obtain⟨q1,q2,q3⟩:=fO he0 hd;rw[q1,q2,q3];obtain⟨e,uv⟩:∃e,uj B.ae B.dead id=e:=⟨_,rfl⟩
  rw[uv] at ha he0 ⊢;obtain⟨K,hK,c1⟩:∃K:b9,pq (.dz [83]) K∧∀ms,K 83 ms=some ⟨[o],fun _=>True,some ([dO B],fun _=>.ar [.agg ig.c,.int .i64 e])⟩ :=
   ⟨nu [(83,⟨[o],fun _=>True,some ([dO B],fun _=>.ar [.agg ig.c,.int .i64 e])⟩)],gZ,fun _=>cH⟩
  clear hd q1 q2 q3 hw he uv;refine(mB 92 [.tmp 4,.tmp 5] Tryz.func20 ?_);repeat' first|(refine aC er ?_)|(refine bP mixed [83] dK K hK ?_)|(refine cZ (o:=dO B) (c1 _) sS ha ?_)|(refine wO ?_;intros)|refine bu @Tryz.f20.eq_1 @ai ?_|fail
  all_goals try(exfalso;omega)
  exact ea (ea ba (by simp[d7,d0, *])) (by simp[d7,d0, *])
 ·have h1:¬(a8 B.ae B.dead id).2≠0:=fun h=>hw (.inl h);have h2:¬1099511627776≤(a8 B.ae B.dead id).1.c9:=fun h=>hw (.inr h);rw[if_neg h1,if_neg h2] at hd;have hc:a8 B.ae B.dead id=((a8 B.ae B.dead id).1,0):=Prod.ext rfl (ac.1 h1);have ha:=IY o hb id p hp hc oM;obtain⟨q1,q2,q3⟩:=nO hd (n:=1) rfl;rw[q1,q2,q3];simp only;obtain⟨c,hcc⟩:∃c,dI (a8 B.ae B.dead id).1 p=c:=⟨_,rfl⟩
  rw[hcc] at ha ⊢;obtain⟨X,hX⟩:∃X,vv B.ae id c=X:=⟨_,rfl⟩
  rw[hX] at ha ⊢;have dg:=jH o ⟨B.sq,B.nx,X,B.dead,B.gr⟩ id je (by simp only;omega);obtain⟨K,hK,c1⟩:∃K:b9,pq (.dz [83]) K∧∀ms,K 83 ms=some ⟨[o],fun _=>True,some ([dO ⟨B.sq,B.nx,X,B.dead,B.gr⟩],fun _=>.ar [.agg c.c,.int .i64 0])⟩ :=
   ⟨nu [(83,⟨[o],fun _=>True,some ([dO ⟨B.sq,B.nx,X,B.dead,B.gr⟩],fun _=>.ar [.agg c.c,.int .i64 0])⟩)],gZ,fun _=>cH⟩
  clear hd q1 q2 q3 hw he h1 h2 hc hcc hX;generalize cR B.sq [id]=Z at dg ⊢;refine(mB 92 [.tmp 4,.tmp 5] Tryz.func20 ?_);repeat' first|(refine aC er ?_)|(refine bP mixed [83] dK K hK ?_)|(refine cZ (o:=dO B) (c1 _) sS ha ?_)|(refine wO ?_;intros)|refine bu @Tryz.f20.eq_1 @ai ?_|fail
  all_goals try(exfalso;omega)
  refine cB (by simp[d7, *];done) dg ?_;repeat' first|refine ed ?_|fail
  exact d8 bt sS
def Ti(o:Nat){B:BK}(hb:dx B)(p:PA)(id gr:Int)(he:aQ ⟨3,id,gr,p⟩=0)(hs:B.sq≤1099511627676):aA Tryz.prog 20 [.ptr o 0 0,.agg (al 3 id gr p).c] (d0.set o (dO B)) (zb o B ⟨3,id,gr,p⟩):=by
 have er:=cC ⟨3,id,gr,p⟩;rw[he] at er;have hd:=iS he hs;rw[if_neg ax,if_neg ax,if_pos rfl] at hd;simp only at hd;have je:=hb.tj;refine jO ?_;unfold Aa;by_cases h1:(a8 B.ae B.dead id).2≠0
 ·rw[if_pos h1] at hd;have ha:=IH o hb id (B.sq+1) h1;obtain⟨q1,q2,q3⟩:=fO h1 hd;rw[q1,q2,q3];obtain⟨e,uv⟩:∃e,(a8 B.ae B.dead id).2=e:=⟨_,rfl⟩
  rw[uv] at ha h1 ⊢;obtain⟨K,hK,c1⟩:∃K:b9,pq (.dz [84]) K∧∀ms,K 84 ms=some ⟨[o],fun _=>True,some ([dO B],fun _=>.int .i64 e)⟩ :=
   ⟨nu [(84,⟨[o],fun _=>True,some ([dO B],fun _=>.int .i64 e)⟩)],gZ,fun _=>cH⟩
  clear hd q1 q2 q3 he uv;refine(mB 92 [.tmp 4,.tmp 5] Tryz.func20 ?_);repeat' first|(refine aC er ?_)|(refine bP mixed [84] dK K hK ?_)|(refine cZ (o:=dO B) (c1 _) sS ha ?_)|(refine wO ?_;intros)|refine bu @Tryz.f20.eq_1 @ai ?_|fail
  all_goals try(exfalso;omega)
  exact ea (ea ba (by simp[d7,d0, *])) (by simp[d7,d0, *])
 ·rw[if_neg h1] at hd;have hc:a8 B.ae B.dead id=((a8 B.ae B.dead id).1,0):=Prod.ext rfl (ac.1 h1);have ha:=II o hb id hc oM;have Zg:=zP B.gr hb.se id false;obtain⟨q1,q2,q3⟩:=nO hd (n:=1) rfl;rw[q1,q2,q3];simp only;obtain⟨F,hF⟩:∃F,B.ae.filter (fun c=>!decide (c.id=id))=F:=⟨_,rfl⟩
  obtain⟨T,hT⟩:∃T,oR (B.dead++[⟨id,(a8 B.ae B.dead id).1.c9,B.sq+1⟩])=T:=⟨_,rfl⟩
  rw[hF,hT] at ha ⊢;have dg:=jH o ⟨B.sq,B.nx,F,T,lz B.gr id⟩ id je (by simp only;omega);obtain⟨R,hR⟩:∃R,(lz B.gr id).map an=R:=⟨_,rfl⟩
  rw[hR] at Zg;simp only[dO,BK.c,hR] at dg ⊢;obtain⟨K,hK,c1,c2⟩:∃K:b9,pq (.dz [84]) K∧(∀ms,K 84 ms=some ⟨[o],fun _=>True,some ([dO ⟨B.sq,B.nx,F,T,B.gr⟩],fun _=>.int .i64 0)⟩)∧∀ms,K 85 ms=some ⟨[],fun v=>v=.aj 2 R false,none⟩ :=
   ⟨nu [(84,⟨[o],fun _=>True,some ([dO ⟨B.sq,B.nx,F,T,B.gr⟩],fun _=>.int .i64 0)⟩),(85,⟨[],fun v=>v=.aj 2 R false,none⟩)],Bs (fun p hp=>by simp only[bg,cy,or_false] at hp;rcases hp with rfl|rfl<;>simp),fun _=>cH,fun _=>iB cH⟩
  clear hd q1 q2 q3 he h1 hc hF hT hR;generalize cR B.sq [id]=Z at dg ⊢;refine(mB 92 [.tmp 4,.tmp 5] Tryz.func20 ?_);repeat' first|(refine aC er ?_)|(refine bP mixed [84] dK K hK ?_)|(refine cZ (o:=dO B) (c1 _) sS ha ?_)|(with_reducible refine AY (c2 _) Zg ?_)|(refine wO ?_;intros)|refine bu @Tryz.f20.eq_1 @ai ?_|fail
  all_goals try(exfalso;omega)
  refine cB (by simp[d7, *];done) dg ?_;repeat' first|refine ed ?_|fail
  exact d8 bt sS
def Tk(o:Nat){B:BK}(hb:dx B)(p:PA)(id gr:Int)(he:aQ ⟨5,id,gr,p⟩=0)(hs:B.sq≤1099511627676):aA Tryz.prog 20 [.ptr o 0 0,.agg (al 5 id gr p).c] (d0.set o (dO B)) (zb o B ⟨5,id,gr,p⟩):=by
 have er:=cC ⟨5,id,gr,p⟩;rw[he] at er;have hd:=iS he hs;obtain⟨g1,g2⟩:=(bF he).2.2.1;rw[if_neg ax,if_neg ax,if_neg ax,if_neg ax,if_pos rfl] at hd;simp only at hd g1 g2;refine jO ?_;unfold Aa;by_cases hg:gr∈B.gr.map am
 ·rw[if_pos hg] at hd;have ha:=FD o hb gr g1 g2 hg hs;obtain⟨q1,q2,q3⟩:=nO hd rfl;rw[q1,q2,q3];simp only;obtain⟨X,hX⟩:∃X,dO ⟨B.sq+(bH B.gr gr++[0]).length,B.nx,B.ae,B.dead,k8 B.gr gr⟩=X:=⟨_,rfl⟩
  rw[hX] at ha ⊢;generalize cR B.sq (bH B.gr gr++[0])=Z at ha ⊢;clear hd q1 q2 q3 he hg;refine(mB 92 [.tmp 4,.tmp 5] Tryz.func20 ?_);repeat' first|(refine aC er ?_)|(refine cB (by simp[d7, *];done) ha ?_)|(refine wO ?_;intros)|refine bu @Tryz.f20.eq_1 @ai ?_|fail
  all_goals try(exfalso;omega)
  exact d8 bt sS
 ·rw[if_neg hg] at hd;have ha:=FC o hb gr g1 g2 hg;obtain⟨q1,q2,q3⟩:=fO br hd;rw[q1,q2,q3];clear hd q1 q2 q3 he hg;refine(mB 92 [.tmp 4,.tmp 5] Tryz.func20 ?_);repeat' first|(refine aC er ?_)|(refine cB (o:=dO B) (by simp[d7, *];done) ha ?_)|(refine wO ?_;intros)|refine bu @Tryz.f20.eq_1 @ai ?_|fail
  all_goals try(exfalso;omega)
  exact d8 bt sS
def Tj(o:Nat){B:BK}(hb:dx B)(p:PA)(id gr:Int)(he:aQ ⟨4,id,gr,p⟩=0)(hs:B.sq≤1099511627676):aA Tryz.prog 20 [.ptr o 0 0,.agg (al 4 id gr p).c] (d0.set o (dO B)) (zb o B ⟨4,id,gr,p⟩):=by
 have er:=cC ⟨4,id,gr,p⟩;rw[he] at er;have ha:=Tc o hb p id gr he hs;refine jO ?_;unfold Aa;unfold zb at ha;generalize lp B ⟨4,id,gr,p⟩=V at ha ⊢;generalize iv B ⟨4,id,gr,p⟩=E at ha ⊢;generalize dO (fw B ⟨4,id,gr,p⟩)=X at ha ⊢;clear he;refine(mB 92 [.tmp 4,.tmp 5] Tryz.func20 ?_);repeat' first|(refine aC er ?_)|(refine cB (o:=dO B) (by simp[d7, *];done) ha ?_)|(refine wO ?_;intros)|refine bu @Tryz.f20.eq_1 @ai ?_|fail
 all_goals try(exfalso;omega)
 exact d8 bt sS
def Tl(o:Nat){B:BK}(hb:dx B)(p:PA)(id gr:Int)(he:aQ ⟨6,id,gr,p⟩=0)(hs:B.sq≤1099511627676):aA Tryz.prog 20 [.ptr o 0 0,.agg (al 6 id gr p).c] (d0.set o (dO B)) (zb o B ⟨6,id,gr,p⟩):=by
 have er:=cC ⟨6,id,gr,p⟩;rw[he] at er;have ha:=Td o hb p id gr he hs;refine jO ?_;unfold Aa;unfold zb at ha;generalize lp B ⟨6,id,gr,p⟩=V at ha ⊢;generalize iv B ⟨6,id,gr,p⟩=E at ha ⊢;generalize dO (fw B ⟨6,id,gr,p⟩)=X at ha ⊢;clear he;refine(mB 92 [.tmp 4,.tmp 5] Tryz.func20 ?_);repeat' first|(refine aC er ?_)|(refine cB (o:=dO B) (by simp[d7, *];done) ha ?_)|(refine wO ?_;intros)|refine bu @Tryz.f20.eq_1 @ai ?_|fail
 all_goals try(exfalso;omega)
 exact d8 bt sS
def Tm(o:Nat){B:BK}(hb:dx B)(p:PA)(id gr:Int)(he:aQ ⟨7,id,gr,p⟩=0)(hs:B.sq≤1099511627676):aA Tryz.prog 20 [.ptr o 0 0,.agg (al 7 id gr p).c] (d0.set o (dO B)) (zb o B ⟨7,id,gr,p⟩):=by
 have er:=cC ⟨7,id,gr,p⟩;rw[he] at er;have ha:=Te o hb p id gr he hs;refine jO ?_;unfold Aa;unfold zb at ha;generalize lp B ⟨7,id,gr,p⟩=V at ha ⊢;generalize iv B ⟨7,id,gr,p⟩=E at ha ⊢;generalize dO (fw B ⟨7,id,gr,p⟩)=X at ha ⊢;clear he;refine(mB 92 [.tmp 4,.tmp 5] Tryz.func20 ?_);repeat' first|(refine aC er ?_)|(refine cB (o:=dO B) (by simp[d7, *];done) ha ?_)|(refine wO ?_;intros)|refine bu @Tryz.f20.eq_1 @ai ?_|fail
 all_goals try(exfalso;omega)
 exact d8 bt sS
def S8(o:Nat){B:BK}(hb:dx B)(x:ED):aA Tryz.prog 20 [.ptr o 0 0,.agg x.c] (d0.set o (dO B)) (zb o B x):=by
 by_cases he:aQ x≠0∨1099511627676<B.sq
 ·exact Pv o x he
 ·have h1:aQ x=0:=ac.1 fun h=>he (.inl h);have h2:B.sq≤1099511627676:=by have:¬1099511627676<B.sq:=fun h=>he (.inr h);omega
  obtain⟨k1,k2,-⟩:=bF h1;obtain⟨k,id,gr,p⟩:=x;simp only at k1 k2;have:k=1∨k=2∨k=3∨k=4∨k=5∨k=6∨k=7:=oM;rcases this with rfl|rfl|rfl|rfl|rfl|rfl|rfl
  ·exact Tg o hb p id gr h1 h2
  ·exact Th o hb p id gr h1 h2
  ·exact Ti o hb p id gr h1 h2
  ·exact Tj o hb p id gr h1 h2
  ·exact Tk o hb p id gr h1 h2
  ·exact Tl o hb p id gr h1 h2
  ·exact Tm o hb p id gr h1 h2
structure Gk (l:List TU) (es:List (MV×MV)):Prop where
 k:(es.all fun p=>nh .i64 p.1)=true
 o:Nf es
 g:∀id,eG id es=(lQ l id).map fun n=>.int .i64 n
 n:es.length≤l.length
structure LX (l:List TU) (es:List (MV×MV)):Prop where
 k:(es.all fun p=>nh .i64 p.1)=true
 g:∀id,eG id es=(gG l id).map fun t=>.agg t.c
def H0:Gk [] []:=⟨rfl,List.nodup_nil,fun _=>rfl,dk _⟩
def N2:LX [] []:=⟨rfl,fun _=>rfl⟩
def HZ{l:List TU}{es:List (MV×MV)}(h:Gk l es){t:TU}(ht:lQ l t.id=none):Gk (l++[t]) (dW .i64 t.id (.int .i64 t.old) es):=by
 refine⟨vM h.k,DM h.k h.o,fun id=>?_,?_⟩
 ·rw[sG h.k,mK];by_cases e:id=t.id
  ·subst e;rw[if_pos rfl,ht,if_pos rfl];rfl
  ·rw[if_neg e,if_neg (dl e),dq];exact h.g id
 ·have:=AX (n:=t.id) (v:=.int .i64 t.old) (es:=es);have:=h.n;rw[au,a3];omega
def H2{l:List TU}{es:List (MV×MV)}(h:Gk l es){t:TU}{o:Int}(ht:lQ l t.id=some o):Gk (l++[t]) es:=by
 refine⟨h.k,h.o,fun id=>?_,?_⟩
 ·rw[h.g,mK];by_cases e:t.id=id
  ·subst e;rw[ht];rfl
  ·rw[if_neg e,dq]
 ·have:=h.n;rw[au,a3];omega
def Kc{l:List TU}{es:List (MV×MV)}(h:LX l es)(t:TU):LX (l++[t]) (dW .i64 t.id (.agg t.c) es):=by
 refine⟨vM h.k,fun id=>?_⟩;rw[sG h.k,gA];by_cases e:id=t.id
 ·subst e;simp
 ·rw[if_neg e,if_neg (dl e)];exact h.g id
def Xe{a b:List Int}(ha:en a)(hb:en b)(h:∀x,x∈a↔x∈b):a=b:=by have nd:∀{l:List Int},en l→l.Nodup:=fun h=>h.imp fun h=>oM;have hp:a.Perm b:=(List.perm_ext_iff_of_nodup (nd ha) (nd hb)).2 h;exact List.Perm.eq_of_pairwise (le:=fun a b:Int=>a≤b) (fun a b _ _ h1 h2=>Int.le_antisymm h1 h2) (ha.imp fun h=>oM) (hb.imp fun h=>oM) hp
def Pd{l:List TU}{es:List (MV×MV)}(h:Gk l es){ns:List Int}(hp:ns.Perm (fM es))(hs:ns.Pairwise (fun a b=>a≤b)):ns=fG l:=by
 have hn:ns.Nodup:=hp.nodup_iff.2 h.o;refine Xe ?_ (Ex l) fun x=>?_
 ·have:=hs.and hn;exact this.imp fun⟨h1,h2⟩=>oM
 ·rw[hp.mem_iff,sJ h.k,h.g,oT];simp only[ne_eq,Option.map_eq_none_iff,mJ,ac]
def WQ{l:List TU}{i:Nat}{id:Int}(h:(fG l)[i]?=some id):∃o t,lQ l id=some o∧gG l id=some t∧km l id=(lT o t).toList:=by
 have hm:id∈l.map ee:=(oT l).1 (cb h);obtain⟨o,ho⟩:∃o,lQ l id=some o:=by
  cases h:lQ l id with
  |none=>exact absurd hm (mJ.1 h)
  |some o=>exact⟨o,rfl⟩
 obtain⟨u,hu⟩:∃u,gG l id=some u:=by
  cases h:gG l id with
  |none=>exact absurd hm ((pN l).1 h)
  |some o=>exact⟨o,rfl⟩
 exact⟨o,u,ho,hu,by unfold km;rw[ho,hu]⟩
def SC(l:List TU)(ids:List Int):(ids.flatMap (km l)).length≤ids.length:=by
 induction ids with
 |nil=>simp
 |cons a r ih =>
  rw[bf,au,av];have:=EA l a;omega
structure GU where
 a:MV
 b:MV
 c:MV
 d:MV
 e:MV
 f:MV
 g:MV
 h:MV
abbrev gO(U:GU)(B:BK):aY:=.row 106 13 [[U.a,U.b,.int .i64 B.sq,.int .i64 B.nx,.aj 27 (B.ae.map aa) false,.aj 3 (B.dead.map ag) false,.aj 2 (B.gr.map an) false,U.c,U.d,U.e,U.f,U.g,U.h]]
def Lr(U:GU)(o:Nat)(B:BK)(hl:B.ae.length≤1000000)(p:PA)(hp:bL p=0)(h0:0≤B.nx)(h1:B.nx≤1073741824) :
  aA Tryz.prog 82 [.ptr o 0 3,.agg p.c] (d0.set o (gO U B)) (fun v af=>if 48≤B.ae.length∨1073741824≤B.nx then v=.ar [.agg ig.c,.int .i64 8]∧af=d0.set o (gO U B)
   else v=.ar [.agg (bW B.nx p).c,.int .i64 0]∧af=d0.set o (gO U ⟨B.sq,B.nx+1,B.ae++[bW B.nx p],B.dead,B.gr⟩)):=by
 have kr:=gC p;rw[hp] at kr;by_cases hf:48≤B.ae.length∨1073741824≤B.nx
 ·simp only[if_pos hf];refine ei (Q':=fun v af=>v=.ar [.agg ig.c,.int .i64 8]∧(d0.set o (gO U B)).le af) (mB 55 [.cell 4 126,.tmp 5] Tryz.func82 ?_) fun v af h=>⟨_,h.2,h.1,rfl⟩
  repeat' first|(refine aC kr ?_)|(refine wM ?_;(first|(have _:=dt)|(have _:=du;intro dt)|(have _:=bj;intro du)|(have _:=az;intro bj)|(have _:=ao;intro az)|(have _:=ak;intro ao)|(have _:=ah;intro ak)|(intro ah));intros)|refine wV ?_|(refine wY ?_ ?_<;>intro h)|refine bu @Tryz.f82.eq_1 @ai ?_|exact fk @Tryz.f82.eq_1 @ai|fail
  all_goals try(exfalso;omega)
  all_goals exact⟨rfl,ea (ea ba (by simp[d7,d0, *])) (by simp[d7,d0, *])⟩
 ·simp only[if_neg hf];have kj:=zO B.nx p;obtain⟨c,hc⟩:∃c,bW B.nx p=c:=⟨_,rfl⟩
  rw[hc] at kj ⊢;obtain⟨C,c1⟩:∃C:b9,∀ms,C 165 ms=some ⟨[],fun v=>v=.agg c.c,none⟩:=⟨oK 165 (.agg c.c),fun _=>dG⟩
  have bn:(B.ae.map aa).length=B.ae.length:=aI _;have hq:(B.ae++[c]).map aa=B.ae.map aa++[c.c]:=a4;refine em (mB 55 [.cell 4 126,.tmp 5] Tryz.func82 ?_);repeat' first|(refine aC kr ?_)|((with_reducible refine aJ mixed ?chk C ?_);(case chk=>decide +kernel))|(with_reducible refine aF (c1 _) kj ?_)|(refine wM ?_;(first|(have _:=dt)|(have _:=du;intro dt)|(have _:=bj;intro du)|(have _:=az;intro bj)|(have _:=ao;intro az)|(have _:=ak;intro ao)|(have _:=ah;intro ak)|(intro ah));intros)|refine wV ?_|(refine wY ?_ ?_<;>intro h)|refine fx @Tryz.f82.eq_1 @ai @bn ?_|exact tk @Tryz.f82.eq_1 @ai @bn|fail
  all_goals try(exfalso;omega)
  all_goals
   have n7:o≠dt:=bc;refine .step (aR.Cg dt o (oq:=.row 126 27 (B.ae.map aa++[c.c])) (t:=106) (e:=13) (m:=.vec 27 dt 0 (B.ae.length+1)) [U.a,U.b,.int .i64 B.sq,.int .i64 (B.nx+1)] [.aj 3 (B.dead.map ag) false,.aj 2 (B.gr.map an) false,U.c,U.d,U.e,U.f,U.g,U.h] (m1:=.aj 27 (B.ae.map aa++[c.c]) false) sS sS n7 (eh cj ax) rfl) (.of (et (σ1:=d0.set o (gO U ⟨B.sq,B.nx+1,B.ae++[c],B.dead,B.gr⟩)) (d8 bt (by rw[aD,gO,hq];rfl))) ⟨_,rfl,rfl,rfl⟩)
def XR(l:List CA){i:Nat}{x:CA}(h:l[i]?=some x):(IT.ks (jw l)).getD i []=(IT.mk 1 x).k:=by simp[IT.ks,jw,h]
def NK{W:List CA}{cur room:Int}{i:Nat}{x:CA}(hx:W[i]?=some x)(hM:max cur 0<x.id)(hr:1≤room)(hl:((dY (W.take i) cur).length:Int)=room) :
  eU W cur room=(dY (W.take i) cur,((dY (W.take i) cur).getD (room.toNat-1) ig).id):=by
 obtain⟨A,hA⟩:∃A,dY (W.take i) cur=A:=⟨_,rfl⟩
 have hW:dY W cur=A++dY (W.drop i) cur:=by rw[←hA];unfold dY;rw[←ce,a7]
 have hd:∃C,dY (W.drop i) cur=x::C:=by have hi:=(aN.1 hx).1;have he:=(aN.1 hx).2;rw[c8 hi,he];unfold dY;rw[b3,if_pos (decide_eq_true hM)];exact⟨_,rfl⟩
 obtain⟨C,hC⟩:=hd;rw[hA] at hl ⊢;have hn:room.toNat=A.length:=oM;unfold eU;rw[if_neg oM,hW,hC,if_neg (by simp;omega),hn];rw[b7 rfl]
 congr 2
 rw[bv,bv,bz oM]
def Lt(B:BK)(hb:BkR B)(h3:B.gr.length≤1000000)(h4:∀g,g∈B.gr→g.mem.length≤1000000)(fl:List ND)(hp:bR fl=0)(t:Bool)(mk:UInt32)(cur room:Int) :
  aA Tryz.prog 126 [.agg B.c,.aj 5 (fl.map ND.c) t,.int .u32 (mk.toNat:Int),.int .i64 cur,.int .i64 room] d0 (fun r _=>r=.ar [.aj 28 (IT.ks (jw (eU (bY B fl mk 1073741824) cur room).1)) false,.int .i64 (eU (bY B fl mk 1073741824) cur room).2]):=by
 refine el (aA.gY 59 [.tmp 10,.tmp 11] Tryz.func126 rfl rfl rfl rfl ?_);have hid:=IS B hb h3 h4 fl hp t mk 1073741824;have hWl:(bY B fl mk 1073741824).length≤1000000:=by unfold bY;rw[aI];have:=hb.nc;exact Nat.le_trans (ct _ _) oM
 obtain⟨W,hW⟩:∃W,bY B fl mk 1073741824=W:=⟨_,rfl⟩
 rw[hW] at hid hWl ⊢;obtain⟨M,hM⟩:∃M,max cur 0=M:=⟨_,rfl⟩
 have hwl:(W.map aa).length=W.length:=aI _;refine bD (cA ?_);repeat' first|(refine wM ?_;(first|(have _:=az)|(have _:=ao;intro az)|(have _:=ak;intro ao)|(have _:=ah;intro ak)|(intro ah));intros)|refine wV ?_|(refine wY ?_ ?_<;>intro h)|refine ed ?_|exact ll|fail
 refine bO (RV (good:=fun f' af=>f'=⟨59,[(5,.ptr ah 0 0),(4,.int .i64 room),(3,.int .i64 M),(2,.int .u32 (mk.toNat:Int)),(1,.aj 5 (fl.map ND.c) t)],[]⟩∧af=d0.set ah (.row 47 5 [B.c])) (cA ?_) ?_)
 ·repeat' first|(refine wM ?_;(first|(have _:=az)|(have _:=ao;intro az)|(have _:=ak;intro ao)|(have _:=ah;intro ak)|(intro ah));intros)|refine wV ?_|(refine wY ?_ ?_<;>intro h)|refine ed ?_|exact ll|fail
  all_goals
   refine .of (.less ?_ ba) ⟨rfl,rfl⟩;simp(maxSteps:=4000000) (disch:=first|exact gd|fail) only[go_sem,simprocAttr,bE,aX];all_goals first|rfl|omega|(simp;done)|(simp;omega)
 rintro _ _ ⟨rfl,rfl⟩;refine cA ?_;by_cases hr:room<1
 ·have e:eU W cur room=([],M):=by rw[←hM];exact if_pos hr
  rw[e];repeat' first|(refine wM ?_;(first|(have _:=az)|(have _:=ao;intro az)|(have _:=ak;intro ao)|(have _:=ah;intro ak)|(intro ah));intros)|refine wV ?_|(refine wY ?_ ?_<;>intro h)|refine ed ?_|exact ll|fail
  all_goals try(exfalso;omega)
  exact dH (.nil _ _)
 ·repeat' first|(with_reducible refine aC hid ?_)|(refine wM ?_;(first|(have _:=az)|(have _:=ao;intro az)|(have _:=ak;intro ao)|(have _:=ah;intro ak)|(intro ah));intros)|refine wV ?_|(refine wY ?_ ?_<;>intro h)|refine ed ?_|exact ll|fail
  all_goals try(exfalso;omega)
  refine aG (α:=Nat×Nat×List (List MV)) (fun z=>⟨59,[(14,.int .i64 (z.1:Int)),(13,.vec 28 z.2.1 0 (dY (W.take z.1) cur).length),(12,.aj 27 (W.map aa) false),(4,.int .i64 room),(3,.int .i64 M)],[]⟩)
   (fun z=>d0.set z.2.1 (.row 164 28 (IT.ks (jw (dY (W.take z.1) cur))++z.2.2))) (fun z=>z.1≤W.length∧((dY (W.take z.1) cur).length:Int)≤room) (fun z=>W.length-z.1) ?_ ?_
  ·refine .of (.less ?_ ?_) ⟨(0,ak,[]),rfl,rfl,dj _,by simp[dY];omega⟩
   ·simp(maxSteps:=4000000) (disch:=first|exact gd|fail) only[go_sem,simprocAttr,bE,aX];all_goals first|rfl|(show oP (.vec 28 ak 0 0) (.vec 28 ak 0 0);simp only[aX])
   ·exact d8 bt cj
  ·rintro⟨i,r,xx⟩ ⟨hi,Z6⟩;simp only at hi Z6 ⊢;by_cases bh:i<W.length
   ·obtain⟨x,hx⟩:=bX W bh;have ay:=bJ (f:=aa) hx;have cc:=BB (cur:=cur) hx;have yi:=fun h1 h2=>NK (cur:=cur) (room:=room) hx h1 oM h2;rw[hM] at cc yi;obtain⟨A,hA⟩:∃A,dY (W.take i) cur=A:=⟨_,rfl⟩
    rw[hA] at cc yi Z6 ⊢;have ksn:=My A x;have kl:=qY A;have kat:=fun {j:Nat} {y:CA} (h:A[j]?=some y)=>XR A h;have uq:(A++[x]).length=A.length+1:=ax;have hA6:A.length≤1000000:=by rw[←hA];exact Nat.le_trans (ct _ _) (by rw[a1];omega)
    obtain⟨Q,hQ⟩:∃Q,IT.ks (jw A)=Q:=⟨_,rfl⟩
    rw[hQ] at ksn kl ⊢;simp only[hQ] at kat;by_cases hle:x.id≤M
    ·rw[if_neg oM,cr] at cc;clear yi kat;repeat' first|(refine wM ?_;(first|(have _:=az)|(have _:=ao;intro az)|(have _:=ak;intro ao)|(have _:=ah;intro ak)|(intro ah));intros)|refine wV ?_|(refine wY ?_ ?_<;>intro h)|refine bu @ay @hwl ?_|exact fk @ay @hwl|fail
     all_goals try(exfalso;omega)
     all_goals
      refine .of (.less ?_ ?_) ⟨(i+1,r,xx),rfl,rfl,⟨by simp only;omega,by simp only[cc];exact Z6⟩,by simp only;omega⟩
      ·simp only[cc];exact wW
      ·simp only[cc,hQ];exact d8 bt sS
    ·rw[if_pos oM] at cc;by_cases hful:(A.length:Int)=room
     ·have e:=yi oM hful;obtain⟨y,hy⟩:=bX A (show A.length-1<A.length by omega);have hky:=kat hy;have hgy:A.getD (room.toNat-1) ig=y:=by rw[show room.toNat=A.length by omega,bv,hy];rfl
      rw[hgy] at e;rw[e];have hto:(room-1).toNat=A.length-1:=oM;have hkx:(Q++xx).getD (A.length-1) []=(IT.mk 1 y).k:=by rw[bv,bz oM,←bv];exact hky
      clear yi kat ksn cc;repeat' first|(refine wM ?_;(first|(have _:=az)|(have _:=ao;intro az)|(have _:=ak;intro ao)|(have _:=ah;intro ak)|(intro ah));intros)|refine wV ?_|(refine wY ?_ ?_<;>intro h)|refine xv @ai @ay @hwl @kl @hto @hkx ?_|exact wC6 @ai @ay @hwl @kl @hto @hkx|fail
      all_goals try(exfalso;omega)
      all_goals
       refine dH ?_;show View _ _ (.aj 28 (IT.ks (jw A)) false);rw[hQ];exact dT cj oM
     ·obtain⟨j,hj⟩:∃j,A.length=j:=⟨_,rfl⟩
      rw[hj] at kl uq hful Z6 hA6 ⊢;have gv:(Q++xx).drop (j+1)=xx.drop 1:=by rw[←kl,←List.drop_drop,List.drop_left]
      have sr:(Q++xx).take j=Q:=b7 kl;have fce:(∀c,c∈fc x.f→c.aP=true)=True:=eq_true (uX (dV x.f));clear yi kat;repeat' first|(refine wM ?_;(first|(have _:=az)|(have _:=ao;intro az)|(have _:=ak;intro ao)|(have _:=ah;intro ak)|(intro ah));intros)|refine wV ?_|(refine wY ?_ ?_<;>intro h)|refine wh @ai @ay @hwl @kl @sr @gv @fce ?_|exact yz @ai @ay @hwl @kl @sr @gv @fce|fail
      all_goals try(exfalso;omega)
      ·have hex:xx=[]:=bx oM;subst hex;clear h;refine .of (.less ?_ ?_) ⟨(i+1,az,[]),rfl,rfl,⟨by simp only;omega,by simp only[cc,uq];omega⟩,by simp only;omega⟩
       ·simp only[cc,uq];exact wW
       ·simp only[cc,ksn];exact d8 bt sS
      ·clear h;refine .of (.less ?_ ?_) ⟨(i+1,az,xx.drop 1),rfl,rfl,⟨by simp only;omega,by simp only[cc,uq];omega⟩,by simp only;omega⟩
       ·simp only[cc,uq];exact wW
       ·simp only[cc,ksn];exact d8 bt sS
   ·have:i=W.length:=oM;subst this;rw[bp] at Z6 ⊢;have e:eU W cur room=(dY W cur,1073741824):=by unfold eU;rw[if_neg oM,if_pos Z6]
    rw[e];repeat' first|(refine wM ?_;(first|(have _:=az)|(have _:=ao;intro az)|(have _:=ak;intro ao)|(have _:=ah;intro ak)|(intro ah));intros)|refine wV ?_|(refine wY ?_ ?_<;>intro h)|refine aw @hwl ?_|exact ev @hwl|fail
    all_goals try(exfalso;omega)
    all_goals exact dH (dT cj (qY _).symm)
def qS:BK:=⟨2,3,[Z1,rj],[],[]⟩
def Md:BkR qS:=⟨br,br,br,br,by decide +kernel,by decide +kernel,br,br,by decide +kernel⟩
def pt:ND:=⟨1,0,ir⟩
def JV:bR [pt]=0:=by decide +kernel
def NJ:bY qS [pt] 1 1073741824=[fV Z1 1,fV rj 1]:=by
 rw[Dj Md];have h1:∀c,fJ qS.gr [pt] c=true:=fun c=>by rw[LD JV];rfl
 have:nk qS [pt]=[Z1,rj]:=by unfold nk;show List.filter _ [Z1,rj]=_;simp[h1]
 rw[this];rfl
def QO:eU (bY qS [pt] 1 1073741824) 0 1=([fV Z1 1],1):=by rw[NJ];decide +kernel
