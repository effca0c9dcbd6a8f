/- Parts of the proof; conditions: as its theorems name them. -/
import Derived.Test.YtppdgejjmhdjhaaGreatDoorMba
import Derived.MapKept
import Derived.Maps.RangeRun
import Derived.RangeFuncLeaves
import Derived.RangeFuncRecord
set_option linter.all false
set_option maxHeartbeats 8000000
set_option maxRecDepth 100000
namespace Go.Proofs.YtppdgejjmhdjhaaGreatDoor
open Bool renaming and_eq_true->aa,or_eq_true->ab,false_eq_true->ac,eq_iff_iff->ah
open Comes renaming of_steps->ak
open FR renaming get->al
open Fence renaming wide->am
open Go.World renaming putObj_heap_other->an,putObj_size->ao
open Instr renaming findNow->ap,lookup->au
open List renaming getElem?_eq_some_iff->av,getElem?_eq_getElem->ay,getElem?_cons_zero->az,map_cons->aI,getElem?_append_left->aN,all_eq_true->a4,replicate->a5,getElem?_append_right->a6,map_nil->a7,map_congr_left->a9,getElem?_cons_succ->bb,mem_map->be,mem_of_getElem?->bg,mem_singleton->bi,getElem?_drop->bj,length_drop->bn,cons_append->bp,range->bs,mem_cons->bv,all_cons->bx,getD->bz,mem_iff_getElem->b2,mem_cons_self->b3,length_append->b4
open List.cons renaming injEq->b5
open MV renaming aP->b6
open Nat renaming le_refl->b7,add_assoc->b8,le_succ->ca
open Ne renaming symm->cb
open OfNat renaming ofNat->cc,mk->cd
open Option renaming map_eq_some_iff->ce,none->cf,getD_some->ci,map_some->co,isSome_none->cp
open Option.some renaming injEq->cr,inj->ct
open Result renaming andThen_ok->cv,andThen->cx
open Sem renaming run_pure->cy,run_bind->cS
open St renaming none->c0,set->c8
open _root_.Array renaming getD_eq_getD_getElem?->da,getElem?_eq_getElem->dd,toArray_toList->de,getElem?_setIfInBounds->df,getElem?_eq_some_iff->dj,replicate->dk,getElem?_append_left->dl,getElem?_eq_none->dn,getElem?_push->dq,getD->dt
section
open Go.MapKept
def nh(k:IntKind):MV→Bool
 |.int k' _=>decide (k'=k)
 |_=>false
def eG(n:Int):List (MV×MV)→Option MV
 |[]=>none
 |(.int _ m,v)::r=>if m=n then some v else eG n r
 |_::r=>eG n r
def dW(k:IntKind)(n:Int)(v:MV):List (MV×MV)→List (MV×MV)
 |[]=>[(.int k n,v)]
 |(.int k' m,u)::r=>if m=n then(.int k' m,v)::r else(.int k' m,u)::dW k n v r
 |x::r=>x::dW k n v r
def nU{k:IntKind}{m:MV}(h:nh k m=true):∃n,m=.int k n:=by cases m<;>simp[nh] at h;subst h;exact⟨_,rfl⟩
theorem xZ{k:IntKind}{n:Int}{Φ:bd}(v':MV):∀(l:List MapEntry) (es:List (MV×MV)) (i0:Nat),l.length=es.length→(es.all fun x=>nh k x.1)=true→(∀(i:Nat) (x:MV×MV),es[i]?=some x→∃e:MapEntry,l[i]?=some e∧Rel Φ e.key x.1) →
  (∀x:MapEntry,x∈l→IsKey (.int k) x.key)∧((eG n es=none∧ap (.int k) (.int k n) l i0=some none∧dW k n v' es=es++[(.int k n,v')]) ∨
   ∃(j:Nat) (e:MapEntry) (v:MV),eG n es=some v∧ap (.int k) (.int k n) l i0=some (some (i0+j,e.val))∧l[j]?=some e∧e.key=.int k n∧es[j]?=some (.int k n,v)∧dW k n v' es=es.set j (.int k n,v'))
 |[],[],_,_,_,_=>⟨ax,.inl ⟨rfl,rfl,rfl⟩⟩
 |[],_::_,_,h,_,_=>by simp at h
 |_::_,[],_,h,_,_=>by simp at h
 |e::l,(x,u)::es,i0,hl,hk,hr=>by
  simp only[bx,aa] at hk;obtain⟨m,rfl⟩:=nU hk.1;obtain⟨e',Z3,bf⟩:=hr 0 _ rfl;simp only[az,cr] at Z3;subst Z3;have xd:=bf.aZ;obtain⟨q1,q2⟩:=xZ (n:=n) v' l es (i0+1) (by simpa using hl) hk.2 fun i x hx=>hr (i+1) x (by simpa using hx);refine⟨?_,?_⟩
  ·intro y hy;rcases bv.1 hy with rfl|hy
   ·rw[xd];exact rfl
   ·exact q1 y hy
  ·by_cases hmn:m=n
   ·subst hmn;right;refine⟨0,e,u,by simp[eG],?_,rfl,xd,rfl,by simp[dW]⟩;simp[ap,Instr.sameNow,xd]
   ·have hf:ap (.int k) (.int k n) (e::l) i0=ap (.int k) (.int k n) l (i0+1):=by
     have:(n==m)=false:=by simpa using cb hmn
     simp[ap,Instr.sameNow,xd,this]
    rw[hf];rcases q2 with⟨a,b,c⟩|⟨j,e2,v,a,b,c,d,e3,f⟩
    ·exact .inl ⟨by simp[eG,hmn,a],b,by simp[dW,hmn,c]⟩
    ·refine .inr ⟨j+1,e2,v,by simp[eG,hmn,a],?_,by simpa using c,d,by simpa using e3,by simp[dW,hmn,f]⟩;rw[b];simp;omega
theorem G3{Φ:bd}{k:IntKind}{n:Int}:∀{es:List (MV×MV)} {x:MV×MV} {v:Value},eG n es=none→(es.all fun p=>nh k p.1)=true→x∈es→Rel Φ v x.1→v≠.int k n
 |[],_,_,_,_,hx,_=>by cases hx
 |(y,u)::es,x,v,h0,hk,hx,hr=>by
  simp only[bx,aa] at hk;obtain⟨m,rfl⟩:=nU hk.1;by_cases hm:m=n
  ·simp[eG,hm] at h0
  ·simp only[eG,if_neg hm] at h0;rcases bv.1 hx with rfl|hx
   ·rw[hr.aZ];intro e;cases e;exact hm rfl
   ·exact G3 h0 hk.2 hx hr
def eT.Hj{Φ:bd}{w:World}{l:Nat}{es:List (MV×MV)}(h:eT Φ w l (.mp es)):∃(p:Place) (R:Nat) (c:Array MapEntry) (clock:Nat),Φ.obj l=some p∧p.jh=some R∧w.heap[R]?=some (.map c clock)∧c.size=es.length∧Stamped c clock ∧
  ∀(i:Nat) (x:MV×MV),es[i]?=some x→∃e,c.toList[i]?=some e∧Rel Φ e.key x.1∧Rel Φ e.val x.2:=by obtain⟨p,R,hp,hR,c,clock,hh,⟨hs,dg⟩,hr⟩:=h;refine⟨p,R,c,clock,hp,hR,hh,hs,dg,fun i x hx=>?_⟩;have hi:=(av.1 hx).1;have hic:i<c.size:=oM;have:=hr i x hx;rw[show c.getD i default=c[i] by simp[dt,hic]] at this;exact⟨c[i],by simp[hic],this⟩
def Jb{P:Program}{o:Oper}{f:FR}{σ:St}{k:MV→St→Prop}{t:TypeId}(ho:o.op=.makeMap t none)(hk:∀l,σ l=none→k (.db l) (σ.set l (.mp []))):kq P o f σ k:=by
 intro Φ w a K Q' hi hr hK;obtain⟨n,hn⟩:=hi.fresh.1.1;have hl:=hn n (b7 _);have di:(execOp a.eval o).run P w=.ok (.value (.map (some w.heap.size))) (w.alloc (.map #[] 0)):=by unfold execOp;simp only[ho,Instr.makeMap,Option.map_none,cS,run_newObj,cv,cy];rfl
 obtain⟨i1,s1⟩:=hi.alloc (w':=w.alloc (.map #[] 0)) n hl (.mp []) (.map #[] 0) ⟨some w.heap.size,0,1,1⟩ rfl rfl rfl rfl rfl (by first|exact b7 _|exact lO (ca _))
  ⟨_,w.heap.size,bd.dC _ _ _,rfl,#[],0,heap_alloc_new w _,⟨rfl,stamped_empty 0⟩,fun i x hx=>by simp at hx⟩
 exact bQ di (hK _ (.db n) _ _ _ (Rel.db (bd.dC _ _ _) rfl) i1 s1 (hk n (hi.gI hl)))
def LG{P:Program}{o:Oper}{f:FR}{σ:St}{k:MV→St→Prop}{t kt et:TypeId}{m x y:Operand}(ho:o.op=.insert t m x y∨o.op=.mapUpdate t m x y)(ht:(td P t).k=.map kt et){kd:IntKind}(hkt:(td P kt).k=.int kd)
 {l:Nat}{es:List (MV×MV)}(hm:aH f m=.db l)(hl:σ l=some (.mp es)){n:Int}(hx:aH f x=.int kd n)(he:(es.all fun p=>nh kd p.1)=true)
 (hk:k .bw (σ.set l (.mp (dW kd n (aH f y) es)))):kq P o f σ k:=by
 intro Φ w a K Q' hi hr hK;have ZO:=sR ht;have huk:=kY hkt;have rm:=aL hr m;have rx:=aL hr x;have ry:=aL hr y;rw[hm] at rm;rw[hx] at rx;obtain⟨p,R,hp,hR,hmv⟩:=rm.oV;have hxv:=rx.aZ;obtain⟨p',R',c,clock,dw,ju,hh,hs,dg,bf⟩:=(hi.own l _ hl).Hj;rw[hp] at dw;cases dw;rw[hR] at ju;cases ju;obtain⟨hkeys,hfind⟩:=xZ (n:=n) (aH f y) c.toList es 0 (by simpa using hs) he fun i z hz=>by obtain⟨e,h1,h2,_⟩:=bf i z hz;exact⟨e,h1,h2⟩
 have hrt:=(dj.1 hh).1;rcases hfind with⟨h0,h1,h2⟩|⟨j,e,v,_,h1,hj,hek,hes,h2⟩
 ·obtain⟨c',Zw⟩:∃c',c'=c.push { key:=a.eval x,val:=a.eval y,born:=clock }:=⟨_,rfl⟩
  have di:(execOp a.eval o).run P w=.ok .skip (gK w R (.map c' (clock+1))):=by
   unfold execOp;rcases ho with ho|ho<;>simp only[ho] <;>
    simp[hmv,hxv,Instr.mapUpdate,run_underlying ZO,Go.MapKept.run_getObj_map hh,run_checkKey (d:=.int kd) (k:=.int kd n) huk rfl,run_findKey (d:=.int kd) huk h1,run_setObj_map _ hh,cx,gK,Zw]
  obtain⟨i1,s1⟩:=hi.F6 (w':=gK w R (.map c' (clock+1))) l hl (.mp (es++[(.int kd n,aH f y)])) hp hR jJ (fun q hq=>fL hq) rfl rfl rfl (b7 _)
   ⟨p,R,hp,hR,c',clock+1,iR hrt,⟨by rw[Zw];simp[hs],by
    rw[Zw];refine stamped_push dg fun e1 he1=>?_;obtain⟨i,lk,rfl⟩:=b2.1 he1;have hi':i<es.length:=by rw[←hs];simpa using lk
    obtain⟨e',q1,q2,_⟩:=bf i es[i] (ay hi');rw[ay lk] at q1;cases q1;rw[hxv];exact G3 h0 he (List.getElem_mem hi') q2⟩,fun i z hz=>by
    rw[Zw];by_cases bh:i<es.length
    ·rw[aN bh] at hz;obtain⟨e,q1,q2,q3⟩:=bf i z hz;have:(c.push { key:=a.eval x,val:=a.eval y,born:=clock }).getD i default=e:=by
      have hic:i<c.size:=oM;have q1':c[i]?=some e:=by simpa using q1
      rw[da,dq,if_neg oM,q1'];rfl
     rw[this];exact⟨q2,q3⟩
    ·have hie:i=es.length:=by have:=(av.1 hz).1;simp at this;omega
     subst hie;rw[a6 (b7 _)] at hz;simp only[Nat.sub_self,az,cr] at hz;subst hz;have:(c.push { key:=a.eval x,val:=a.eval y,born:=clock }).getD es.length default={ key:=a.eval x,val:=a.eval y,born:=clock }:=by rw[da,dq,if_pos oM];rfl
     rw[this];exact⟨by simp only;rw[hxv];exact .int _ _,ry⟩⟩
  rw[←h2] at i1 s1;exact Gi di (hK _ .bw _ _ _ (.bw _) i1 s1 hk)
 ·have hjc:c[j]?=some e:=by simpa using hj
  obtain⟨c',Zw⟩:∃c',c'=c.modify j fun e=>{ e with key:=a.eval x,val:=a.eval y }:=⟨_,rfl⟩
  have di:(execOp a.eval o).run P w=.ok .skip (gK w R (.map c' clock)):=by
   unfold execOp;rcases ho with ho|ho<;>simp only[ho] <;>
    simp[hmv,hxv,Instr.mapUpdate,run_underlying ZO,Go.MapKept.run_getObj_map hh,run_checkKey (d:=.int kd) (k:=.int kd n) huk rfl,run_findKey (d:=.int kd) huk h1,hjc,hek,run_keyThatStays (d:=.int kd) (k:=.int kd n) rfl,run_setObj_map _ hh,cx,gK,Zw]
  have hjlt:=(dj.1 hjc).1;obtain⟨i1,s1⟩:=hi.F6 (w':=gK w R (.map c' clock)) l hl (.mp (es.set j (.int kd n,aH f y))) hp hR jJ (fun q hq=>fL hq) rfl rfl rfl (b7 _)
   ⟨p,R,hp,hR,c',clock,iR hrt,⟨by rw[Zw];simp[hs],by
    rw[Zw];exact stamped_modify dg j _ (fun _ _=>rfl) fun e' _ Z3=>by rw[hjc] at Z3;cases Z3;exact hxv.trans hek.symm⟩,fun i z hz=>by
    rw[Zw,da,Array.getElem?_modify];by_cases hij:j=i
    ·subst hij;rw[List.getElem?_set_self oM] at hz;cases hz;rw[if_pos rfl,hjc];exact⟨by simp only[co,ci];rw[hxv];exact .int _ _,ry⟩
    ·rw[List.getElem?_set_ne hij] at hz;obtain⟨e,q1,q2,q3⟩:=bf i z hz;have q1':c[i]?=some e:=by simpa using q1
     rw[if_neg hij,q1'];exact⟨q2,q3⟩⟩
  rw[←h2] at i1 s1;exact Gi di (hK _ .bw _ _ _ (.bw _) i1 s1 hk)
def y7(d:TD):MV:=if d.k.isAgg=true then .agg d.zero else d.zero.headD .bw
def LH{P:Program}{o:Oper}{f:FR}{σ:St}{k:MV→St→Prop}{t kt et:TypeId}{m x:Operand}{ok:Bool}(ho:o.op=.lookup t m x ok)(ht:(td P t).k=.map kt et){kd:IntKind}(hkt:(td P kt).k=.int kd)(hz:(td P et).jq=true)
 {l:Nat}{es:List (MV×MV)}(hm:aH f m=.db l)(hl:σ l=some (.mp es)){n:Int}(hx:aH f x=.int kd n)(he:(es.all fun p=>nh kd p.1)=true)
 (hk:k (if ok=true then .ar [(eG n es).getD (y7 (td P et)),.bool (eG n es).isSome] else(eG n es).getD (y7 (td P et))) σ):kq P o f σ k:=by
 intro Φ w a K Q' hi hr hK;have ZO:=sR ht;have huk:=kY hkt;have rm:=aL hr m;have rx:=aL hr x;rw[hm] at rm;rw[hx] at rx;obtain⟨p,R,hp,hR,hmv⟩:=rm.oV;have hxv:=rx.aZ;obtain⟨p',R',c,clock,dw,ju,hh,hs,dg,bf⟩:=(hi.own l _ hl).Hj;rw[hp] at dw;cases dw;rw[hR] at ju;cases ju;obtain⟨hkeys,hfind⟩:=xZ (n:=n) .bw c.toList es 0 (by simpa using hs) he fun i z hz=>by obtain⟨e,h1,h2,_⟩:=bf i z hz;exact⟨e,h1,h2⟩
 obtain⟨z,wc,pd,qb,cm,xp,hz4,hz5⟩:=dZ hz w;have fin:∀(v:Value) (u:MV) (b:Bool),Rel Φ v u→(au t (a.eval m) (a.eval x) ok).run P w=.ok (if ok=true then .tuple #[v,.bool b] else v) w→k (if ok=true then .ar [u,.bool b] else u) σ→o.wp P a w K Q':=fun v u b hv di hk=>by
  have hrun2:(execOp a.eval o).run P w=.ok (.value (if ok=true then .tuple #[v,.bool b] else v)) w:=by unfold execOp;simp only[ho,cS,di,cv,cy]
  refine bQ hrun2 (hK _ _ _ _ _ ?_ hi (.refl _ _ _) hk);cases ok
  ·exact hv
  ·refine .ar rfl fun i q hq=>?_
   match i with
   |0=>simp at hq;subst hq;exact hv
   |1=>simp at hq;subst hq;exact .bool _
   |i+2=>simp at hq
 rcases hfind with⟨h0,h1,h2⟩|⟨j,e,v,h0,h1,hj,hek,hes,h2⟩
 ·rw[h0] at hk;refine fin z (y7 (td P et)) false ?_ ?_ hk
  ·unfold y7;by_cases wq:(td P et).k.isAgg=true
   ·rw[if_pos wq];obtain⟨cs,rfl⟩:=hz4 wq;exact(kP (Φ:=Φ) pd xp).agg
   ·rw[if_neg wq];have h5:=hz5 (by simpa using wq);have rc:=kP (Φ:=Φ) pd xp;rw[h5] at rc;have hlen:=rc.1
    match mf:(td P et).zero with
    |[]=>rw[mf] at hlen;simp at hlen
    |q::_ =>
     rw[mf] at rc;have:=rc.2.2 0 q rfl;simpa using this
  ·simp[hmv,hxv,au,run_underlying ZO,Go.MapKept.run_getObj_map hh,run_checkKey (d:=.int kd) (k:=.int kd n) huk rfl,run_findKey (d:=.int kd) huk h1,wc,cx]
 ·rw[h0] at hk;obtain⟨e',q1,q2,q3⟩:=bf j _ hes;rw[hj] at q1;cases q1;refine fin e.val v true q3 ?_ hk;simp[hmv,hxv,au,run_underlying ZO,Go.MapKept.run_getObj_map hh,run_checkKey (d:=.int kd) (k:=.int kd n) huk rfl,run_findKey (d:=.int kd) huk h1,cx]
end
section
open Go.MapKept
def P2{P:Program}{o:Oper}{f:FR}{σ:St}{k:MV→St→Prop}{t kt et:TypeId}{m:Operand}(ho:o.op=.range t m)(ht:(td P t).k=.map kt et)
 {l:Nat}{es:List (MV×MV)}(hm:aH f m=.db l)(hl:σ l=some (.mp es))
 (hk:∀q st ck,σ q=none→st.length=es.length→st.Nodup→(∀s,s∈st→s<ck)→k (.ptr q 0 0) ((σ.set l (.mk es st ck)).set q (.it l ck []))):kq P o f σ k:=by
 intro Φ w a K Q' hi hr hK;have ZO:=sR ht;have rm:=aL hr m;rw[hm] at rm;obtain⟨p,R,hp,hR,hmv⟩:=rm.oV;obtain⟨p',R',dw,ju,c,clock,hh,⟨hs,dg⟩,bf⟩:=hi.own l _ hl;rw[hp] at dw;cases dw;rw[hR] at ju;cases ju;have xe:=(stamped_iff c clock).1 dg;obtain⟨i1,s1⟩:=hi.F6 (w':=w) l hl (.mk es (c.toList.map (·.born)) clock) hp hR rfl (fun _ _=>rfl) rfl rfl rfl (b7 _) ⟨p,R,hp,hR,c,hh,⟨hs,dg,rfl⟩,bf⟩;obtain⟨n,hn⟩:=i1.fresh.1.1;have kj:=hn n (b7 _);have di:(execOp a.eval o).run P w=.ok (.value (.pointer (some ⟨w.heap.size,0,none⟩))) (w.alloc (.mapIter (some R) clock #[] clock)):=by unfold execOp;simp only[ho,hmv,cS,run_range_map w t kt et R c clock ZO hh,cv,cy]
 have hln:l≠n:=fun e=>by subst e;rw[hp] at kj;cases kj
 obtain⟨i2,s2⟩:=i1.alloc (w':=w.alloc (.mapIter (some R) clock #[] clock)) n kj (.it l clock []) (.mapIter (some R) clock #[] clock) ⟨some w.heap.size,0,1,1⟩ rfl rfl rfl rfl rfl (by first|exact b7 _|exact lO (ca _))
  ⟨_,w.heap.size,p,R,bd.dC _ _ _,rfl,rfl,(bd.uE _ kj).obj _ _ hp,hR,heap_alloc_new w _⟩
 refine bQ di (hK _ (.ptr n 0 0) _ _ _ ?_ i2 (s1.trans s2) (hk n _ clock (hi.gI kj) (by simp[hs]) ?_ fun s h=>?_))
 ·have:=Rel.ptr (Φ:=Φ.put n ⟨some w.heap.size,0,1,1⟩) (l:=n) (i:=0) (o:=0) (bd.dC _ _ _) rfl;simpa using this
 ·exact xe.2.1
 ·obtain⟨x,hx,rfl⟩:=be.1 h;exact xe.1 x hx
def TC{P:Program}{o:Oper}{f:FR}{σ:St}{k:MV→St→Prop}{x:Operand}(ho:o.op=.next x false){q l ck:Nat}{seen st:List Nat}{es:List (MV×MV)}(hx:aH f x=.ptr q 0 0)
 (hq:σ q=some (.it l ck seen))(hl:σ l=some (.mk es st ck))(h0:(∀s,s∈st→s∈seen)→k (.ar [.bool false]) σ)
 (h1:∀(i:Nat) (z:MV×MV) (s:Nat),es[i]?=some z→st[i]?=some s→s∉seen→k (.ar [.bool true,z.1,z.2]) (σ.set q (.it l ck (seen++[s])))):kq P o f σ k:=by
 intro Φ w a K Q' hi hr hK;have rx:=aL hr x;rw[hx] at rx;obtain⟨p,R,hp,hR,hv⟩:=rx.jU;obtain⟨p',R',pm,Rm,dw,ju,hbo,hpm,hRm,hit⟩:=hi.own q _ hq;rw[hp] at dw;cases dw;rw[hR] at ju;cases ju;obtain⟨pl,Rl,qh,hRl,c,hh,⟨hs,dg,hbn⟩,bf⟩:=hi.own l _ hl;rw[hpm] at qh;cases qh;rw[hRm] at hRl;cases hRl;have xe:=(stamped_iff c ck).1 dg;rw[hbo,Nat.zero_mul] at hv;have hv:a.eval x=.pointer (some ⟨R,0,none⟩):=by simpa using hv
 rcases run_next_at (P:=P) w o.type R Rm ck ck seen.toArray c ck hit hh xe.1 (b7 _) with⟨h2,di⟩|⟨e,he,w1,hw1,di⟩
 ·have hrun':(execOp a.eval o).run P w=.ok (.value (.tuple #[.bool false])) w:=by unfold execOp;simp only[ho,hv,cS,di,cv,cy]
  refine bQ hrun' (hK _ (.ar [.bool false]) _ _ _ ?_ hi (.refl _ _ _) (h0 fun s h=>?_))
  ·refine .ar rfl fun i z hz=>?_
   match i with
   |0=>simp at hz;subst hz;exact .bool _
   |i+1=>simp at hz
  ·rw[←hbn] at h;obtain⟨y,hy,rfl⟩:=be.1 h;have:=all_seen c seen.toArray h2 y hy;simpa using this
 ·obtain⟨hem,hes⟩:=mem_left he;obtain⟨i,lk,hie⟩:=b2.1 hem;have hic:i<c.size:=by simpa using lk
  have hie':c.toList[i]?=some e:=by rw[ay lk,hie]
  have hz:es[i]?=some (es[i]'oM):=ay oM;obtain⟨z,mf⟩:∃z,es[i]'oM=z:=⟨_,rfl⟩
  rw[mf] at hz;have hrz:=bf i z hz;rw[show c.getD i default=e by
   have:c[i]=e:=by rw[←hie];simp
   simp[dt,hic,this]] at hrz
  have hsi:st[i]?=some e.born:=by rw[←hbn,List.getElem?_map,hie'];rfl
  have Z9:e.born∉seen:=by simpa using hes
  have hrun':(execOp a.eval o).run P w=.ok (.value (.tuple #[.bool true,e.key,e.val])) (Go.ChangeMaps.setBlock w1 R (.mapIter (some Rm) ck (seen.toArray.push e.born) ck)):=by unfold execOp;simp only[ho,hv,cS,di,cv,cy]
  have hRlt:=(dj.1 hit).1;have xj:(Go.ChangeMaps.setBlock w1 R (.mapIter (some Rm) ck (seen.toArray.push e.born) ck)).heap=w.heap.setIfInBounds R (.mapIter (some Rm) ck (seen.toArray.push e.born) ck):=by rcases hw1 with rfl|rfl<;>rfl
  have gv:ki w≤ki (Go.ChangeMaps.setBlock w1 R (.mapIter (some Rm) ck (seen.toArray.push e.born) ck)):=by
   rcases hw1 with rfl|rfl
   ·exact b7 _
   ·exact lO (ca _)
  obtain⟨i1,s1⟩:=hi.F6 (w':=Go.ChangeMaps.setBlock w1 R (.mapIter (some Rm) ck (seen.toArray.push e.born) ck)) q hq (.it l ck (seen++[e.born])) hp hR (by rw[xj];simp) (fun j hj=>by
    rw[xj,df,if_neg (cb hj)]) (by rcases hw1 with rfl|rfl<;>rfl) (by rcases hw1 with rfl|rfl<;>rfl) (by rcases hw1 with rfl|rfl<;>rfl) gv
   ⟨p,R,pm,Rm,hp,hR,hbo,hpm,hRm,by
    rw[xj,df,if_pos rfl,if_pos hRlt];simp⟩
  refine bQ hrun' (hK _ (.ar [.bool true,z.1,z.2]) _ _ _ ?_ i1 s1 (h1 i z e.born hz hsi Z9));refine .ar rfl fun j m hm=>?_
  match j with
  |0=>simp at hm;subst hm;exact .bool _
  |1=>simp at hm;subst hm;exact hrz.1
  |2=>simp at hm;subst hm;exact hrz.2
  |j+3=>simp at hm
def P0{P:Program}{o:Oper}{f:FR}{σ:St}{k:MV→St→Prop}{x:Operand}(ho:o.op=.entry x){q l ck:Nat}{seen st:List Nat}{es:List (MV×MV)}(hx:aH f x=.ptr q 0 0)
 {i s:Nat}{z:MV×MV}(hq:σ q=some (.it l ck (seen++[s])))(hl:σ l=some (.mk es st ck))(hz:es[i]?=some z)(hsi:st[i]?=some s)(hk:k (.ar [z.1,z.2]) σ):kq P o f σ k:=by
 intro Φ w a K Q' hi hr hK;have rx:=aL hr x;rw[hx] at rx;obtain⟨p,R,hp,hR,hv⟩:=rx.jU;obtain⟨p',R',pm,Rm,dw,ju,hbo,hpm,hRm,hit⟩:=hi.own q _ hq;rw[hp] at dw;cases dw;rw[hR] at ju;cases ju;obtain⟨pl,Rl,qh,hRl,c,hh,⟨hs,dg,hbn⟩,bf⟩:=hi.own l _ hl;rw[hpm] at qh;cases qh;rw[hRm] at hRl;cases hRl;have xe:=(stamped_iff c ck).1 dg;rw[hbo,Nat.zero_mul] at hv;have hv:a.eval x=.pointer (some ⟨R,0,none⟩):=by simpa using hv
 have qu:i<es.length:=(av.1 hz).1;have hic:i<c.size:=oM;have zf:c.toList[i]?=some c[i]:=by simp[hic]
 have rq:c[i].born=s:=by rw[←hbn,List.getElem?_map,zf] at hsi;simpa using hsi
 have hrz:=bf i z hz;rw[show c.getD i default=c[i] by simp[dt,hic]] at hrz;have di:(execOp a.eval o).run P w=.ok (.value (.tuple #[c[i].key,c[i].val])) w:=by unfold execOp;simp only[ho,hv,cS,run_entry_at (P:=P) w R Rm ck seen.toArray c ck c[i] (by rw[rq];simpa using hit) hh (bg zf) (xe.2.1),cv,cy]
 refine bQ di (hK _ (.ar [z.1,z.2]) _ _ _ ?_ hi (.refl _ _ _) hk);refine .ar rfl fun j m hm=>?_
 match j with
 |0=>simp at hm;subst hm;exact hrz.1
 |1=>simp at hm;subst hm;exact hrz.2
 |j+2=>simp at hm
end
def Fits(n b:Nat):Prop:=n≤140737488355328∧n*b≤140737488355328
def mpure(σ:St)(k:MV→St→Prop):PV→Prop
  |some (C,v)=>C∧k v σ
  |none=>False
def nX(P:Program)(t:TypeId)(x:MV)(σ:St)(k:MV→St→Prop):Prop :=
  match x with
  |.ptr l i o=>match σ l with
    |some (.row _ _ xs)=>((td P t).ok=true∧i<xs.length∧o+(td P t).size≤(xs.getD i []).length∧0<(td P t).size)∧k (eJ (td P t) (xs.getD i []) o) σ
    |_=>False
  |.cg cs=>((td P t).ok=true∧(td P t).size≤cs.length∧0<(td P t).size)∧k (eJ (td P t) cs 0) σ
  |_=>False
def rG(P:Program)(t:TypeId)(x y:MV)(σ:St)(k:MV→St→Prop):Prop :=
  match x with
  |.ptr l i o=>match σ l with
    |some (.row tt e xs)=>((td P t).ok=true∧i<xs.length∧y.cells.all b6=true∧y.cells.length=(td P t).size∧o+y.cells.length≤(xs.getD i []).length)∧k .bw (σ.set l (.row tt e (xs.set i (laid (xs.getD i []) o y.cells))))
    |_=>False
  |_=>False
def l9(P:Program)(t xt:TypeId)(s x:MV)(σ:St)(k:MV→St→Prop):Prop :=
  match (td P t).k with
  |.slice el=>match fX σ (td P el).size x with
    |some ys=>match s with
      |.aK=>((td P xt).k.gT=true∧(td P el).jq=true∧Fits ys.length (td P el).bytes)∧∀l,σ l=none→k (.vec (td P el).size l 0 ys.length) (σ.set l (.row el (td P el).size ys))
      |.aj e xs true=>((td P xt).k.gT=true∧(td P el).jq=true∧e=(td P el).size∧(xs=[]∨0<ys.length)∧Fits (xs.length+ys.length) (td P el).bytes) ∧
          ∀l,σ l=none→k (.vec (td P el).size l 0 (xs.length+ys.length)) (σ.set l (.row el (td P el).size (xs++ys)))
      |.vec e l lo n=>match σ l with
        |some (.row tt e' xs)=>((td P xt).k.gT=true∧(td P el).jq=true∧e=(td P el).size∧e'=(td P el).size∧tt=el∧lo=0∧lo+n≤xs.length∧Fits (n+ys.length) (td P el).bytes) ∧
            ∀l',σ l'=none→k (.vec (td P el).size l' 0 (n+ys.length)) ((σ.del l).set l' (.row el (td P el).size (gP xs lo n ys)))
        |_=>False
      |_=>False
    |none=>False
  |_=>False
def fA(P:Program)(f:FR)(t:TypeId)(len:Nat)(parts:Array (Nat×Operand))(σ:St)(k:MV→St→Prop):Prop :=
  match (td P t).k with
  |.slice el=>((td P el).jq=true∧parts.toList.map (·.1)=bs len∧(parts.toList.all fun p=>(aH f p.2).cells.all b6&&(aH f p.2).cells.length==(td P el).size)=true∧len*(td P el).size≤16777216∧len≤16777216) ∧
      ∀l,σ l=none→k (.vec (td P el).size l 0 len) (σ.set l (.row el (td P el).size (parts.toList.map fun p=>(aH f p.2).cells)))
  |_=>False
def kH(P:Program)(t:TypeId)(x y:MV)(σ:St)(k:MV→St→Prop):Prop :=
  match (td P t).k,x,y with
  |.slice el,.int .i64 n,.int .i64 c=>((td P el).jq=true∧0≤n∧n≤c∧Fits c.toNat (td P el).bytes)∧∀l,σ l=none→k (.vec (td P el).size l 0 n.toNat) (σ.set l (.row el (td P el).size (a5 n.toNat (td P el).zero)))
  |_,_,_=>False
def jW(P:Program)(s d:TypeId)(x:MV)(σ:St)(k:MV→St→Prop):Prop :=
  match (td P s).k,(td P d).k,x with
  |.str,.slice el,.str b=>((td P el).k=.int .u8∧FZ el=true∧b.size≤140737488355328)∧∀l,σ l=none→k (.vec 1 l 0 b.size) (σ.set l (.row el 1 (b.toList.map fun c=>[.int .u8 (c.toNat:Int)])))
  |.slice el,.str,.str _=>False
  |.slice el,.str,x=>match fX σ 1 x with
    |some ys=>((td P el).k=.int .u8∧ys.all isByte=true)∧k (.str (bytesOf ys)) σ
    |none=>False
  |_,_,x=>mpure σ k (vT P s d x)
def iE(P:Program)(f:FR)(b:Builtin)(args:List Operand)(ts:List TypeId)(σ:St)(k:MV→St→Prop):Prop :=
  match b with
  |.append=>match args,ts with
    |[s,x],[t,xt]=>l9 P t xt (aH f s) (aH f x) σ k
    |_,_=>False
  |b=>ts.length=args.length∧mpure σ k (fB P b ts.toArray (args.map (aH f)))
def MD(P:Program)(f:FR)(c:Call)(σ:St)(k:MV→St→Prop):Prop :=
  match c.callee with
  |.builtin b=>iE P f b c.args.toList c.argTypes.toList σ k
  |.value x=>match aH f x with
    |.fn (.func g) ms ns=>aA P g (ms++c.args.toList.map (aH f)++ns) σ k
    |_=>False
  |.invoke _ _=>False
def mapOf(σ:St):MV→Option aY
  |.db l=>σ l
  |_=>none
def iN(P:Program)(t:TypeId)(m x y:MV)(o:Option aY)(σ:St)(k:MV→St→Prop):Prop :=
  match (td P t).k,m,x,o with
  |.map kt _,.db l,.int kd n,some (.mp es)=>((td P kt).k=.int kd∧(es.all fun p=>nh kd p.1)=true)∧k .bw (σ.set l (.mp (dW kd n y es)))
  |_,_,_,_=>False
def iU(P:Program)(t:TypeId)(m x:MV)(ok:Bool)(o:Option aY)(σ:St)(k:MV→St→Prop):Prop :=
  match (td P t).k,m,x,o with
  |.map kt et,.db _,.int kd n,some (.mp es)=>((td P kt).k=.int kd∧(td P et).jq=true∧(es.all fun p=>nh kd p.1)=true)∧k (if ok=true then .ar [(eG n es).getD (y7 (td P et)),.bool (eG n es).isSome] else(eG n es).getD (y7 (td P et))) σ
  |_,_,_,_=>False
def KN(P:Program)(t:TypeId)(m:MV)(o:Option aY)(σ:St)(k:MV→St→Prop):Prop :=
  match (td P t).k,m,o with
  |.map _ _,.db l,some (.mp es)=>∀q st ck,σ q=none→st.length=es.length→st.Nodup→(∀s,s∈st→s<ck)→k (.ptr q 0 0) ((σ.set l (.mk es st ck)).set q (.it l ck []))
  |_,_,_=>False
def Sa(x:MV)(σ:St)(k:MV→St→Prop):Prop :=
  match x with
  |.ptr q 0 0=>∃l ck seen es st,σ q=some (.it l ck seen)∧σ l=some (.mk es st ck)∧((∀s,s∈st→s∈seen)→k (.ar [.bool false]) σ) ∧
      ∀(i:Nat) (z:MV×MV) (s:Nat),es[i]?=some z→st[i]?=some s→s∉seen→k (.ar [.bool true,z.1,z.2]) (σ.set q (.it l ck (seen++[s])))
  |_=>False
def Ku(x:MV)(σ:St)(k:MV→St→Prop):Prop :=
  match x with
  |.ptr q 0 0=>∃l ck seen es st,∃(i:Nat) (z:MV×MV) (s:Nat),σ q=some (.it l ck (seen++[s]))∧σ l=some (.mk es st ck)∧es[i]?=some z∧st[i]?=some s∧k (.ar [z.1,z.2]) σ
  |_=>False
def mq(P:Program)(f:FR)(σ:St)(k:MV→St→Prop):Op→Prop
  |.alloc t=>(td P t).jq=true∧∀l,σ l=none→k (.ptr l 0 0) (σ.set l (.row t (td P t).size [(td P t).zero]))
  |.box t x=>(aH f x).cells.all b6=true∧∀l,σ l=none→k (.ptr l 0 0) (σ.set l (.row t (aH f x).cells.length [(aH f x).cells]))
  |.load t x=>nX P t (aH f x) σ k
  |.store t x y=>rG P t (aH f x) (aH f y) σ k
  |.buildSlice t len parts=>fA P f t len parts σ k
  |.makeSlice t x y=>kH P t (aH f x) (aH f y) σ k
  |.convert s d x=>jW P s d (aH f x) σ k
  |.call c=>MD P f c σ k
  |.lookup t m x ok=>iU P t (aH f m) (aH f x) ok (mapOf σ (aH f m)) σ k
  |.mapUpdate t m x y=>iN P t (aH f m) (aH f x) (aH f y) (mapOf σ (aH f m)) σ k
  |op=>mpure σ k (yy P f op)
def rE{P:Program}{o:Oper}{f:FR}{σ:St}{k:MV→St→Prop}(h:mpure σ k (yy P f o.op))(hot:vY o.op=true):kq P o f σ k:=by
  cases hq:yy P f o.op with
  |none=>rw[hq] at h;exact h.elim
  |some q=>obtain⟨C,v⟩:=q;rw[hq] at h;exact TE hq hot h.1 h.2
def oZ{n:Nat}(h:n≤140737488355328):n≤maxLen:=Nat.le_trans h (by unfold maxLen;omega)
def uX{l:List MV}(h:l.all b6=true):∀c,c∈l→c.aP=true:=by simpa using h
def HD{P:Program}{o:Oper}{f:FR}{σ:St}{k:MV→St→Prop}{t:TypeId}{x:Operand}(ho:o.op=.load t x)(h:nX P t (aH f x) σ k):kq P o f σ k:=by
  unfold nX at h;split at h
  · rename_i l i of hx
    split at h
    · rename_i tt e xs hs
      exact TB ho hx hs h.1.1 h.1.2.1 h.1.2.2.1 h.1.2.2.2 h.2
    · exact h.elim
  · rename_i cs hx
    exact PZ ho hx h.1.1 h.1.2.1 h.1.2.2 h.2
  · exact h.elim
def oN{P:Program}{o:Oper}{f:FR}{σ:St}{k:MV→St→Prop}{t:TypeId}{m x y:Operand}(ho:o.op=.insert t m x y∨o.op=.mapUpdate t m x y)(h:iN P t (aH f m) (aH f x) (aH f y) (mapOf σ (aH f m)) σ k):kq P o f σ k:=by
  unfold iN at h;split at h
  · rename_i kt et l kd n es h1 h2 h3 h4
    rw[h2] at h4;exact LG ho h1 h.1.1 h2 h4 h3 h.1.2 h.2
  · exact h.elim
def tB{P:Program}{o:Oper}{f:FR}{σ:St}{k:MV→St→Prop}{t:TypeId}{m x:Operand}{ok:Bool}(ho:o.op=.lookup t m x ok)(h:iU P t (aH f m) (aH f x) ok (mapOf σ (aH f m)) σ k):kq P o f σ k:=by
  unfold iU at h;split at h
  · rename_i kt et l kd n es h1 h2 h3 h4
    rw[h2] at h4;exact LH ho h1 h.1.1 h.1.2.1 h2 h4 h3 h.1.2.2 h.2
  · exact h.elim
def EV{P:Program}{o:Oper}{f:FR}{σ:St}{k:MV→St→Prop}{t:TypeId}{m:Operand}(ho:o.op=.range t m)(h:KN P t (aH f m) (mapOf σ (aH f m)) σ k):kq P o f σ k:=by
  unfold KN at h;split at h
  · rename_i kt et l es h1 h2 h3
    rw[h2] at h3;exact P2 ho h1 h2 h3 h
  · exact h.elim
def HF{P:Program}{o:Oper}{f:FR}{σ:St}{k:MV→St→Prop}{x:Operand}(ho:o.op=.next x false)(h:Sa (aH f x) σ k):kq P o f σ k:=by
  unfold Sa at h;split at h
  · rename_i q hx
    obtain⟨l,ck,seen,es,st,h1,h2,h3,h4⟩:=h;exact TC ho hx h1 h2 h3 h4
  · exact h.elim
def EN{P:Program}{o:Oper}{f:FR}{σ:St}{k:MV→St→Prop}{x:Operand}(ho:o.op=.entry x)(h:Ku (aH f x) σ k):kq P o f σ k:=by
  unfold Ku at h;split at h
  · rename_i q hx
    obtain⟨l,ck,seen,es,st,i,z,s,h1,h2,h3,h4,h5⟩:=h;exact P0 ho hx h1 h2 h3 h4 h5
  · exact h.elim
def o7{P:Program}{o:Oper}{f:FR}{σ:St}{k:MV→St→Prop}(h:mq P f σ k o.op):kq P o f σ k:=by
  cases ho:o.op<;>rw[ho] at h<;>simp only[mq] at h;case alloc t=>exact PX ho h.1 h.2
  case box t x=>exact Vu ho (uX h.1) h.2
  case load t x=>exact HD ho h
  case lookup t m x ok=>exact tB ho h
  case mapUpdate t m x y=>exact oN (.inr ho) h
  case store t x y =>
    unfold rG at h;split at h
    · rename_i l i of hx
      split at h
      · rename_i tt e xs hs
        obtain⟨⟨h1,h2,h3,h4,h5⟩,h6⟩:=h;exact P3 ho hx hs h1 h2 (uX h3) h4 h5 h6
      · exact h.elim
    · exact h.elim
  case buildSlice t len parts =>
    unfold fA at h;split at h
    · rename_i el hk
      obtain⟨⟨h1,h2,h3,h4,h5⟩,h6⟩:=h;refine BQ ho hk h1 h2 (fun p hp=>?_) h4 (oZ oM) h6;have:=a4.1 h3 p hp;simp only[aa,beq_iff_eq] at this;exact⟨uX this.1,this.2⟩
    · exact h.elim
  case makeSlice t x y =>
    unfold kH at h;split at h
    · rename_i el n c hk hx hy
      obtain⟨⟨h1,h2,h3,h4⟩,h6⟩:=h;obtain⟨h7,h8⟩:=h4;refine CW ho hk h1 hx hy h2 h3 oM ?_ h6;have:c=(c.toNat:Int):=oM;rw[this,Int.mul_comm,←Int.natCast_mul];exact Int.ofNat_le.2 h8
    · exact h.elim
  case convert s d x =>
    unfold jW at h;split at h
    · rename_i el b hs hd hx
      exact P1 ho hs hd h.1.1 h.1.2.1 hx (oZ h.1.2.2) h.2
    · exact h.elim
    · rename_i el hs hd fg
      split at h
      · rename_i ys hy
        exact P4 ho hs h.1.1 hd hy (fun b hb=>fg b hb) h.1.2 h.2
      · exact h.elim
    · refine rE ?_ (by rw[ho];rfl)
      rw[ho];exact h
  case call c =>
    obtain⟨callee,args,ts⟩:=c;unfold MD at h;cases callee with
    |builtin b =>
      simp only[iE] at h;split at h
      · split at h
        · rename_i s x t xt ha hts
          have ha':args=#[s,x]:=by rw[←de (xs:=args),ha]
          have hts':ts=#[t,xt]:=by rw[←de (xs:=ts),hts]
          subst ha';subst hts';unfold l9 at h;split at h
          · rename_i el hk
            split at h
            · rename_i ys hy
              split at h
              · rename_i hs
                obtain⟨⟨h1,h2,h3⟩,h4⟩:=h;have:=rS (P:=P) (f:=f) (σ:=σ) (k:=k) ho hk h1 h2 (xs:=[]) (ys:=ys) (.inl ⟨hs,rfl⟩) hy (.inl rfl) (oZ (by simpa using h3.1)) (by simpa using h3.2) (by simpa using h4);exact this
              · rename_i e xs hs
                obtain⟨⟨h1,h2,rfl,h3,h4⟩,h5⟩:=h;exact rS (P:=P) (f:=f) (σ:=σ) (k:=k) ho hk h1 h2 (.inr hs) hy h3 (oZ h4.1) h4.2 h5
              · rename_i e l lo n hs
                split at h
                · rename_i tt e' xs iq
                  obtain⟨⟨h1,h2,rfl,rfl,h3,hlo,h4,h5⟩,h6⟩:=h;exact BP (P:=P) (f:=f) (σ:=σ) (k:=k) ho hk h1 h2 hs iq h3 hlo h4 hy (oZ h5.1) h5.2 h6
                · exact h.elim
              · exact h.elim
            · exact h.elim
          · exact h.elim
        · exact h.elim
      · rename_i b' fg
        refine rE (P:=P) (f:=f) ?_ (by rw[ho];simp only[vY,beq_iff_eq];simpa using h.1);rw[ho];simpa[yy] using h.2
    |value x =>
      simp only at h;split at h
      · rename_i g ms ns hx
        exact TA ho hx h
      · exact h.elim
    |invoke r m=>exact h.elim
  all_goals first
    |exact rE (by rw[ho];exact h) (by rw[ho];rfl)
    |exact h.elim
def bI(f:FR)(dst:Option Tmp)(v:MV):FR :=
  match dst with
  |some d=>if d<f.n then⟨f.n,(d,v)::f.l,f.d⟩ else f
  |none=>f
def cT{Φ:bd}{a:Act}{f:FR}(hr:dP Φ a.tmps f)(dst:Option Tmp){v:Value}{m:MV}(h:Rel Φ v m):dP Φ (a.put dst v).tmps (bI f dst m):=by
  cases dst with
  |none=>exact hr
  |some d =>
    have e1:=hr.1;simp only[bI];split
    · rename_i hd
      refine⟨by simp[Act.put,e1],fun t=>?_⟩;simp only[Act.put,da,df,al,cV];by_cases ht:t=d
      · subst ht
        rw[if_pos rfl,if_pos rfl,if_pos (show t<a.tmps.size by rw[e1];exact hd)];exact h
      · rw[if_neg (cb ht),if_neg ht]
        have:=hr.2 t
        rwa [da] at this
    · rename_i hd
      refine⟨by simp[Act.put,e1],fun t=>?_⟩;have xi:¬d<a.tmps.size:=by rw[e1];exact hd
      have:(a.put (some d) v).tmps=a.tmps:=by simp only[Act.put,Array.setIfInBounds,dif_neg xi]
      rw[this];exact hr.2 t
def bT{a:Act}(dst:Option Tmp)(v:Value):(a.put dst v).defers=a.defers:=by cases dst<;>rfl
def gL{Φ:bd}:Rel Φ undef (.ar []):=.ar rfl (fun i m h=>by simp at h)
def fH(ops:Array Oper)(f:FR)(o:Oper)(yes no:Prop):Prop :=
  match o.guard with
  |none=>yes
  |some (j,want)=>match (ops[j]?).bind (·.dst) with
    |some t=>match f.get t with
      |.bool b=>(b=want→yes)∧(b=(!want)→no)
      |.ar []=>no
      |_=>False
    |none=>False
def cQ{Φ:bd}{ops:Array Oper}{f:FR}{o:Oper}{yes no:Prop}(h:fH ops f o yes no){a:Act}(hr:dP Φ a.tmps f) :
    (Region.wanted o (yielded ops a.tmps)=true∧yes)∨(Region.wanted o (yielded ops a.tmps)=false∧no):=by
  unfold fH at h;unfold Region.wanted;split at h
  · rename_i hg;rw[hg];exact .inl ⟨rfl,h⟩
  · rename_i j want hg
    rw[hg];simp only;split at h
    · rename_i t ht
      split at h
      · rename_i b hb
        have hy:yielded ops a.tmps j=some b:=by
          unfold yielded;rw[ht];have bf:=hr.2 t;rw[hb] at bf;have bf:=bf.mU;have ZF:t<a.tmps.size:=by
            rcases Nat.lt_or_ge t a.tmps.size with q|q
            · exact q
            · simp[da,dn q,undef] at bf
          rw[da,dd ZF] at bf;simp only[ci] at bf;simp[dd ZF,bf]
        rw[hy];by_cases hw:b=want
        · left;subst hw;exact⟨ax,h.1 rfl⟩
        · right
          have mw:b=!want:=by cases b<;>cases want<;>simp at hw ⊢
          exact⟨by simp[hw],h.2 mw⟩
      · rename_i hb
        right;have bf:=hr.2 t;rw[hb] at bf;obtain⟨cs,e,hs,_⟩:=bf.Ez;have hy:yielded ops a.tmps j=none:=by
          unfold yielded;rw[ht];rcases Nat.lt_or_ge t a.tmps.size with q|q
          · rw[da,dd q] at e
            simp only[ci] at e;simp[dd q,e]
          · simp[dn q]
        rw[hy];exact⟨ax,h⟩
      · exact h.elim
    · exact h.elim
def yE(f:FR)(c:Call)(K:FR→Prop):Prop:=match c.callee with
  |.value x=>match aH f x with
    |.fn (.func g) ms ns=>K ⟨f.n,f.l,(g,ms++c.args.toList.map (aH f)++ns)::f.d⟩
    |_=>False
  |_=>False
def sK(P:Program)(t:TypeId)(x lo hi:MV)(o:Option aY)(σ:St)(k:MV→St→Prop):Prop :=
  match x,lo,hi,o,(td P t).k with
  |.vec e l l0 _,.int _ a,.int _ h,some (.row _ e' xs),.slice el=>((td P el).ok=true∧e=(td P el).size∧e'=(td P el).size∧0≤a∧a≤h∧l0+h.toNat≤xs.length)∧k (.vec e l (l0+a.toNat) (h.toNat-a.toNat)) σ
  |_,_,_,_,_=>False
def MB(σ:St):MV→Option aY
  |.vec _ l _ _=>σ l
  |_=>none
def beyond:MV→MV→Prop
  |.vec _ _ _ n,.int _ h=>(n:Int)<h
  |_,_=>False
instance (x y:MV):Decidable (beyond x y):=by unfold beyond;split<;>infer_instance
def mclear(P:Program)(t:TypeId)(x:MV)(o:Option aY)(σ:St)(k:MV→St→Prop):Prop :=
  match x,o,(td P t).k with
  |.vec e l l0 n,some (.row tt e' xs),.slice el=>((td P el).jq=true∧0<(td P el).size∧e=(td P el).size∧e'=(td P el).size∧l0+n≤xs.length)∧k .bw (σ.set l (.row tt e' (bK xs l0 (a5 n (td P el).zero))))
  |_,_,_=>False
def Sz(P:Program)(t:TypeId)(s x:MV)(σ:St)(k:MV→St→Prop):Prop :=
  match (td P t).k,s,x with
  |.slice el,.aK,.int .i64 n=>((td P el).jq=true∧0<(td P el).size∧0<n∧Fits n.toNat (td P el).bytes)∧∀l,σ l=none→k (.vec (td P el).size l 0 n.toNat) (σ.set l (.row el (td P el).size (a5 n.toNat (td P el).zero)))
  |_,_,_=>False
def U5(b:Bool)(A B:Prop):Prop:=if b=true then A else B
def jY(P:Program)(f:FR)(σ:St)(dst:Option Tmp)(K:FR→St→Prop):Op→Prop
  |.defer c=>yE f c fun f'=>K (bI f' dst .bw) σ
  |.makeMap _ none=>∀l,σ l=none→K (bI f dst (.db l)) (σ.set l (.mp []))
  |.insert t m x y=>iN P t (aH f m) (aH f x) (aH f y) (mapOf σ (aH f m)) σ (fun v af=>K (bI f dst v) af)
  |.mapUpdate t m x y=>iN P t (aH f m) (aH f x) (aH f y) (mapOf σ (aH f m)) σ (fun v af=>K (bI f dst v) af)
  |.lookup t m x ok=>iU P t (aH f m) (aH f x) ok (mapOf σ (aH f m)) σ (fun v af=>K (bI f dst v) af)
  |.range t m=>KN P t (aH f m) (mapOf σ (aH f m)) σ (fun v af=>K (bI f dst v) af)
  |.next x false=>Sa (aH f x) σ (fun v af=>K (bI f dst v) af)
  |.entry x=>Ku (aH f x) σ (fun v af=>K (bI f dst v) af)
  |.slice t x (some y) (some z) none=>if beyond (aH f x) (aH f z) then sK P t (aH f x) (aH f y) (aH f z) (MB σ (aH f x)) σ (fun v af=>K (bI f dst v) af)
      else mq P f σ (fun v af=>K (bI f dst v) af) (.slice t x (some y) (some z) none)
  |.call ⟨.builtin .clear,args,ts⟩=>match args.toList,ts.toList with
    |[x],[t]=>mclear P t (aH f x) (MB σ (aH f x)) σ (fun v af=>K (bI f dst v) af)
    |_,_=>False
  |.call ⟨.builtin .append,args,ts⟩=>match args.toList,ts.toList with
    |[s,x],[t,xt]=>U5 (td P xt).k.isInt (Sz P t (aH f s) (aH f x) σ (fun v af=>K (bI f dst v) af)) (mq P f σ (fun v af=>K (bI f dst v) af) (.call ⟨.builtin .append,args,ts⟩))
    |_,_=>False
  |op=>mq P f σ (fun v af=>K (bI f dst v) af) op
def eC(P:Program)(ops:Array Oper)(K:FR→St→Prop):List Oper→FR→St→Prop
  |[],f,σ=>K f σ
  |o::rest,f,σ=>fH ops f o (jY P f σ o.dst (eC P ops K rest) o.op) (eC P ops K rest (bI f o.dst (.ar [])) σ)
def eD(f:FR)(dst:Option Tmp)(v:MV):(bI f dst v).d=f.d:=by unfold bI;split<;>(try split)<;>rfl
def fC:Op→Bool
  |.defer _|.makeMap _ none|.insert ..|.mapUpdate ..|.lookup ..|.range ..|.next _ false|.entry ..|.slice _ _ (some _) (some _) none|.call ⟨.builtin .clear,_,_⟩|.call ⟨.builtin .append,_,_⟩=>false
  |_=>true
def HP{P:Program}{f:FR}{σ:St}{dst:Option Tmp}{K:FR→St→Prop}{op:Op}(h:fC op=true):jY P f σ dst K op=mq P f σ (fun v af=>K (bI f dst v) af) op:=by
  cases op<;>first|rfl|skip
  case slice t x lo hi mx=>cases lo<;>cases hi<;>cases mx<;>first|rfl|(simp[fC] at h;done)
  case defer c=>simp[fC] at h
  case makeMap t r=>cases r<;>first|rfl|(simp[fC] at h;done)
  case insert=>simp[fC] at h
  case range=>simp[fC] at h
  case entry=>simp[fC] at h
  case next x b=>cases b<;>first|rfl|(simp[fC] at h;done)
  case call c =>
    obtain⟨callee,args,ts⟩:=c;cases callee<;>first|rfl|skip
    rename_i b;cases b<;>first|rfl|(simp[fC] at h;done)
def lG{P:Program}{o:Oper}{f:FR}{σ:St}{K:FR→St→Prop}(hd:∀c,o.op≠.defer c)(h:jY P f σ o.dst K o.op):kq P o f σ fun v af=>K (bI f o.dst v) af:=by
  by_cases hp:fC o.op=true
  · rw[HP hp] at h
    exact o7 h
  · cases ho:o.op<;>rw[ho] at h hp<;>(try simp[fC] at hp)
    case slice t x lo hi mx =>
      cases lo<;>cases hi<;>cases mx<;>(try simp[fC] at hp)
      rename_i y z;simp only[jY] at h;split at h
      · unfold sK at h
        split at h
        · rename_i e l l0 n k1 a k2 hh tt e' xs el hx hy hz hl hk
          obtain⟨⟨h1,rfl,rfl,h3,h4,h5⟩,h6⟩:=h;rw[hx] at hl;exact LI ho hk h1 hx hl hy hz h3 h4 h5 h6
        · exact h.elim
      · rw[←ho] at h
        exact o7 h
    case defer c=>exact absurd ho (hd c)
    case makeMap t r =>
      cases r<;>(try simp[fC] at hp)
      exact Jb ho h
    case insert t m x y=>exact oN (.inl ho) h
    case mapUpdate t m x y=>exact oN (.inr ho) h
    case lookup t m x ok=>exact tB ho h
    case range t m=>exact EV ho h
    case next x b =>
      cases b<;>(try simp[fC] at hp)
      exact HF ho h
    case entry x=>exact EN ho h
    case call c =>
      obtain⟨callee,args,ts⟩:=c;cases callee<;>(try simp[fC] at hp)
      rename_i b;cases b<;>(try simp[fC] at hp)
      case append =>
        simp only[jY] at h;split at h
        · rename_i s x t xt ha ht
          have ha':args=#[s,x]:=by rw[←de (xs:=args),ha]
          have ht':ts=#[t,xt]:=by rw[←de (xs:=ts),ht]
          subst ha';subst ht';unfold U5 at h;split at h
          · rename_i Zk
            unfold Sz at h;split at h
            · rename_i el n hk hs hx
              obtain⟨⟨h1,h2,h3,h4,h5⟩,h6⟩:=h;exact yS ho hk Zk h1 h2 hs hx h3 h4 h5 h6
            · exact h.elim
          · rw[←ho] at h
            exact o7 h
        · exact h.elim
      case clear =>
        simp only[jY] at h;split at h
        · rename_i x t ha ht
          have ha':args=#[x]:=by rw[←de (xs:=args),ha]
          have ht':ts=#[t]:=by rw[←de (xs:=ts),ht]
          subst ha';subst ht';unfold mclear at h;split at h
          · rename_i e l l0 n tt e' xs el hx hl hk
            obtain⟨⟨h1,h2,rfl,rfl,h3⟩,h4⟩:=h;rw[hx] at hl;exact PY ho hk h1 h2 hx hl h3 h4
          · exact h.elim
        · exact h.elim
def IK{Φ:bd}{x y:Array Value}{m n:List MV}(h1:iX Φ x m)(h2:iX Φ y n):iX Φ (x++y) (m++n):=by
  refine⟨by simp[h1.1,h2.1],fun i q hq=>?_⟩;have e1:=h1.1;by_cases h:i<m.length
  · rw[aN h] at hq
    have:=h1.2 i q hq;simpa[da,dl (show i<x.size by omega)] using this
  · rw[a6 oM] at hq
    have:=h2.2 _ q hq;simpa[da,Array.getElem?_append_right (show x.size≤i by omega),e1] using this
def pP{P:Program}{o:Oper}{c:Call}(ho:o.op=.defer c){f:FR}{K:FR→Prop}(h:yE f c K){Φ:bd}{a:Act}{w:World}(hr:dP Φ a.tmps f)(hd:eF Φ w a.defers f.d) :
    ∃d f',(execOp a.eval o).run P w=.ok (.defer d) w∧dP Φ a.tmps f'∧eF Φ w (d::a.defers) f'.d∧K f':=by
  unfold yE at h;obtain⟨callee,args,ts⟩:=c;simp only at h;split at h
  · rename_i x
    split at h
    · rename_i g ms ns hx
      have rx:=aL hr x;rw[hx] at rx;obtain⟨first,cap,he,r1,r2⟩:=rx.pM;refine⟨⟨.fn (.func g) cap,first++args.map a.eval⟩,_,?_,?_,?_,h⟩
      · unfold execOp
        simp only[ho,resolve,he,Deferred.ofValue,cS,cy,cv]
      · exact hr
      · exact .inr ⟨_,_,_,cap,rfl,rfl,IK (IK r1 (nD hr args)) r2,hd⟩
    · exact h.elim
  · exact h.elim
def FG{F:Fence}(hF:F=am∨∃l,F=am.inRound l){n:Nat}{P:Program}{row:String}{args:Array Value}{w:World}{R:Value→World→Prop}(h:Rows P row args w R):RowsIn F n P row args w R:=by
  intro c cs _;obtain⟨v,w',r,s⟩:=h c cs;refine⟨v,w',r,?_⟩;rcases hF with rfl|⟨l,rfl⟩
  · exact stepsIn_wide.2 s
  · rw[fenced_inRound];exact stepsIn_wide.2 s
def Ca{F:Fence}(hF:F=am∨∃l,F=am.inRound l){n:Nat}{P:Program}{f:FuncId}{args:Array Value}{w:World}{R:Ending→World→Prop}(h:Calls P f args w R):CallsIn F n P f args w R:=by
  rcases hF with rfl|⟨l,rfl⟩
  · exact callsIn_wide.2 h
  · exact CallsIn.inRound l (callsIn_wide.2 h)
def fK{F:Fence}{n:Nat}{P:Program}{o:Oper}{a:Act}{w:World}{K:Act→World→Prop}{Q:Exit→Act→World→Prop}
   (hF:F=am∨∃l,F=am.inRound l∧∀c,o.op≠.defer c)(h:o.wp P a w K Q):o.wpIn F n P a w K Q:=by
  have ud:F=am∨∃l,F=am.inRound l:=hF.imp id fun⟨l,e,_⟩=>⟨l,e⟩
  have mm:∀g,F.fn g:=fun g=>by rcases ud with rfl|⟨l,rfl⟩<;>trivial
  have hd:F.depth.isSome=true→1≤n:=fun q=>by rcases ud with rfl|⟨l,rfl⟩<;>cases q
  have hs:o.semAt F.round a.eval=execOp a.eval o:=by
    rcases hF with rfl|⟨l,rfl,hc⟩
    · exact Oper.semAt_none _ _
    · exact Oper.semAt_eq _ _ _ hc
  refine⟨fun f _=>mm f,?_⟩;rw[hs];unfold Oper.wp at h;generalize (execOp a.eval o).run P w=r at h ⊢;cases r with
  |ok x w' =>
    cases x with
    |value v=>exact h
    |skip=>exact h
    |defer d=>exact h
    |enter f args=>exact⟨hd,(Ca ud h).mono fun e w'' q=>by cases e<;>exact q⟩
    |row row args=>exact⟨hd,FG ud h⟩
    |_=>exact h.elim
  |halt x w' =>
    cases x with
    |panic v=>exact h
    |_=>exact h.elim
def tZ{P:Program}{ops:Array Oper}{Q:MQ}{Φ0:bd}{σ0:St}{w0:World}{F:Fence}:∀(l:List Oper),(F=am∨∃l0,F=am.inRound l0∧∀o,o∈l→∀c,o.op≠.defer c)→∀(f:FR) (σ:St) (Φ:bd) (w:World) (a:Act),eC P ops (Q .normal) l f σ→Inv Φ w σ→dP Φ a.tmps f→eF Φ w a.defers f.d →
    Step Φ0 σ0 w0 Φ σ w→wpListIn F 0 P ops (lift Φ0 σ0 w0 Q) l a w:=by
  intro l
  induction l with
  |nil=>intro _ f σ Φ w a h hi hr hd hs;exact⟨f,σ,Φ,hd,hr,hi,hs,h⟩
  |cons o rest ih =>
    intro hF f σ Φ w a h hi hr hd hs;have Zp:F=am∨∃l0,F=am.inRound l0∧∀o,o∈rest→∀c,o.op≠.defer c:=hF.imp id fun⟨l0,e,q⟩=>⟨l0,e,fun o ho=>q o (by simp[ho])⟩
    have yd:F=am∨∃l0,F=am.inRound l0∧∀c,o.op≠.defer c:=hF.imp id fun⟨l0,e,q⟩=>⟨l0,e,q o ax⟩
    have mm:∀g,F.fn g:=fun g=>by rcases hF with rfl|⟨l,rfl,_⟩<;>trivial
    simp only[eC] at h;unfold wpListIn;rcases cQ h hr with⟨hw,hy⟩|⟨hw,hn⟩
    · rw[if_pos hw]
      refine fK yd ?_;by_cases mj:∃c,o.op=.defer c
      · obtain⟨c,hc⟩:=mj
        rw[hc] at hy;have hy:yE f c fun f'=>eC P ops (Q .normal) rest (bI f' o.dst .bw) σ:=hy;obtain⟨d,f',h1,h2,h3,h4⟩:=pP (P:=P) (w:=w) hc hy hr hd;unfold Oper.wp;rw[h1];refine ih Zp _ _ Φ w _ h4 hi (cT (a:={ a with defers:=d::a.defers }) h2 o.dst (.bw _)) ?_ hs;rw[bT,eD];exact h3
      · exact lG (fun c hc=>mj ⟨c,hc⟩) hy Φ w a _ _ hi hr (fun v mv af Φ' w' r1 i1 s1 hk=>ih Zp _ _ Φ' w' (a.put o.dst v) hk i1 (cT (hr.mono s1.le) o.dst r1) (by rw[bT,eD];exact hd.step hi s1) (hs.trans s1))
    · rw[if_neg (by simp[hw])]
      exact⟨fun f _=>mm f,ih Zp _ _ Φ w (a.put o.dst undef) hn hi (cT hr o.dst gL) (by rw[bT,eD];exact hd) hs⟩
def mi.ops{F:Fence}{id:Nat}{ops:Array Oper}{dr:Bool}(h:mi F (.region id ops dr)):F=am∨∃l0,F=am.inRound l0∧∀o,o∈ops.toList→∀c,o.op≠.defer c :=
  Or.imp (fun q=>q) (fun⟨l0,e,q⟩=>⟨l0,e,fun o ho c hc=>by
    have:=a4.1 q o ho;rw[hc] at this;cases this⟩) h
def KS{P:Program}{id:Nat}{ops:Array Oper}{f:FR}{σ:St}{Q:MQ}(h:eC P ops (Q .normal) ops.toList f σ):il P (.region id ops false) f σ Q :=
  fun F hF Φ w a hi hr hd=>wpIn_region_list (tZ ops.toList hF.ops f σ Φ w a h hi hr hd (.refl _ _ _))
def HM(P:Program)(f:FR)(σ:St):ResultVar→(MV→Prop)→Prop
  |.tmp t,k=>k (f.get t)
  |.cell a t,k=>nX P t (f.get a) σ (fun v _=>k v)
def fU(P:Program)(f:FR)(σ:St):List ResultVar→(List MV→Prop)→Prop
  |[],k=>k []
  |r::rs,k=>HM P f σ r fun v=>fU P f σ rs fun vs=>k (v::vs)
def oneOf:List MV→MV
  |[v]=>v
  |vs=>.ar vs
def D8(P:Program)(g:FuncId)(ms:List MV)(σ:St)(Q:St→Prop):Prop :=
  ∃fn,P.funcs[g]?=some fn∧fn.body.isNone=false∧(fn.name == "runtime.NumGoroutine")=false ∧
    ∀Φ w vs,Inv Φ w σ→iX Φ vs ms→CallsD P g vs .returning w fun e u' w'=>u'=.returning∧∃v af Φ',e=.returned v∧Inv Φ' w' af∧Step Φ σ w Φ' af w'∧Q af
def mleave(P:Program)(n:Nat)(l:List (Nat×MV))(rs:List ResultVar)(Q:MV→St→Prop):List (FuncId×List MV)→St→Prop
  |[],σ=>fU P ⟨n,l,[]⟩ σ rs fun vs=>Q (oneOf vs) σ
  |(g,ms)::d,σ=>D8 P g ms σ fun af=>mleave P n l rs Q d af
def Pw(P:Program)(rs:List ResultVar)(Q:MV→St→Prop):MQ
  |.normal,f,σ|.ret,f,σ=>mleave P f.n f.l rs Q f.d σ
  |_,_,_=>False
def OK{P:Program}{t:TypeId}{x:MV}{σ:St}{k:MV→St→Prop}(h:nX P t x σ k){Φ:bd}{w:World}(hi:Inv Φ w σ){v:Value}(r:Rel Φ v x):∃ad u m,v=.pointer (some ad)∧(loadVar t ad).run P w=.ok u w∧Rel Φ u m∧k m σ:=by
  unfold nX at h;split at h
  · rename_i l i of
    split at h
    · rename_i tt e xs hs
      obtain⟨⟨cm,hi',h1,h0⟩,hk⟩:=h;obtain⟨p,R,hp,hR,he⟩:=r.jU;obtain⟨p',dw,iz,hlen,R',ju,oe⟩:=(hi.own l _ hs).elem (kS hi' (d:=[]));rw[hp] at dw;cases dw;rw[hR] at ju;cases ju;obtain⟨v2,hv,bf⟩:=mD (P:=P) (Φ:=Φ) (w:=w) (t:=t) (b:=R) (off:=p.bo+i*p.e+of) (ms:=(xs.getD i []).drop of) cm (by rw[bn];omega) h0 (fun j m hm=>by
        rw[bj] at hm;have:=oe _ m hm;rw[b8 (p.bo+i*p.e),iz];exact this)
      have e2:eJ (td P t) ((xs.getD i []).drop of) 0=eJ (td P t) (xs.getD i []) of:=by unfold eJ;simp[bz,bj]
      rw[e2] at bf;exact⟨_,v2,_,he,hv,bf,hk⟩
    · exact h.elim
  · rename_i cs
    obtain⟨⟨cm,h1,h0⟩,hk⟩:=h;obtain⟨b,off,vs,he,hc,hrr⟩:=r.oU;obtain⟨v2,hv,bf⟩:=mD (P:=P) (Φ:=Φ) (w:=w) (t:=t) (b:=b) (off:=off) (ms:=cs) cm h1 h0 (fun j m hm=>⟨(hc j m hm).1,vs j,hi.snap _ _ (hc j m hm).2,hrr j m hm⟩);exact⟨_,v2,_,he,hv,bf,hk⟩
  · exact h.elim
def IJ{Φ:bd}{tmps:Array Value}{f:FR}(hr:dP Φ tmps f)(t:Nat):Rel Φ (tmps.getD t undef) (f.get t):=hr.2 t
def DV(tmps:Array Value):ResultVar→Sem Value
  |.tmp t=>pure (tmps.getD t undef)
  |.cell a t=>do loadVar t (←asAddr (tmps.getD a undef))
def pW(fn:Func)(tmps:Array Value):results fn tmps=(do
    let vs ←fn.results.mapM (DV tmps)
    pure (if h:vs.size=1 then vs[0] else .tuple vs)):=rfl
def EX{P:Program}{f:FR}{σ:St}{Φ:bd}{w:World}(hi:Inv Φ w σ){tmps:Array Value}(hr:dP Φ tmps f):∀(rs:List ResultVar) (k:List MV→Prop),fU P f σ rs k →
    ∃vs ms,(rs.mapM (m:=Sem) (DV tmps)).run P w=.ok vs w∧vs.length=ms.length∧(∀(i:Nat) v m,vs[i]?=some v→ms[i]?=some m→Rel Φ v m)∧k ms:=by
  intro rs
  induction rs with
  |nil=>intro k h;exact⟨[],[],ax,rfl,ax,h⟩
  |cons r rs ih =>
    intro k h;simp only[fU] at h;cases r with
    |tmp t =>
      obtain⟨vs,ms,h1,h2,h3,h4⟩:=ih _ h;refine⟨tmps.getD t undef::vs,f.get t::ms,?_,by simp[h2],fun i v m hv hm=>?_,h4⟩
      · rw[List.mapM_cons]
        simp only[DV,cS,cy,cv];rw[h1];rfl
      · cases i with
        |zero=>simp only[az,cr] at hv hm;subst hv;subst hm;exact IJ hr t
        |succ i=>exact h3 i v m (by simpa using hv) (by simpa using hm)
    |cell a t =>
      simp only[HM] at h;obtain⟨ad,u,m1,he,hl,bf,hk⟩:=OK h hi (IJ hr a);obtain⟨vs,ms,h1,h2,h3,h4⟩:=ih _ hk;refine⟨u::vs,m1::ms,?_,by simp[h2],fun i v m hv hm=>?_,h4⟩
      · rw[List.mapM_cons]
        simp only[DV,cS,he,asAddr,cy,cv,hl];rw[h1];rfl
      · cases i with
        |zero=>simp only[az,cr] at hv hm;subst hv;subst hm;exact bf
        |succ i=>exact h3 i v m (by simpa using hv) (by simpa using hm)
def IL{P:Program}{fn:Func}{f:FR}{σ:St}{Φ:bd}{w:World}(hi:Inv Φ w σ){tmps:Array Value}(hr:dP Φ tmps f){Q:MV→St→Prop}(h:fU P f σ fn.results.toList fun vs=>Q (oneOf vs) σ) :
    ∃v m,(results fn tmps).run P w=.ok v w∧Rel Φ v m∧Q m σ:=by
  obtain⟨vs,ms,h1,h2,h3,h4⟩:=EX (P:=P) hi hr fn.results.toList _ h;have hm:∃va:Array Value,(fn.results.mapM (m:=Sem) (DV tmps)).run P w=.ok va w∧va.toList=vs:=by
    rw[←Array.toList_mapM] at h1;simp only[Sem.run_map] at h1;generalize hg:(fn.results.mapM (m:=Sem) (DV tmps)).run P w=res at h1 ⊢;cases res with
    |halt x w'=>simp at h1
    |ok va w' =>
      simp only[cv,Result.ok.injEq] at h1;obtain⟨h1,rfl⟩:=h1;exact⟨va,rfl,h1⟩
  obtain⟨va,hva,rfl⟩:=hm;by_cases hs:va.size=1
  · match ms,h2 with
    |[m],h2 =>
      refine⟨va[0],m,?_,h3 0 _ m (by simp[hs]) rfl,h4⟩;rw[pW];simp only[cS,hva,cv,cy,dif_pos hs]
    |[],h2=>simp[hs] at h2
    |_::_::_,h2=>simp[hs] at h2
  · refine⟨.tuple va,oneOf ms,?_,?_,h4⟩
    · rw[pW]
      simp only[cS,hva,cv,cy,dif_neg hs]
    · have:oneOf ms=.ar ms:=by
        match ms,h2 with
        |[],_=>rfl
        |[m],h2=>exact absurd (by simpa using h2) hs
        |_::_::_,_=>rfl
      rw[this];refine .ar (by simpa using h2) (fun i m lu=>?_);have bh:i<va.size:=by have:=(av.1 lu).1;simp at h2;omega
      have hv:va.toList[i]?=some (va.getD i undef):=by rw[Array.getElem?_toList];simp[da,dd bh]
      exact h3 i _ m hv lu
def jD:Nat→List MV→List (Nat×MV)
  |_,[]=>[]
  |i,m::ms=>(i,m)::jD (i+1) ms
def rZ:∀(ms:List MV) (i t:Nat),cV (jD i ms) t=if i≤t then(ms[t-i]?).getD .bw else .bw:=by
  intro ms
  induction ms with
  |nil=>intro i t;simp[jD,cV]
  |cons m ms ih =>
    intro i t;simp only[jD,cV,ih];by_cases h:t=i
    · subst h;simp
    · rw[if_neg h]
      by_cases h2:i≤t
      · obtain⟨k,rfl⟩:∃k,t=i+1+k:=⟨t-(i+1),oM⟩
        rw[if_pos oM,if_pos h2,show i+1+k-(i+1)=k from by omega,show i+1+k-i=k+1 from by omega];rfl
      · rw[if_neg oM,if_neg h2]
def kQ(P:Program)(fn:Func)(tmps:Array Value)(R:Ending→World→Prop):List Deferred→World→Prop
  |[],w=>∃v,(results fn tmps).run P w=.ok v w∧R (.returned v) w
  |d::ds,w=>(∃r w',d.target=.collected r∧(Instr.takeDeferred r).run P w=.ok [] w'∧kQ P fn tmps R ds w') ∨
      ∃fv cap f args,d.target=.fn fv cap∧(invoke d.target d.args).run P w=.ok (.enter f args) w∧CallsD P f args .returning w fun e u' w'=>(∃v,e=.returned v)∧u'=.returning∧kQ P fn tmps R ds w'
def s9{P:Program}{fn:Func}{tmps:Array Value}{R:Ending→World→Prop}:∀(ds:List Deferred) (w:World) (fr:Frame) (cs:List Frame),fr.mode=.returning→fr.defers=ds→fr.tmps=tmps→P.funcs[fr.fn]?=some fn→fr.kind=.normal →
    kQ P fn tmps R ds w→∃e w' fr',R e w'∧Comes P (lone fr cs w) (lone fr' cs w') e∧fr'.fn=fr.fn∧fr'.leaving P w' e:=by
  intro ds
  induction ds with
  |nil =>
    intro w fr cs hu hd ht hf hk h;obtain⟨v,hr,hR⟩:=h;exact⟨.returned v,w,fr,hR,Steps.refl P _,rfl,hu,hd,hk,fn,hf,ht ▸ hr⟩
  |cons d ds ih =>
    intro w fr cs hu hd ht hf hk h;have di:fr.mode≠.run:=by rw[hu];simp
    rcases h with⟨r,w',h1,h2,h3⟩|⟨fv,cap,f,args,h1,h2,h3⟩
    · have s1:=step_collected (cs:=cs) di hd h1 h2
      obtain⟨e,w2,fr',q1,q2,q3,q4⟩:=ih w' { fr with defers:=[]++ds } cs hu rfl ht hf hk h3;exact⟨e,w2,fr',q1,ak (.one s1) q2,q3,q4⟩
    · have s1:=step_defer (cs:=cs) di hd h1 h2
      obtain⟨e,u',w',frX,hR,hsteps,hkX,hgo⟩:=h3 { fr with defers:=ds } cs hu;obtain⟨⟨v,rfl⟩,rfl,hR⟩:=hR;have s2:=step_going_returned (c:={ { fr with defers:=ds } with mode:=.returning }) (cs:=cs) hkX hgo;obtain⟨e,w2,fr',q1,q2,q3,q4⟩:=ih w' { { { fr with defers:=ds } with mode:=.returning } with mode:=settle .returning } cs rfl rfl ht hf hk hR;exact⟨e,w2,fr',q1,ak (.head s1 (Steps.trans hsteps (.one s2))) q2,q3,q4⟩
def pF{P:Program}{f:FuncId}{fn:Func}{c:Code}{args:Array Value}{w:World}{R:Ending→World→Prop}(hf:P.funcs[f]?=some fn)(hb:fn.body=some c)
   (h:c.wp P (fun e a w=>(e=.normal∨e=.ret)∧kQ P fn a.tmps R a.defers w) { tmps:=args++dk (fn.ntmps-args.size) undef,defers:=[] } w):Calls P f args w R:=by
  intro cs;let b:Frame:={ (default:Frame) with fn:=f,kind:=.normal }
  have henter:Frame.enter P f args .normal=b.at { tmps:=args++dk (fn.ntmps-args.size) undef,defers:=[] } [.code c]:=by simp[Frame.enter,Frame.at,hf,hb,b]
  obtain⟨e,a',w',⟨he,hq⟩,ek⟩:=h b [] cs;rw[←henter] at ek;rcases he with rfl|rfl
  · obtain⟨e',w'',fr',hR,hs,mm,hl⟩:=s9 a'.defers w' { b.at a' [] with mode:=.returning } cs rfl rfl rfl hf rfl hq
    exact⟨e',w'',fr',hR,ak (Steps.trans ek (.one step_end)) hs,mm,hl⟩
  · obtain⟨todo,hs₀⟩:=ek
    obtain⟨e',w'',fr',hR,hs,mm,hl⟩:=s9 a'.defers w' { b.at a' todo with mode:=.returning } cs rfl rfl rfl hf rfl hq;exact⟨e',w'',fr',hR,ak hs₀ hs,mm,hl⟩
def Inv.putObj{Φ:bd}{w:World}{σ:St}(hi:Inv Φ w σ){D:Nat}{o:Obj}(o':Obj)(hD:w.heap[D]?=some o)(h:∀c t fz,o≠.cells c t fz)(h':∀c k,o≠.map c k)(h2':∀m a b c,o≠.mapIter m a b c:=by intro _ _ _ _ e;cases e):Inv Φ (w.putObj D o') σ:=by
  have lx:¬aV Φ σ D:=hi.Bl (fun c t fz e=>h c t fz (by rw[hD] at e;exact ct e)) (fun c k e=>h' c k (by rw[hD] at e;exact ct e)) (fun m a b c e=>h2' m a b c (by rw[hD] at e;exact ct e));refine⟨fun l ob hl=>(hi.own l ob hl).mono (.refl _) fun p R h1 h2=>an fun e=>lx ⟨l,ob,p,hl,h1,e ▸ h2⟩,hi.inj,fun a v hv=>?_,hi.apart,hi.fresh⟩;have hc:=hi.snap a v hv;rw[←hc];refine World.fF (an fun e=>?_);rw[World.cell?,e,hD] at hc;cases o with
  |cells c t fz=>exact h _ _ _ rfl
  |map c k=>exact h' _ _ rfl
  |_=>simp at hc
def Dt{P:Program}{fn:Func}{tmps:Array Value}{n:Nat}{l:List (Nat×MV)}{Q:MV→St→Prop}{Φ0:bd}{σ0:St}{w0:World}(h0:Φ0.base=w0.heap.size) :
    ∀(ds:List Deferred) (d:List (FuncId×List MV)) (Φ:bd) (w:World) (σ:St),eF Φ w ds d→dP Φ tmps ⟨n,l,[]⟩→Inv Φ w σ→Step Φ0 σ0 w0 Φ σ w→mleave P n l fn.results.toList Q d σ →
    kQ P fn tmps (fun e w'=>∃v mv af Φ',e=.returned v∧Rel Φ' v mv∧Inv Φ' w' af∧Step Φ0 σ0 w0 Φ' af w'∧Q mv af) ds w:=by
  intro ds
  induction ds with
  |nil =>
    intro d Φ w σ hd hr hi hs h;obtain⟨rfl,-⟩:=hd;obtain⟨v,m,h1,h2,h3⟩:=IL (P:=P) (fn:=fn) hi hr h;exact⟨v,h1,v,m,σ,Φ,rfl,h2,hi,hs,h3⟩
  |cons x ds ih =>
    intro d Φ w σ hd hr hi hs h;rcases hd with⟨D,h1,h2,h3,h4,h5⟩|⟨g,ms,r,cap,rfl,h1,h2,h3⟩
    · refine .inl ⟨D,_,h1,run_takeDeferred h3,?_⟩
      have hi':=hi.putObj (.deferred none) h3 (fun _ _ _ e=>by cases e) (fun _ _ e=>by cases e);have hDb:w0.heap.size≤D:=by rw[←h0,←hs.le.base];exact h2
      have xm:Step Φ0 σ0 w0 Φ σ (w.putObj D (.deferred none)) :=
        ⟨hs.le,hs.os,hs.tape,hs.output,hs.drawn,by rw[ao];exact hs.size,fun k hk hn=>(an oM).trans (hs.block k hk hn),hs.cl,hs.jc,hs.cz⟩
      refine ih d Φ _ σ ?_ hr hi' xm h;have:∀(xs:List Deferred) (d:List (FuncId×List MV)),(∀y,y∈xs→y.target≠.collected D)→eF Φ w xs d→eF Φ (w.putObj D (.deferred none)) xs d:=by
        intro xs
        induction xs with
        |nil=>intro d _ h;exact⟨h.1,by rw[ao];exact h.2⟩
        |cons y xs ihx =>
          intro d hy h;rcases h with⟨D',k1,k2,k3,k4,k5⟩|⟨g,ms,r,cap,k1,k2,k3,k4⟩
          · refine .inl ⟨D',k1,k2,?_,k4,ihx d (fun z hz=>hy z (by simp[hz])) k5⟩
            rw[an]
            · exact k3
            · intro e;exact hy y ax (by rw[k1,e])
          · exact .inr ⟨g,ms,r,cap,k1,k2,k3,ihx r (fun z hz=>hy z (by simp[hz])) k4⟩
      exact this ds d h4 h5
    · obtain⟨fn',hf,hb,hn,hc⟩:=h
      obtain⟨t,ags⟩:=x;simp only at h1 h2;subst h1;refine .inr ⟨.func g,cap,g,ags++cap,rfl,?_,?_⟩
      · simp only[invoke,callFunc,cS,run_program,hf,hn,hb,cv,ac,if_false,cy]
      · intro c cs hcu
        obtain⟨e,u',w',fr,⟨rfl,v,af,Φ',rfl,i1,s1,q⟩,q2,q3,q4⟩:=hc Φ w _ hi h2 c cs hcu;exact⟨_,_,w',fr,⟨⟨v,rfl⟩,rfl,ih r Φ' w' af (h3.step hi s1) (hr.mono s1.le) i1 (hs.trans s1) q⟩,q2,q3,q4⟩
def Nn{P:Program}{fn:Func}{Q:MV→St→Prop}{Φ0:bd}{σ0:St}{w0:World}{e:Exit}{a':Act}{w':World}(h0:Φ0.base=w0.heap.size)
   (h:lift Φ0 σ0 w0 (Pw P fn.results.toList Q) e a' w'):(e=.normal∨e=.ret)∧kQ P fn a'.tmps (fun e w'=>∃v mv af Φ',e=.returned v∧Rel Φ' v mv∧Inv Φ' w' af∧Step Φ0 σ0 w0 Φ' af w'∧Q mv af) a'.defers w':=by
  obtain⟨f',af,Φ',x1,x2,x3,x4,q⟩:=h;obtain⟨n,l,d⟩:=f';cases e with
  |normal=>exact⟨.inl rfl,Dt h0 _ d Φ' w' af x1 x2 x3 x4 q⟩
  |ret=>exact⟨.inr rfl,Dt h0 _ d Φ' w' af x1 x2 x3 x4 q⟩
  |_=>exact q.elim
def x0{Φ:bd}{fn:Func}{vs:Array Value}{ms:List MV}(hr:iX Φ vs ms):dP Φ (vs++dk (fn.ntmps-vs.size) undef) ⟨max fn.ntmps ms.length,jD 0 ms,[]⟩:=by
  refine⟨by simp[hr.1];omega,fun t=>?_⟩;simp only[al,rZ,Nat.sub_zero,Nat.zero_le,if_true];cases hm:ms[t]? with
  |none=>exact .bw _
  |some m =>
    have bh:=(av.1 hm).1;have e1:=hr.1;have:=hr.2 t m hm;simpa[da,dl (show t<vs.size by omega)] using this
def bd.bA(Φ:bd)(n:Nat):bd:={ Φ with base:=n }
def Rel.bA{Φ:bd}{v:Value}{m:MV}(h:Rel Φ v m)(n:Nat):Rel (Φ.bA n) v m:=Rel.HG (Φ:=Φ) (Φ':=Φ.bA n) (fun _ _ q=>q) (fun _ _ q=>q) h
def Inv.bA{Φ:bd}{w:World}{σ:St}(hi:Inv Φ w σ)(n:Nat):Inv (Φ.bA n) w σ:=by
  refine⟨fun l o hl=>?_,hi.inj,hi.snap,hi.apart,hi.fresh⟩;have:=hi.own l o hl;cases o with
  |row t e xs =>
    obtain⟨p,h1,h2,h3,h4,h5,h6⟩:=this;refine⟨p,h1,h2,h3,h4,h5,?_⟩;split
    · rename_i hb;rw[hb] at h6;exact h6
    · rename_i R hb
      rw[hb] at h6;obtain⟨c,fz,k1,k2,k3,k4⟩:=h6;exact⟨c,fz,k1,k2,k3,fun i x j m hx hm=>⟨(k4 i x j m hx hm).1,(k4 i x j m hx hm).2.imp fun v hv=>⟨hv.1,hv.2.bA n⟩⟩⟩
  |mp es =>
    obtain⟨p,R,h1,h2,c,k,h3,h4,h5⟩:=this;exact⟨p,R,h1,h2,c,k,h3,h4,fun i x hx=>⟨(h5 i x hx).1.bA n,(h5 i x hx).2.bA n⟩⟩
  |mk es st ck =>
    obtain⟨p,R,h1,h2,c,h3,h4,h5⟩:=this;exact⟨p,R,h1,h2,c,h3,h4,fun i x hx=>⟨(h5 i x hx).1.bA n,(h5 i x hx).2.bA n⟩⟩
  |it m ck seen=>exact this
def Step.bA{Φ Φ':bd}{σ af:St}{w w':World}{n:Nat}(h:Step (Φ.bA n) σ w Φ' af w'):Step Φ σ w (Φ'.bA Φ.base) af w' :=
  ⟨⟨h.le.snap,h.le.obj,rfl⟩,h.os,h.tape,h.output,h.drawn,h.size,h.block,h.cl,h.jc,h.cz⟩
def aA.gY{P:Program}{g:FuncId}{fn:Func}{c:Code}{ms:List MV}{σ:St}{Q:MV→St→Prop}(n:Nat)(rs:List ResultVar)(hf:P.funcs[g]?=some fn)(hb:fn.body=some c)(hn:(fn.name == "runtime.NumGoroutine")=false)
   (ZH:max fn.ntmps ms.length=n)(tq:fn.results.toList=rs)(h:il P c ⟨n,jD 0 ms,[]⟩ σ (Pw P rs Q)):aA P g ms σ Q:=by
  subst ZH;subst tq;refine⟨⟨fn,hf,by simp[hb],hn⟩,fun Φ w vs hi hr=>?_⟩;have hr':iX (Φ.bA w.heap.size) vs ms:=⟨hr.1,fun i m hm=>(hr.2 i m hm).bA _⟩
  refine(pF hf hb (wp_mono (wpIn_wide.1 (h _ .wide (Φ.bA w.heap.size) w { tmps:=vs++dk (fn.ntmps-vs.size) undef,defers:=[] } (hi.bA _) (x0 hr') ⟨rfl,b7 _⟩)) fun e a' w' hq=>Nn rfl hq)).mono ?_;rintro e w' ⟨v,mv,af,Φ',q1,q2,q3,q4,q5⟩;exact⟨v,mv,af,Φ'.bA Φ.base,q1,q2.bA _,q3.bA _,q4.bA,q5⟩
def aA.ghost{P:Program}{g:FuncId}{ms:List MV}{σ:St}{Q:MV→St→Prop}(h:aA P g ms σ fun v af=>∃v1 σ1,aR ⟨1,[(0,v)],[]⟩ af ⟨1,[(0,v1)],[]⟩ σ1∧Q v1 σ1):aA P g ms σ Q:=by
  refine⟨h.1,fun Φ w vs hi hr=>(h.2 Φ w vs hi hr).mono ?_⟩;rintro e w' ⟨v,mv,af,Φ',rfl,q1,q2,q3,v1,σ1,g,hq⟩;obtain⟨ei,i1,r1,s1⟩:=g.2 Φ' w' #[v] q2 ⟨rfl,fun t=>by
    simp only[al,cV];split
    · rename_i ht;subst ht;exact q1
    · exact .bw _⟩
  exact⟨v,v1,σ1,ei,rfl,by simpa[al,cV] using r1.2 0,i1,q3.trans s1,hq⟩
def E{α:Sort _}(x:α):α:=x
def Yv{α:Sort _}(x:α):E x=x:=rfl
def R(p:Prop):Prop:=p
def Wb:R True=True:=rfl
def Yy{α:Sort _}{a b:α}:R (a=b)=(a=b):=rfl
def Xq{a b:Prop}:R (a∧b)=(R a∧R b):=rfl
def Yz{α:Sort _}{p:α→Prop}:R (∃x,p x)=∃x,R (p x):=rfl
def Xr{p:Prop}:R (¬p)=¬p:=rfl
def YB{a b:Prop}:R (a∨b)=(R a∨R b):=rfl
def bO{p:Prop}(h:p):R p:=h
def pQ(σ:St)(K:Nat→Prop):Prop:=∀l,σ l=none→K l
def lD(x:MV)(A B:Prop):Prop:=match x with
 |.bool b=>(b=true→A)∧(b=false→B)
 |_=>False
def gR(C:Prop)(A:Prop):Prop:=C∧A
def Kx(A B:Prop):R (lD (.bool true) A B)=R A:=by simp[lD]
def Hw(A B:Prop):R (lD (.bool false) A B)=R B:=by simp[lD]
def OA{p:Prop}[Decidable p]{A B:Prop}(h:p):R (lD (.bool (decide p)) A B)=R A:=by simp[lD,h]
def R6{p:Prop}[Decidable p]{A B:Prop}(h:¬p):R (lD (.bool (decide p)) A B)=R B:=by simp[lD,h]
def Oz{p:Prop}[Decidable p]{A B:Prop}(h1:p→R A)(h2:¬p→R B):R (lD (.bool (decide p)) A B):=by simp only[R,lD,decide_eq_true_eq,decide_eq_false_iff_not];exact⟨h1,h2⟩
def cY{b:Bool}{A B:Prop}(h1:b=true→R A)(h2:b=false→R B):R (lD (.bool b) A B):=⟨h1,h2⟩
def rD(P:Program)(id:Nat)(ops:List Oper)(f:FR)(σ:St)(Q:MQ):Prop:=il P (.region id ops.toArray true) f σ Q
def R9(P:Program)(c:Code)(f:FR)(σ:St)(Q:MQ):Prop:=il P (.loop c) f σ Q
def XV(P:Program)(c:Code)(f:FR)(σ:St)(Q:MQ):Prop:=il P c f σ Q
def eE(P:Program):Code→FR→St→MQ→Prop
 |.skip,f,σ,Q=>Q .normal f σ
 |.seq a b,f,σ,Q=>eE P a f σ (tK (fun f' af=>eE P b f' af Q) Q)
 |.cond c a b,f,σ,Q=>lD (aH f c) (eE P a f σ Q) (eE P b f σ Q)
 |.block id b,f,σ,Q=>eE P b f σ (oJ id Q)
 |.scope b,f,σ,Q=>eE P b f σ (FN Q)
 |.label _,f,σ,Q=>Q .normal f σ
 |.ret,f,σ,Q=>Q .ret f σ
 |.exit id,f,σ,Q=>Q (.exit id) f σ
 |.region id ops true,f,σ,Q=>rD P id ops.toList f σ Q
 |.region _ ops false,f,σ,Q=>eC P ops (Q .normal) ops.toList f σ
 |.loop b,f,σ,Q=>R9 P b f σ Q
 |c,f,σ,Q=>XV P c f σ Q
def nW{P:Program}:∀(c:Code) (f:FR) (σ:St) (Q:MQ),eE P c f σ Q→il P c f σ Q:=by
 intro c
 induction c with
 |skip=>intro f σ Q h;exact Sy h
 |region id ops draw=>intro f σ Q h;cases draw with
  |true=>exact h
  |false=>exact KS h
 |seq a b iha ihb =>
  intro f σ Q h;refine bD (HU (iha f σ _ h) fun e f' af hq=>?_);cases e with
  |normal=>exact ihb f' af Q hq
  |_=>exact hq
 |cond c a b iha ihb =>
  intro f σ Q h;simp only[eE,lD] at h;split at h
  ·rename_i t ht;exact Ss ht (fun hh=>iha f σ Q (h.1 hh)) (fun hh=>ihb f σ Q (h.2 hh))
  ·exact h.elim
 |block id b ih=>intro f σ Q h;exact OZ (ih f σ _ h)
 |scope b ih=>intro f σ Q h;exact O5 (ih f σ _ h)
 |label l=>intro f σ Q h;exact O4 h
 |loop b _=>intro f σ Q h;exact h
 |ret=>intro f σ Q h;exact Vc h
 |exit id=>intro f σ Q h;exact Su h
 |_=>intro f σ Q h;exact h
def aA.body{P:Program}{g:FuncId}{fn:Func}{c:Code}{ms:List MV}{σ:St}{Q:MV→St→Prop}(n:Nat)(rs:List ResultVar)(hf:P.funcs[g]?=some fn)(hb:fn.body=some c)(hn:(fn.name == "runtime.NumGoroutine")=false)
 (ZH:max fn.ntmps ms.length=n)(tq:fn.results.toList=rs)(h:R (eE P (@cc Code (nat_lit 0) (@_root_.id (OfNat Code (nat_lit 0)) (cd c))) ⟨n,jD 0 ms,[]⟩ σ (Pw P rs Q))):aA P g ms σ Q :=
 aA.gY n rs hf hb hn ZH tq (nW c _ σ _ h)
def aG{P:Program}{c:Code}{f:FR}{σ:St}{Q:MQ}{α:Type}(F:α→FR)(S:α→St)(p:α→Prop)(μ:α→Nat)(h0:Gh f σ fun f1 σ1=>∃a,f1=F a∧σ1=S a∧p a)
 (round:∀a,p a→R (eE P c (F a) (S a) (tK (fun f' af=>Gh f' af fun f1 σ1=>∃b,f1=F b∧σ1=S b∧p b∧μ b<μ a) Q))):R (R9 P c f σ Q) :=
 Sw F S p μ h0 fun a ha=>nW c _ _ _ (round a ha)
section
variable {P:Program} {f:FR} {σ:St} {Q:MQ} {k:MV→St→Prop} {K:FR→St→Prop} {ops:Array Oper} {rest:List Oper}
def Kt:R (eE P .skip f σ Q)=R (Q .normal f σ):=rfl
def Ks{c:Code}:R (eE P (@cc Code (nat_lit 0) (@_root_.id (OfNat Code (nat_lit 0)) (cd c))) f σ Q)=R (eE P c f σ Q):=congrArg R rfl
def Ov{a b:Code}:R (eE P (.seq a b) f σ Q)=R (eE P (@cc Code (nat_lit 0) (@_root_.id (OfNat Code (nat_lit 0)) (cd a))) f σ (tK (fun f' af=>eE P (@cc Code (nat_lit 0) (@_root_.id (OfNat Code (nat_lit 0)) (cd b))) f' af Q) Q)):=congrArg R rfl
def Ko{c:Operand}{a b:Code}:R (eE P (.cond c a b) f σ Q)=R (lD (E (aH f c)) (eE P (@cc Code (nat_lit 0) (@_root_.id (OfNat Code (nat_lit 0)) (cd a))) f σ Q) (eE P (@cc Code (nat_lit 0) (@_root_.id (OfNat Code (nat_lit 0)) (cd b))) f σ Q)):=congrArg R rfl
def Hm{id:Nat}{b:Code}:R (eE P (.block id b) f σ Q)=R (eE P (@cc Code (nat_lit 0) (@_root_.id (OfNat Code (nat_lit 0)) (cd b))) f σ (oJ id Q)):=congrArg R rfl
def Ho{b:Code}:R (eE P (.scope b) f σ Q)=R (eE P (@cc Code (nat_lit 0) (@_root_.id (OfNat Code (nat_lit 0)) (cd b))) f σ (FN Q)):=congrArg R rfl
def Hn{l:Nat}:R (eE P (.label l) f σ Q)=R (Q .normal f σ):=congrArg R rfl
def LA:R (FN Q .ret f σ)=R (Q .ret f σ):=congrArg R rfl
def Ou:R (eE P .ret f σ Q)=R (Q .ret f σ):=rfl
def Kq{id:Nat}:R (eE P (.exit id) f σ Q)=R (Q (.exit id) f σ):=congrArg R rfl
def Kp{id:Nat}{l:List Oper}:R (eE P (.region id l.toArray true) f σ Q)=R (rD P id (@cc (List Oper) (nat_lit 0) (@_root_.id (OfNat (List Oper) (nat_lit 0)) (cd l))) (E f) σ Q):=congrArg R rfl
def EM{id:Nat}{l:List Oper}:R (eE P (.region id l.toArray false) f σ Q)=R (eC P (@cc (Array Oper) (nat_lit 0) (@_root_.id (OfNat (Array Oper) (nat_lit 0)) (cd (l.toArray)))) (Q .normal) (@cc (List Oper) (nat_lit 0) (@_root_.id (OfNat (List Oper) (nat_lit 0)) (cd l))) f σ):=congrArg R rfl
def OU{l:List Oper}:R (eC P ops K (@cc (List Oper) (nat_lit 0) (@_root_.id (OfNat (List Oper) (nat_lit 0)) (cd l))) f σ)=R (eC P ops K l f σ):=congrArg R rfl
def Kr{b:Code}:R (eE P (.loop b) f σ Q)=R (R9 P (@cc Code (nat_lit 0) (@_root_.id (OfNat Code (nat_lit 0)) (cd b))) (E f) σ Q):=congrArg R rfl
def F0{next:FR→St→Prop}:R (tK next Q .normal f σ)=R (next f σ):=congrArg R rfl
def Qa{next:FR→St→Prop}:R (tK next Q .ret f σ)=R (Q .ret f σ):=congrArg R rfl
def LM{next:FR→St→Prop}{id:Nat}:R (tK next Q (.exit id) f σ)=R (Q (.exit id) f σ):=congrArg R rfl
def B8{id:Nat}:R (oJ id Q .normal f σ)=R (Q .normal f σ):=congrArg R rfl
def JC{id:Nat}:R (oJ id Q .ret f σ)=R (Q .ret f σ):=congrArg R rfl
def JB{id:Nat}:R (oJ id Q (.exit id) f σ)=R (Q .normal f σ):=by simp[oJ]
def Gq{id ZQ:Nat}(h:ZQ≠id):R (oJ id Q (.exit ZQ) f σ)=R (Q (.exit ZQ) f σ):=by simp[oJ,h]
def Si:R (eC P ops K [] f σ)=R (K f σ):=rfl
def OT{dst:Option Tmp}{op:Op}{ty:TypeId}{pos:String}{after:Array Edge}:R (eC P ops K (⟨dst,op,ty,pos,after,none⟩::rest) f σ)=R (jY P f σ dst (eC P ops K (@cc (List Oper) (nat_lit 0) (@_root_.id (OfNat (List Oper) (nat_lit 0)) (cd rest)))) op):=congrArg R rfl
def Sl{dst:Option Tmp}{op:Op}(h:fC op=true):R (jY P f σ dst K op)=R (mq P f σ (fun v af=>K (bI f dst v) af) op):=by rw[HP h]
def VX(f:FR)(x:MV)(args:List MV)(K:FR→Prop):Prop:=match x with
 |.fn (.func g) ms ns=>K ⟨f.n,f.l,(g,ms++args++ns)::f.d⟩
 |_=>False
def HO{dst:Option Tmp}{x:Operand}{args:Array Operand}{ts:Array TypeId}:R (jY P f σ dst K (.defer ⟨.value x,args,ts⟩))=R (VX f (E (aH f x)) (E (args.toList.map (aH f))) fun f'=>K (bI f' dst .bw) σ):=congrArg R rfl
def RY{n:Nat}{l:List (Nat×MV)}{d:List (FuncId×List MV)}{g:FuncId}{ms ns args:List MV}{H:FR→Prop}:R (VX ⟨n,l,d⟩ (.fn (.func g) ms ns) args H)=R (H ⟨n,l,(g,ms++args++ns)::d⟩):=congrArg R rfl
def pI:List Oper→Nat→Option Tmp
 |[],_=>none
 |o::_,0=>o.dst
 |_::r,n+1=>pI r n
def Ew:∀(l:List Oper) (j:Nat),(l.toArray[j]?).bind (·.dst)=pI l j:=by
 intro l
 induction l with
 |nil=>intro j;simp[pI]
 |cons o r ih =>
  intro j;cases j with
  |zero=>simp[pI]
  |succ j=>simpa[pI] using ih j
def cP(x:MV)(want:Bool)(yes no:Prop):Prop:=match x with
 |.bool b=>(b=want→yes)∧(b=(!want)→no)
 |.ar []=>no
 |_=>False
def Hz(want:Bool)(A B:Prop):R (cP (.ar []) want A B)=R (B):=congrArg R (by simp[cP])
def OI(A B:Prop):R (cP (.bool true) true A B)=R (A):=congrArg R (by simp[cP])
def OH(A B:Prop):R (cP (.bool true) false A B)=R (B):=congrArg R (by simp[cP])
def OG(A B:Prop):R (cP (.bool false) true A B)=R (B):=congrArg R (by simp[cP])
def OF(A B:Prop):R (cP (.bool false) false A B)=R (A):=congrArg R (by simp[cP])
def cL{b want:Bool}{A B:Prop}(h1:b=want→R A)(h2:b=(!want)→R B):R (cP (.bool b) want A B):=⟨h1,h2⟩
def Ky{p:Prop}[Decidable p]{A B:Prop}(h1:p→R A)(h2:¬p→R B):R (cP (.bool (decide p)) true A B):=by simp only[R,cP,decide_eq_true_eq,Bool.not_true,decide_eq_false_iff_not];exact⟨h1,h2⟩
def Hy{p:Prop}[Decidable p]{A B:Prop}(h1:¬p→R A)(h2:p→R B):R (cP (.bool (decide p)) false A B):=by simp only[R,cP,decide_eq_true_eq,Bool.not_false,decide_eq_false_iff_not];exact⟨h1,h2⟩
def OC{p:Prop}[Decidable p]{A B:Prop}(h:p):R (cP (.bool (decide p)) true A B)=R A:=by simp[cP,h]
def OB{p:Prop}[Decidable p]{A B:Prop}(h:¬p):R (cP (.bool (decide p)) true A B)=R B:=by simp[cP,h]
def OE{p:Prop}[Decidable p]{A B:Prop}(h:¬p):R (cP (.bool (decide p)) false A B)=R A:=by simp[cP,h]
def OD{p:Prop}[Decidable p]{A B:Prop}(h:p):R (cP (.bool (decide p)) false A B)=R B:=by simp[cP,h]
def J4(f:FR):Option Tmp→MV
 |some t=>f.get t
 |none=>.bw
def KL{l:List Oper}{dst:Option Tmp}{op:Op}{ty:TypeId}{pos:String}{after:Array Edge}{j:Nat}{want:Bool}:R (eC P (@cc (Array Oper) (nat_lit 0) (@_root_.id (OfNat (Array Oper) (nat_lit 0)) (cd (l.toArray)))) K (⟨dst,op,ty,pos,after,some (j,want)⟩::rest) f σ)=R (cP (E (J4 f (pI (@cc (List Oper) (nat_lit 0) (@_root_.id (OfNat (List Oper) (nat_lit 0)) (cd l))) j))) want (jY P f σ dst (eC P (@cc (Array Oper) (nat_lit 0) (@_root_.id (OfNat (Array Oper) (nat_lit 0)) (cd (l.toArray)))) K (@cc (List Oper) (nat_lit 0) (@_root_.id (OfNat (List Oper) (nat_lit 0)) (cd rest)))) op) (eC P (@cc (Array Oper) (nat_lit 0) (@_root_.id (OfNat (Array Oper) (nat_lit 0)) (cd (l.toArray)))) K (@cc (List Oper) (nat_lit 0) (@_root_.id (OfNat (List Oper) (nat_lit 0)) (cd rest))) (bI f dst (.ar [])) σ)):=congrArg R (by
 show eC P l.toArray K (⟨dst,op,ty,pos,after,some (j,want)⟩::rest) f σ=cP (J4 f (pI l j)) want (jY P f σ dst (eC P l.toArray K rest) op) (eC P l.toArray K rest (bI f dst (.ar [])) σ);simp only[eC,fH,Ew];cases pI l j<;>rfl)
def NX{t:Tmp}:J4 f (some t)=f.get t:=rfl
def NP{l:List Oper}{j:Nat}:pI (@cc (List Oper) (nat_lit 0) (@_root_.id (OfNat (List Oper) (nat_lit 0)) (cd l))) j=pI l j:=rfl
def NR{o:Oper}{r:List Oper}:pI (o::r) 0=o.dst:=rfl
def NQ{o:Oper}{r:List Oper}{n:Nat}:pI (o::r) (n+1)=pI r n:=rfl
def OW{n:Nat}{l:List (Nat×MV)}{d:Nat}{v:MV}{ds:List (FuncId×List MV)}(h:d<n):bI ⟨n,l,ds⟩ (some d) v=⟨n,(d,v)::l,ds⟩:=by simp[bI,h]
def OV{v:MV}:bI f none v=f:=rfl
def Wt{n:Nat}{l:List (Nat×MV)}{t:Nat}{ds:List (FuncId×List MV)}:al ⟨n,l,ds⟩ t=cV l t:=rfl
def Rp{t:Nat}:cV [] t=.bw:=rfl
def Ro{k:Nat}{v:MV}{r:List (Nat×MV)}:cV ((k,v)::r) k=v:=by simp[cV]
def N8{k:Nat}{v:MV}{r:List (Nat×MV)}{t:Nat}(h:t≠k):cV ((k,v)::r) t=cV r t:=by simp[cV,h]
def Sq{n:Nat}{l:List (Nat×MV)}{t:Nat}{ds:List (FuncId×List MV)}:aH ⟨n,l,ds⟩ (.tmp t)=cV l t:=rfl
def KP{v:Value}:aH f (.const v)=vq v:=rfl
def OY{g:FuncId}:aH f (.func g)=.fn (.func g) [] []:=rfl
def SH{b:Bool}:vq (.bool b)=.bool b:=rfl
def Vi{i:IntKind}{n:Int}:vq (.int i n)=.int i n:=rfl
def Vj{s:ByteArray}:vq (.string s)=.str s:=rfl
def SK:vq (.pointer none)=.ej:=rfl
def SL:vq (.slice none 0 0)=.aK:=rfl
def SJ:vq (.map none)=.kp:=rfl
def Pc:vq .nilFunc=.cw:=rfl
def SI:vq .nilIface=.qi:=rfl
def dR(P:Program)(g:FuncId)(ms:List MV)(σ:St)(Q:MV→St→Prop):Prop:=aA P g ms σ Q
def RS(P:Program)(x:MV)(args:List MV)(σ:St)(k:MV→St→Prop):Prop :=
 match x with
 |.fn (.func g) ms ns=>aA P g (ms++args++ns) σ k
 |_=>False
def Ot{g:FuncId}{ms ns args:List MV}:R (RS P (.fn (.func g) ms ns) args σ k)=R (dR P g (E (ms++args++ns)) σ k):=congrArg R rfl
def cD(v:MV)(σ:St)(k:MV→St→Prop):Prop:=k v σ
def U4{v:MV}:R (cD v σ k)=R (k v σ):=congrArg R rfl
def Vk{C A:Prop}(h:C):R (gR C A)=R A:=by simp[gR,h]
def KM{C:Prop}{v:MV}:R (mpure σ k (some (C,v)))=R (gR (E C) (cD (E v) σ k)):=congrArg R rfl
def MH(P:Program)(t:TypeId)(o:Option aY)(i of:Nat)(σ:St)(k:MV→St→Prop):Prop :=
 match o with
 |some (.row _ _ xs)=>gR ((td P t).ok=true∧i<xs.length∧of+(td P t).size≤(xs.getD i []).length∧0<(td P t).size) (cD (eJ (td P t) (xs.getD i []) of) σ k)
 |_=>False
def OJ{t:TypeId}{l i o:Nat}:R (nX P t (.ptr l i o) σ k)=R (MH P t (E (σ l)) i o σ k):=congrArg R rfl
def KD{t:TypeId}{cs:List MV}:R (nX P t (.cg cs) σ k)=R (gR (E ((td P t).ok=true∧(td P t).size≤cs.length∧0<(td P t).size)) (cD (E (eJ (td P t) cs 0)) σ k)):=congrArg R rfl
def HC{t tt:TypeId}{e i o:Nat}{xs:List (List MV)}:R (MH P t (some (.row tt e xs)) i o σ k)=R (gR (E ((td P t).ok=true∧i<xs.length∧o+(td P t).size≤(xs.getD i []).length∧0<(td P t).size)) (cD (E (eJ (td P t) (xs.getD i []) o)) σ k)):=congrArg R rfl
def HR(P:Program)(t:TypeId)(o:Option aY)(l i of:Nat)(y:MV)(σ:St)(k:MV→St→Prop):Prop :=
 match o with
 |some (.row tt e xs)=>gR ((td P t).ok=true∧i<xs.length∧y.cells.all b6=true∧y.cells.length=(td P t).size∧of+y.cells.length≤(xs.getD i []).length) (cD .bw (σ.set l (.row tt e (xs.set i (laid (xs.getD i []) of y.cells)))) k)
 |_=>False
def KO{t:TypeId}{l i o:Nat}{y:MV}:R (rG P t (.ptr l i o) y σ k)=R (HR P t (E (σ l)) l i o y σ k):=congrArg R rfl
def E2{t tt:TypeId}{e l i o:Nat}{y:MV}{xs:List (List MV)}:R (HR P t (some (.row tt e xs)) l i o y σ k)=R (gR (E ((td P t).ok=true∧i<xs.length∧y.cells.all b6=true∧y.cells.length=(td P t).size∧o+y.cells.length≤(xs.getD i []).length)) (cD (E .bw) (σ.set l (.row tt e (xs.set i (laid (xs.getD i []) o y.cells)))) k)):=congrArg R rfl
def KX(k:Nat):c0 k=cf:=rfl
def set_set(σ:St)(l:Nat)(o o':aY):(σ.set l o).set l o'=σ.set l o':=by funext k;simp only[c8];split<;>rfl
def set_comm(σ:St){l k:Nat}(o o':aY)(h:l≠k):(σ.set l o).set k o'=(σ.set k o').set l o:=by
 funext j;simp only[c8];by_cases h1:j=k
 ·subst h1;simp[cb h]
 ·simp[h1]
def Cf(σ:St){l k:Nat}(o:aY)(h:k≠l):(σ.set k o).del l=(σ.del l).set k o:=by
 funext j;simp only[c8,St.del];by_cases h1:j=l
 ·subst h1;simp[cb h]
 ·simp[h1]
def aD(σ:St)(l:Nat)(o:aY):(σ.set l o) l=some o:=by simp[c8]
def cj{s:St}{l:Nat}{o:aY}:s.set l o l=some o:=aD s l o
def aE(σ:St)(l k:Nat)(o:aY)(h:k≠l):(σ.set l o) k=σ k:=by simp[c8,h]
def cn{s:St}{l:Nat}{o:aY}{k:Nat}(h:k≠l):s.set l o k=s k:=aE s l k o h
def QI(σ:St)(l k:Nat)(h:k≠l):(σ.del l) k=σ k:=by simp[St.del,h]
def Tw(σ:St)(l k:Nat)(o:aY):(σ.set l o) k=none↔k≠l∧σ k=none:=by simp only[c8];split<;>simp_all
def Sd{x:Operand}:R (mq P f σ k (.move x))=R (cD (E (aH f x)) σ k):=congrArg R (by simp[mq,yy,mpure,cD,E])
def KH{x:Operand}:R (mq P f σ k (.assign x))=R (cD (E (aH f x)) σ k):=congrArg R (by simp[mq,yy,mpure,cD,E])
def Bz(c a b:MV):PV:=match c with
 |.bool t=>some (True,if t=true then a else b)
 |_=>none
def Se{c a b:Operand}:R (mq P f σ k (.pick c a b))=R (mpure σ k (E (Bz (aH f c) (aH f a) (aH f b)))):=congrArg R rfl
def Vq{p:Prop}[Decidable p]{a b:MV}(h:p):Bz (.bool (decide p)) a b=some (True,a):=by simp[Bz,h]
def Vo{p:Prop}[Decidable p]{a b:MV}(h:¬p):Bz (.bool (decide p)) a b=some (True,b):=by simp[Bz,h]
def Vp{a b:MV}:Bz (.bool true) a b=some (True,a):=rfl
def Vn{a b:MV}:Bz (.bool false) a b=some (True,b):=rfl
def Vh{p:Prop}[Decidable p]:(!decide p)=decide (¬p):=ax
def WZ(x:MV):PV:=match x with
 |.ptr l i o=>some (True,.ptr l i o)
 |.cg cs=>some (True,.cg cs)
 |_=>none
def EU{x:Operand}:R (mq P f σ k (.nilCheck x))=R (mpure σ k (E (WZ (aH f x)))):=congrArg R rfl
def S7{l i o:Nat}:WZ (.ptr l i o)=some (True,.ptr l i o):=rfl
def Pr{cs:List MV}:WZ (.cg cs)=some (True,.cg cs):=rfl
def ON{op:BinOp}{t yt:TypeId}{x y:Operand}:R (mq P f σ k (.binOp op t x y yt))=R (mpure σ k (E (cX P t op (aH f x) (aH f y)))):=congrArg R rfl
def Sf{op:UnOp}{t:TypeId}{x:Operand}:R (mq P f σ k (.unOp op t x))=R (mpure σ k (E (mun op (aH f x)))):=congrArg R rfl
def HI{s d:TypeId}{x:Operand}:R (mq P f σ k (.convert s d x))=R (jW P s d (E (aH f x)) σ k):=congrArg R rfl
def ET{fn:Fn}{a b:Array Operand}:R (mq P f σ k (.makeFunc fn a b))=R (cD (E (.fn fn (a.toList.map (aH f)) (b.toList.map (aH f)))) σ k):=congrArg R (by simp[mq,yy,mpure,cD,E])
def OQ{t:TypeId}{x:Operand}{lo hi mx:Option Operand}:R (mq P f σ k (.slice t x lo hi mx))=R (mpure σ k (E (rF P t (aH f x) (lo.map (aH f)) (hi.map (aH f)) (mx.map (aH f))))):=congrArg R rfl
def Co{t:TypeId}{x:Operand}{i:Nat}:R (mq P f σ k (.fieldAddr t x i))=R (mpure σ k (E (eP P t (aH f x) i))):=congrArg R rfl
def Cp{t:TypeId}{x:Tmp}{i:Operand}:R (mq P f σ k (.indexAddr t (.tmp x) i))=R (mpure σ k (E (mX P t (aH f (.tmp x)) (aH f i)))):=congrArg R rfl
def Bd{t:TypeId}{g:Nat}{i:Operand}:R (mq P f σ k (.indexAddr t (.global g) i))=R (mpure σ k (JX P t g (E (aH f i)))):=congrArg R rfl
def OP{t:TypeId}{x i:Operand}:R (mq P f σ k (.index t x i))=R (mpure σ k (E (A9 P t (aH f x) (aH f i)))):=congrArg R rfl
def By(x:MV)(i:Nat):PV:=match x with
 |.ar vs=>match vs[i]? with|some v=>some (True,v)|none=>none
 |_=>none
def HJ{x:Operand}{i:Nat}:R (mq P f σ k (.extract x i))=R (mpure σ k (E (By (aH f x) i))):=congrArg R rfl
def FA{vs:List MV}{i:Nat}:By (.ar vs) i=(vs[i]?).map fun v=>(True,v):=by simp only[By];cases vs[i]?<;>rfl
def OO{t:TypeId}{parts:Array (Nat×Operand)}:R (mq P f σ k (.build t parts))=R (mpure σ k (E (rB P f t parts))):=congrArg R rfl
def KI{t:TypeId}{m x:Operand}{ok:Bool}:R (mq P f σ k (.lookup t m x ok))=R (iU P t (E (aH f m)) (E (aH f x)) ok (E (mapOf σ (aH f m))) σ k):=congrArg R rfl
def Cq{t:TypeId}{m x y:Operand}:R (mq P f σ k (.mapUpdate t m x y))=R (iN P t (E (aH f m)) (E (aH f x)) (E (aH f y)) (E (mapOf σ (aH f m))) σ k):=congrArg R rfl
def Sc{t:TypeId}{x:Operand}:R (mq P f σ k (.load t x))=R (nX P t (E (aH f x)) σ k):=congrArg R rfl
def OR{t:TypeId}{x y:Operand}:R (mq P f σ k (.store t x y))=R (rG P t (E (aH f x)) (E (aH f y)) σ k):=congrArg R rfl
def OM{t:TypeId}:R (mq P f σ k (.alloc t))=R (gR (E ((td P t).jq=true)) (pQ (E σ) (fun l=>cD (E (.ptr l 0 0)) (σ.set l (.row t (td P t).size [(td P t).zero])) k))):=congrArg R rfl
def XT(t:TypeId)(x:MV)(σ:St)(k:MV→St→Prop):Prop:=x.cells.all b6=true∧∀l,σ l=none→k (.ptr l 0 0) (σ.set l (.row t x.cells.length [x.cells]))
def U7{t:TypeId}{x:Operand}:R (mq P f σ k (.box t x))=R (XT t (E (aH f x)) σ k):=congrArg R rfl
def UY{t:TypeId}{x:MV}:R (XT t x σ k)=R (gR (E (x.cells.all b6=true)) (pQ (E σ) (fun l=>cD (E (.ptr l 0 0)) (σ.set l (.row t x.cells.length [x.cells])) k))):=congrArg R rfl
def Bc{t:TypeId}{n:Nat}{parts:Array (Nat×Operand)}:R (mq P f σ k (.buildSlice t n parts))=R (fA P f t n parts σ k):=congrArg R rfl
def mbs(P:Program)(d:TK)(len:Nat)(parts:List (Nat×MV))(σ:St)(k:MV→St→Prop):Prop :=
 match d with
 |.slice el=>gR ((td P el).jq=true∧parts.map (·.1)=bs len∧(parts.all fun p=>p.2.cells.all b6&&p.2.cells.length==(td P el).size)=true∧len*(td P el).size≤16777216∧len≤16777216)
   (pQ σ fun l=>cD (.vec (td P el).size l 0 len) (σ.set l (.row el (td P el).size (parts.map fun p=>p.2.cells))) k)
 |_=>False
def A5{t:TypeId}{n:Nat}{parts:Array (Nat×Operand)}:R (fA P f t n parts σ k)=R (mbs P (E (td P t).k) n (E (parts.toList.map fun p=>(p.1,aH f p.2))) σ k):=congrArg R (by
 unfold fA mbs gR pQ cD E;cases (td P t).k<;>first|rfl|(simp only[List.map_map,List.all_map];rfl))
def Oq{el:TypeId}{len:Nat}{parts:List (Nat×MV)}:R (mbs P (.slice el) len parts σ k)=R (gR (E ((td P el).jq=true∧parts.map (·.1)=bs len∧(parts.all fun p=>p.2.cells.all b6&&p.2.cells.length==(td P el).size)=true∧len*(td P el).size≤16777216∧len≤16777216))
   (pQ (E σ) (fun l=>cD (E (.vec (td P el).size l 0 len)) (σ.set l (.row el (td P el).size (parts.map fun p=>p.2.cells))) k))):=rfl
def Sb{x:Operand}{args:Array Operand}{ts:Array TypeId}:R (mq P f σ k (.call ⟨.value x,args,ts⟩))=R (RS P (E (aH f x)) (E (args.toList.map (aH f))) σ k):=congrArg R rfl
def HH{b:Builtin}{args:Array Operand}{ts:Array TypeId}:R (mq P f σ k (.call ⟨.builtin b,args,ts⟩))=R (iE P f b args.toList ts.toList σ k):=congrArg R rfl
def mvs(P:Program)(t:TypeId)(x lo hi:MV)(σ:St)(k:MV→St→Prop):Prop:=if beyond x hi then sK P t x lo hi (MB σ x) σ k else mpure σ k (rF P t x (some lo) (some hi) none)
def HQ{dst:Option Tmp}{t:TypeId}{x y z:Operand}:R (jY P f σ dst K (.slice t x (some y) (some z) none))=R (mvs P t (E (aH f x)) (E (aH f y)) (E (aH f z)) σ (fun v af=>K (bI f dst v) af)):=congrArg R rfl
def KQ{t:TypeId}{e l l0 n:Nat}{lo:MV}{i:IntKind}{h:Int}(hb:(n:Int)<h):R (mvs P t (.vec e l l0 n) lo (.int i h) σ k)=R (sK P t (.vec e l l0 n) lo (.int i h) (E (σ l)) σ k):=by apply congrArg R;unfold mvs;rw[if_pos (show beyond (.vec e l l0 n) (.int i h) from hb)];rfl
def U9{t:TypeId}{e:Nat}{xs:List (List MV)}{tt:Bool}{lo hi:MV}:R (mvs P t (.aj e xs tt) lo hi σ k)=R (mpure σ k (E (rF P t (.aj e xs tt) (some lo) (some hi) none))):=by apply congrArg R;unfold mvs;rw[if_neg (show ¬beyond (.aj e xs tt) hi by simp[beyond])];rfl
def Va{t:TypeId}{s:ByteArray}{lo hi:MV}:R (mvs P t (.str s) lo hi σ k)=R (mpure σ k (E (rF P t (.str s) (some lo) (some hi) none))):=by apply congrArg R;unfold mvs;rw[if_neg (show ¬beyond (.str s) hi by simp[beyond])];rfl
def WO(P:Program)(d:TK)(e l l0:Nat)(a h:Int)(e':Nat)(xs:List (List MV))(σ:St)(k:MV→St→Prop):Prop:=match d with
 |.slice el=>gR ((td P el).ok=true∧e=(td P el).size∧e'=(td P el).size∧0≤a∧a≤h∧l0+h.toNat≤xs.length) (cD (.vec e l (l0+a.toNat) (h.toNat-a.toNat)) σ k)
 |_=>False
def HS{t tt:TypeId}{e l l0 n:Nat}{i j:IntKind}{a h:Int}{e':Nat}{xs:List (List MV)}:R (sK P t (.vec e l l0 n) (.int i a) (.int j h) (some (.row tt e' xs)) σ k)=R (WO P (E (td P t).k) e l l0 a h e' xs σ k):=by apply congrArg R;unfold sK WO E;cases (td P t).k<;>rfl
def KR{el:TypeId}{e l l0:Nat}{a h:Int}{e':Nat}{xs:List (List MV)}:R (WO P (.slice el) e l l0 a h e' xs σ k)=R (gR (E ((td P el).ok=true∧e=(td P el).size∧e'=(td P el).size∧0≤a∧a≤h∧l0+h.toNat≤xs.length)) (cD (E (.vec e l (l0+a.toNat) (h.toNat-a.toNat))) σ k)):=congrArg R rfl
def XU(P:Program)(t:TypeId)(x:MV)(σ:St)(k:MV→St→Prop):Prop:=mclear P t x (MB σ x) σ k
def HN{dst:Option Tmp}{x:Operand}{t:TypeId}:R (jY P f σ dst K (.call ⟨.builtin .clear,#[x],#[t]⟩))=R (XU P t (E (aH f x)) σ (fun v af=>K (bI f dst v) af)):=congrArg R rfl
def E0{dst:Option Tmp}{s x:Operand}{t xt:TypeId}:R (jY P f σ dst K (.call ⟨.builtin .append,#[s,x],#[t,xt]⟩))=R (U5 (E (td P xt).k.isInt) (Sz P t (aH f s) (aH f x) σ (fun v af=>K (bI f dst v) af)) (mq P f σ (fun v af=>K (bI f dst v) af) (.call ⟨.builtin .append,#[s,x],#[t,xt]⟩))):=congrArg R rfl
def WN{A B:Prop}:R (U5 false A B)=R B:=congrArg R rfl
def RT{t:TypeId}{e l l0 n:Nat}:R (XU P t (.vec e l l0 n) σ k)=R (mclear P t (.vec e l l0 n) (E (σ l)) σ k):=congrArg R rfl
def EL(P:Program)(d:TK)(e l l0 n:Nat)(tt:TypeId)(e':Nat)(xs:List (List MV))(σ:St)(k:MV→St→Prop):Prop:=match d with
 |.slice el=>gR ((td P el).jq=true∧0<(td P el).size∧e=(td P el).size∧e'=(td P el).size∧l0+n≤xs.length) (cD .bw (σ.set l (.row tt e' (bK xs l0 (a5 n (td P el).zero)))) k)
 |_=>False
def Kn{t tt:TypeId}{e l l0 n e':Nat}{xs:List (List MV)}:R (mclear P t (.vec e l l0 n) (some (.row tt e' xs)) σ k)=R (EL P (E (td P t).k) e l l0 n tt e' xs σ k):=by apply congrArg R;unfold mclear EL E;cases (td P t).k<;>rfl
def Cm{el tt:TypeId}{e l l0 n e':Nat}{xs:List (List MV)}:R (EL P (.slice el) e l l0 n tt e' xs σ k)=R (gR (E ((td P el).jq=true∧0<(td P el).size∧e=(td P el).size∧e'=(td P el).size∧l0+n≤xs.length)) (cD (E .bw) (σ.set l (.row tt e' (bK xs l0 (a5 n (td P el).zero)))) k)):=congrArg R rfl
end
section
variable {P:Program} {f:FR} {σ:St} {k:MV→St→Prop} {t:TypeId}
def Rz{i:IntKind}{a b:Int}:cX P t .add (.int i a) (.int i b)=some (True,.int i (i.wrap (a+b))):=by simp[cX,iD]
def RP{i:IntKind}{a b:Int}:cX P t .sub (.int i a) (.int i b)=some (True,.int i (i.wrap (a-b))):=by simp[cX,iD]
def RI{i:IntKind}{a b:Int}:cX P t .mul (.int i a) (.int i b)=some (True,.int i (i.wrap (a*b))):=by simp[cX,iD]
def RL{i:IntKind}{a b:Int}:cX P t .quo (.int i a) (.int i b)=some (b≠0,.int i (i.wrap (a.tdiv b))):=by simp[cX,iD]
def RM{i:IntKind}{a b:Int}:cX P t .rem (.int i a) (.int i b)=some (b≠0,.int i (a.tmod b)):=by simp[cX,iD]
def RA{i:IntKind}{a b:Int}:cX P t .and (.int i a) (.int i b)=some (True,.int i (pD i a b)):=by simp only[cX,if_true,iD]
def UT{i:IntKind}{a b:Int}:cX P t .or (.int i a) (.int i b)=some (True,.int i (orK i a b)):=by simp only[cX,if_true,iD]
def Hl{i:IntKind}{a b:Int}:cX P t .andNot (.int i a) (.int i b)=some (True,.int i (uY i a b)):=by simp only[cX,if_true,iD]
def RB{i:IntKind}{a b:Int}:cX P t .eql (.int i a) (.int i b)=some (True,.bool (decide (a=b))):=by simp[cX,iD];rfl
def RJ{i:IntKind}{a b:Int}:cX P t .neq (.int i a) (.int i b)=some (True,.bool (decide (¬a=b))):=by simp[cX,iD];rfl
def RH{i:IntKind}{a b:Int}:cX P t .lss (.int i a) (.int i b)=some (True,.bool (decide (a<b))):=by simp[cX,iD]
def RG{i:IntKind}{a b:Int}:cX P t .leq (.int i a) (.int i b)=some (True,.bool (decide (a≤b))):=by simp[cX,iD]
def RF{i:IntKind}{a b:Int}:cX P t .gtr (.int i a) (.int i b)=some (True,.bool (decide (b<a))):=by simp[cX,iD]
def RC{i:IntKind}{a b:Int}:cX P t .geq (.int i a) (.int i b)=some (True,.bool (decide (b≤a))):=by simp[cX,iD]
def RN{i j:IntKind}{a b:Int}:cX P t .shl (.int i a) (.int j b)=some (0≤b,.int i (i.wrap (a*2 ^ (min b.toNat i.bits)))):=by simp[cX,qW]
def RO{i j:IntKind}{a b:Int}:cX P t .shr (.int i a) (.int j b)=some (0≤b,.int i (a.fdiv (2 ^ (min b.toNat i.bits)))):=by simp[cX,qW]
def tL(x y:ByteArray):x.toList=y.toList↔x=y:=by rw[ByteArray.toList_eq,ByteArray.toList_eq];obtain⟨⟨a⟩⟩:=x;obtain⟨⟨b⟩⟩:=y;simp
def uQ(x y:ByteArray):(x.toList==y.toList)=decide (x=y):=by rw[ah];simp[tL]
def Oj{x y:ByteArray}:cX P t .eql (.str x) (.str y)=some (True,.bool (decide (x=y))):=by simp only[cX,rU,uQ]
def On{x y:ByteArray}:cX P t .neq (.str x) (.str y)=some (True,.bool (decide (¬x=y))):=by simp only[cX,rU,uQ];simp
def Oi{x y:ByteArray}:cX P t .add (.str x) (.str y)=some (((x.size+y.size:Nat):Int)≤9223372036854775807,.str (x++y)):=by simp only[cX,rU]
def Om{x y:ByteArray}:cX P t .lss (.str x) (.str y)=some (True,.bool (Op.bytesLess x.toList y.toList)):=by simp only[cX,rU]
def Ol{x y:ByteArray}:cX P t .gtr (.str x) (.str y)=some (True,.bool (!(Op.bytesLess x.toList y.toList || decide (x=y)))):=by simp only[cX,rU,uQ]
def Og{x y:Bool}:cX P t .eql (.bool x) (.bool y)=some ((td P t).k.isBool=true,.bool (x==y)):=rfl
def Oh{x y:Bool}:cX P t .neq (.bool x) (.bool y)=some ((td P t).k.isBool=true,.bool (!(x==y))):=rfl
def UU{op:BinOp}{l i o:Nat}:cX P t op (.ptr l i o) .ej=uo op ((td P t).k.vN=true) false:=rfl
def US{op:BinOp}{l i o:Nat}:cX P t op .ej (.ptr l i o)=uo op ((td P t).k.vN=true) false:=rfl
def UO{op:BinOp}{cs:List MV}:cX P t op (.cg cs) .ej=uo op ((td P t).k.vN=true) false:=rfl
def UW{op:BinOp}{e:Nat}{x:List MV}{xs:List (List MV)}{b:Bool}:cX P t op (.aj e (x::xs) b) .aK=uo op ((td P t).k.J8=true) false:=rfl
def UX{op:BinOp}:cX P t op .aK .aK=uo op ((td P t).k.J8=true) true:=rfl
def UQ{op:BinOp}:cX P t op .cw .cw=uo op ((td P t).k.J6=true) true:=rfl
def UP{op:BinOp}{f:Fn}{a b:List MV}:cX P t op (.fn f a b) .cw=uo op ((td P t).k.J6=true) false:=rfl
def UR{op:BinOp}:cX P t op .ej .ej=uo op ((td P t).k.vN=true) true:=rfl
def Rr(P:Program)(op:BinOp)(t:TypeId)(o:Option Bool):PV:=match o with
 |some b=>uo op (dU P t=true) b
 |none=>none
def A4{op:BinOp}{xs ys:List MV}:cX P t op (.agg xs) (.agg ys)=Rr P op t (jX P 6 t (.agg xs) (.agg ys)):=rfl
def rA{op:BinOp}{b:Bool}:Rr P op t (some b)=uo op (dU P t=true) b:=rfl
def BM{σ:St}{l k:Nat}{o:aY}{p:Prop}(h:l≠k→k≠l→σ l=none→p):(σ.set k o) l=none→p:=fun hn =>
 have e:l≠k∧σ l=none:=(Tw σ k l o).mp hn
 h e.1 (cb e.1) e.2
def GC(σ:St)(l:Nat)(o:aY):(σ.set l o).del l=σ.del l:=by funext k;simp only[c8,St.del];split<;>rfl
def SE(l:Nat):c0.del l=c0:=by funext k;simp only[c0,St.del];split<;>rfl
def P9{α β:Type}{f:α→β}{l:List α}{n:Nat}:(l.map f).take n=(l.take n).map f:=by rw[List.map_take]
def NH{α β:Type}{f:α→β}{l:List α}{n:Nat}:(l.map f).drop n=(l.drop n).map f:=by rw[List.map_drop]
def Qr{α β:Type}{f:α→β}{l r:List α}:l.map f++r.map f=(l++r).map f:=by rw[List.map_append]
def I3(σ:St){l a:Nat}(o o' oa:aY)(h:l≠a):((σ.set l o).set a oa).set l o'=(σ.set l o').set a oa:=by rw[set_comm _ _ _ (cb h),set_set]
def DZ(σ:St){l a b:Nat}(o o' oa ob:aY)(h:l≠a)(h2:l≠b):(((σ.set l o).set a oa).set b ob).set l o'=((σ.set l o').set a oa).set b ob:=by rw[set_comm _ _ _ (cb h2),I3 _ _ _ _ h]
def PU(σ:St){l a b c:Nat}(o o' oa ob oc:aY)(h:l≠a)(h2:l≠b)(h3:l≠c):((((σ.set l o).set a oa).set b ob).set c oc).set l o'=(((σ.set l o').set a oa).set b ob).set c oc:=by rw[set_comm _ _ _ (cb h3),DZ _ _ _ _ _ h h2]
def GP{α:Type}{l r:List α}{n:Nat}{d:α}(h:n<l.length):(l++r).getD n d=l.getD n d:=by simp[bz,aN h]
def LO(n:Nat):((n:Int)+1).toNat=n+1:=oM
def Ug{p q:Prop}[Decidable p][Decidable q]:(decide p&&decide q)=decide (p∧q):=ax
def UN{b:Bool}{o:Bool}:(some o).map (fun c=>b&&c)=some (b&&o):=rfl
def Mb{C:Prop}{b:Bool}:uo .eql C b=some (C,.bool b):=rfl
def Mc{C:Prop}{b:Bool}:uo .neq C b=some (C,.bool (!b)):=rfl
def Cl{s x:Operand}{t xt:TypeId}:R (iE P f .append [s,x] [t,xt] σ k)=R (l9 P t xt (E (aH f s)) (E (aH f x)) σ k):=congrArg R rfl
def Kh{x:Operand}{t:TypeId}:R (iE P f .len [x] [t] σ k)=R (mpure σ k (E (R8 P t (aH f x)))):=congrArg R (by simp[iE,fB,E])
def Kj{x y:Operand}{t u:TypeId}:R (iE P f .min [x,y] [t,u] σ k)=R (mpure σ k (E (MJ (aH f x) (aH f y)))):=congrArg R (by simp[iE,fB,E])
def Ki{x y:Operand}{t u:TypeId}:R (iE P f .max [x,y] [t,u] σ k)=R (mpure σ k (E (MI (aH f x) (aH f y)))):=congrArg R (by simp[iE,fB,E])
def mcv(P:Program)(s d:TypeId)(ks kd:TK)(x:MV)(σ:St)(k:MV→St→Prop):Prop :=
 match ks,kd,x with
 |.str,.slice el,.str b=>((td P el).k=.int .u8∧FZ el=true∧b.size≤140737488355328)∧∀l,σ l=none→k (.vec 1 l 0 b.size) (σ.set l (.row el 1 (b.toList.map fun c=>[.int .u8 (c.toNat:Int)])))
 |.slice el,.str,.str _=>False
 |.slice el,.str,x=>match fX σ 1 x with
  |some ys=>((td P el).k=.int .u8∧ys.all isByte=true)∧k (.str (bytesOf ys)) σ
  |none=>False
 |_,_,x=>mpure σ k (vT P s d x)
def Hq{s d:TypeId}{x:MV}:R (jW P s d x σ k)=R (mcv P s d (E (td P s).k) (E (td P d).k) x σ k):=congrArg R (by unfold jW mcv E;rfl)
def U0{s d:TypeId}{i j j':IntKind}{n:Int}:R (mcv P s d (.int j) (.int i) (.int j' n) σ k)=R (mpure σ k (E (vT P s d (.int j' n)))):=congrArg R rfl
def WH{s d el:TypeId}{b:ByteArray}:R (mcv P s d .str (.slice el) (.str b) σ k)=R (gR (E ((td P el).k=.int .u8∧FZ el=true∧b.size≤140737488355328)) (pQ (E σ) (fun l=>cD (E (.vec 1 l 0 b.size)) (σ.set l (.row el 1 (b.toList.map fun c=>[.int .u8 (c.toNat:Int)]))) k))):=congrArg R rfl
def WI(P:Program)(el:TypeId)(o:Option (List (List MV)))(σ:St)(k:MV→St→Prop):Prop:=match o with
 |some ys=>gR ((td P el).k=.int .u8∧ys.all isByte=true) (cD (.str (bytesOf ys)) σ k)
 |none=>False
def WG{s d el:TypeId}{e l lo n:Nat}:R (mcv P s d (.slice el) .str (.vec e l lo n) σ k)=R (WI P el (E (fX σ 1 (.vec e l lo n))) σ k):=congrArg R (by unfold mcv WI E;simp only;split<;>rfl)
def Ow{el:TypeId}{ys:List (List MV)}:R (WI P el (some ys) σ k)=R (gR (E ((td P el).k=.int .u8∧ys.all isByte=true)) (cD (E (.str (bytesOf ys))) σ k)):=congrArg R rfl
attribute [go_sem] WN TK.isInt Hq U0 WH WG Ow vT UZ
def Rv(P:Program)(d:TK)(xt:TypeId)(s:MV)(ys:Option (List (List MV)))(σ:St)(k:MV→St→Prop):Prop :=
 match d with
 |.slice el=>match ys with
  |some ys=>match s with
   |.aK=>gR ((td P xt).k.gT=true∧(td P el).jq=true∧Fits ys.length (td P el).bytes) (pQ σ fun l=>cD (.vec (td P el).size l 0 ys.length) (σ.set l (.row el (td P el).size ys)) k)
   |.aj e xs true=>gR ((td P xt).k.gT=true∧(td P el).jq=true∧e=(td P el).size∧(xs=[]∨0<ys.length)∧Fits (xs.length+ys.length) (td P el).bytes)
     (pQ σ fun l=>cD (.vec (td P el).size l 0 (xs.length+ys.length)) (σ.set l (.row el (td P el).size (xs++ys))) k)
   |.vec e l lo n=>match σ l with
    |some (.row tt e' xs)=>gR ((td P xt).k.gT=true∧(td P el).jq=true∧e=(td P el).size∧e'=(td P el).size∧tt=el∧lo=0∧lo+n≤xs.length∧Fits (n+ys.length) (td P el).bytes)
      (pQ σ fun l'=>cD (.vec (td P el).size l' 0 (n+ys.length)) ((σ.del l).set l' (.row el (td P el).size (gP xs lo n ys))) k)
    |_=>False
   |_=>False
  |none=>False
 |_=>False
def W7:TK→Option TypeId
 |.slice el=>some el
 |_=>none
def Sj(P:Program)(σ:St)(x:MV):Option TypeId→Option (List (List MV))
 |some el=>fX σ (td P el).size x
 |none=>none
def Kf{t xt:TypeId}{s x:MV}:R (l9 P t xt s x σ k)=R (Rv P (E (td P t).k) xt s (E (Sj P σ x (W7 (td P t).k))) σ k):=congrArg R (by
 unfold l9 Rv Sj W7 gR pQ cD E;cases (td P t).k<;>rfl)
def Oe{el xt:TypeId}{ys:List (List MV)}:R (Rv P (.slice el) xt .aK (some ys) σ k)=R (gR (E ((td P xt).k.gT=true∧(td P el).jq=true∧Fits ys.length (td P el).bytes)) (pQ (E σ) (fun l=>cD (E (.vec (td P el).size l 0 ys.length)) (σ.set l (.row el (td P el).size ys)) k))):=congrArg R rfl
def Rw{el xt:TypeId}{ys xs:List (List MV)}{e:Nat}:R (Rv P (.slice el) xt (.aj e xs true) (some ys) σ k)=R (gR (E ((td P xt).k.gT=true∧(td P el).jq=true∧e=(td P el).size∧(xs=[]∨0<ys.length)∧Fits (xs.length+ys.length) (td P el).bytes))
     (pQ (E σ) (fun l=>cD (E (.vec (td P el).size l 0 (xs.length+ys.length))) (σ.set l (.row el (td P el).size (xs++ys))) k))):=rfl
def Ry(P:Program)(el xt:TypeId)(e l lo n:Nat)(o:Option aY)(ys:List (List MV))(σ:St)(k:MV→St→Prop):Prop :=
 match o with
 |some (.row tt e' xs)=>gR ((td P xt).k.gT=true∧(td P el).jq=true∧e=(td P el).size∧e'=(td P el).size∧tt=el∧lo=0∧lo+n≤xs.length∧Fits (n+ys.length) (td P el).bytes)
      (pQ σ fun l'=>cD (.vec (td P el).size l' 0 (n+ys.length)) ((σ.del l).set l' (.row el (td P el).size (gP xs lo n ys))) k)
 |_=>False
def Rx{el xt:TypeId}{ys:List (List MV)}{e l lo n:Nat}:R (Rv P (.slice el) xt (.vec e l lo n) (some ys) σ k)=R (Ry P el xt e l lo n (E (σ l)) ys σ k):=congrArg R rfl
def mif(c:Prop)(A B:Prop):Prop:=(c→A)∧(¬c→B)
def U3{c A B:Prop}(h:c):R (mif c A B)=R A:=by simp[mif,h]
def WK{c A B:Prop}(h:¬c):R (mif c A B)=R B:=by simp[mif,h]
def WJ{c A B:Prop}(h1:c→R A)(h2:¬c→R B):R (mif c A B):=⟨h1,h2⟩
def Of{el xt tt:TypeId}{ys xs:List (List MV)}{e e' l lo n:Nat}:R (Ry P el xt e l lo n (some (.row tt e' xs)) ys σ k)=R (mif (E (lo+n=xs.length))
      (gR (E ((td P xt).k.gT=true∧(td P el).jq=true∧e=(td P el).size∧e'=(td P el).size∧tt=el∧lo=0∧Fits (n+ys.length) (td P el).bytes))
       (pQ (E σ) (fun l'=>cD (E (.vec (td P el).size l' 0 (n+ys.length))) ((σ.del l).set l' (.row el (td P el).size (xs.drop lo++ys))) k)))
      (gR (E ((td P xt).k.gT=true∧(td P el).jq=true∧e=(td P el).size∧e'=(td P el).size∧tt=el∧lo=0∧lo+n≤xs.length∧Fits (n+ys.length) (td P el).bytes))
       (pQ (E σ) (fun l'=>cD (E (.vec (td P el).size l' 0 (n+ys.length))) ((σ.del l).set l' (.row el (td P el).size (gP xs lo n ys))) k)))):=by
 apply congrArg R;simp only[Ry,mif,E];by_cases h:lo+n=xs.length
 ·simp only[h,true_implies,not_true_eq_false,false_implies,and_true,b7,true_and,Jw h]
 ·simp only[h,false_implies,not_false_eq_true,true_implies,true_and]
def IM{rs:List ResultVar}{Q:MV→St→Prop}{n:Nat}{l:List (Nat×MV)}:R (Pw P rs Q .normal ⟨n,l,[]⟩ σ)=R (fU P ⟨n,l,[]⟩ σ rs fun vs=>Q (oneOf vs) σ):=congrArg R rfl
def Ta{rs:List ResultVar}{Q:MV→St→Prop}{n:Nat}{l:List (Nat×MV)}:R (Pw P rs Q .ret ⟨n,l,[]⟩ σ)=R (fU P ⟨n,l,[]⟩ σ rs fun vs=>Q (oneOf vs) σ):=congrArg R rfl
def KB{rs:List ResultVar}{Q:MV→St→Prop}{n:Nat}{l:List (Nat×MV)}:R (mleave P n l rs Q [] σ)=R (fU P ⟨n,l,[]⟩ σ rs fun vs=>Q (oneOf vs) σ):=congrArg R rfl
def EW{K:List MV→Prop}:R (fU P f σ [] K)=R (K []):=congrArg R rfl
def EY{K:List MV→Prop}{t:Nat}{rs:List ResultVar}:R (fU P f σ (.tmp t::rs) K)=R (cD (E (f.get t)) σ (fun v _=>fU P f σ rs fun vs=>K (v::vs))):=congrArg R rfl
def Cr{K:List MV→Prop}{a:Nat}{t:TypeId}{rs:List ResultVar}:R (fU P f σ (.cell a t::rs) K)=R (nX P t (E (f.get a)) σ (fun v _=>fU P f σ rs fun vs=>K (v::vs))):=congrArg R rfl
def Pf{v:MV}:oneOf [v]=v:=rfl
def Pg{v w:MV}{vs:List MV}:oneOf (v::w::vs)=.ar (v::w::vs):=rfl
def Pe:oneOf []=.ar []:=rfl
def Nw{cs:List MV}:(MV.agg cs).cells=cs:=rfl
def Nx{i:IntKind}{n:Int}:(MV.int i n).cells=[.int i n]:=rfl
def JH{b:Bool}:(MV.bool b).cells=[.bool b]:=rfl
def NA{s:ByteArray}:(MV.str s).cells=[.str s]:=rfl
def JM:MV.ej.cells=[.ej]:=rfl
def Nz{l i o:Nat}:(MV.ptr l i o).cells=[.ptr l i o]:=rfl
def JI{cs:List MV}:(MV.cg cs).cells=[.cg cs]:=rfl
def JN:MV.aK.cells=[.aK]:=rfl
def Ny{e:Nat}{xs:List (List MV)}{t:Bool}:(MV.aj e xs t).cells=[.aj e xs t]:=rfl
def NB{e l lo n:Nat}:(MV.vec e l lo n).cells=[.vec e l lo n]:=rfl
def JL:MV.kp.cells=[.kp]:=rfl
def JJ{l:Nat}:(MV.db l).cells=[.db l]:=rfl
def Gt:MV.cw.cells=[.cw]:=rfl
def QC{fn:Fn}{a b:List MV}:(MV.fn fn a b).cells=[.fn fn a b]:=rfl
def bE{k k':IntKind}{a b:Int}:oP (.int k a) (.int k' b)↔k=k'∧a=b:=⟨fun h=>by cases h;exact⟨rfl,rfl⟩,fun⟨h,g⟩=>h ▸ g ▸ .same _⟩
def aX{m:MV}:oP m m↔True:=⟨fun _=>trivial,fun _=>.same m⟩
def all_nil{p:MV→Bool}:List.all [] p=true:=rfl
def Wq{α:Type}{p:α→Prop}:(∀c,c∈([]:List α)→p c)↔True:=ax
def Uj{α:Type}{p:α→Prop}{a:α}{l:List α}:(∀c,c∈a::l→p c)↔p a∧∀c,c∈l→p c:=ax
def Qw{i:IntKind}{n:Int}:(MV.int i n).aP=true:=rfl
def Np{b:Bool}:(MV.bool b).aP=true:=rfl
def QA{s:ByteArray}:(MV.str s).aP=true:=rfl
def Nu:MV.ej.aP=true:=rfl
def Qz{l i o:Nat}:(MV.ptr l i o).aP=true:=rfl
def Nq{cs:List MV}:(MV.cg cs).aP=true:=rfl
def Nv:MV.aK.aP=true:=rfl
def Qy{e:Nat}{xs:List (List MV)}{t:Bool}:(MV.aj e xs t).aP=true:=rfl
def QB{e l lo n:Nat}:(MV.vec e l lo n).aP=true:=rfl
def Nt:MV.kp.aP=true:=rfl
def Nr{l:Nat}:(MV.db l).aP=true:=rfl
def JG:MV.cw.aP=true:=rfl
def Uf{fn:Fn}{a b:List MV}:(MV.fn fn a b).aP=true:=rfl
def Ns:MV.qi.aP=true:=rfl
def JF{t:TypeId}{v:MV}:(MV.iface t v).aP=true:=rfl
def JK:MV.qi.cells=[.qi]:=rfl
def Gs{t:TypeId}{v:MV}:(MV.iface t v).cells=[.iface t v]:=rfl
end
section
variable {P:Program} {f:FR} {σ:St} {k:MV→St→Prop} {K:FR→St→Prop}
def Cs{dst:Option Tmp}{t:TypeId}:R (jY P f σ dst K (.makeMap t none))=R (pQ (E σ) fun l=>K (bI f dst (.db l)) (σ.set l (.mp []))):=congrArg R rfl
def Ae{dst:Option Tmp}{t:TypeId}{m x y:Operand}:R (jY P f σ dst K (.mapUpdate t m x y))=R (iN P t (E (aH f m)) (E (aH f x)) (E (aH f y)) (E (mapOf σ (aH f m))) σ fun v af=>K (bI f dst v) af):=congrArg R rfl
def E1{dst:Option Tmp}{t:TypeId}{m x:Operand}{ok:Bool}:R (jY P f σ dst K (.lookup t m x ok))=R (iU P t (E (aH f m)) (E (aH f x)) ok (E (mapOf σ (aH f m))) σ fun v af=>K (bI f dst v) af):=congrArg R rfl
def Ba(P:Program)(d:TK)(l:Nat)(kd:IntKind)(n:Int)(y:MV)(es:List (MV×MV))(σ:St)(k:MV→St→Prop):Prop:=match d with
 |.map kt _=>gR ((td P kt).k=.int kd∧(es.all fun p=>nh kd p.1)=true) (cD .bw (σ.set l (.mp (dW kd n y es))) k)
 |_=>False
def Kz{t:TypeId}{l:Nat}{kd:IntKind}{n:Int}{y:MV}{es:List (MV×MV)}:R (iN P t (.db l) (.int kd n) y (some (.mp es)) σ k)=R (Ba P (E (td P t).k) l kd n y es σ k):=congrArg R (by
 unfold iN Ba gR cD E;cases (td P t).k<;>rfl)
def HA{kt et:TypeId}{l:Nat}{kd:IntKind}{n:Int}{y:MV}{es:List (MV×MV)}:R (Ba P (.map kt et) l kd n y es σ k)=R (gR (E ((td P kt).k=.int kd∧(es.all fun p=>nh kd p.1)=true)) (cD (E .bw) (σ.set l (.mp (dW kd n y es))) k)):=congrArg R rfl
def Bb(P:Program)(d:TK)(kd:IntKind)(n:Int)(ok:Bool)(es:List (MV×MV))(σ:St)(k:MV→St→Prop):Prop:=match d with
 |.map kt et=>gR ((td P kt).k=.int kd∧(td P et).jq=true∧(es.all fun p=>nh kd p.1)=true) (cD (if ok=true then .ar [(eG n es).getD (y7 (td P et)),.bool (eG n es).isSome] else(eG n es).getD (y7 (td P et))) σ k)
 |_=>False
def KF{t:TypeId}{l:Nat}{kd:IntKind}{n:Int}{ok:Bool}{es:List (MV×MV)}:R (iU P t (.db l) (.int kd n) ok (some (.mp es)) σ k)=R (Bb P (E (td P t).k) kd n ok es σ k):=congrArg R (by
 unfold iU Bb gR cD E;cases (td P t).k<;>rfl)
def HE{kt et:TypeId}{kd:IntKind}{n:Int}{ok:Bool}{es:List (MV×MV)}:R (Bb P (.map kt et) kd n ok es σ k)=R (gR (E ((td P kt).k=.int kd∧(td P et).jq=true∧(es.all fun p=>nh kd p.1)=true)) (cD (E (if ok=true then .ar [(eG n es).getD (y7 (td P et)),.bool (eG n es).isSome] else(eG n es).getD (y7 (td P et)))) σ k)):=congrArg R rfl
def Oc{l:Nat}:mapOf σ (.db l)=σ l:=rfl
def Rc{kd:IntKind}{n:Int}{v:MV}:dW kd n v []=[(.int kd n,v)]:=rfl
def Q5{n:Int}:eG n []=none:=rfl
end
attribute [go_sem ↓] Ro Rp N8 Ks OU NP NR NQ Kt Ov Ko Hm Ho Hn LA Ou Kq Kp EM Kr F0 Qa LM B8 JC JB Gq Si OT KL HO HQ HN E0 Cs Ae E1 Sl Sd KH Se EU ON Sf HI ET OQ Co Cp Bd OP HJ OO Sc KI Cq OR OM U7 Bc A5 Sb HH Cl Kh Kj Ki IM Ta KB EW EY Cr
def Xo{t:TypeId}:FZ t=decide (t=5):=rfl
attribute [go_sem] Xo Kz HA KF HE Oc Rc Q5 y7 Wb Xr YB Yy Xq Yz Yv Kx Hw OA R6 OC OB OE OD Hz OI OH OG OF NX OW OV Wt Sq KP OY SH Vi Vj SK SL SJ Pc SI KQ U9 Va HS KR RT Kn Cm Ot RY U4 Vk KM OJ KD HC KO E2 aD aE QI KX set_set Vq Vo Vp Vn Vh S7 Pr FA UY Oq Rz RP RI RL RM RA UT Hl RB RJ RH RG RF RC RN RO Oj On Oi Om Ol Og Oh UU US UO UR UW UX UQ UP TK.J6 P9 NH Qr List.length_take bn b4 GP LO if_pos if_neg I3 DZ PU Fits GC SE Cf Mb Mc A4 rA Ug jX cK UN Kf W7 Sj Oe Rw Rx U3 WK gP Of Pf Pg Pe Nw Nx JH NA JM Nz JI JN Ny NB JL JJ Gt QC jD rF eP mX eJ A9 EO laid fN rB R8 MJ MI mun vT fX TK.isAgg TK.gT TK.vN TK.J8 TK.isBool Qw Np QA Nu Qz Nq Nv Qy QB Nt Nr JG Uf Ns JF JK Gs Wq Uj aI a7 List.length_cons List.length_nil List.length_map Int.toNat_natCast List.drop_succ_cons List.drop_zero List.drop_nil List.take_succ_cons List.take_zero List.take_nil List.getD_cons_zero List.getD_cons_succ az bb List.set_cons_zero List.set_cons_succ bx List.all_nil bp List.nil_append List.append_nil List.toList_toArray co Option.map_none Bool.and_self Bool.and_true Bool.true_and beq_self_eq_true IntWalk.i64_in IntWalk.u8_in IntWalk.u32_in IntWalk.i32_in IntWalk.u64_in decide_true decide_false Bool.not_true Bool.not_false if_true if_false and_true true_and and_self ne_eq not_true_eq_false not_false_eq_true eq_self reduceCtorEq MV.bool.injEq Nat.zero_add Nat.add_zero
def St.le(σ1 σ:St):Prop:=∀l o,σ1 l=some o→σ l=some o
def St.le_refl(σ:St):σ.le σ:=fun _ _ h=>h
def ba{s:St}:s.le s:=St.le_refl _
def St.none_le(σ:St):c0.le σ:=fun _ _ h=>by simp[c0] at h
def bt{s:St}:c0.le s:=St.none_le _
def St.bC{σ1 σ:St}{l:Nat}{o:aY}(h:σ1.le σ)(hl:σ1 l=cf):σ1.le (σ.set l o):=fun k q hk=>by
 by_cases e:k=l
 ·subst e;rw[hl] at hk;cases hk
 ·rw[cn e];exact h k q hk
def St.nF{σ1 σ:St}{l:Nat}{o:aY}(h:σ1.le σ):(σ1.set l o).le (σ.set l o):=fun k q hk=>by
 by_cases e:k=l
 ·subst e;rw[aD] at hk ⊢;exact hk
 ·rw[cn e] at hk ⊢;exact h k q hk
def St.aB{σ1 σ:St}{l:Nat}{o:aY}(h:σ1.le σ)(hl:σ l=some o):(σ1.set l o).le σ:=fun k q hk=>by
 by_cases e:k=l
 ·subst e;rw[aD] at hk;rw[hl];exact hk
 ·rw[cn e] at hk;exact h k q hk
def YA{x y:St}:R (x.le y)=x.le y:=rfl
attribute [go_sem] YA
inductive View (σ:St):MV→MV→Prop where
 |same (m:MV):View σ m m
 |bw (m:MV):View σ m .bw
 |nil (e:Nat) (t:Bool):View σ .aK (.aj e [] t)
 |tight (e:Nat) (xs:List (List MV)):View σ (.aj e xs true) (.aj e xs false)
 |vec {l lo n:Nat} {t:TypeId} {e:Nat} {xs:List (List MV)} (h:σ l=some (.row t e xs)) (hn:lo+n≤xs.length):View σ (.vec e l lo n) (.aj e ((xs.drop lo).take n) false)
 |cq {l n:Nat} {t:TypeId} {e:Nat} {xs:List (List MV)} (h:σ l=some (.row t e xs)) (hn:n=xs.length):View σ (.vec e l 0 n) (.aj e xs false)
 |ptr {l i o:Nat} {t:TypeId} {e:Nat} {xs:List (List MV)} (h:σ l=some (.row t e xs)) (hn:i<xs.length):View σ (.ptr l i o) (.cg ((xs.getD i []).drop o))
 |agg {ms ms':List MV} (h:ms.length=ms'.length) (hc:∀(i:Nat) (m:MV),ms'[i]?=some m→m.aP=true) (hv:∀(i:Nat) (m m':MV),ms[i]?=some m→ms'[i]?=some m'→View σ m m'):View σ (.agg ms) (.agg ms')
 |ar {ms ms':List MV} (h:ms.length=ms'.length) (hv:∀(i:Nat) (m m':MV),ms[i]?=some m→ms'[i]?=some m'→View σ m m'):View σ (.ar ms) (.ar ms')
 |fn {f:Fn} {ms ns ns':List MV} (h:ns.length=ns'.length) (hv:∀(i:Nat) (m m':MV),ns[i]?=some m→ns'[i]?=some m'→View σ m m'):View σ (.fn f ms ns) (.fn f ms ns')
def Qn(Φ Φ':bd)(w:World)(σ:St):Prop:=Φ.le Φ'∧∀l o p R,σ l=some o→Φ.obj l=some p→p.jh=some R→∀off v,w.cell? ⟨R,off,none⟩=some v→Φ'.snap ⟨R,off,none⟩=some v
def eT.cells{Φ:bd}{w:World}{l:Nat}{t:TypeId}{e:Nat}{xs:List (List MV)}(h:eT Φ w l (.row t e xs)){p:Place}(hp:Φ.obj l=some p){R:Nat}(hR:p.jh=some R) :
  ∀(i:Nat) (x:List MV) (j:Nat) (m:MV),xs[i]?=some x→x[j]?=some m→m.aP=true∧∃v,w.cell? ⟨R,p.bo+(i*e+j),none⟩=some v∧Rel Φ v m:=by obtain⟨p',dw,he,h1,h2,h3,h4⟩:=h;rw[hp] at dw;cases dw;rw[hR] at h4;obtain⟨c,fz,hc,hf,hs,hv⟩:=h4;intro i x j m hx hm;obtain⟨dc,v,hv1,hv2⟩:=hv i x j m hx hm;exact⟨dc,v,by simpa[World.cell?,hc] using hv1,hv2⟩
def eT.L3{Φ Φ':bd}{w:World}{l:Nat}{t:TypeId}{e:Nat}{xs:List (List MV)}(h:eT Φ w l (.row t e xs)){p:Place}(hp:Φ.obj l=some p){R:Nat}(hR:p.jh=some R)
 (hle:Φ.le Φ')(hs:∀off v,w.cell? ⟨R,off,none⟩=some v→Φ'.snap ⟨R,off,none⟩=some v):lX Φ' R p.bo e xs:=by
 refine⟨h.Wm,fun i j=>(w.cell? ⟨R,p.bo+(i*e+j),none⟩).getD undef,fun i x j m hx hm=>?_⟩;obtain⟨dc,v,hv1,hv2⟩:=h.cells hp hR i x j m hx hm;have:=hs _ _ hv1;simp only[b8] at this hv1 ⊢;refine⟨dc,?_,?_⟩
 ·rw[this,hv1];rfl
 ·rw[hv1];exact hv2.mono hle
def Jo{Φ Φ':bd}{w:World}{σ:St}(hi:Inv Φ w σ)(hs:Qn Φ Φ' w σ){l lo n:Nat}{t:TypeId}{e:Nat}{xs:List (List MV)}(h:σ l=some (.row t e xs))(hn:lo+n≤xs.length){v:Value}(r:Rel Φ v (.vec e l lo n)) :
  Rel Φ' v (.aj e ((xs.drop lo).take n) false):=by
 obtain⟨a,cap,p,rfl,hp,he,dv,ZH,hva⟩:=r.eQ;have own:=hi.own l _ h;obtain⟨p',dw,Z3,h1,h2,h3,h4⟩:=hi.own l _ h;rw[hp] at dw;cases dw;refine Rel.ES (by simp;omega) ZH oM ax (fun ha=>?_) (fun h0=>?_)
 ·rcases hva with⟨R,hR,ha'⟩|hva
  ·rw[ha'] at ha;cases ha
  ·exact hva
 ·rcases hva with⟨R,hR,ha⟩|hva
  ·subst ha;refine⟨_,_,rfl,?_⟩;rw[he];exact((own.L3 hp hR hs.1 (hs.2 l _ p R h hp hR)).drop).take
  ·omega
def View.rel{Φ Φ':bd}{w:World}{σ:St}(hi:Inv Φ w σ)(hs:Qn Φ Φ' w σ){m m':MV}(h:View σ m m'):∀{v:Value},Rel Φ v m→Rel Φ' v m':=by
 induction h with
 |same m=>intro v r;exact r.mono hs.1
 |bw m=>intro v r;exact .bw v
 |nil e t=>intro v r;cases r;exact .nj e t
 |tight e xs=>intro v r;exact((oP.tight e xs).rel r).mono hs.1
 |vec h hn=>intro v r;exact Jo hi hs h hn r
 |@cq l n t e xs h hn =>
  intro v r;have:=Jo hi hs h (lo:=0) (n:=n) oM r;subst hn;simpa using this
 |@ptr l i o t e xs h hn =>
  intro v r;obtain⟨p,R,hp,hR,rfl⟩:=r.jU;have own:=hi.own l _ h;obtain⟨p',dw,Z3,-⟩:=hi.own l _ h;rw[hp] at dw;cases dw;obtain⟨-,vs,hv⟩:=own.L3 hp hR hs.1 (hs.2 l _ p R h hp hR);have hx:xs[i]?=some (xs.getD i []):=by simp[bz,ay hn]
  refine .cg (fun j=>vs i (o+j)) (fun j m hm=>?_) (fun j m hm=>?_);all_goals
   rw[bj] at hm;have:=hv i _ _ m hx hm
  ·refine⟨this.1,?_⟩;rw[Z3];simpa[b8] using this.2.1
  ·exact this.2.2
 |agg h hc hv ih =>
  intro v r;obtain⟨cs,rfl,h1,h2,h3⟩:=r.kU;refine .agg oM hc (fun i m' lu=>?_);have bh:=(av.1 lu).1;rename_i ms ms';obtain⟨m,hm⟩:∃m,ms[i]?=some m:=⟨_,ay oM⟩
  exact ih i m m' hm lu (h3 i m hm)
 |ar h hv ih =>
  intro v r;obtain⟨cs,rfl,h1,h3⟩:=r.Ez;refine .ar oM (fun i m' lu=>?_);have bh:=(av.1 lu).1;rename_i ms ms';obtain⟨m,hm⟩:∃m,ms[i]?=some m:=⟨_,ay oM⟩
  exact ih i m m' hm lu (h3 i m hm)
 |@fn f ms ns ns' h hv ih =>
  intro v r;obtain⟨first,cap,rfl,h1,h2⟩:=r.pM;refine .fn f h1.1 (h2.1.trans h) (fun i m hm=>(h1.2 i m hm).mono hs.1) (fun i m' lu=>?_);have bh:=(av.1 lu).1;obtain⟨m,hm⟩:∃m,ns[i]?=some m:=⟨_,ay oM⟩
  exact ih i m m' hm lu (h2.2 i m hm)
def bd.uP(Φ:bd)(w:World)(B:Nat→Prop)[DecidablePred B]:bd:={ Φ with snap:=fun a=>match Φ.snap a with|some v=>some v|none=>if B a.block then w.cell? a else none }
def As(Φ:bd)(w:World)(B:Nat→Prop)[DecidablePred B]:Φ.le (Φ.uP w B):=⟨fun a v h=>by simp[bd.uP,h],fun _ _ h=>h,rfl⟩
def gN{Φ:bd}{w:World}{B:Nat→Prop}[DecidablePred B]{a:Addr}{v:Value}(h:(Φ.uP w B).snap a=some v):Φ.snap a=some v∨(B a.block∧w.cell? a=some v):=by
 simp only[bd.uP] at h;split at h
 ·rename_i u hu;left;rw[hu,←h]
 ·split at h
  ·rename_i hb;exact .inr ⟨hb,h⟩
  ·cases h
def FQ{Φ:bd}{w:World}{σ:St}(hi:Inv Φ w σ){B:Nat→Prop}[DecidablePred B]{jk:St}(hle:jk.le σ)(hB:∀R,aV Φ jk R→B R):Qn Φ (Φ.uP w B) w jk:=by
 refine⟨As _ _ _,fun l o p R hl hp hR off v hv=>?_⟩;have hb:B R:=hB R ⟨l,o,p,hl,hp,hR⟩;simp only[bd.uP];split
 ·rename_i u hu;have:=hi.snap _ _ hu;rw[hv] at this;exact this.symm
 ·rw[if_pos hb];exact hv
def aR.freeze{n:Nat}{l l1:List (Nat×MV)}{d:List (FuncId×List MV)}{σ σ1:St}(jk:St)(hle:jk.le σ)(h1:σ1.le σ)(hd:∀k o,σ1 k=some o→jk k=none)
 (h:∀p,p∈l1→View jk (cV l p.1) p.2):aR ⟨n,l,d⟩ σ ⟨n,l1,d⟩ σ1:=by
 refine⟨rfl,fun Φ w vs hi hr=>?_⟩
 classical
 have hs:=FQ (Φ:=Φ) hi (B:=aV Φ jk) hle (fun R h=>h);refine⟨Φ.uP w (aV Φ jk),⟨?_,?_,?_,?_,hi.fresh.1,fun g i v q=>hs.1.snap _ _ (hi.fresh.2.1 g i v q),hi.fresh.2.2.mono hs.1.snap⟩,⟨hr.1,?_⟩,⟨hs.1,rfl,rfl,rfl,b7 _,b7 _,fun _ _ _=>rfl,?_,fun l o h=>.inl ⟨o,h1 l o h⟩,fun R hR=>.inl ?_⟩⟩
 ·exact fun k o hk=>(hi.own k o (h1 k o hk)).mono hs.1 (fun _ _ _ _=>rfl)
 ·exact fun k k' o o' p p' R a b c e=>hi.inj k k' o o' p p' R (h1 k o a) (h1 k' o' b) c e
 ·intro a v hv;rcases gN hv with q|⟨-,q⟩
  ·exact hi.snap a v q
  ·exact q
 ·intro k o p R a v hk hp hR hv;rcases gN hv with q|⟨⟨k2,o2,p2,q1,q2,q3⟩,-⟩
  ·exact hi.apart k o p R a v (h1 k o hk) hp hR q
  ·intro e;rw[e] at q3;have:=hi.inj k k2 o o2 p p2 R (h1 k o hk) (hle k2 o2 q1) hp q2 hR q3;subst this;rw[hd k o hk] at q1;cases q1
 ·intro t;show Rel _ _ (cV l1 t);have key:∀l1':List (Nat×MV),(∀p,p∈l1'→View jk (cV l p.1) p.2)→View jk (cV l t) (cV l1' t):=by
   intro l1'
   induction l1' with
   |nil=>intro _;exact .bw _
   |cons q r ih =>
    obtain⟨k,v⟩:=q;intro h;simp only[cV];split
    ·rename_i ht;subst ht;exact h (t,v) ax
    ·exact ih fun q hq=>h q (by simp[hq])
  exact(key l1 h).rel (hi.less hle) hs (hr.2 t)
 ·intro a v hv;rcases gN hv with q|⟨⟨k,o,p,q1,q2,q3⟩,-⟩
  ·exact .inl q
  ·exact .inr (.inr ⟨k,o,p,hle k o q1,q2,q3⟩)
 ·obtain⟨k,o,p,q1,q2,q3⟩:=hR;exact⟨k,o,p,h1 k o q1,q2,q3⟩
def Qk(jk:St)(o o1:aY):Prop:=o1=o∨∃t e xs xs1,o=.row t e xs∧o1=.row t e xs1∧xs.length=xs1.length∧∀(i:Nat) (x x1:List MV),xs[i]?=some x→xs1[i]?=some x1→x.length=x1.length ∧
 ∀(j:Nat) (m m1:MV),x[j]?=some m→x1[j]?=some m1→m1=m∨(m1.aP=true∧View jk m m1)
def Qk.own{Φ Φ':bd}{w:World}{jk:St}{k:Nat}{o o1:aY}(hv:Qk jk o o1)(h:eT Φ w k o)(hle:Φ.le Φ')(hi:Inv Φ w jk)(hs:Qn Φ Φ' w jk):eT Φ' w k o1:=by
 rcases hv with rfl|⟨t,e,xs,xs1,rfl,rfl,hl,hx⟩
 ·exact h.mono hle (fun _ _ _ _=>rfl)
 ·obtain⟨p,hp,iz,q1,q2,q3,q4⟩:=h;have get:∀(i:Nat) (x1:List MV),xs1[i]?=some x1→∃x,xs[i]?=some x:=fun i x1 h1=>by have:=(av.1 h1).1;exact⟨xs[i]'oM,ax⟩
  refine⟨p,hle.obj _ _ hp,iz,oM,q2,fun i x1 h1=>?_,?_⟩
  ·obtain⟨x,xf⟩:=get i x1 h1;rw[←(hx i x x1 xf h1).1];exact q3 i x xf
  ·cases hb:p.jh with
   |none=>rw[hb] at q4;exact q4
   |some R =>
    rw[hb] at q4;obtain⟨c,fz,k1,k2,k3,k4⟩:=q4;refine⟨c,fz,k1,k2,k3,fun i x1 j m1 h1 hm1=>?_⟩;obtain⟨x,xf⟩:=get i x1 h1;obtain⟨hlen,hview⟩:=hx i x x1 xf h1;have hj:=(av.1 hm1).1;obtain⟨m,hm⟩:∃m,x[j]?=some m:=⟨x[j]'oM,ax⟩
    obtain⟨hc0,v,hcv,bf⟩:=k4 i x j m xf hm;rcases hview j m m1 hm hm1 with rfl|⟨hc,hv⟩
    ·exact⟨hc0,v,hcv,bf.mono hle⟩
    ·exact⟨hc,v,hcv,hv.rel hi hs bf⟩
def aR.qU{n:Nat}{l l1:List (Nat×MV)}{d:List (FuncId×List MV)}{σ σ1:St}(jk:St)(hle:jk.le σ)(h1:∀k o1,σ1 k=some o1→∃o,σ k=some o∧Qk jk o o1)(hd:∀k o,σ1 k=some o→jk k=none)
 (h:∀p,p∈l1→View jk (cV l p.1) p.2):aR ⟨n,l,d⟩ σ ⟨n,l1,d⟩ σ1:=by
 refine⟨rfl,fun Φ w vs hi hr=>?_⟩
 classical
 have hs:=FQ (Φ:=Φ) hi (B:=aV Φ jk) hle (fun R h=>h);refine⟨Φ.uP w (aV Φ jk),⟨?_,?_,?_,?_,hi.fresh.1,fun g i v q=>hs.1.snap _ _ (hi.fresh.2.1 g i v q),hi.fresh.2.2.mono hs.1.snap⟩,⟨hr.1,?_⟩,⟨hs.1,rfl,rfl,rfl,b7 _,b7 _,fun _ _ _=>rfl,?_,fun l o h=>?_,fun R hR=>.inl ?_⟩⟩
 ·intro k o1 hk;obtain⟨o,ho,hv⟩:=h1 k o1 hk;exact hv.own (hi.own k o ho) hs.1 (hi.less hle) hs
 ·intro k k' o o' p p' R a b c e;obtain⟨q,hq,-⟩:=h1 k o a;obtain⟨q',hq',-⟩:=h1 k' o' b;exact hi.inj k k' q q' p p' R hq hq' c e
 ·intro a v hv;rcases gN hv with q|⟨-,q⟩
  ·exact hi.snap a v q
  ·exact q
 ·intro k o p R a v hk hp hR hv;obtain⟨o0,ho0,-⟩:=h1 k o hk;rcases gN hv with q|⟨⟨k2,o2,p2,q1,q2,q3⟩,-⟩
  ·exact hi.apart k o0 p R a v ho0 hp hR q
  ·intro e;rw[e] at q3;have:=hi.inj k k2 o0 o2 p p2 R ho0 (hle k2 o2 q1) hp q2 hR q3;subst this;rw[hd k o hk] at q1;cases q1
 ·intro t;show Rel _ _ (cV l1 t);have key:∀l1':List (Nat×MV),(∀p,p∈l1'→View jk (cV l p.1) p.2)→View jk (cV l t) (cV l1' t):=by
   intro l1'
   induction l1' with
   |nil=>intro _;exact .bw _
   |cons q r ih =>
    obtain⟨k,v⟩:=q;intro h;simp only[cV];split
    ·rename_i ht;subst ht;exact h (t,v) ax
    ·exact ih fun q hq=>h q (by simp[hq])
  exact(key l1 h).rel (hi.less hle) hs (hr.2 t)
 ·intro a v hv;rcases gN hv with q|⟨⟨k,o,p,q1,q2,q3⟩,-⟩
  ·exact .inl q
  ·exact .inr (.inr ⟨k,o,p,hle k o q1,q2,q3⟩)
 ·obtain⟨o0,ho0,-⟩:=h1 l o h;exact .inl ⟨o0,ho0⟩
 ·obtain⟨k,o,p,q1,q2,q3⟩:=hR;obtain⟨o0,ho0,-⟩:=h1 k o q1;exact⟨k,o0,p,ho0,q2,q3⟩
def aR.less{n:Nat}{l l1:List (Nat×MV)}{d:List (FuncId×List MV)}{σ σ1:St}(h:∀p,p∈l1→oP (cV l p.1) p.2)(hs:σ1.le σ):aR ⟨n,l,d⟩ σ ⟨n,l1,d⟩ σ1 :=
 (aR.UB h).trans (aR.drop hs)
def Gh.row{n:Nat}{l:List (Nat×MV)}{d:List (FuncId×List MV)}{σ:St}{K:FR→St→Prop}(t:TypeId)(e:Nat)(l1:Nat→List (Nat×MV))
 (h1:∀k,∀p,p∈l1 k→cV l p.1=p.2∨(p.2=.vec e k 0 0∧(cV l p.1=.aK∨cV l p.1=.aj e [] true)))
 (h:∀k,σ k=none→Gh ⟨n,l1 k,d⟩ (σ.set k (.row t e [])) K):Gh ⟨n,l,d⟩ σ K:=by
 intro Φ w vs hi hr;obtain⟨k,hk,hk'⟩:=inv_eq hi;obtain⟨v1,v2,-⟩:=pC hi (fun _ _ h=>h) hk t e none;have kj:dP (Φ.put k ⟨none,0,e,0⟩) vs ⟨n,l1 k,d⟩:=by
  refine⟨hr.1,fun s=>?_⟩;show Rel _ _ (cV (l1 k) s);have key:∀l2:List (Nat×MV),(∀p,p∈l2→cV l p.1=p.2∨(p.2=.vec e k 0 0∧(cV l p.1=.aK∨cV l p.1=.aj e [] true)))→Rel (Φ.put k ⟨none,0,e,0⟩) (vs.getD s undef) (cV l2 s):=by
   intro l2
   induction l2 with
   |nil=>intro _;exact .bw _
   |cons q r ih =>
    obtain⟨j,v⟩:=q;intro h;simp only[cV];split
    ·rename_i ht;subst ht;have hs:=hr.2 s;change Rel Φ _ (cV l s) at hs;rcases h (s,v) ax with q|⟨q1,q2|q2⟩
     ·simp only at q;rw[←q];exact hs.mono v2.le
     ·simp only at q1 q2;rw[q2] at hs;have:=hs.gF;rw[this,q1];exact(pC hi (fun _ _ h=>h) hk t e none).2.2
     ·simp only at q1 q2;rw[q2] at hs;obtain⟨a,cap,hv,-,-,h0,-⟩:=hs.l7;have dv:cap=0:=by simpa using h0 rfl
      subst dv;rw[hv,q1];exact(pC hi (fun _ _ h=>h) hk t e a).2.2
    ·exact ih fun q hq=>h q (by simp[hq])
  exact key _ (h1 k)
 obtain⟨f2,eh,kh,e2,k2,i2,r2,s2⟩:=h k hk' _ w vs v1 kj;exact⟨f2,eh,kh,e2,k2,i2,r2,v2.trans s2⟩
def Gh.IW{f:FR}{σ:St}{K:FR→St→Prop}{b:Nat}{t:TypeId}{e:Nat}{pre post:List MV}(t':TypeId)(e':Nat)(hs:σ b=some (.row t e [pre++.aK::post]))
 (h:∀k,σ k=none→Gh f ((σ.set b (.row t e [pre++.vec e' k 0 0::post])).set k (.row t' e' [])) K):Gh f σ K:=by
 intro Φ w vs hi hr;obtain⟨k,hk,hk'⟩:=inv_eq hi;obtain⟨v1,v2,-⟩:=pC hi (fun _ _ h=>h) hk t' e' none;have qt:b≠k:=fun e=>by subst e;rw[hs] at hk';cases hk'
 have xm:(σ.set k (.row t' e' [])) b=some (.row t e [pre++.aK::post]):=by rw[cn qt];exact hs
 obtain⟨p,hp,iz,q1,q2,q3,q4⟩:=v1.own b _ xm;have gp:eT (Φ.put k ⟨none,0,e',0⟩) w b (.row t e [pre++.vec e' k 0 0::post]):=by
  refine⟨p,hp,iz,by simpa using q1,q2,fun i x hx=>?_,?_⟩
  ·match i with
   |0 =>
    simp only[az,cr] at hx;subst hx;have:=q3 0 _ rfl;simpa using this
   |i+1=>simp at hx
  ·cases hb:p.jh with
   |none=>rw[hb] at q4;exact q4
   |some R =>
    rw[hb] at q4;obtain⟨c,fz,k1,k2,k3,k4⟩:=q4;refine⟨c,fz,k1,k2,k3,fun i x j m hx hm=>?_⟩
    match i with
    |0 =>
     simp only[az,cr] at hx;subst hx;by_cases hj:j=pre.length
     ·subst hj;simp at hm;subst hm;obtain⟨-,v,hv,bf⟩:=k4 0 _ pre.length .aK rfl ax;have:=bf.gF;subst this;exact⟨rfl,_,hv,.ZX (p:=⟨none,0,e',0⟩) (bd.dC _ _ _) rfl rfl⟩
     ·refine k4 0 _ j m rfl ?_;rw[←hm];by_cases h:j<pre.length
      ·rw[aN h,aN h]
      ·rw[a6 oM,a6 oM];obtain⟨q,hq⟩:∃q,j-pre.length=q+1:=⟨j-pre.length-1,oM⟩
       rw[hq,bb,bb]
    |i+1=>simp at hx
 have i2:Inv (Φ.put k ⟨none,0,e',0⟩) w ((σ.set k (.row t' e' [])).set b (.row t e [pre++.vec e' k 0 0::post])):=by
  refine v1.tz (.refl _) (fun _=>rfl) b _ p hp (fun m o q=>St.cG q) (fun m o q R hm hs2 hq hR=>?_) (fun a v h=>?_) gp v1.fresh.1
  ·rcases St.cG hs2 with⟨_,q1⟩|⟨q1,_⟩
   ·exact⟨rfl,fun e2=>hm (v1.inj m b _ _ q p R q1 xm hq hp hR e2)⟩
   ·exact absurd q1 hm
  ·exact⟨rfl,fun e2=>v1.apart b _ p _ a v xm hp e2 h rfl⟩
 have dg:(σ.set k (.row t' e' [])).set b (.row t e [pre++.vec e' k 0 0::post])=(σ.set b (.row t e [pre++.vec e' k 0 0::post])).set k (.row t' e' []):=set_comm _ _ _ (cb qt);rw[dg] at i2;obtain⟨f2,eh,kh,e2,k2,j2,r2,s2⟩:=h k hk' _ w vs i2 (hr.mono v2.le);refine⟨f2,eh,kh,e2,k2,j2,r2,.trans ?_ s2⟩;refine⟨v2.le,rfl,rfl,rfl,b7 _,b7 _,fun _ _ _=>rfl,fun _ _ h=>.inl h,fun m o q=>?_,fun R hR=>?_⟩
 ·rcases St.cG q with⟨_,q1⟩|⟨rfl,_⟩
  ·rcases St.cG q1 with⟨_,q2⟩|⟨rfl,_⟩
   ·exact .inl ⟨_,q2⟩
   ·exact .inl ⟨_,hs⟩
  ·exact .inr hk
 ·obtain⟨m,o1,p1,t1,t2,t3⟩:=hR;refine v2.cz R ?_;rcases St.cG t1 with⟨hm,q1⟩|⟨rfl,rfl⟩
  ·rcases St.cG q1 with⟨_,q2⟩|⟨rfl,_⟩
   ·exact⟨m,o1,p1,by rw[cn hm];exact q2,t2,t3⟩
   ·exact⟨m,_,p1,xm,t2,t3⟩
  ·exact⟨m,_,p1,cj,t2,t3⟩
def aA.gh{P:Program}{g:FuncId}{ms:List MV}{σ:St}{Q:MV→St→Prop}(h:aA P g ms σ fun v af=>Gh ⟨1,[(0,v)],[]⟩ af fun f1 σ1=>∃v1,f1=⟨1,[(0,v1)],[]⟩∧Q v1 σ1):aA P g ms σ Q:=by
 refine⟨h.1,fun Φ w vs hi hr=>(h.2 Φ w vs hi hr).mono ?_⟩;rintro e w' ⟨v,mv,af,Φ',rfl,q1,q2,q3,g⟩;obtain⟨f1,σ1,ei,-,⟨v1,rfl,hq⟩,i1,r1,s1⟩:=g Φ' w' #[v] q2 ⟨rfl,fun t=>by
  simp only[al,cV];split
  ·rename_i ht;subst ht;exact q1
  ·exact .bw _⟩
 exact⟨v,v1,σ1,ei,rfl,by simpa[al,cV] using r1.2 0,i1,q3.trans s1,hq⟩
def St.over(x y:St):St:=fun l=>match x l with|some o=>some o|cf=>y l
def St.minus(x y:St):St:=fun l=>match y l with|some _=>cf|cf=>x l
def kK{x y:St}{l:Nat}{o:aY}(h:(St.over x y) l=some o):x l=some o∨(x l=none∧y l=some o):=by
 simp only[St.over] at h;split at h
 ·rename_i q hq;exact .inl (by rw[hq,h])
 ·rename_i hq;exact .inr ⟨hq,h⟩
def cM{x y:St}{l:Nat}{o:aY}(h:(St.minus x y) l=some o):y l=none∧x l=some o:=by
 simp only[St.minus] at h;split at h
 ·cases h
 ·rename_i hq;exact⟨hq,h⟩
def aA.frame{P:Program}{g:FuncId}{ms:List MV}{uk σ:St}{Q:MV→St→Prop}(h:aA P g ms uk Q)(hle:uk.le σ) :
  aA P g ms σ fun v σ1=>∃af,Q v af∧σ1=af.over (σ.minus uk)∧∀l o,af l=some o→σ l=none∨∃o',uk l=some o':=by
 refine⟨h.1,fun Φ w vs hi hr=>(h.2 Φ w vs (hi.less hle) hr).mono ?_⟩;rintro e w' ⟨v,mv,af,Φ',rfl,r1,i1,s1,hq⟩;have rest:∀l o,(σ.minus uk) l=some o→∃p,Φ.obj l=some p∧Φ'.obj l=some p∧∀R,p.jh=some R→R<w.heap.size∧¬aV Φ uk R∧w'.heap[R]?=w.heap[R]?:=by
  intro l o hl;obtain⟨q1,q2⟩:=cM hl;obtain⟨p,hp,hR⟩:=(hi.own l o q2).place;refine⟨p,hp,s1.le.obj _ _ hp,fun R hb=>?_⟩;have lx:¬aV Φ uk R:=by rintro⟨l2,o2,p2,u1,u2,u3⟩;have:=hi.inj l l2 o o2 p p2 R q2 (hle _ _ u1) hp u2 hb u3;subst this;rw[q1] at u1;cases u1
  exact⟨hR R hb,lx,s1.block R (hR R hb) lx⟩
 have hdis:∀l o,af l=some o→σ l=none∨∃o',uk l=some o':=by
  intro l o hl;rcases s1.jc l o hl with q|q
  ·exact .inr q
  ·exact .inl (hi.gI q)
 have gi:∀l o p R,af l=some o→Φ'.obj l=some p→p.jh=some R→aV Φ uk R∨w.heap.size≤R:=fun l o p R a b c=>s1.cz R ⟨l,o,p,a,b,c⟩;refine⟨v,mv,af.over (σ.minus uk),Φ',rfl,r1,⟨?_,?_,i1.snap,?_,i1.fresh⟩,⟨s1.le,s1.os,s1.tape,s1.output,s1.drawn,s1.size,?_,?_,?_,?_⟩,af,hq,rfl,hdis⟩
 ·intro l o hl;rcases kK hl with q|⟨q1,q2⟩
  ·exact i1.own l o q
  ·obtain⟨p,hp,dw,hR⟩:=rest l o q2;exact(hi.own l o (cM q2).2).mono s1.le fun p1 R h1 h2=>by rw[hp] at h1;cases h1;exact(hR R h2).2.2
 ·intro l l' o o' p p' R hl na hp dw hb mw;rcases kK hl with q|⟨q1,q2⟩<;>rcases kK na with q'|⟨q1',q2'⟩
  ·exact i1.inj l l' o o' p p' R q q' hp dw hb mw
  ·obtain⟨p2,u1,u2,u3⟩:=rest l' o' q2';rw[dw] at u2;cases u2;rcases gi l o p R q hp hb with k|k
   ·exact absurd k (u3 R mw).2.1
   ·have:=(u3 R mw).1;omega
  ·obtain⟨p2,u1,u2,u3⟩:=rest l o q2;rw[hp] at u2;cases u2;rcases gi l' o' p' R q' dw mw with k|k
   ·exact absurd k (u3 R hb).2.1
   ·have:=(u3 R hb).1;omega
  ·obtain⟨p2,u1,u2,u3⟩:=rest l o q2;rw[hp] at u2;cases u2;obtain⟨p3,v1,v2,v3⟩:=rest l' o' q2';rw[dw] at v2;cases v2;exact hi.inj l l' o o' p p' R (cM q2).2 (cM q2').2 u1 v1 hb mw
 ·intro l o p R a u hl hp hb hu;rcases kK hl with q|⟨q1,q2⟩
  ·exact i1.apart l o p R a u q hp hb hu
  ·obtain⟨p2,u1,u2,u3⟩:=rest l o q2;rw[hp] at u2;cases u2;intro e;rcases s1.cl a u hu with k|k|k
   ·exact hi.apart l o p R a u (cM q2).2 u1 hb k e
   ·have:=(u3 R hb).1;omega
   ·rw[e] at k;exact(u3 R hb).2.1 k
 ·exact fun k hk lx=>s1.block k hk fun q=>lx (q.less hle)
 ·intro a u hu;rcases s1.cl a u hu with k|k|k
  ·exact .inl k
  ·exact .inr (.inl k)
  ·exact .inr (.inr (k.less hle))
 ·intro l o hl;rcases kK hl with q|⟨q1,q2⟩
  ·rcases s1.jc l o q with⟨o',k⟩|k
   ·exact .inl ⟨o',hle _ _ k⟩
   ·exact .inr k
  ·exact .inl ⟨o,(cM q2).2⟩
 ·rintro R ⟨l,o,p,hl,hp,hb⟩;rcases kK hl with q|⟨q1,q2⟩
  ·rcases gi l o p R q hp hb with k|k
   ·exact .inl (k.less hle)
   ·exact .inr k
  ·obtain⟨p2,u1,u2,u3⟩:=rest l o q2;rw[hp] at u2;cases u2;exact .inl ⟨l,o,p,(cM q2).2,u1,hb⟩
def aA.less{P:Program}{g:FuncId}{ms:List MV}{σ:St}{Q Q':MV→St→Prop}(h:aA P g ms σ Q')(hq:∀v af,Q' v af→∃σ1,σ1.le af∧Q v σ1):aA P g ms σ Q:=by refine⟨h.1,fun Φ w vs hi hr=>(h.2 Φ w vs hi hr).mono ?_⟩;rintro e w' ⟨v,mv,af,Φ',rfl,r1,i1,s1,k⟩;obtain⟨σ1,hle,hk⟩:=hq mv af k;exact⟨v,mv,σ1,Φ',rfl,r1,i1.less hle,s1.trans (.less _ hle),hk⟩
def aA.bV{P:Program}{g:FuncId}{ms:List MV}{σ:St}{Q:MV→St→Prop}(h:aA P g ms σ fun v af=>∃σ1,σ1.le af∧Q v σ1):aA P g ms σ Q:=h.less fun _ _ k=>k
def mY(σ:St):σ.minus c0=σ:=by funext l;simp[St.minus,c0]
def aA.pure{P:Program}{g:FuncId}{ms:List MV}{σ:St}{q:MV→Prop}(h:aA P g ms c0 fun v _=>q v):aA P g ms σ fun v af=>q v∧af=σ:=by
 refine(h.frame (St.none_le σ)).less ?_;rintro v σ1 ⟨af,hq,rfl,hd⟩;refine⟨σ,fun l o hl=>?_,hq,rfl⟩;rw[mY];simp only[St.over];cases hs:af l with
 |none=>exact hl
 |some o' =>
  rcases hd l o' hs with k|⟨_,k⟩
  ·rw[hl] at k;cases k
  ·simp[c0] at k
def aA.DC{P:Program}{g:FuncId}{ms:List MV}{q:MV→Prop}(h:aA P g ms c0 fun v _=>q v):aA P g ms c0 fun v af=>q v∧af=c0:=h.pure
def aC{P:Program}{g:FuncId}{ms:List MV}{σ:St}{r:MV}{k:MV→St→Prop}(h:aA P g ms c0 fun v _=>v=r)(hk:R (cD r σ k)):R (dR P g ms σ k):=by refine(aA.pure (σ:=σ) h).mono ?_;rintro v af ⟨rfl,rfl⟩;exact hk
inductive Flat:MV→Prop where
 |bw:Flat .bw
 |bool (b:Bool):Flat (.bool b)
 |int (k:IntKind) (n:Int):Flat (.int k n)
 |str (s:ByteArray):Flat (.str s)
 |ej:Flat .ej
 |aK:Flat .aK
 |qa (e:Nat):Flat (.aj e [] true)
 |kp:Flat .kp
 |cw:Flat .cw
 |qi:Flat .qi
 |agg {cs:List MV} (h:∀c,c∈cs→Flat c):Flat (.agg cs)
 |ar {cs:List MV} (h:∀c,c∈cs→Flat c):Flat (.ar cs)
def Flat.rel{Φ Φ':bd}{m:MV}(h:Flat m):∀{v:Value},Rel Φ v m→Rel Φ' v m:=by
 induction h with
 |bw=>intro v r;exact .bw v
 |bool b=>intro v r;cases r;exact .bool b
 |int k n=>intro v r;cases r;exact .int k n
 |str s=>intro v r;cases r;exact .str s
 |ej=>intro v r;cases r;exact .ej
 |aK=>intro v r;cases r;exact .aK
 |kp=>intro v r;cases r;exact .kp
 |cw=>intro v r;cases r;exact .cw
 |qi=>intro v r;cases r;exact .qi
 |qa e =>
  intro v r;cases r with
  |nj=>exact .nj e true
  |qa a e cap t ht hm=>exact .qa a e cap true ht hm
  |aj hl h0=>simp at hl;omega
 |agg h ih =>
  intro v r;cases r with
  |agg h hc hr=>exact .agg h hc (fun i m hm=>ih m (bg hm) (hr i m hm))
 |ar h ih =>
  intro v r;cases r with
  |ar h hr=>exact .ar h (fun i m hm=>ih m (bg hm) (hr i m hm))
def aA.YJ{P:Program}{g:FuncId}{ms ms':List MV}{σ:St}{q:MV→Prop}(h:aA P g ms' c0 fun v _=>q v)(hf:∀r,q r→Flat r)(hl:ms.length=ms'.length)
 (hv:∀(i:Nat) (m m':MV),ms[i]?=some m→ms'[i]?=some m'→View σ m m'):aA P g ms σ fun v af=>q v∧af=σ:=by
 refine⟨h.1,fun Φ w vs hi hr=>?_⟩
 classical
 have hs:Qn Φ (Φ.uP w (fun _=>True)) w σ:=FQ hi (St.le_refl σ) (fun _ _=>trivial);have hi':Inv (Φ.uP w (fun _=>True)) w c0:=by
  refine⟨fun l o hl=>by simp[c0] at hl,fun l l' o o' p p' R hl=>by simp[c0] at hl,fun a v hv=>?_,fun l o p R a v hl=>by simp[c0] at hl,hi.fresh.1,fun g i v q=>(As _ _ _).snap _ _ (hi.fresh.2.1 g i v q),hi.fresh.2.2.mono (As _ _ _).snap⟩;rcases gN hv with q|⟨-,q⟩
  ·exact hi.snap a v q
  ·exact q
 have hr':iX (Φ.uP w (fun _=>True)) vs ms':=by
  refine⟨hr.1.trans hl,fun i m' lu=>?_⟩;have bh:=(av.1 lu).1;obtain⟨m,hm⟩:∃m,ms[i]?=some m:=⟨_,ay oM⟩
  exact(hv i m m' hm lu).rel hi hs (hr.2 i m hm)
 refine(h.2 _ w vs hi' hr').mono ?_;rintro e w' ⟨v,mv,af,Φ',rfl,r1,i1,s1,hq⟩;have yh:∀k,k<w.heap.size→w'.heap[k]?=w.heap[k]?:=fun k hk=>s1.block k hk fun⟨l,o,p,a,_⟩=>by simp[c0] at a
 have gp:∀l o,σ l=some o→eT Φ w' l o:=fun l o na=>by obtain⟨p,hp,hR⟩:=(hi.own l o na).place;exact(hi.own l o na).mono (.refl Φ) fun p1 R h1 h2=>by rw[hp] at h1;cases h1;exact yh R (hR R h2)
 refine⟨v,mv,σ,Φ,rfl,(hf mv hq).rel r1,⟨gp,hi.inj,fun a u hu=>?_,hi.apart,hi.fresh⟩,⟨.refl Φ,s1.os,s1.tape,s1.output,s1.drawn,s1.size,fun k hk _=>yh k hk,fun _ _ h=>.inl h,fun l o h=>.inl ⟨o,h⟩,fun _ h=>.inl h⟩,hq,rfl⟩;have h1:=hi.snap a u hu;have:=World.block_lt_of_cell? w a h1;rw[World.fF (yh _ this)];exact h1
def B3{P:Program}{g:FuncId}{ms:List MV}(ms':List MV){σ:St}{r:MV}{k:MV→St→Prop}(h:aA P g ms' c0 fun v _=>v=r)(hf:Flat r)(hl:ms.length=ms'.length)
 (hv:∀(i:Nat) (m m':MV),ms[i]?=some m→ms'[i]?=some m'→View σ m m')(hk:R (cD r σ k)):R (dR P g ms σ k):=by refine(aA.YJ (σ:=σ) h (fun _ e=>e ▸ hf) hl hv).mono ?_;rintro v af ⟨rfl,rfl⟩;exact hk
def bU{P:Program}{g:FuncId}{ms:List MV}{uk σ:St}{Q k:MV→St→Prop}(h:aA P g ms uk Q)(hle:uk.le σ)
 (hk:∀v af,Q v af→(∀l o,af l=some o→σ l=none∨∃o',uk l=some o')→R (cD v (af.over (σ.minus uk)) k)):R (dR P g ms σ k):=by refine(h.frame hle).mono ?_;rintro v σ1 ⟨af,hq,rfl,hd⟩;exact hk v af hq hd
def nA{σ uk:St}(h:uk.le σ):uk.over (σ.minus uk)=σ:=by
 funext l;simp only[St.over,St.minus];cases ha:uk l with
 |none=>rfl
 |some o=>exact(h l o ha).symm
def dB{P:Program}{g:FuncId}{ms:List MV}{uk σ:St}{r:MV}{k:MV→St→Prop}(h:aA P g ms uk fun v af=>v=r∧af=uk)(hle:uk.le σ)(hk:R (cD r σ k)):R (dR P g ms σ k):=by refine bU h hle ?_;rintro v af ⟨rfl,rfl⟩ -;rw[nA hle];exact hk
def bS(x y:St)(l:Nat)(o:aY):(x.set l o).over y=(x.over y).set l o:=by
 funext k;simp only[St.over,c8];by_cases h:k=l
 ·simp[h]
 ·simp[h]
def dS(y:St):c0.over y=y:=rfl
def aA.seen{P:Program}{g:FuncId}{ms:List MV}{σ:St}{r:MV}(h:aA P g ms σ fun v af=>View af v r):aA P g ms σ fun v _=>v=r:=by
 refine aA.ghost (h.mono fun v af hv=>⟨r,c0,?_,rfl⟩);exact aR.freeze af ba bt (fun k o hk=>by simp[c0] at hk) (fun p hp=>by
  simp only[bi] at hp;subst hp;simpa[cV] using hv)
def View.loose{σ:St}{e:Nat}{xs:List (List MV)}{t:Bool}:View σ (.aj e xs t) (.aj e xs false):=by
 cases t
 ·exact .same _
 ·exact .tight e xs
def View.two{σ:St}{a b a' b':MV}(h:View σ a a')(k:View σ b b'):View σ (.ar [a,b]) (.ar [a',b']):=by
 refine .ar rfl fun i m m' hm lu=>?_
 match i with
 |0=>simp only[az,cr] at hm lu;subst hm;subst lu;exact h
 |1=>simp only[bb,az,cr] at hm lu;subst hm;subst lu;exact k
 |i+2=>simp at hm
def wT{σ:St}{K:Nat→Prop}(h:R (pQ σ K)):R (pQ σ K):=h
def wN{σ:St}{K:Nat→Prop}(h:∀l,σ l=none→R (K l)):R (pQ σ K):=h
def wS{σ:St}{l k:Nat}{o:aY}{p:Prop}(h:l≠k→k≠l→σ l=none→p):(σ.set k o) l=none→p:=BM h
def wI{c A B:Prop}(h1:c→R A)(h2:¬c→R B):R (mif c A B):=WJ h1 h2
def wF{p:Prop}[Decidable p]{A B:Prop}(h1:p→R A)(h2:¬p→R B):R (lD (.bool (decide p)) A B):=Oz h1 h2
def wG{p:Prop}[Decidable p]{A B:Prop}(h1:p→R A)(h2:¬p→R B):R (cP (.bool (decide p)) true A B):=Ky h1 h2
def wH{p:Prop}[Decidable p]{A B:Prop}(h1:¬p→R A)(h2:p→R B):R (cP (.bool (decide p)) false A B):=Hy h1 h2
def wL{α:Type}{β:Type}:(∀a b:List α,(a++b).length=a.length+b.length)∧(∀(a:List α) (i:Nat),(a.take i).length=min i a.length)∧(∀(a:List α) (i:Nat),(a.drop i).length=a.length-i) ∧
  (∀(x:α) (a:List α),(x::a).length=a.length+1)∧([]:List α).length=0∧(∀(g:α→β) (a:List α),(a.map g).length=a.length)∧(∀(a:List α) (i:Nat) (x:α),(a.set i x).length=a.length) ∧
  (∀(n:Nat) (x:α),(a5 n x).length=n) :=
 ⟨fun _ _=>b4,fun _ _=>List.length_take,fun _ _=>bn,fun _ _=>rfl,rfl,fun _ _=>List.length_map _,fun _ _ _=>List.length_set,fun _ _=>List.length_replicate⟩
def gd{p:Prop}(h:p:=by first|decide|assumption|omega|(simp only[wL];omega)):p:=h
def up{P:Program}{g:FuncId}{ms:List MV}{σ:St}{r:MV}{k:MV→St→Prop}(h:aA P g ms c0 fun v _=>v=r)(hk:R (cD r σ k)):R (dR P g ms σ k):=aC h hk
structure jl where
 C:Prop
 kill:Option Nat
 tz:Option St
 new:Option aY
 v:Nat→MV→Prop
abbrev GF:=List Nat×(List aY→Option jl)
def jl.upl(e:jl)(l:Nat):Option aY:=match e.tz with|some u=>u l|none=>none
def jl.app(e:jl)(σ:St):St:=fun l=>if (e.upl l).isSome=true then e.upl l else if e.kill=some l then none else σ l
def xP{e:jl}{l:Nat}(h:(e.upl l).isSome=true):∃p,e.tz=some p∧p l≠none:=by
 unfold jl.upl at h;cases hu:e.tz with
 |none=>rw[hu] at h;cases h
 |some p=>rw[hu] at h;exact⟨p,rfl,fun q=>by simp only[q] at h;cases h⟩
def Jl{e:jl}{l:Nat}(h:∀p,e.tz=some p→p l=none):e.upl l=none:=by
 unfold jl.upl;cases hu:e.tz with
 |none=>rfl
 |some p=>exact h p hu
def jl.out(e:jl)(U:Nat→Prop)(σ:St)(v:MV)(U':Nat→Prop)(af:St):Prop :=
 match e.new with
 |none=>e.v 0 v∧U'=U∧af=e.app σ
 |some o=>∃l,¬U l∧e.v l v∧U'=(fun x=>x=l∨U x)∧af=(e.app σ).set l o
def gs(U:Nat→Prop)(σ:St)(g:GF)(k:MV→(Nat→Prop)→St→Prop):Prop :=
 ∃os e,g.1.map σ=os.map some∧g.2 os=some e∧e.C∧(∀l,∃v,e.v l v)∧∀v U' af,e.out U σ v U' af→k v U' af
def Wf(g:GF):Prop:=∀os e,os.length=g.1.length→g.2 os=some e→(∀l,e.kill=some l→l∈g.1)∧(∀p,e.tz=some p→∀l,p l≠none→l∈g.1)
def lS(g:GF):Prop:=∀os e,os.length=g.1.length→g.2 os=some e→e.tz=none
def xz(g:GF):Prop:=∀os e,os.length=g.1.length→g.2 os=some e→e.tz=none∧e.kill=none
def wj(U:Nat→Prop)(σ:St):Prop:=∀l,σ l≠none→U l
def Fin(U:Nat→Prop):Prop:=∃n,∀l,n≤l→¬U l
def eV{e:jl}(h:e.tz=none∧e.kill=none)(σ:St):e.app σ=σ:=by funext l;simp[jl.app,jl.upl,h.1,h.2]
def jV{rd:List Nat}{σ:St}{os:List aY}(h:rd.map σ=os.map some):os.length=rd.length:=by have:=congrArg List.length h;simpa using this.symm
def l8{rd:List Nat}{σ:St}{os:List aY}(h:rd.map σ=os.map some){l:Nat}(hl:l∈rd):σ l≠none:=by have:σ l∈rd.map σ:=List.mem_map_of_mem hl;rw[h] at this;obtain⟨o,_,ho⟩:=be.1 this;rw[←ho];simp
def map_inj{rd:List Nat}{σ af:St}{os os':List aY}(h:rd.map σ=os.map some)(h':rd.map af=os'.map some)(he:∀l,l∈rd→σ l=af l):os=os':=by
 have:rd.map σ=rd.map af:=a9 he;rw[h,h'] at this;clear h h' he
 induction os generalizing os' with
 |nil=>cases os' with
  |nil=>rfl
  |cons a r=>simp at this
 |cons b r ih=>cases os' with
  |nil=>simp at this
  |cons a r' =>
   simp only[aI,b5,cr] at this;rw[this.1,ih this.2]
def Al{U:Nat→Prop}{σ:St}{g:GF}{k k':MV→(Nat→Prop)→St→Prop}(h:gs U σ g k)(hd:wj U σ)(hf:Fin U)(hk:∀v U' af,wj U' af→Fin U'→(∀l,U l→U' l)→k v U' af→k' v U' af)(wf:Wf g):gs U σ g k':=by
 obtain⟨os,e,h1,h2,h3,h4,h5⟩:=h;refine⟨os,e,h1,h2,h3,h4,fun v U' af ho=>?_⟩;have hw:=wf os e (jV h1) h2;have hdom:wj U (e.app σ):=fun l hl=>by
  simp only[jl.app] at hl;split at hl
  ·rename_i hu;obtain⟨p,wb,hp⟩:=xP hu;exact hd l (l8 h1 (hw.2 p wb l hp))
  ·split at hl
   ·exact absurd rfl hl
   ·exact hd l hl
 refine hk v U' af ?_ ?_ ?_ (h5 v U' af ho);all_goals
  unfold jl.out at ho;split at ho
 ·obtain⟨-,rfl,rfl⟩:=ho;exact hdom
 ·obtain⟨l,-,-,rfl,rfl⟩:=ho;intro k hk;simp only[c8] at hk;split at hk
  ·rename_i e;exact .inl e
  ·exact .inr (hdom k hk)
 ·obtain⟨-,rfl,rfl⟩:=ho;exact hf
 ·obtain⟨l,-,-,rfl,rfl⟩:=ho;obtain⟨n,hn⟩:=hf;exact⟨max n (l+1),fun k hk q=>q.elim (fun e=>oM) (hn k oM)⟩
 ·obtain⟨-,rfl,rfl⟩:=ho;exact fun _ h=>h
 ·obtain⟨l,-,-,rfl,rfl⟩:=ho;exact fun _ h=>.inr h
def Uu{U U':Nat→Prop}{σ:St}{g:GF}{k:MV→(Nat→Prop)→St→Prop}(h:gs U σ g k)(hu:∀l,U l→U' l)(hk:∀v V V' σ,(∀l,V l→V' l)→k v V σ→k v V' σ):gs U' σ g k:=by
 obtain⟨os,e,h1,h2,h3,h4,h5⟩:=h;refine⟨os,e,h1,h2,h3,h4,fun v V af ho=>?_⟩;unfold jl.out at ho h5;split at ho
 ·rename_i hn;obtain⟨a,rfl,rfl⟩:=ho;refine hk v U _ _ hu (h5 v U _ ?_);rw[hn];exact⟨a,rfl,rfl⟩
 ·rename_i o hn;obtain⟨l,a,b,rfl,rfl⟩:=ho;refine hk v (fun x=>x=l∨U x) _ _ (fun x hx=>hx.imp id (hu x)) (h5 v _ _ ?_);rw[hn];exact⟨l,fun q=>a (hu l q),b,rfl,rfl⟩
def SM{e:jl}{U:Nat→Prop}{σ:St}(hf:Fin U)(hv:∀l,∃v,e.v l v)(rd:List Nat):∃v U' af,e.out U σ v U' af∧∀l,l∈rd→af l=(e.app σ) l:=by
 unfold jl.out;cases e.new with
 |none=>obtain⟨v,hv⟩:=hv 0;exact⟨v,U,e.app σ,⟨hv,rfl,rfl⟩,fun _ _=>rfl⟩
 |some o =>
  obtain⟨n,hn⟩:=hf;have key:∃m,∀l,l∈rd→l<m:=by
   clear hv
   induction rd with
   |nil=>exact⟨0,ax⟩
   |cons a r ih =>
    obtain⟨m,hm⟩:=ih;refine⟨max m (a+1),fun l hl=>?_⟩;rcases bv.1 hl with q|q
    ·omega
    ·have:=hm l q;omega
  obtain⟨m,hm⟩:=key;obtain⟨v,hv⟩:=hv (max n m);refine⟨v,_,_,⟨max n m,hn _ oM,hv,rfl,rfl⟩,fun l hl=>?_⟩;have:=hm l hl;exact cn oM
def Ah{e:jl}{σ:St}{l:Nat}{o:aY}(hk:e.kill≠some l)(hu:∀p,e.tz=some p→p l=none):e.app (σ.set l o)=(e.app σ).set l o:=by
 funext k;simp only[jl.app,c8];by_cases h:k=l
 ·subst h;simp[Jl hu,hk]
 ·simp only[if_neg h]
def Uw{U:Nat→Prop}{σ:St}{gx gy:GF}{K:MV→MV→(Nat→Prop)→St→Prop}(hd:wj U σ)(hf:Fin U)(wx:Wf gx)(wy:Wf gy)
 (hc:((gy.1=[]∨lS gx)∧(gx.1=[]∨xz gy)∧(xz gx∨xz gy))∨∀l,l∈gx.1→l∉gy.1)
 (hK:∀v u V V' σ,(∀l,V l→V' l)→K v u V σ→K v u V' σ)
 (h:gs U σ gx fun v U1 σ1=>gs U1 σ1 gy fun u U2 eh=>K v u U2 eh) :
  gs U σ gy fun u U1 σ1=>∀pr,(∀l,U1 l→pr l)→gs pr σ1 gx fun v U2 eh=>K v u U2 eh:=by
 obtain⟨ox,ex,x1,x2,x3,x4,x5⟩:=h;have wx':=wx ox ex (jV x1) x2
 -- what y reads is there already
 have agree:∀v U1 σ1,ex.out U σ v U1 σ1→∀oy:List aY,gy.1.map σ1=oy.map some→(∀l,l∈gy.1→σ1 l=(ex.app σ) l)→∀l,l∈gy.1→σ1 l=σ l:=by
  intro v U1 σ1 ho oy ym ti l hl;rw[ti l hl];rcases hc.imp_left (·.1) with(c|c)|c
  ·rw[c] at hl;cases hl
  ·have hu:=c ox ex (jV x1) x2;have fg:=l8 ym hl;rw[ti l hl] at fg;have hun:ex.upl l=none:=Jl fun p hp=>by rw[hu] at hp;cases hp
   simp only[jl.app,hun,cp,ac,if_false] at fg ⊢;split at fg
   ·exact absurd rfl fg
   ·rename_i q2;rw[if_neg q2]
  ·simp only[jl.app];rw[if_neg,if_neg]
   ·intro e;exact c l (wx'.1 l e) hl
   ·intro e;obtain⟨p,hp,he⟩:=xP e;exact c l (wx'.2 p hp l he) hl
 obtain⟨v0,V0,σ0,out0,same0⟩:=SM (σ:=σ) hf x4 gy.1;obtain⟨oy,ey,y1,y2,y3,y4,y5⟩:=x5 v0 V0 σ0 out0;have ag0:=agree v0 V0 σ0 out0 oy y1 same0;have y1':gy.1.map σ=oy.map some:=by rw[←y1];exact(a9 ag0).symm
 have wy':=wy oy ey (jV y1) y2;refine⟨oy,ey,y1',y2,y3,y4,fun u U1 σ1 ym pr hU1=>?_⟩
 -- what x reads is there still
 have pw:gx.1.map σ1=ox.map some:=by
  rw[←x1];refine a9 fun l hl=>?_;rcases hc.imp_left (·.2.1) with(c|c)|c
  ·rw[c] at hl;cases hl
  ·have hw:=c oy ey (jV y1) y2;unfold jl.out at ym;split at ym
   ·obtain⟨-,-,rfl⟩:=ym;rw[eV hw]
   ·obtain⟨k,q1,q2,q3,rfl⟩:=ym;rw[eV hw];refine cn (fun e=>q1 ?_);subst e;exact hd l (l8 x1 hl)
  ·have hap:(ey.app σ) l=σ l:=by
    simp only[jl.app];rw[if_neg,if_neg]
    ·intro e;exact c l hl (wy'.1 l e)
    ·intro e;obtain⟨p,hp,he⟩:=xP e;exact c l hl (wy'.2 p hp l he)
   unfold jl.out at ym;split at ym
   ·obtain⟨-,-,rfl⟩:=ym;exact hap
   ·obtain⟨k,q1,q2,q3,rfl⟩:=ym;rw[←hap];refine cn (fun e=>q1 ?_);subst e;exact hd l (l8 x1 hl)
 refine⟨ox,ex,pw,x2,x3,x4,fun v U2 eh hox=>?_⟩
 -- the two in their old order,at the same places
 have noty:∀l,¬U l→ey.kill≠some l∧∀p,ey.tz=some p→p l=none:=fun l hl =>
  ⟨fun e=>hl (hd l (l8 y1' (wy'.1 l e))),fun p hp=>Classical.byContradiction fun e=>hl (hd l (l8 y1' (wy'.2 p hp l e)))⟩
 have notx:∀l,¬U l→ex.kill≠some l∧∀p,ex.tz=some p→p l=none:=fun l hl =>
  ⟨fun e=>hl (hd l (l8 x1 (wx'.1 l e))),fun p hp=>Classical.byContradiction fun e=>hl (hd l (l8 x1 (wx'.2 p hp l e)))⟩
 have comm:ex.app (ey.app σ)=ey.app (ex.app σ):=by
  rcases hc.imp_left (·.2.2) with(c|c)|c
  ·rw[eV (c ox ex (jV x1) x2),eV (c ox ex (jV x1) x2)]
  ·rw[eV (c oy ey (jV y1) y2),eV (c oy ey (jV y1) y2)]
  ·funext l;by_cases hx:l∈gx.1
   ·have hy:=c l hx;have n1:¬(ey.upl l).isSome=true:=fun e=>by obtain⟨p,hp,he⟩:=xP e;exact hy (wy'.2 p hp l he)
    have n2:ey.kill≠some l:=fun e=>hy (wy'.1 l e);simp only[jl.app,if_neg n1,if_neg n2]
   ·have n1:¬(ex.upl l).isSome=true:=fun e=>by obtain⟨p,hp,he⟩:=xP e;exact hx (wx'.2 p hp l he)
    have n2:ex.kill≠some l:=fun e=>hx (wx'.1 l e);simp only[jl.app,if_neg n1,if_neg n2]
 have finish:∀V af,ex.out U σ v V af→(∀l,l∈gy.1→af l=(ex.app σ) l)→∀W ub,ey.out V af u W ub→K v u W ub:=by intro V af ho ti W ub hoy';obtain⟨oy2,ey2,z1,z2,z3,z4,z5⟩:=x5 v V af ho;have ag:=agree v V af ho oy2 z1 ti;have:oy=oy2:=map_inj y1' z1 (fun l hl=>(ag l hl).symm);subst this;rw[y2] at z2;cases z2;exact z5 u W ub hoy'
 have mn:∀l,¬U l→l∉gy.1:=fun l hl q=>hl (hd l (l8 y1' q));unfold jl.out at hox ym;cases yv:ex.new with
 |none =>
  rw[yv] at hox;obtain⟨a1,rfl,rfl⟩:=hox;have lh:ex.out U σ v U (ex.app σ):=by unfold jl.out;rw[yv];exact⟨a1,rfl,rfl⟩
  cases hny:ey.new with
  |none =>
   rw[hny] at ym;obtain⟨b1,rfl,rfl⟩:=ym;refine hK v u U1 U2 _ hU1 (finish _ _ lh (fun _ _=>rfl) _ _ ?_);unfold jl.out;rw[hny];exact⟨b1,rfl,comm⟩
  |some o =>
   rw[hny] at ym;obtain⟨l,b0,b1,rfl,rfl⟩:=ym;refine hK v u _ U2 _ hU1 (finish _ _ lh (fun _ _=>rfl) _ _ ?_);unfold jl.out;rw[hny];refine⟨l,b0,b1,rfl,?_⟩;rw[Ah (notx l b0).1 (notx l b0).2,comm]
 |some p =>
  rw[yv] at hox;obtain⟨k,a0,a1,rfl,rfl⟩:=hox;have lh:∀W:Nat→Prop,(∀l,U l→W l)→¬W k→ex.out U σ v (fun x=>x=k∨U x) ((ex.app σ).set k p):=fun W hW hk=>by unfold jl.out;rw[yv];exact⟨k,fun q=>hk (hW k q),a1,rfl,rfl⟩
  cases hny:ey.new with
  |none =>
   rw[hny] at ym;obtain⟨b1,rfl,rfl⟩:=ym;have hk:¬U1 k:=fun q=>a0 (hU1 k q);refine hK v u (fun x=>x=k∨U1 x) _ _ (fun l q=>q.imp id (hU1 l)) (finish _ _ (lh pr hU1 a0) (fun l hl=>cn (fun e=>mn k hk (e ▸ hl))) _ _ ?_);unfold jl.out;rw[hny];refine⟨b1,rfl,?_⟩;rw[comm,Ah (noty k hk).1 (noty k hk).2]
  |some o =>
   rw[hny] at ym;obtain⟨l,b0,b1,rfl,rfl⟩:=ym;have hk:¬U k:=fun q=>a0 (hU1 k (.inr q));have mz:k≠l:=fun e=>a0 (hU1 k (.inl e));refine hK v u (fun x=>x=l∨(x=k∨U x)) _ _ (fun x q=>?_) (finish _ _ (lh pr (fun x q=>hU1 x (.inr q)) a0) (fun x hx=>cn (fun e=>mn k hk (e ▸ hx))) _ _ ?_)
   ·rcases q with q|q|q
    ·exact .inr (hU1 x (.inl q))
    ·exact .inl q
    ·exact .inr (hU1 x (.inr q))
   ·unfold jl.out;rw[hny];refine⟨l,fun q=>q.elim (fun e=>mz e.symm) b0,b1,rfl,?_⟩;rw[Ah (notx l b0).1 (notx l b0).2,comm,Ah (noty k hk).1 (noty k hk).2,set_comm _ _ _ (cb mz)]
def St.ofList:List Nat→List aY→St
 |l::ls,o::os=>(St.ofList ls os).set l o
 |_,_=>c0
structure Fact where
 rd:List Nat
 q:MV→Prop
 new:Option (List aY×(Nat→MV))
abbrev b9:=FuncId→List MV→Option Fact
def cI:GF:=([],fun _=>none)
def eZ(pv:PV):GF:=([],fun _=>pv.map fun x=>⟨x.1,none,none,none,fun _ u=>u=x.2⟩)
def iZ(C:Prop)(o:aY)(v:Nat→MV):GF:=([],fun _=>some ⟨C,none,none,some o,fun l u=>u=v l⟩)
def nG:MV→List Nat
 |.vec _ l _ _=>[l]
 |_=>[]
def Jd(os:List aY):St:=fun _=>os.head?
def p9(P:Program)(t:TypeId):MV→GF
 |.ptr l i o=>([l],fun os=>match os with
  |[.row _ _ xs]=>some ⟨(td P t).ok=true∧i<xs.length∧o+(td P t).size≤(xs.getD i []).length∧0<(td P t).size,none,none,none,fun _ u=>u=eJ (td P t) (xs.getD i []) o⟩
  |_=>none)
 |.cg cs=>eZ (some ((td P t).ok=true∧(td P t).size≤cs.length∧0<(td P t).size,eJ (td P t) cs 0))
 |_=>cI
def eW(P:Program)(t:TypeId)(x y:MV):GF :=
 match x with
 |.ptr l i o=>([l],fun os=>match os with
  |[.row tt e xs]=>some ⟨(td P t).ok=true∧i<xs.length∧y.cells.all b6=true∧y.cells.length=(td P t).size∧o+y.cells.length≤(xs.getD i []).length,none,some (c0.set l (.row tt e (xs.set i (laid (xs.getD i []) o y.cells)))),none,fun _ u=>u=.bw⟩
  |_=>none)
 |_=>cI
def nS(P:Program)(t xt:TypeId)(s x:MV):GF :=
 match (td P t).k with
 |.slice el=>match s with
  |.aK=>(nG x,fun os=>match fX (Jd os) (td P el).size x with
   |some ys=>some ⟨(td P xt).k.gT=true∧(td P el).jq=true∧Fits ys.length (td P el).bytes,none,none,some (.row el (td P el).size ys),fun l u=>u=.vec (td P el).size l 0 ys.length⟩
   |none=>none)
  |.aj e xs true=>(nG x,fun os=>match fX (Jd os) (td P el).size x with
   |some ys=>some ⟨(td P xt).k.gT=true∧(td P el).jq=true∧e=(td P el).size∧(xs=[]∨0<ys.length)∧Fits (xs.length+ys.length) (td P el).bytes,none,none,some (.row el (td P el).size (xs++ys)),fun l u=>u=.vec (td P el).size l 0 (xs.length+ys.length)⟩
   |none=>none)
  |.vec e l lo n=>(l::nG x,fun os=>match os with
   |.row tt e' xs::os=>match fX (Jd os) (td P el).size x with
    |some ys=>some ⟨(td P xt).k.gT=true∧(td P el).jq=true∧e=(td P el).size∧e'=(td P el).size∧tt=el∧lo=0∧lo+n≤xs.length∧Fits (n+ys.length) (td P el).bytes,some l,none,some (.row el (td P el).size (gP xs lo n ys)),fun l' u=>u=.vec (td P el).size l' 0 (n+ys.length)⟩
    |none=>none
   |_=>none)
  |_=>cI
 |_=>cI
def eY(P:Program)(ρ:Operand→MV)(t:TypeId)(len:Nat)(parts:Array (Nat×Operand)):GF :=
 match (td P t).k with
 |.slice el=>iZ ((td P el).jq=true∧parts.toList.map (·.1)=bs len∧(parts.toList.all fun p=>(ρ p.2).cells.all b6&&(ρ p.2).cells.length==(td P el).size)=true∧len*(td P el).size≤16777216∧len≤16777216)
   (.row el (td P el).size (parts.toList.map fun p=>(ρ p.2).cells)) (fun l=>.vec (td P el).size l 0 len)
 |_=>cI
def iC(P:Program)(t:TypeId)(x y:MV):GF :=
 match (td P t).k,x,y with
 |.slice el,.int .i64 n,.int .i64 c=>iZ ((td P el).jq=true∧0≤n∧n≤c∧Fits c.toNat (td P el).bytes) (.row el (td P el).size (a5 n.toNat (td P el).zero)) (fun l=>.vec (td P el).size l 0 n.toNat)
 |_,_,_=>cI
def jS(P:Program)(s d:TypeId)(x:MV):GF :=
 match (td P s).k,(td P d).k,x with
 |.str,.slice el,.str b=>iZ ((td P el).k=.int .u8∧FZ el=true∧b.size≤140737488355328) (.row el 1 (b.toList.map fun c=>[.int .u8 (c.toNat:Int)])) (fun l=>.vec 1 l 0 b.size)
 |.slice el,.str,.str _=>cI
 |.slice el,.str,x=>(nG x,fun os=>match fX (Jd os) 1 x with
  |some ys=>some ⟨(td P el).k=.int .u8∧ys.all isByte=true,none,none,none,fun _ u=>u=.str (bytesOf ys)⟩
  |none=>none)
 |_,_,x=>eZ (vT P s d x)
def Us(P:Program)(g:FuncId)(ms:List MV)(ts:List aY)(u:Nat→MV):GF:=match ts with
 |[o]=>iZ (aA P g ms c0 fun v af=>∃l,v=u l∧af=c0.set l o) o u
 |_=>cI
def jE(P:Program)(C:b9)(g:FuncId)(ms:List MV):GF :=
 match C g ms with
 |some ⟨rd,q,none⟩=>(rd,fun os=>some ⟨aA P g ms (St.ofList rd os) (fun v af=>q v∧af=St.ofList rd os),none,none,none,fun _ u=>q u⟩)
 |some ⟨[],_,some (ts,u)⟩=>Us P g ms ts u
 |some ⟨l::rd,_,some (ts,u)⟩=>(l::rd,fun os=>some ⟨aA P g ms (St.ofList (l::rd) os) (fun v af=>v=u l∧af=(St.ofList (l::rd) ts).over (St.ofList (l::rd) os)),none,some (St.ofList (l::rd) ts),none,fun _ w=>w=u l⟩)
 |_=>cI
def kT(P:Program)(t:TypeId)(m x:MV)(ok:Bool):GF :=
 match (td P t).k,m,x with
 |.map kt et,.db l,.int kd n=>([l],fun os=>match os with
  |[.mp es]=>some ⟨(td P kt).k=.int kd∧(td P et).jq=true∧(es.all fun p=>nh kd p.1)=true,none,none,none,fun _ u=>u=if ok=true then .ar [(eG n es).getD (y7 (td P et)),.bool (eG n es).isSome] else(eG n es).getD (y7 (td P et))⟩
  |_=>none)
 |_,_,_=>cI
def nT(P:Program)(t:TypeId)(m x y:MV):GF :=
 match (td P t).k,m,x with
 |.map kt _,.db l,.int kd n=>([l],fun os=>match os with
  |[.mp es]=>some ⟨(td P kt).k=.int kd∧(es.all fun p=>nh kd p.1)=true,none,some (c0.set l (.mp (dW kd n y es))),none,fun _ u=>u=.bw⟩
  |_=>none)
 |_,_,_=>cI
def Pl(C:b9):Prop:=∀g ms rd q x,C g ms=some ⟨rd,q,some x⟩→rd=[]
def b9.pl(C:b9):b9:=fun g ms=>(C g ms).map fun F=>match F with
 |⟨rd,q,none⟩=>⟨rd,q,none⟩
 |⟨_,q,some x⟩=>⟨[],q,some x⟩
def b9.Ir(C:b9):Pl C.pl:=by
 intro g ms rd q x h;unfold b9.pl at h;cases hC:C g ms with
 |none=>rw[hC] at h;cases h
 |some F =>
  rw[hC] at h;obtain⟨rd',q',n⟩:=F;cases n with
  |none=>simp at h
  |some y=>simp at h;exact h.1.symm ▸ rfl
inductive jL where
 |no
 |all
 |dz (L:List FuncId)
def jL.stays:jL→Operand→Bool
 |.no,_=>true
 |.dz L,.func g=>!L.contains g
 |_,_=>false
def jL.may:jL→FuncId→Prop
 |.no,_=>False
 |.all,_=>True
 |.dz L,g=>g∈L
def pq(u:jL)(C:b9):Prop:=∀g ms rd q x,C g ms=some ⟨rd,q,some x⟩→rd=[]∨u.may g
def Pl.u{C:b9}(h:Pl C){u:jL}:pq u C:=fun g ms rd q x e=>.inl (h g ms rd q x e)
def jt(P:Program)(C:b9)(f:FR):Op→GF
 |.alloc t=>iZ ((td P t).jq=true) (.row t (td P t).size [(td P t).zero]) (fun l=>.ptr l 0 0)
 |.box t x=>iZ ((aH f x).cells.all b6=true) (.row t (aH f x).cells.length [(aH f x).cells]) (fun l=>.ptr l 0 0)
 |.load t x=>p9 P t (aH f x)
 |.store t x y=>eW P t (aH f x) (aH f y)
 |.lookup t m x ok=>kT P t (aH f m) (aH f x) ok
 |.mapUpdate t m x y=>nT P t (aH f m) (aH f x) (aH f y)
 |.buildSlice t len parts=>eY P (aH f) t len parts
 |.makeSlice t x y=>iC P t (aH f x) (aH f y)
 |.convert s d x=>jS P s d (aH f x)
 |.call ⟨.builtin .append,args,ts⟩=>match args.toList,ts.toList with
  |[s,x],[t,xt]=>nS P t xt (aH f s) (aH f x)
  |_,_=>cI
 |.call ⟨.builtin b,args,ts⟩=>if ts.toList.length=args.toList.length then eZ (fB P b ts.toList.toArray (args.toList.map (aH f))) else cI
 |.call ⟨.value x,args,ts⟩=>match aH f x with
  |.fn (.func g) ms ns=>jE P C g (ms++args.toList.map (aH f)++ns)
  |_=>cI
 |.call ⟨.invoke _ _,_,_⟩=>cI
 |.defer _=>cI
 |op=>eZ (yy P f op)
theorem Bm:∀{ls:List Nat} {os:List aY} {k:Nat},St.ofList ls os k≠none→k∈ls
 |[],_,k,h=>absurd rfl h
 |l::ls,[],k,h=>absurd rfl h
 |l::ls,o::os,k,h=>by
  by_cases e:k=l
  ·subst e;exact b3 ..
  ·refine List.mem_cons_of_mem _ (Bm (os:=os) fun q=>h ?_);simp only[St.ofList];rw[cn e];exact q
def T5{l:Nat}{o:aY}{rd:List Nat}:∀p:St,some (c0.set l o)=some p→∀k,p k≠none→k∈l::rd:=fun p h k hk=>by
 cases h;by_cases e:k=l
 ·subst e;exact b3 ..
 ·exact absurd (cn e) hk
def dN(pv:PV):Wf (eZ pv)∧xz (eZ pv)∧lS (eZ pv)∧(eZ pv).1=[]:=by
 have key:∀os e,(eZ pv).2 os=some e→e.tz=none∧e.kill=none:=fun os e h=>by simp only[eZ,ce] at h;obtain⟨x,-,rfl⟩:=h;exact⟨rfl,rfl⟩
 exact⟨fun os e _ h=>by simp[key os e h],fun os e _ h=>key os e h,fun os e _ h=>(key os e h).1,rfl⟩
def fE(C:Prop)(o:aY)(v:Nat→MV):Wf (iZ C o v)∧xz (iZ C o v)∧lS (iZ C o v)∧(iZ C o v).1=[]:=by
 have key:∀os e,(iZ C o v).2 os=some e→e.tz=none∧e.kill=none:=fun os e h=>by simp only[iZ,cr] at h;subst h;exact⟨rfl,rfl⟩
 exact⟨fun os e _ h=>by simp[key os e h],fun os e _ h=>key os e h,fun os e _ h=>(key os e h).1,rfl⟩
def bN:Wf cI∧xz cI∧lS cI∧cI.1=[]:=⟨fun os e _ h=>by simp[cI] at h,fun os e _ h=>by simp[cI] at h,fun os e _ h=>by simp[cI] at h,rfl⟩
def rd0:Op→Bool
 |.load ..|.store ..|.lookup ..|.mapUpdate ..|.convert ..|.call ⟨.builtin .append,_,_⟩|.call ⟨.value _,_,_⟩=>false
 |_=>true
def Bk(u:jL):Op→Bool
 |.store ..|.mapUpdate ..=>false
 |.call ⟨.value x,_,_⟩=>u.stays x
 |_=>true
def noW(u:jL):Op→Bool
 |.store ..|.mapUpdate ..|.call ⟨.builtin .append,_,_⟩=>false
 |.call ⟨.value x,_,_⟩=>u.stays x
 |_=>true
def Gg(P:Program)(t:TypeId)(x:MV):Wf (p9 P t x)∧xz (p9 P t x)∧lS (p9 P t x):=by
 unfold p9;split
 ·have key:∀(os:List aY) (e:jl) (l i o:Nat),(match os with
   |[.row _ _ xs]=>some (⟨(td P t).ok=true∧i<xs.length∧o+(td P t).size≤(xs.getD i []).length∧0<(td P t).size,none,none,none,fun _ u=>u=eJ (td P t) (xs.getD i []) o⟩:jl)
   |_=>none)=some e→e.tz=none∧e.kill=none:=by
   intro os e l i o h;split at h
   ·cases h;exact⟨rfl,rfl⟩
   ·cases h
  exact⟨fun os e _ h=>by simp[key os e 0 _ _ h],fun os e _ h=>key os e 0 _ _ h,fun os e _ h=>(key os e 0 _ _ h).1⟩
 ·exact⟨(dN _).1,(dN _).2.1,(dN _).2.2.1⟩
 ·exact⟨bN.1,bN.2.1,bN.2.2.1⟩
def T6(P:Program)(t:TypeId)(x y:MV):Wf (eW P t x y):=by
 unfold eW;split
 ·intro os e _ h;simp only at h;split at h
  ·cases h;exact⟨fun l h=>by(cases h),T5⟩
  ·cases h
 ·exact bN.1
def D6(P:Program)(t xt:TypeId)(s x:MV):Wf (nS P t xt s x)∧lS (nS P t xt s x):=by
 unfold nS;split
 ·split
  ·refine⟨fun os e _ h=>?_,fun os e _ h=>?_⟩ <;>
   ·simp only at h;split at h
    ·cases h;simp
    ·cases h
  ·refine⟨fun os e _ h=>?_,fun os e _ h=>?_⟩ <;>
   ·simp only at h;split at h
    ·cases h;simp
    ·cases h
  ·refine⟨fun os e _ h=>?_,fun os e _ h=>?_⟩ <;>
   ·simp only at h;split at h
    ·split at h
     ·cases h;simp
     ·cases h
    ·cases h
  ·exact⟨bN.1,bN.2.2.1⟩
 ·exact⟨bN.1,bN.2.2.1⟩
def uT(P:Program)(s d:TypeId)(x:MV):Wf (jS P s d x)∧xz (jS P s d x)∧lS (jS P s d x):=by
 unfold jS;split
 ·exact⟨(fE _ _ _).1,(fE _ _ _).2.1,(fE _ _ _).2.2.1⟩
 ·exact⟨bN.1,bN.2.1,bN.2.2.1⟩
 ·refine⟨fun os e _ h=>?_,fun os e _ h=>?_,fun os e _ h=>?_⟩ <;>
  ·simp only at h;split at h
   ·cases h;simp
   ·cases h
 ·exact⟨(dN _).1,(dN _).2.1,(dN _).2.2.1⟩
def Gf(P:Program)(C:b9)(g:FuncId)(ms:List MV):Wf (jE P C g ms)∧((∀rd q x,C g ms=some ⟨rd,q,some x⟩→rd=[])→xz (jE P C g ms)∧lS (jE P C g ms)):=by
 unfold jE;split
 ·refine⟨fun os e _ h=>?_,fun _=>⟨fun os e _ h=>?_,fun os e _ h=>?_⟩⟩ <;>
  ·simp only[cr] at h;subst h;simp
 ·unfold Us;split
  ·exact⟨(fE _ _ _).1,fun _=>⟨(fE _ _ _).2.1,(fE _ _ _).2.2.1⟩⟩
  ·exact⟨bN.1,fun _=>⟨bN.2.1,bN.2.2.1⟩⟩
 ·rename_i l rd q ts u hC;refine⟨fun os e _ h=>?_,fun hp=>?_⟩
  ·simp only[cr] at h;subst h;exact⟨fun l h=>by(cases h),fun p h k hk=>by cases h;exact Bm hk⟩
  ·have:=hp _ _ _ hC;cases this
 ·exact⟨bN.1,fun _=>⟨bN.2.1,bN.2.2.1⟩⟩
def kZ(P:Program)(ρ:Operand→MV)(t:TypeId)(len:Nat)(parts:Array (Nat×Operand)):Wf (eY P ρ t len parts)∧xz (eY P ρ t len parts)∧lS (eY P ρ t len parts)∧(eY P ρ t len parts).1=[]:=by
 unfold eY;split
 ·exact fE _ _ _
 ·exact bN
def mE(P:Program)(t:TypeId)(x y:MV):Wf (iC P t x y)∧xz (iC P t x y)∧lS (iC P t x y)∧(iC P t x y).1=[]:=by
 unfold iC;split
 ·exact fE _ _ _
 ·exact bN
def y0(P:Program)(t:TypeId)(m x:MV)(ok:Bool):Wf (kT P t m x ok)∧xz (kT P t m x ok)∧lS (kT P t m x ok):=by
 unfold kT;split
 ·refine⟨fun os e _ h=>?_,fun os e _ h=>?_,fun os e _ h=>?_⟩ <;>
  ·simp only at h;split at h
   ·cases h;simp
   ·cases h
 ·exact⟨bN.1,bN.2.1,bN.2.2.1⟩
def Qe(P:Program)(t:TypeId)(m x y:MV):Wf (nT P t m x y):=by
 unfold nT;split
 ·intro os e _ h;simp only at h;split at h
  ·cases h;exact⟨fun l h=>by(cases h),T5⟩
  ·cases h
 ·exact bN.1
def LR(P:Program)(C:b9){u:jL}(hu:pq u C)(f:FR)(op:Op):Wf (jt P C f op)∧(Bk u op=true→lS (jt P C f op))∧(noW u op=true→xz (jt P C f op))∧(rd0 op=true→(jt P C f op).1=[]):=by
 cases op;case load t x=>exact⟨(Gg _ _ _).1,fun _=>(Gg _ _ _).2.2,fun _=>(Gg _ _ _).2.1,fun h=>by simp[rd0] at h⟩
 case store t x y=>exact⟨T6 _ _ _ _,fun h=>by simp[Bk] at h,fun h=>by simp[noW] at h,fun h=>by simp[rd0] at h⟩
 case convert s d x=>exact⟨(uT _ _ _ _).1,fun _=>(uT _ _ _ _).2.2,fun _=>(uT _ _ _ _).2.1,fun h=>by simp[rd0] at h⟩
 case lookup t m x ok=>exact⟨(y0 _ _ _ _ _).1,fun _=>(y0 _ _ _ _ _).2.2,fun _=>(y0 _ _ _ _ _).2.1,fun h=>by simp[rd0] at h⟩
 case mapUpdate t m x y=>exact⟨Qe _ _ _ _ _,fun h=>by simp[Bk] at h,fun h=>by simp[noW] at h,fun h=>by simp[rd0] at h⟩
 case alloc t=>exact⟨(fE _ _ _).1,fun _=>(fE _ _ _).2.2.1,fun _=>(fE _ _ _).2.1,fun _=>rfl⟩
 case box t x=>exact⟨(fE _ _ _).1,fun _=>(fE _ _ _).2.2.1,fun _=>(fE _ _ _).2.1,fun _=>rfl⟩
 case buildSlice t n p=>exact⟨(kZ _ _ _ _ _).1,fun _=>(kZ _ _ _ _ _).2.2.1,fun _=>(kZ _ _ _ _ _).2.1,fun _=>(kZ _ _ _ _ _).2.2.2⟩
 case makeSlice t x y=>exact⟨(mE _ _ _ _).1,fun _=>(mE _ _ _ _).2.2.1,fun _=>(mE _ _ _ _).2.1,fun _=>(mE _ _ _ _).2.2.2⟩
 case defer c=>exact⟨bN.1,fun _=>bN.2.2.1,fun _=>bN.2.1,fun _=>rfl⟩
 case call c =>
  obtain⟨callee,args,ts⟩:=c;cases callee with
  |value x =>
   simp only[jt];split
   ·rename_i g ms ns hx;have hp:u.stays x=true→∀rd q y,C g (ms++args.toList.map (aH f)++ns)=some ⟨rd,q,some y⟩→rd=[]:=fun h rd q y e=>by
     rcases hu _ _ _ _ _ e with q1|q1
     ·exact q1
     ·cases u with
      |no=>exact q1.elim
      |all=>simp[jL.stays] at h
      |dz L =>
       cases x with
       |func g0 =>
        have:g0=g:=by simp[aH] at hx;exact hx.1
        subst this;simp[jL.stays] at h;exact absurd q1 h
       |_=>simp[jL.stays] at h
    exact⟨(Gf _ _ _ _).1,fun h=>((Gf _ _ _ _).2 (hp (by simpa[Bk] using h))).2,fun h=>((Gf _ _ _ _).2 (hp (by simpa[noW] using h))).1,fun h=>by simp[rd0] at h⟩
   ·exact⟨bN.1,fun _=>bN.2.2.1,fun _=>bN.2.1,fun _=>rfl⟩
  |invoke r m=>exact⟨bN.1,fun _=>bN.2.2.1,fun _=>bN.2.1,fun _=>rfl⟩
  |builtin b =>
   by_cases hb:b=.append
   ·subst hb;simp only[jt];split
    ·exact⟨(D6 _ _ _ _ _).1,fun _=>(D6 _ _ _ _ _).2,fun h=>by simp[noW] at h,fun h=>by simp[rd0] at h⟩
    ·exact⟨bN.1,fun _=>bN.2.2.1,fun _=>bN.2.1,fun _=>rfl⟩
   ·have:jt P C f (.call ⟨.builtin b,args,ts⟩)=if ts.toList.length=args.toList.length then eZ (fB P b ts.toList.toArray (args.toList.map (aH f))) else cI:=by cases b<;>first|rfl|exact absurd rfl hb
    rw[this];split
    ·exact⟨(dN _).1,fun _=>(dN _).2.2.1,fun _=>(dN _).2.1,fun _=>rfl⟩
    ·exact⟨bN.1,fun _=>bN.2.2.1,fun _=>bN.2.1,fun _=>rfl⟩
 all_goals exact⟨(dN _).1,fun _=>(dN _).2.2.1,fun _=>(dN _).2.1,fun _=>rfl⟩
def rC(P:Program)(C:b9)(g:FuncId)(ms:List MV)(σ:St)(k:MV→St→Prop):Prop :=
 (∃rd q os,C g ms=some ⟨rd,q,none⟩∧rd.map σ=os.map some∧aA P g ms (St.ofList rd os) (fun v af=>q v∧af=St.ofList rd os)∧(∃v,q v)∧∀v,q v→k v σ) ∨
 ∃rd q o u,C g ms=some ⟨rd,q,some ([o],u)⟩∧aA P g ms c0 (fun v af=>∃l,v=u l∧af=c0.set l o)∧∀l,σ l=none→k (u l) (σ.set l o)
def fS(P:Program)(C:b9)(g:FuncId)(ms:List MV)(σ:St)(k:MV→St→Prop):Prop :=
 (∃rd q os,C g ms=some ⟨rd,q,none⟩∧rd.map σ=os.map some∧aA P g ms (St.ofList rd os) (fun v af=>q v∧af=St.ofList rd os)∧(∃v,q v)∧∀v,q v→k v σ) ∨
 (∃q o u,C g ms=some ⟨[],q,some ([o],u)⟩∧aA P g ms c0 (fun v af=>∃l,v=u l∧af=c0.set l o)∧∀l,σ l=none→k (u l) (σ.set l o)) ∨
 ∃l rd q ts os u,C g ms=some ⟨l::rd,q,some (ts,u)⟩∧(l::rd).map σ=os.map some∧aA P g ms (St.ofList (l::rd) os) (fun v af=>v=u l∧af=(St.ofList (l::rd) ts).over (St.ofList (l::rd) os))∧k (u l) ((St.ofList (l::rd) ts).over σ)
def Cn(P:Program)(MC:FuncId→List MV→St→(MV→St→Prop)→Prop)(f:FR)(σ:St)(k:MV→St→Prop):Op→Prop
 |.call ⟨.value x,args,ts⟩=>match aH f x with
  |.fn (.func g) ms ns=>MC g (ms++args.toList.map (aH f)++ns) σ k
  |_=>False
 |.defer _=>False
 |op=>mq P f σ k op
section
variable {P:Program} {C:b9} {f:FR} {σ:St} {U:Nat→Prop}
theorem yI:∀(rd:List Nat) (os:List aY),rd.map σ=os.map some→(St.ofList rd os).le σ
 |[],_,_=>by
  intro l o h;simp[St.ofList,c0] at h
 |l::ls,[],h=>by simp at h
 |l::ls,o::os,h=>by
  simp only[aI,b5] at h
  (try simp only[St.ofList])
  exact St.aB (yI ls os h.2) h.1
def pK{pv:PV}{k:MV→St→Prop}(h:mpure σ k pv):gs U σ (eZ pv) fun v _ af=>k v af:=by
 cases pv with
 |none=>exact h.elim
 |some x =>
  obtain⟨Cd,v⟩:=x;refine⟨[],⟨Cd,none,none,none,fun _ u=>u=v⟩,rfl,rfl,h.1,fun _=>⟨v,rfl⟩,fun u U' af ho=>?_⟩;obtain⟨rfl,-,rfl⟩:=ho;rw[eV ⟨rfl,rfl⟩];exact h.2
def pV{pv:PV}{k:MV→(Nat→Prop)→St→Prop}(h:gs U σ (eZ pv) k):mpure σ (fun v af=>∃U',(∀l,U' l→U l∨af l≠none)∧k v U' af) pv:=by
 obtain⟨os,e,h1,h2,h3,h4,h5⟩:=h;cases pv with
 |none=>simp[eZ] at h2
 |some x =>
  obtain⟨Cd,v⟩:=x;simp only[eZ,co,cr] at h2;subst h2;refine⟨h3,U,fun l h=>.inl h,h5 v U σ ⟨rfl,rfl,?_⟩⟩;rw[eV ⟨rfl,rfl⟩]
def mS{Cd:Prop}{o:aY}{v:Nat→MV}{k:MV→St→Prop}(hd:wj U σ)(h:Cd∧∀l,σ l=none→k (v l) (σ.set l o)):gs U σ (iZ Cd o v) fun v _ af=>k v af:=by
 refine⟨[],⟨Cd,none,none,some o,fun l u=>u=v l⟩,rfl,rfl,h.1,fun l=>⟨v l,rfl⟩,fun u U' af ho=>?_⟩;obtain⟨l,hl,rfl,-,rfl⟩:=ho;rw[eV ⟨rfl,rfl⟩];exact h.2 l (by
  cases hs:σ l with
  |none=>rfl
  |some x=>exact absurd (hd l (by simp[hs])) hl)
def nK(U:Nat→Prop)(σ:St)(k:MV→(Nat→Prop)→St→Prop)(v:MV)(af:St):Prop :=
 (∀l,af l≠none→σ l=none→¬U l)→∃U',(∀l,U' l→U l∨af l≠none)∧k v U' af
def oQ{Cd:Prop}{o:aY}{v:Nat→MV}{k:MV→(Nat→Prop)→St→Prop}(h:gs U σ (iZ Cd o v) k):Cd∧∀l,σ l=none→nK U σ k (v l) (σ.set l o):=by obtain⟨os,e,h1,h2,h3,h4,h5⟩:=h;simp only[iZ,cr] at h2;subst h2;refine⟨h3,fun l hl hn=>⟨fun x=>x=l∨U x,fun x hx=>hx.elim (fun e=>.inr (by rw[e,aD];simp)) .inl,h5 _ _ _ ⟨l,hn l (by rw[aD];simp) hl,rfl,rfl,?_⟩⟩⟩;rw[eV ⟨rfl,rfl⟩]
def Be{pv:PV}{k k':MV→St→Prop}(h:mpure σ k pv)(hk:∀v af,k v af→k' v af):mpure σ k' pv:=by
 cases pv with
 |none=>exact h.elim
 |some x=>exact⟨h.1,hk _ _ h.2⟩
def mI{e:Nat}{x:MV}{os:List aY}(h:(nG x).map σ=os.map some):fX (Jd os) e x=fX σ e x:=by
 cases x<;>try rfl
 rename_i e' l lo n;cases os with
 |nil=>simp[nG] at h
 |cons o r =>
  simp only[nG,aI,a7,b5] at h
  (try simp only[fX,Jd,List.head?_cons,h.1])
def TG{e:Nat}{x:MV}{ys:List (List MV)}(h:fX σ e x=some ys):∃os:List aY,(nG x).map σ=os.map some:=by
 cases x<;>try exact⟨[],rfl⟩
 rename_i e' l lo n;simp only[fX] at h;split at h
 ·split at h
  ·rename_i t e2 xs hs;exact⟨[.row t e2 xs],by simp[nG,hs]⟩
  ·cases h
 ·cases h
def Uv{t:TypeId}{x:MV}{k:MV→St→Prop}(h:nX P t x σ k):gs U σ (p9 P t x) fun v _ af=>k v af:=by
 unfold nX at h;unfold p9;split at h
 ·rename_i l i o;split at h
  ·rename_i tt e xs hs;refine⟨[.row tt e xs],_,by simp[hs],rfl,h.1,fun _=>⟨_,rfl⟩,fun v U' af ho=>?_⟩;obtain⟨rfl,-,rfl⟩:=ho;rw[eV ⟨rfl,rfl⟩];exact h.2
  ·exact h.elim
 ·exact pK (σ:=σ) (pv:=some (_,_)) h
 ·exact h.elim
def UK{t:TypeId}{x:MV}{k:MV→(Nat→Prop)→St→Prop}(h:gs U σ (p9 P t x) k):nX P t x σ (nK U σ k):=by
 unfold p9 at h;unfold nX;split at h
 ·rename_i l i o;obtain⟨os,e,h1,h2,h3,h4,h5⟩:=h;simp only at h1 h2;split at h2
  ·rename_i tt ee xs;cases h2;simp only[aI,a7,b5,and_true] at h1
   (try simp only[h1])
   refine⟨h3,fun _=>⟨U,fun _ h=>.inl h,h5 _ _ _ ⟨rfl,rfl,?_⟩⟩⟩;rw[eV ⟨rfl,rfl⟩]
  ·cases h2
 ·obtain⟨h1,U',h2,h3⟩:=pV (σ:=σ) h;exact⟨h1,fun _=>⟨U',h2,h3⟩⟩
 ·obtain⟨os,e,h1,h2,_⟩:=h;simp[cI] at h2
def Az{Cd:Prop}{u:St}{n:Option aY}{v:Nat→MV→Prop}:(jl.app ⟨Cd,none,some u,n,v⟩ σ)=u.over σ:=by
 funext k
 (try simp only[jl.app,jl.upl,St.over,reduceCtorEq,if_false])
 cases u k<;>simp
def nL{Cd:Prop}{l:Nat}{o:aY}{n:Option aY}{v:Nat→MV→Prop}:(jl.app ⟨Cd,none,some (c0.set l o),n,v⟩ σ)=σ.set l o:=by rw[Az,bS,dS]
def QZ{t:TypeId}{x y:MV}{k:MV→St→Prop}(h:rG P t x y σ k):gs U σ (eW P t x y) fun v _ af=>k v af:=by
 unfold rG at h;unfold eW;split at h
 ·rename_i l i o;split at h
  ·rename_i tt e xs hs;refine⟨[.row tt e xs],_,by simp[hs],rfl,h.1,fun _=>⟨_,rfl⟩,fun v U' af ho=>?_⟩;obtain⟨rfl,-,rfl⟩:=ho;rw[nL];exact h.2
  ·exact h.elim
 ·exact h.elim
def TI{t:TypeId}{x y:MV}{k:MV→(Nat→Prop)→St→Prop}(h:gs U σ (eW P t x y) k):rG P t x y σ (nK U σ k):=by
 unfold eW at h;unfold rG;split at h
 ·rename_i l i o;obtain⟨os,e,h1,h2,h3,h4,h5⟩:=h;simp only at h1 h2;split at h2
  ·rename_i tt ee xs;cases h2;simp only[aI,a7,b5,and_true] at h1
   (try simp only[h1])
   refine⟨h3,fun _=>⟨U,fun _ h=>.inl h,h5 _ _ _ ⟨rfl,rfl,?_⟩⟩⟩;rw[nL]
  ·cases h2
 ·obtain⟨os,e,h1,h2,_⟩:=h;simp[cI] at h2
def NV{t:TypeId}{m x:MV}{ok:Bool}{k:MV→St→Prop}(h:iU P t m x ok (mapOf σ m) σ k):gs U σ (kT P t m x ok) fun v _ af=>k v af:=by
 unfold iU at h;split at h
 ·rename_i kt et l kd n es h1 h2;have hl:σ l=some (.mp es):=h2;unfold kT
  (try simp only[h1])
  refine⟨[.mp es],_,by simp[hl],rfl,h.1,fun _=>⟨_,rfl⟩,fun v U' af ho=>?_⟩;obtain⟨rfl,-,rfl⟩:=ho;rw[eV ⟨rfl,rfl⟩];exact h.2
 ·exact h.elim
def Ob{t:TypeId}{m x:MV}{ok:Bool}{k:MV→(Nat→Prop)→St→Prop}(h:gs U σ (kT P t m x ok) k):iU P t m x ok (mapOf σ m) σ (nK U σ k):=by
 unfold kT at h;split at h
 ·rename_i kt et l kd n h1;obtain⟨os,e,h2,h3,h4,h5,h6⟩:=h;simp only at h2 h3;split at h3
  ·rename_i es;cases h3;simp only[aI,a7,b5,and_true] at h2;unfold iU
   (try simp only[h1,mapOf,h2])
   refine⟨h4,fun _=>⟨U,fun _ h=>.inl h,h6 _ _ _ ⟨rfl,rfl,?_⟩⟩⟩;rw[eV ⟨rfl,rfl⟩]
  ·cases h3
 ·obtain⟨os,e,h1,h2,_⟩:=h;simp[cI] at h2
def NW{t:TypeId}{m x y:MV}{k:MV→St→Prop}(h:iN P t m x y (mapOf σ m) σ k):gs U σ (nT P t m x y) fun v _ af=>k v af:=by
 unfold iN at h;split at h
 ·rename_i kt et l kd n es h1 h2;have hl:σ l=some (.mp es):=h2;unfold nT
  (try simp only[h1])
  refine⟨[.mp es],_,by simp[hl],rfl,h.1,fun _=>⟨_,rfl⟩,fun v U' af ho=>?_⟩;obtain⟨rfl,-,rfl⟩:=ho;rw[nL];exact h.2
 ·exact h.elim
def Od{t:TypeId}{m x y:MV}{k:MV→(Nat→Prop)→St→Prop}(h:gs U σ (nT P t m x y) k):iN P t m x y (mapOf σ m) σ (nK U σ k):=by
 unfold nT at h;split at h
 ·rename_i kt et l kd n h1;obtain⟨os,e,h2,h3,h4,h5,h6⟩:=h;simp only at h2 h3;split at h3
  ·rename_i es;cases h3;simp only[aI,a7,b5,and_true] at h2;unfold iN
   (try simp only[h1,mapOf,h2])
   refine⟨h4,fun _=>⟨U,fun _ h=>.inl h,h6 _ _ _ ⟨rfl,rfl,?_⟩⟩⟩;rw[nL]
  ·cases h3
 ·obtain⟨os,e,h1,h2,_⟩:=h;simp[cI] at h2
def Gn{Cd:Prop}{l:Nat}{n:Option aY}{v:Nat→MV→Prop}:(jl.app ⟨Cd,some l,none,n,v⟩ σ)=σ.del l:=by
 funext k;have h:jl.upl ⟨Cd,some l,none,n,v⟩ k=none:=rfl
 (try simp only[jl.app,St.del,h,cp,ac,if_false,cr])
 by_cases hk:k=l
 ·simp[hk]
 ·rw[if_neg (cb hk),if_neg hk]
def AR(hd:wj U σ){l:Nat}(hl:¬U l):σ l=none:=by
 cases hs:σ l with
 |none=>rfl
 |some x=>exact absurd (hd l (by simp[hs])) hl
def NU{t xt:TypeId}{s x:MV}{k:MV→St→Prop}(hd:wj U σ)(h:l9 P t xt s x σ k):gs U σ (nS P t xt s x) fun v _ af=>k v af:=by
 unfold l9 at h;unfold nS;split at h
 ·rename_i el hk
  (try simp only[hk])
  split at h
  ·rename_i ys hy;obtain⟨os,yl⟩:=TG hy;have ZM:=mI (e:=(td P el).size) yl;rw[hy] at ZM;split at h
   ·refine⟨os,⟨(td P xt).k.gT=true∧(td P el).jq=true∧Fits ys.length (td P el).bytes,none,none,some (.row el (td P el).size ys),fun l u=>u=.vec (td P el).size l 0 ys.length⟩,yl,by simp only[ZM],h.1,fun l=>⟨_,rfl⟩,fun u U' af ho=>?_⟩;obtain⟨l,hl,rfl,-,rfl⟩:=ho;rw[eV ⟨rfl,rfl⟩];exact h.2 l (AR hd hl)
   ·rename_i e xs;refine⟨os,⟨(td P xt).k.gT=true∧(td P el).jq=true∧e=(td P el).size∧(xs=[]∨0<ys.length)∧Fits (xs.length+ys.length) (td P el).bytes,none,none,some (.row el (td P el).size (xs++ys)),fun l u=>u=.vec (td P el).size l 0 (xs.length+ys.length)⟩,yl,by simp only[ZM],h.1,fun l=>⟨_,rfl⟩,fun u U' af ho=>?_⟩;obtain⟨l,hl,rfl,-,rfl⟩:=ho;rw[eV ⟨rfl,rfl⟩];exact h.2 l (AR hd hl)
   ·rename_i e l lo n;split at h
    ·rename_i tt e' xs hs;refine⟨.row tt e' xs::os,⟨(td P xt).k.gT=true∧(td P el).jq=true∧e=(td P el).size∧e'=(td P el).size∧tt=el∧lo=0∧lo+n≤xs.length∧Fits (n+ys.length) (td P el).bytes,some l,none,some (.row el (td P el).size (gP xs lo n ys)),fun l' u=>u=.vec (td P el).size l' 0 (n+ys.length)⟩,by simp[hs,yl],by simp only[ZM],h.1,fun l=>⟨_,rfl⟩,fun u U' af ho=>?_⟩;obtain⟨l',hl,rfl,-,rfl⟩:=ho;rw[Gn];exact h.2 l' (AR hd hl)
    ·exact h.elim
   ·exact h.elim
  ·exact h.elim
 ·exact h.elim
def Ni{t xt:TypeId}{s x:MV}{k:MV→(Nat→Prop)→St→Prop}(h:gs U σ (nS P t xt s x) k):l9 P t xt s x σ (nK U σ k):=by
 unfold nS at h;unfold l9;split at h
 ·rename_i el hk;split at h
  ·obtain⟨os,e,h1,h2,h3,h4,h5⟩:=h;simp only at h1 h2;split at h2
   ·rename_i ys hy;cases h2;rw[mI h1] at hy
    (try simp only[hk,hy])
    refine⟨h3,fun l hl hn=>⟨fun x=>x=l∨U x,fun x hx=>hx.elim (fun e=>.inr (by rw[e,aD];simp)) .inl,h5 _ _ _ ⟨l,hn l (by rw[aD];simp) hl,rfl,rfl,?_⟩⟩⟩;rw[eV ⟨rfl,rfl⟩]
   ·cases h2
  ·obtain⟨os,e,h1,h2,h3,h4,h5⟩:=h;simp only at h1 h2;split at h2
   ·rename_i ys hy;cases h2;rw[mI h1] at hy
    (try simp only[hk,hy])
    refine⟨h3,fun l hl hn=>⟨fun x=>x=l∨U x,fun x hx=>hx.elim (fun e=>.inr (by rw[e,aD];simp)) .inl,h5 _ _ _ ⟨l,hn l (by rw[aD];simp) hl,rfl,rfl,?_⟩⟩⟩;rw[eV ⟨rfl,rfl⟩]
   ·cases h2
  ·obtain⟨os,e,h1,h2,h3,h4,h5⟩:=h;simp only at h1 h2;split at h2
   ·rename_i tt e' xs os';simp only[aI,b5] at h1;split at h2
    ·rename_i ys hy;cases h2;rw[mI h1.2] at hy
     (try simp only[hk,hy,h1.1])
     refine⟨h3,fun l hl hn=>⟨fun x=>x=l∨U x,fun x hx=>hx.elim (fun e=>.inr (by rw[e,aD];simp)) .inl,h5 _ _ _ ⟨l,hn l (by rw[aD];simp) hl,rfl,rfl,?_⟩⟩⟩;rw[Gn]
    ·cases h2
   ·cases h2
  ·obtain⟨os,e,h1,h2,_⟩:=h;simp[cI] at h2
 ·obtain⟨os,e,h1,h2,_⟩:=h;simp[cI] at h2
def gX{k:MV→(Nat→Prop)→St→Prop}(h:gs U σ cI k):False:=by obtain⟨os,e,h1,h2,_⟩:=h;simp[cI] at h2
theorem Wv{D:Prop}{x:MV}{k:MV→St→Prop}(h:match fX σ 1 x with|some ys=>(D∧ys.all isByte=true)∧k (.str (bytesOf ys)) σ|none=>False) :
  gs U σ (nG x,fun os=>match fX (Jd os) 1 x with
  |some ys=>some ⟨D∧ys.all isByte=true,none,none,none,fun _ u=>u=.str (bytesOf ys)⟩
  |none=>none) fun v _ af=>k v af:=by
 split at h
 ·rename_i ys hy;obtain⟨os,yl⟩:=TG hy;have ZM:=mI (e:=1) yl;rw[hy] at ZM;refine⟨os,⟨D∧ys.all isByte=true,none,none,none,fun _ u=>u=.str (bytesOf ys)⟩,yl,by simp only[ZM],h.1,fun _=>⟨_,rfl⟩,fun u U' af ho=>?_⟩;obtain⟨rfl,-,rfl⟩:=ho;rw[eV ⟨rfl,rfl⟩];exact h.2
 ·exact h.elim
theorem W8{D:Prop}{x:MV}{k:MV→(Nat→Prop)→St→Prop}(h:gs U σ (nG x,fun os=>match fX (Jd os) 1 x with
  |some ys=>some ⟨D∧ys.all isByte=true,none,none,none,fun _ u=>u=.str (bytesOf ys)⟩
  |none=>none) k):match fX σ 1 x with|some ys=>(D∧ys.all isByte=true)∧nK U σ k (.str (bytesOf ys)) σ|none=>False:=by
 obtain⟨os,e,h1,h2,h3,h4,h5⟩:=h;simp only at h1 h2;split at h2
 ·rename_i ys hy;cases h2;rw[mI h1] at hy
  (try simp only[hy])
  refine⟨h3,fun _=>⟨U,fun _ h=>.inl h,h5 _ _ _ ⟨rfl,rfl,?_⟩⟩⟩;rw[eV ⟨rfl,rfl⟩]
 ·cases h2
def J0{s d:TypeId}{x:MV}{k:MV→St→Prop}(hd:wj U σ)(h:jW P s d x σ k):gs U σ (jS P s d x) fun v _ af=>k v af:=by
 unfold jW at h;unfold jS;cases hs:(td P s).k<;>cases hk:(td P d).k<;>simp only[hs,hk] at h ⊢<;>first
  |exact pK h
  |(cases x<;>first|exact pK h|exact mS hd h|exact h.elim|exact Wv h)
def JQ{s d:TypeId}{x:MV}{k:MV→(Nat→Prop)→St→Prop}(h:gs U σ (jS P s d x) k):jW P s d x σ (nK U σ k):=by
 unfold jS at h;unfold jW;have hp:∀{pv:PV},gs U σ (eZ pv) k→mpure σ (nK U σ k) pv:=fun h=>Be (pV h) fun v af hh _=>hh;cases hs:(td P s).k<;>cases hk:(td P d).k<;>simp only[hs,hk] at h ⊢<;>first
  |exact hp h
  |(cases x<;>first|exact hp h|exact oQ h|exact(gX h).elim|exact W8 h)
def GX{g:FuncId}{ms:List MV}{k:MV→St→Prop}{rd:List Nat}{q:MV→Prop}{os:List aY}(h1:C g ms=some ⟨rd,q,none⟩)(h2:rd.map σ=os.map some)(h3:aA P g ms (St.ofList rd os) (fun v af=>q v∧af=St.ofList rd os))(h4:∃v,q v)(h5:∀v,q v→k v σ):gs U σ (jE P C g ms) fun v _ af=>k v af:=by unfold jE;rw[h1];refine⟨os,⟨aA P g ms (St.ofList rd os) (fun v af=>q v∧af=St.ofList rd os),none,none,none,fun _ u=>q u⟩,h2,rfl,h3,fun _=>h4,fun u U' af ho=>?_⟩;obtain⟨hq,-,rfl⟩:=ho;rw[eV ⟨rfl,rfl⟩];exact h5 u hq
def vK{g:FuncId}{ms:List MV}{k:MV→St→Prop}(hd:wj U σ)(h:rC P C g ms σ k):gs U σ (jE P C.pl g ms) fun v _ af=>k v af:=by
 rcases h with⟨rd,q,os,h1,h2,h3,h4,h5⟩|⟨rd,q,o,u,h1,h2,h3⟩
 ·exact GX (by unfold b9.pl;rw[h1];rfl) h2 h3 h4 h5
 ·have hC:C.pl g ms=some ⟨[],q,some ([o],u)⟩:=by unfold b9.pl;rw[h1];rfl
  unfold jE;rw[hC];exact mS hd ⟨h2,h3⟩
def GW{g:FuncId}{ms:List MV}{k:MV→St→Prop}(hd:wj U σ)(h:fS P C g ms σ k):gs U σ (jE P C g ms) fun v _ af=>k v af:=by
 rcases h with⟨rd,q,os,h1,h2,h3,h4,h5⟩|⟨q,o,u,h1,h2,h3⟩|⟨l,rd,q,ts,os,u,h1,h2,h3,h4⟩
 ·exact GX h1 h2 h3 h4 h5
 ·unfold jE;rw[h1];exact mS hd ⟨h2,h3⟩
 ·unfold jE;rw[h1];refine⟨os,⟨aA P g ms (St.ofList (l::rd) os) (fun v af=>v=u l∧af=(St.ofList (l::rd) ts).over (St.ofList (l::rd) os)),none,some (St.ofList (l::rd) ts),none,fun _ w=>w=u l⟩,h2,rfl,h3,fun _=>⟨_,rfl⟩,fun v U' af ho=>?_⟩;obtain⟨hv,-,rfl⟩:=ho;rw[Az,hv];exact h4
def Ue{g:FuncId}{ms:List MV}{k:MV→(Nat→Prop)→St→Prop}(h:gs U σ (jE P C g ms) k):aA P g ms σ (nK U σ k):=by
 unfold jE at h;split at h
 ·rename_i rd q hC;obtain⟨os,e,h1,h2,h3,h4,h5⟩:=h;simp only[cr] at h2;subst h2;simp only at h1 h3;have hle:=yI rd os h1;refine(h3.frame hle).mono ?_;rintro v σ1 ⟨af,⟨hq,rfl⟩,rfl,-⟩;rw[nA hle];refine fun _=>⟨U,fun _ h=>.inl h,h5 _ _ _ ⟨hq,rfl,?_⟩⟩
  rw[eV ⟨rfl,rfl⟩]
 ·rename_i rd q ts u hC;unfold Us at h;split at h
  ·rename_i o;obtain⟨h1,h2⟩:=oQ h;refine(h1.frame (St.none_le σ)).mono ?_;rintro v σ1 ⟨af,⟨l,rfl,rfl⟩,rfl,hf⟩;rw[mY,bS,dS];refine h2 l ?_;rcases hf l o cj with h|⟨o',h⟩
   ·exact h
   ·simp[c0] at h
  ·exact(gX h).elim
 ·rename_i l rd q ts u hC;obtain⟨os,e,h1,h2,h3,h4,h5⟩:=h;simp only[cr] at h2;subst h2;have hle:=yI (l::rd) os h1;refine(aA.frame h3 hle).mono ?_;rintro v σ1 ⟨af,⟨hv,rfl⟩,rfl,-⟩;have e:((St.ofList (l::rd) ts).over (St.ofList (l::rd) os)).over (σ.minus (St.ofList (l::rd) os))=(St.ofList (l::rd) ts).over σ:=by
   funext j
   (try simp only[St.over,St.minus])
   cases St.ofList (l::rd) ts j with
   |some o=>rfl
   |none =>
    cases ht:St.ofList (l::rd) os j with
    |none=>rfl
    |some o1=>simp only[hle j o1 ht]
  rw[e];exact fun _=>⟨U,fun _ h=>.inl h,h5 _ _ _ ⟨hv,rfl,Az.symm⟩⟩
 ·exact(gX h).elim
def Wu{MC:FuncId→List MV→St→(MV→St→Prop)→Prop}(hMC:∀g ms k,MC g ms σ k→gs U σ (jE P C g ms) fun v _ af=>k v af){op:Op}{k:MV→St→Prop}(hd:wj U σ)(h:Cn P MC f σ k op):gs U σ (jt P C f op) fun v _ af=>k v af:=by
 cases op;case alloc t=>exact mS hd h
 case box t x=>exact mS hd h
 case load t x=>exact Uv h
 case store t x y=>exact QZ h
 case lookup t m x ok=>exact NV h
 case mapUpdate t m x y=>exact NW h
 case convert s d x=>exact J0 hd h
 case buildSlice t n p =>
  have h:fA P f t n p σ k:=h
  (try simp only[jt])
  unfold fA at h;unfold eY;split at h
  ·rename_i el hk;(try simp only[hk]);exact mS hd h
  ·exact h.elim
 case makeSlice t x y =>
  have h:kH P t (aH f x) (aH f y) σ k:=h
  (try simp only[jt])
  unfold kH at h;unfold iC;split at h
  ·rename_i el n c hk hx hy;(try simp only[hk,hx,hy]);exact mS hd h
  ·exact h.elim
 case defer c=>exact h.elim
 case call c =>
  obtain⟨callee,args,ts⟩:=c;cases callee with
  |value x =>
   simp only[Cn] at h
   (try simp only[jt])
   split at h
   ·rename_i g ms ns hx;first|(simp only[hx];exact hMC _ _ _ h)|exact hMC _ _ _ h
   ·exact h.elim
  |invoke r m=>exact h.elim
  |builtin b =>
   by_cases hb:b=.append
   ·subst hb;have h:iE P f .append args.toList ts.toList σ k:=h
    (try simp only[jt])
    simp only[iE] at h;split at h
    ·rename_i s x t xt ha ht;(try simp only[ha,ht]);exact NU hd h
    ·exact h.elim
   ·have h:iE P f b args.toList ts.toList σ k:=h;have e1:jt P C f (.call ⟨.builtin b,args,ts⟩)=if ts.toList.length=args.toList.length then eZ (fB P b ts.toList.toArray (args.toList.map (aH f))) else cI:=by cases b<;>first|rfl|exact absurd rfl hb
    have e2:iE P f b args.toList ts.toList σ k=(ts.toList.length=args.toList.length∧mpure σ k (fB P b ts.toList.toArray (args.toList.map (aH f)))):=by cases b<;>first|rfl|exact absurd rfl hb
    rw[e2] at h;rw[e1,if_pos h.1];exact pK h.2
 all_goals exact pK h
def VY{op:Op}{k:MV→(Nat→Prop)→St→Prop}(h:gs U σ (jt P C f op) k):mq P f σ (nK U σ k) op:=by
 have hp:∀{pv:PV},gs U σ (eZ pv) k→mpure σ (nK U σ k) pv:=fun h=>Be (pV h) fun v af hh _=>hh;cases op;case alloc t=>exact oQ h
 case box t x=>exact oQ h
 case load t x=>exact UK h
 case store t x y=>exact TI h
 case lookup t m x ok=>exact Ob h
 case mapUpdate t m x y=>exact Od h
 case convert s d x=>exact JQ h
 case buildSlice t n p =>
  simp only[jt] at h;show fA P f t n p σ _;unfold fA;unfold eY at h;split at h
  ·rename_i el hk;(try simp only[hk]);exact oQ h
  ·exact(gX h).elim
 case makeSlice t x y =>
  simp only[jt] at h;show kH P t (aH f x) (aH f y) σ _;unfold kH;unfold iC at h;split at h
  ·rename_i el n c hk hx hy;(try simp only[hk,hx,hy]);exact oQ h
  ·exact(gX h).elim
 case defer c=>exact(gX h).elim
 case call c =>
  obtain⟨callee,args,ts⟩:=c;cases callee with
  |value x =>
   simp only[jt] at h;show MD P f ⟨.value x,args,ts⟩ σ _
   (try simp only[MD])
   split at h
   ·rename_i g ms ns hx;(try simp only[hx]);exact Ue h
   ·exact(gX h).elim
  |invoke r m=>exact(gX h).elim
  |builtin b =>
   show iE P f b args.toList ts.toList σ _;by_cases hb:b=.append
   ·subst hb;simp only[jt] at h
    (try simp only[iE])
    split at h
    ·rename_i s x t xt ha ht;(try simp only[ha,ht]);exact Ni h
    ·exact(gX h).elim
   ·have e1:jt P C f (.call ⟨.builtin b,args,ts⟩)=if ts.toList.length=args.toList.length then eZ (fB P b ts.toList.toArray (args.toList.map (aH f))) else cI:=by cases b<;>first|rfl|exact absurd rfl hb
    have e2:iE P f b args.toList ts.toList σ (nK U σ k)=(ts.toList.length=args.toList.length∧mpure σ (nK U σ k) (fB P b ts.toList.toArray (args.toList.map (aH f)))):=by cases b<;>first|rfl|exact absurd rfl hb
    rw[e1] at h;rw[e2];split at h
    ·rename_i hl;exact⟨hl,hp h⟩
    ·exact(gX h).elim
 all_goals exact hp h
end
section
variable {P:Program} {C:b9} {ops:Array Oper}
def qd(f f':FR):Prop:=f.n=f'.n∧f.d=f'.d∧∀t,f.get t=f'.get t
def qd.refl(f:FR):qd f f:=⟨rfl,rfl,fun _=>rfl⟩
def qd.symm{f f':FR}(h:qd f f'):qd f' f:=⟨h.1.symm,h.2.1.symm,fun t=>(h.2.2 t).symm⟩
def qd.trans{f f' js:FR}(h:qd f f')(k:qd f' js):qd f js:=⟨h.1.trans k.1,h.2.1.trans k.2.1,fun t=>(h.2.2 t).trans (k.2.2 t)⟩
def l6(f:FR)(dst:Option Tmp)(v:MV)(t:Nat):(bI f dst v).get t=if dst=some t∧t<f.n then v else f.get t:=by
 cases dst with
 |none=>simp[bI]
 |some d =>
  (try simp only[bI])
  split
  ·rename_i hd
   (try simp only[al,cV])
   by_cases ht:t=d
   ·subst ht;simp[hd]
   ·rw[if_neg ht,if_neg (by simp;intro e;exact absurd e.symm ht)]
  ·rename_i hd;rw[if_neg];rintro⟨e,h⟩;cases e;exact hd h
def MT(f:FR)(dst:Option Tmp)(v:MV):(bI f dst v).n=f.n:=by unfold bI;split<;>(try split)<;>rfl
def qd.put{f f':FR}(h:qd f f')(dst:Option Tmp)(v:MV):qd (bI f dst v) (bI f' dst v) :=
 ⟨by rw[MT,MT];exact h.1,by rw[eD,eD];exact h.2.1,fun t=>by rw[l6,l6,h.1,h.2.2 t]⟩
def qd.comm(f:FR){x y:Option Tmp}(v u:MV)(h:∀d,x=some d→y≠some d):qd (bI (bI f x v) y u) (bI (bI f y u) x v) :=
 ⟨by simp only[MT],by simp only[eD],fun t=>by
  (try simp only[l6,MT])
  by_cases hx:x=some t
  ·have:=h t hx;simp[hx,this]
  ·simp[hx]⟩
def qd.aH{f f':FR}(h:qd f f'):aH f=aH f':=by
 funext x;cases x with
 |tmp t=>exact h.2.2 t
 |_=>rfl
def Sp{f:FR}{dst:Option Tmp}{v:MV}{x:Operand}(h:∀d,dst=some d→x≠.tmp d):aH (bI f dst v) x=aH f x:=by
 cases x with
 |tmp t =>
  show(bI f dst v).get t=f.get t;rw[l6,if_neg];rintro⟨e,_⟩;exact h t e rfl
 |_=>rfl
def Ac{f f':FR}{place:Nat→Option (Nat×TypeId)}:∀(parts:List (Nat×Operand)) (cs:List MV),(∀p,p∈parts→aH f p.2=aH f' p.2)→fN P f place parts cs=fN P f' place parts cs:=by
 intro parts
 induction parts with
 |nil=>intro cs _;rfl
 |cons p r ih =>
  intro cs h;obtain⟨i,x⟩:=p
  (try simp only[fN])
  have hx:aH f x=aH f' x:=h (i,x) ax;rw[hx];cases place i with
  |none=>rfl
  |some q=>simp only[];rw[ih _ (fun p hp=>h p (by simp[hp]))]
def EJ{f f':FR}{t:TypeId}{parts:Array (Nat×Operand)}(h:∀p,p∈parts.toList→aH f p.2=aH f' p.2):rB P f t parts=rB P f' t parts:=by unfold rB;cases (td P t).k<;>simp only[]<;>rw[Ac _ _ h]
def tX{f f':FR}{xs:List Operand}(h:∀x,x∈xs→aH f x=aH f' x):xs.map (aH f)=xs.map (aH f'):=a9 h
def Di{f f':FR}{op:Op}(h:∀x,x∈op.operands→aH f x=aH f' x):jt P C f op=jt P C f' op:=by
 cases op<;>simp only[Op.operands] at h;case buildSlice t n ps =>
  (try simp only[jt,eY])
  have hp:∀p,p∈ps.toList→aH f p.2=aH f' p.2:=fun p hp=>h p.2 (by simpa using⟨p.1,by simpa using hp⟩);have e1:(ps.toList.all fun p=>(aH f p.2).cells.all b6&&(aH f p.2).cells.length==0)=(ps.toList.all fun p=>(aH f' p.2).cells.all b6&&(aH f' p.2).cells.length==0):=by rw[ah];(try simp only[a4]);exact⟨fun q x hx=>by rw[←hp x hx];exact q x hx,fun q x hx=>by rw[hp x hx];exact q x hx⟩
  have e2:∀z,(ps.toList.all fun p=>(aH f p.2).cells.all b6&&(aH f p.2).cells.length==z)=(ps.toList.all fun p=>(aH f' p.2).cells.all b6&&(aH f' p.2).cells.length==z):=fun z=>by rw[ah];(try simp only[a4]);exact⟨fun q x hx=>by rw[←hp x hx];exact q x hx,fun q x hx=>by rw[hp x hx];exact q x hx⟩
  have e3:(ps.toList.map fun p=>(aH f p.2).cells)=(ps.toList.map fun p=>(aH f' p.2).cells):=a9 fun p hq=>by rw[hp p hq]
  (try simp only[e2,e3])
 case build t ps =>
  (try simp only[jt,yy])
  rw[EJ fun p hp=>h p.2 (by simpa using⟨p.1,by simpa using hp⟩)]
 case makeFunc fn first captured =>
  (try simp only[jt,yy])
  rw[tX (xs:=first.toList) fun x hx=>h x (by simp at hx ⊢;exact .inl hx),tX (xs:=captured.toList) fun x hx=>h x (by simp at hx ⊢;exact .inr hx)]
 case indexAddr t x i =>
  have h1:=h x ax;have h2:=h i ax
  (try simp only[jt])
  cases x<;>simp only[yy]<;>simp[h1,h2]
 case slice t x lo hi mx =>
  (try simp only[jt,yy])
  rw[h x ax];cases lo<;>cases hi<;>cases mx<;>simp_all
 case call c =>
  obtain⟨callee,args,ts⟩:=c;have ha:args.toList.map (aH f)=args.toList.map (aH f'):=tX fun x hx=>h x (by simp[Call.operands];exact .inr (by simpa using hx));cases callee with
  |value x=>simp only[jt];rw[h x (by simp[Call.operands]),ha]
  |invoke r m=>rfl
  |builtin b =>
   by_cases hb:b=.append
   ·subst hb
    (try simp only[jt])
    have hm:∀y,y∈args.toList→aH f y=aH f' y:=fun y hy=>h y (by simp[Call.operands];simpa using hy);split
    ·rename_i s x t xt hl _;rw[hm s (by simp[hl]),hm x (by simp[hl])]
    ·rfl
   ·have e1:∀f,jt P C f (.call ⟨.builtin b,args,ts⟩)=if ts.toList.length=args.toList.length then eZ (fB P b ts.toList.toArray (args.toList.map (aH f))) else cI:=fun f=>by cases b<;>first|rfl|exact absurd rfl hb
    rw[e1,e1,ha]
 all_goals first
  |rfl
  |(simp_all [jt,yy];done)
def ji(P:Program)(C:b9)(ops:Array Oper)(f:FR)(o:Oper):GF :=
 match o.guard with
 |none=>jt P C f o.op
 |some (j,want)=>match (ops[j]?).bind (·.dst) with
  |some t=>match f.get t with
   |.bool b=>if b=want then jt P C f o.op else eZ (some (True,.ar []))
   |.ar []=>eZ (some (True,.ar []))
   |_=>cI
  |none=>cI
def T4{u:jL}(hu:pq u C)(f:FR)(o:Oper):Wf (ji P C ops f o)∧(Bk u o.op=true→lS (ji P C ops f o))∧(noW u o.op=true→xz (ji P C ops f o))∧(rd0 o.op=true→(ji P C ops f o).1=[]):=by
 have hf:Wf cI∧(Bk u o.op=true→lS cI)∧(noW u o.op=true→xz cI)∧(rd0 o.op=true→cI.1=[]):=⟨bN.1,fun _=>bN.2.2.1,fun _=>bN.2.1,fun _=>rfl⟩
 unfold ji;split
 ·exact LR P C hu f o.op
 ·split
  ·split
   ·split
    ·exact LR P C hu f o.op
    ·exact⟨(dN _).1,fun _=>(dN _).2.2.1,fun _=>(dN _).2.1,fun _=>rfl⟩
   ·exact⟨(dN _).1,fun _=>(dN _).2.2.1,fun _=>(dN _).2.1,fun _=>rfl⟩
   ·exact hf
  ·exact hf
def NT{f f':FR}(h:qd f f')(o:Oper):ji P C ops f o=ji P C ops f' o:=by
 unfold ji;rw[Di (f:=f) (f':=f') fun x _=>by rw[h.aH]]
 (try simp only[h.2.2])
def Mp{f:FR}{dst:Option Tmp}{v:MV}{o:Oper}(h:∀d,dst=some d→d∉o.looksAt ops):ji P C ops (bI f dst v) o=ji P C ops f o:=by
 have h1:jt P C (bI f dst v) o.op=jt P C f o.op:=Di fun x hx=>Sp fun d hd e=>h d hd (by
  subst e;exact List.mem_append_left _ (List.mem_filterMap.2 ⟨.tmp d,by simpa using hx,rfl⟩))
 unfold ji;rw[h1];split
 ·rfl
 ·rename_i j want hg;split
  ·rename_i t ht;have:(bI f dst v).get t=f.get t:=by rw[l6,if_neg];rintro⟨e,-⟩;exact h t e (by simp[Oper.looksAt,hg,ht])
   rw[this]
  ·rfl
def gl(P:Program)(C:b9)(ops:Array Oper)(K:FR→(Nat→Prop)→St→Prop):List Oper→FR→(Nat→Prop)→St→Prop
 |[],f,U,σ=>K f U σ
 |o::r,f,U,σ=>gs U σ (ji P C ops f o) fun v U' af=>gl P C ops K r (bI f o.dst v) U' af
def KOk(K:FR→(Nat→Prop)→St→Prop):Prop:=∀f f' U U' σ,qd f f'→(∀l,U l→U' l)→K f U σ→K f' U' σ
def x8{U:Nat→Prop}{σ:St}{g:GF}{k k':MV→(Nat→Prop)→St→Prop}(h:gs U σ g k)(hk:∀v U' af,k v U' af→k' v U' af):gs U σ g k':=by obtain⟨os,e,h1,h2,h3,h4,h5⟩:=h;exact⟨os,e,h1,h2,h3,h4,fun v U' af ho=>hk v U' af (h5 v U' af ho)⟩
theorem Mq{K:FR→(Nat→Prop)→St→Prop}(hK:KOk K):∀l,KOk (gl P C ops K l)
 |[]=>hK
 |o::r=>fun f f' U U' σ hf hu h=>by simp only[gl] at h ⊢;rw[←NT hf];refine Uu (x8 h fun v U' af hh=>Mq hK r _ (bI f' o.dst v) U' U' af (hf.put o.dst v) (fun _ h=>h) hh) hu fun v V V' σ hv hh=>Mq hK r _ _ V V' σ (.refl _) hv hh
def TJ(u:jL)(ops:Array Oper)(x y:Oper):Bool:=x.apart ops y&&((rd0 y.op || Bk u x.op)&&(rd0 x.op || noW u y.op)&&(noW u x.op || noW u y.op))
structure FX where
 t:Nat
 s:Nat
 ty:TypeId
 k:Nat
 off:Nat
 st:TypeId
 n:Nat
structure RX where
 Ds:List Nat
 Rs:List (Nat×Nat)
 dr:Option Nat
 u:jL
 Fs:List FX
def VM(P:Program)(X:RX)(f:FR):Prop:=∀p,p∈X.Fs→(td P p.st).size=p.n∧(∀x c v,eP P p.ty x p.k=some (c,v)→∀l i o,v=.ptr l i o→∃o0,x=.ptr l i o0∧o=o0+p.off)∧∀l i o,f.get p.t=.ptr l i o→∃o0,f.get p.s=.ptr l i o0∧o=o0+p.off
def vw(P:Program)(X:RX)(loc:Nat→Nat→Prop)(f:FR):Prop:=(∀t,t∈X.Ds→∃l i o,f.get t=.ptr l i o∧loc t l)∧(∀t t',t∈X.Ds→t'∈X.Ds→t≠t'→∀l,loc t l→¬loc t' l)∧(∀p,p∈X.Rs→p.2∈X.Ds∧∀l i o,f.get p.1=.ptr l i o→loc p.2 l)∧VM P X f
def vw.eq{X:RX}{loc:Nat→Nat→Prop}{f f':FR}(h:vw P X loc f)(e:∀t,f.get t=f'.get t):vw P X loc f' :=
 ⟨fun t ht=>by rw[←e t];exact h.1 t ht,h.2.1,fun p hp=>⟨(h.2.2.1 p hp).1,fun l i o q=>(h.2.2.1 p hp).2 l i o (by rw[e];exact q)⟩,fun p hp=>⟨(h.2.2.2 p hp).1,(h.2.2.2 p hp).2.1,fun l i o q=>by rw[←e p.s];exact(h.2.2.2 p hp).2.2 l i o (by rw[e];exact q)⟩⟩
def oO(X:RX)(loc:Nat→Nat→Prop)(C:b9):Prop:=pq X.u C∧match X.dr with
 |none=>True
 |some d=>d∈X.Ds∧∀g ms F,C g ms=some F→∀l,l∈F.rd→loc d l
def zQ(X:RX)(t:Nat):Option Nat:=if X.Ds.contains t then some t else(X.Rs.find? fun p=>p.1==t).map (·.2)
def dsr(X:RX):Op→Option Nat
 |.load _ (.tmp t)=>zQ X t
 |.store _ (.tmp t) _=>zQ X t
 |.call ⟨.value _,_,_⟩=>X.dr
 |_=>none
def VP(X:RX)(x y:Op):Bool:=match dsr X x,dsr X y with
 |some a,some b=>a != b
 |_,_=>false
def Hb:Op→Option Bool
 |.load ..|.store ..=>some false
 |.lookup ..|.mapUpdate ..=>some true
 |_=>none
def VW(x y:Op):Bool:=match Hb x,Hb y with
 |some a,some b=>a != b
 |_,_=>false
def J7:aY→Bool
 |.mp _=>true
 |_=>false
def C3(b:Bool)(g:GF):Prop:=∀os e,os.length=g.1.length→g.2 os=some e→(∀o,o∈os→J7 o=b)∧e.kill=none∧e.new=none∧∀p,e.tz=some p→∀l o,p l=some o→J7 o=b
def Ej{b:Bool}(pv:PV):C3 b (eZ pv):=fun os e hl he=>by obtain rfl:os=[]:=List.eq_nil_of_length_eq_zero hl;simp only[eZ,ce] at he;obtain⟨x,-,rfl⟩:=he;exact⟨fun o ho=>(by cases ho),rfl,rfl,fun p hp=>by cases hp⟩
def sB{b:Bool}:C3 b cI:=fun os e hl he=>by cases he
def L7{b:Bool}{os:List aY}{e:jl}{q:aY}(h1:os=[q])(hq:J7 q=b)(h2:e.kill=none)(h3:e.new=none)(h4:e.tz=none∨∃l q',e.tz=some (c0.set l q')∧J7 q'=b) :
  (∀o,o∈os→J7 o=b)∧e.kill=none∧e.new=none∧∀p,e.tz=some p→∀l o,p l=some o→J7 o=b:=by
 refine⟨fun o ho=>?_,h2,h3,fun p hp l o hl=>?_⟩
 ·rw[h1,bi] at ho;rw[ho];exact hq
 ·rcases h4 with h4|⟨l',q',h4,hq'⟩
  ·rw[h4] at hp;cases hp
  ·rw[h4] at hp;cases hp;unfold c8 at hl;split at hl
   ·cases hl;exact hq'
   ·cases hl
def QK{op:Op}{b:Bool}(h:Hb op=some b)(f:FR):C3 b (jt P C f op):=by
 unfold Hb at h;split at h
 ·cases h
  (try simp only[jt])
  unfold p9;split
  ·intro os e hl he;simp only at he;split at he
   ·cases he;exact L7 rfl rfl rfl rfl (.inl rfl)
   ·cases he
  ·exact Ej _
  ·exact sB
 ·cases h
  (try simp only[jt])
  unfold eW;split
  ·intro os e hl he;simp only at he;split at he
   ·cases he;exact L7 rfl rfl rfl rfl (.inr ⟨_,_,rfl,rfl⟩)
   ·cases he
  ·exact sB
 ·cases h
  (try simp only[jt])
  unfold kT;split
  ·intro os e hl he;simp only at he;split at he
   ·cases he;exact L7 rfl rfl rfl rfl (.inl rfl)
   ·cases he
  ·exact sB
 ·cases h
  (try simp only[jt])
  unfold nT;split
  ·intro os e hl he;simp only at he;split at he
   ·cases he;exact L7 rfl rfl rfl rfl (.inr ⟨_,_,rfl,rfl⟩)
   ·cases he
  ·exact sB
 ·cases h
def QJ{o:Oper}{b:Bool}(h:Hb o.op=some b)(f:FR):C3 b (ji P C ops f o):=by
 unfold ji;split
 ·exact QK h f
 ·split
  ·split
   ·split
    ·exact QK h f
    ·exact Ej _
   ·exact Ej _
   ·exact sB
  ·exact sB
def Wl{b b':Bool}(hb:b≠b'){g g':GF}(hg:C3 b g)(ue:C3 b' g'){U:Nat→Prop}{σ:St}{K:MV→MV→(Nat→Prop)→St→Prop}(h:gs U σ g fun v U1 σ1=>gs U1 σ1 g' (K v)):∀l,l∈g.1→l∉g'.1:=by
 intro l hl na;obtain⟨os,e,h1,h2,-,h4,h5⟩:=h;obtain⟨k1,k2,k3,k4⟩:=hg os e (jV h1) h2;obtain⟨v,hv⟩:=h4 0;obtain⟨os',e',q1,q2,-,-,-⟩:=h5 v U (e.app σ) (by unfold jl.out;rw[k3];exact⟨hv,rfl,rfl⟩);obtain⟨w1,-⟩:=ue os' e' (jV q1) q2;have at_:∀{os:List aY} {rd:List Nat} {τ:St},rd.map τ=os.map some→l∈rd→∃o,o∈os∧τ l=some o:=fun {os rd τ} hm ku=>by
  have:τ l∈os.map some:=by rw[←hm];exact be.2 ⟨l,ku,rfl⟩
  obtain⟨o,ho,e⟩:=be.1 this;exact⟨o,ho,e.symm⟩
 obtain⟨o1,m1,e1⟩:=at_ h1 hl;obtain⟨o2,m2,e2⟩:=at_ q1 na;have r2:=w1 o2 m2;have:J7 o2=b:=by
  unfold jl.app at e2;split at e2
  ·unfold jl.upl at e2;split at e2
   ·rename_i u hu;exact k4 u hu l o2 e2
   ·cases e2
  ·rw[if_neg (by rw[k2];simp),e1] at e2;cases e2;exact k1 o1 m1
 exact hb (this.symm.trans r2)
def sta:Op→Option (TypeId×Nat)
 |.store t (.tmp a) _=>some (t,a)
 |_=>none
def Ws(X:RX)(x y:Op):Bool:=match sta x,sta y with
 |some (t,a),some (t',b)=>X.Fs.any fun p=>(p.t==a&&p.st==t)&&X.Fs.any fun q=>(q.t==b&&q.st==t')&&(p.s==q.s&&(decide (p.off+p.n≤q.off) || decide (q.off+q.n≤p.off)))
 |_,_=>false
def zZ(X:RX)(ops:Array Oper)(x y:Oper):Bool:=TJ X.u ops x y || (x.apart ops y&&((VP X x.op y.op || VW x.op y.op) || Ws X x.op y.op))
def Ei(X:RX)(r:Nat):Op→Bool
 |.fieldAddr _ (.tmp s) _|.move (.tmp s)=>zQ X s==some r
 |_=>false
def Wz(p:FX):Op→Bool
 |.fieldAddr ty (.tmp s) k=>(ty==p.ty&&s==p.s)&&k==p.k
 |_=>false
def EG(X:RX)(o:Oper):Bool:=match o.dst with
 |some d=>!X.Ds.contains d&&X.Rs.all fun p=>p.1 != d || Ei X p.2 o.op
 |none=>true
def EF(X:RX)(o:Oper):Bool:=match o.dst with
 |some d=>X.Fs.all fun p=>p.s != d&&(p.t != d || Wz p o.op)
 |none=>true
def yC(X:RX)(o:Oper):Bool:=EG X o&&EF X o
def GV(g:GF)(v:MV):Prop:=∃os e l,g.2 os=some e∧e.v l v
def J2{U:Nat→Prop}{σ:St}{g:GF}{k:MV→(Nat→Prop)→St→Prop}(h:gs U σ g k):gs U σ g fun v U' af=>GV g v∧k v U' af:=by
 obtain⟨os,e,h1,h2,h3,h4,h5⟩:=h;refine⟨os,e,h1,h2,h3,h4,fun v U' af ho=>⟨?_,h5 v U' af ho⟩⟩;unfold jl.out at ho;split at ho
 ·exact⟨os,e,0,h2,ho.1⟩
 ·obtain⟨l,-,hv,-⟩:=ho;exact⟨os,e,l,h2,hv⟩
def BE{X:RX}{loc:Nat→Nat→Prop}{f:FR}(h:vw P X loc f){t r:Nat}(hr:zQ X t=some r):r∈X.Ds∧∀l i o,f.get t=.ptr l i o→loc r l:=by
 unfold zQ at hr;split at hr
 ·rename_i hm;cases hr;have hm:t∈X.Ds:=by simpa using hm
  refine⟨hm,fun l i o e=>?_⟩;obtain⟨l',i',o',e',hl⟩:=h.1 t hm;rw[e] at e';cases e';exact hl
 ·obtain⟨p,hp,rfl⟩:=ce.1 hr;have h1:=List.find?_some hp;have h2:=List.mem_of_find?_eq_some hp;obtain⟨h3,h4⟩:=h.2.2.1 p h2;refine⟨h3,fun l i o e=>h4 l i o ?_⟩;have:p.1=t:=by simpa using h1
  rw[this];exact e
def pL{pv:PV}{v:MV}(h:GV (eZ pv) v):∃c,pv=some (c,v):=by obtain⟨os,e,l,h1,h2⟩:=h;simp only[eZ,ce] at h1;obtain⟨x,hx,rfl⟩:=h1;exact⟨x.1,by rw[hx];congr 1;exact Prod.ext rfl h2.symm⟩
def JT{X:RX}{loc:Nat→Nat→Prop}{f:FR}(h:vw P X loc f){r:Nat}{o:Oper}(hd:Ei X r o.op=true){v:MV}(hv:GV (ji P C ops f o) v){l i j:Nat}(e:v=.ptr l i j):loc r l:=by
 subst e;have key:GV (jt P C f o.op) (.ptr l i j)→loc r l:=by
  intro hv;unfold Ei at hd;split at hd
  ·rename_i ty s k sj;rw[sj] at hv;obtain⟨c,hc⟩:=pL hv;have hr:zQ X s=some r:=by simpa using hd
   simp only[yy,eP,aH] at hc;split at hc
   ·split at hc
    ·rename_i l' i' o' hs;simp only[cr,Prod.mk.injEq,MV.ptr.injEq] at hc;rw[←hc.2.1];exact(BE h hr).2 _ _ _ bc
    ·simp at hc
    ·cases hc
   ·cases hc
  ·rename_i s sj;rw[sj] at hv;obtain⟨c,hc⟩:=pL hv;have hr:zQ X s=some r:=by simpa using hd
   simp only[yy,aH,cr,Prod.mk.injEq] at hc;exact(BE h hr).2 _ _ _ hc.2
  ·cases hd
 unfold ji at hv;split at hv
 ·exact key hv
 ·split at hv
  ·split at hv
   ·split at hv
    ·exact key hv
    ·obtain⟨c,hc⟩:=pL hv;simp at hc
   ·obtain⟨c,hc⟩:=pL hv;simp at hc
   ·obtain⟨os,e,l,h1,h2⟩:=hv;simp[cI] at h1
  ·obtain⟨os,e,l,h1,h2⟩:=hv;simp[cI] at h1
def XM{f:FR}{p:FX}{o:Oper}(ho:Wz p o.op=true){v:MV}(hv:GV (ji P C ops f o) v){l i j:Nat}(e:v=.ptr l i j):∃c,eP P p.ty (f.get p.s) p.k=some (c,v):=by
 have key:GV (jt P C f o.op) v→∃c,eP P p.ty (f.get p.s) p.k=some (c,v):=by
  intro hv;unfold Wz at ho;split at ho
  ·rename_i ty s k sj;simp only[aa,beq_iff_eq] at ho;obtain⟨⟨rfl,rfl⟩,rfl⟩:=ho;rw[sj] at hv;exact pL hv
  ·cases ho
 subst e;unfold ji at hv;split at hv
 ·exact key hv
 ·split at hv
  ·split at hv
   ·split at hv
    ·exact key hv
    ·obtain⟨c,hc⟩:=pL hv;simp at hc
   ·obtain⟨c,hc⟩:=pL hv;simp at hc
   ·obtain⟨os,e,l,h1,h2⟩:=hv;simp[cI] at h1
  ·obtain⟨os,e,l,h1,h2⟩:=hv;simp[cI] at h1
def vw.put{X:RX}{loc:Nat→Nat→Prop}{f:FR}(h:vw P X loc f){o:Oper}(hk:yC X o=true){v:MV}(hv:GV (ji P C ops f o) v):vw P X loc (bI f o.dst v):=by
 obtain⟨hk,hkf⟩:EG X o=true∧EF X o=true:=by simpa only[yC,aa] using hk
 refine⟨fun t ht=>?_,h.2.1,fun p hp=>⟨(h.2.2.1 p hp).1,fun l i j e=>?_⟩,fun p hp=>⟨(h.2.2.2 p hp).1,(h.2.2.2 p hp).2.1,fun l i j e=>?_⟩⟩
 ·rw[l6,if_neg]
  ·exact h.1 t ht
  ·rintro⟨e,-⟩;simp only[EG,e,aa,Bool.not_eq_true',List.contains_iff_mem] at hk;simp[ht] at hk
 ·rw[l6] at e;split at e
  ·rename_i hd;simp only[EG,hd.1,aa,a4,ab,bne_iff_ne,ne_eq] at hk;rcases hk.2 p hp with hn|hn
   ·exact absurd rfl hn
   ·exact JT h hn hv e
  ·exact(h.2.2.1 p hp).2 l i j e
 ·have hs:(bI f o.dst v).get p.s=f.get p.s:=by rw[l6,if_neg];rintro⟨q,-⟩;simp only[EF,q,a4,aa,bne_iff_ne,ne_eq] at hkf;exact(hkf p hp).1 rfl
  rw[hs];rw[l6] at e;split at e
  ·rename_i hd;simp only[EF,hd.1,a4,aa,ab,bne_iff_ne,ne_eq] at hkf;rcases (hkf p hp).2 with hn|hn
   ·exact absurd rfl hn
   ·obtain⟨c,hc⟩:=XM hn hv e;exact(h.2.2.2 p hp).2.1 _ c v hc l i j e
  ·exact(h.2.2.2 p hp).2.2 l i j e
def Calm(g:GF):Prop:=g.1=[]∧lS g∧xz g
def C6(pv:PV):Calm (eZ pv):=⟨rfl,(dN pv).2.2.1,(dN pv).2.1⟩
def xW:Calm cI:=⟨rfl,bN.2.2.1,bN.2.1⟩
def GQ(f:FR)(o:Oper):ji P C ops f o=jt P C f o.op∨Calm (ji P C ops f o):=by
 unfold ji;split
 ·exact .inl rfl
 ·split
  ·split
   ·split
    ·exact .inl rfl
    ·exact .inr (C6 _)
   ·exact .inr (C6 _)
   ·exact .inr xW
  ·exact .inr xW
def zB(t:TypeId)(x y:MV):(∃l i o,x=.ptr l i o)∨Calm (eW P t x y):=by cases x<;>first|exact .inl ⟨_,_,_,rfl⟩|exact .inr xW
def TH{f:FR}{op:Op}{t:TypeId}{a:Nat}(h:sta op=some (t,a)):∃y,jt P C f op=eW P t (f.get a) y:=by
 unfold sta at h;split at h
 ·cases h;exact⟨_,rfl⟩
 ·cases h
def QT{X:RX}{loc:Nat→Nat→Prop}{f:FR}(h:vw P X loc f){x o:Oper}(hf:Ws X x.op o.op=true):(Calm (ji P C ops f x)∨Calm (ji P C ops f o)) ∨
  ∃t t' l i a b y y',ji P C ops f x=eW P t (.ptr l i a) y∧ji P C ops f o=eW P t' (.ptr l i b) y'∧(a+(td P t).size≤b∨b+(td P t').size≤a):=by
 unfold Ws at hf;split at hf
 ·rename_i t a t' b hx ho;simp only[List.any_eq_true,aa,ab,beq_iff_eq,decide_eq_true_eq] at hf;obtain⟨p,hp,⟨rfl,rfl⟩,q,hq,⟨rfl,rfl⟩,hs,hd⟩:=hf;rcases GQ (P:=P) (C:=C) (ops:=ops) f x with ex|ex
  ·rcases GQ (P:=P) (C:=C) (ops:=ops) f o with eo|eo
   ·obtain⟨y,ey⟩:=TH (P:=P) (C:=C) (f:=f) hx;obtain⟨y',ey'⟩:=TH (P:=P) (C:=C) (f:=f) ho;rw[ex,eo,ey,ey'];rcases zB (P:=P) p.st (f.get p.t) y with⟨l,i,a,ea⟩|c
    ·rcases zB (P:=P) q.st (f.get q.t) y' with⟨l',i',b,eb⟩|c
     ·obtain⟨o1,g1,r1⟩:=(h.2.2.2 p hp).2.2 l i a ea;obtain⟨o2,g2,r2⟩:=(h.2.2.2 q hq).2.2 l' i' b eb;rw[←hs,g1] at g2;cases g2;refine .inr ⟨p.st,q.st,l,i,a,b,y,y',by rw[ea],by rw[eb],?_⟩;rw[(h.2.2.2 p hp).1,(h.2.2.2 q hq).1];omega
     ·exact .inl (.inr c)
    ·exact .inl (.inl c)
   ·exact .inl (.inr eo)
  ·exact .inl (.inl ex)
 ·cases hf
def N0{cs xs ys:List MV}{o o':Nat}(h:o+xs.length≤cs.length)(h':o'+ys.length≤cs.length)(hd:o+xs.length≤o'∨o'+ys.length≤o):laid (laid cs o xs) o' ys=laid (laid cs o' ys) o xs:=by
 apply List.ext_getElem?;intro i;rw[oY (by rw[lB h];exact h'),oY h,oY (by rw[lB h'];exact h),oY h'];by_cases a:o≤i∧i<o+xs.length
 ·by_cases b:o'≤i∧i<o'+ys.length
  ·omega
  ·(try simp only[if_pos a,if_neg b])
 ·by_cases b:o'≤i∧i<o'+ys.length
  ·(try simp only[if_neg a,if_pos b])
  ·(try simp only[if_neg a,if_neg b])
def LJ{U:Nat→Prop}{σ:St}{t t':TypeId}{l i o o':Nat}{y y':MV}{K:MV→MV→(Nat→Prop)→St→Prop}(hd:o+(td P t).size≤o'∨o'+(td P t').size≤o)
 (hK:∀v u V V' σ,(∀l,V l→V' l)→K v u V σ→K v u V' σ)
 (h:gs U σ (eW P t (.ptr l i o) y) fun v U1 σ1=>gs U1 σ1 (eW P t' (.ptr l i o') y') fun u U2 eh=>K v u U2 eh) :
  gs U σ (eW P t' (.ptr l i o') y') fun u U1 σ1=>∀pr,(∀l,U1 l→pr l)→gs pr σ1 (eW P t (.ptr l i o) y) fun v U2 eh=>K v u U2 eh:=by
 obtain⟨os,e,h1,h2,h3,-,h5⟩:=h;simp only[eW] at h1 h2;split at h2
 ·rename_i tt ee xs;cases h2;simp only[aI,a7,b5,and_true] at h1;obtain⟨c1,c2,c3,c4,c5⟩:=h3;have hg:∀A,(xs.set i A).getD i []=A:=fun A=>by simp[bz,List.getElem?_set,c2]
  have g:=h5 .bw U (σ.set l (.row tt ee (xs.set i (laid (xs.getD i []) o y.cells)))) ⟨rfl,rfl,by rw[nL]⟩;obtain⟨os',e',k1,k2,k3,-,k5⟩:=g;simp only[eW] at k1 k2;split at k2
  ·rename_i tt' ee' xs';cases k2;simp only[aI,a7,b5,and_true,aD,cr,aY.row.injEq] at k1;obtain⟨rfl,rfl,rfl⟩:=k1;obtain⟨d1,d2,d3,d4,d5⟩:=k3;rw[hg,lB c5] at d5;refine⟨[.row tt ee xs],⟨_,none,some (c0.set l (.row tt ee (xs.set i (laid (xs.getD i []) o' y'.cells)))),none,fun _ u=>u=.bw⟩,by simp[eW,h1],rfl,⟨d1,c2,d3,d4,d5⟩,fun _=>⟨.bw,rfl⟩,fun u U1 σ1 ho pr hu=>?_⟩;obtain⟨rfl,rfl,rfl⟩:=ho;rw[nL];refine⟨[.row tt ee (xs.set i (laid (xs.getD i []) o' y'.cells))],⟨_,none,some (c0.set l (.row tt ee ((xs.set i (laid (xs.getD i []) o' y'.cells)).set i (laid ((xs.set i (laid (xs.getD i []) o' y'.cells)).getD i []) o y.cells)))),none,fun _ u=>u=.bw⟩,by simp[eW,aD],rfl,⟨c1,by simpa using c2,c3,c4,by rw[hg,lB d5];exact c5⟩,fun _=>⟨.bw,rfl⟩,fun v U2 eh ho=>?_⟩;obtain⟨rfl,rfl,rfl⟩:=ho;rw[nL];refine hK _ _ U1 _ _ hu ?_;have r:=k5 .bw U1 _ ⟨rfl,rfl,rfl⟩;rw[nL] at r;have es:∀A B:aY,(σ.set l A).set l B=σ.set l B:=fun A B=>by
    funext k
    (try simp only[c8])
    split<;>rfl
   rw[es] at r ⊢;rw[hg] at r ⊢;rw[List.set_set] at r ⊢;rw[N0 d5 c5 oM];exact r
  ·cases k2
 ·cases h2
def C9{X:RX}{loc:Nat→Nat→Prop}{f:FR}(h:vw P X loc f)(hC:oO X loc C){o:Oper}{r:Nat}(ho:dsr X o.op=some r):r∈X.Ds∧∀l,l∈(ji P C ops f o).1→loc r l:=by
 have ld:∀{t:Nat},zQ X t=some r→r∈X.Ds∧∀g:MV→GF,(∀v,(∀l i j,v≠.ptr l i j)→(g v).1=[])→(∀l i j,(g (.ptr l i j)).1=[l])→∀l,l∈(g (f.get t)).1→loc r l:=by
  intro t ht;obtain⟨h1,h2⟩:=BE h ht;refine⟨h1,fun g hg1 hg2 l hl=>?_⟩;by_cases hp:∃l' i j,f.get t=.ptr l' i j
  ·obtain⟨l',i,j,e⟩:=hp;rw[e,hg2] at hl;rw[bi.1 hl];exact h2 _ _ _ e
  ·rw[hg1 _ (fun l i j e=>hp ⟨l,i,j,e⟩)] at hl;cases hl
 have key:r∈X.Ds∧∀l,l∈(jt P C f o.op).1→loc r l:=by
  unfold dsr at ho;split at ho
  ·rename_i ty u sj;obtain⟨h1,h2⟩:=ld ho;refine⟨h1,fun l hl=>?_⟩;rw[sj] at hl;exact h2 (p9 P ty) (fun v hv=>by unfold p9;split<;>first|rfl|exact absurd rfl (hv _ _ _)) (fun l i j=>rfl) l hl
  ·rename_i ty u y sj;obtain⟨h1,h2⟩:=ld ho;refine⟨h1,fun l hl=>?_⟩;rw[sj] at hl;exact h2 (fun v=>eW P ty v (aH f y)) (fun v hv=>by unfold eW;split<;>first|rfl|exact absurd rfl (hv _ _ _)) (fun l i j=>rfl) l hl
  ·rename_i x args ts sj;unfold oO at hC;replace hC:=hC.2;rw[ho] at hC;simp only at hC;refine⟨hC.1,fun l hl=>?_⟩;rw[sj] at hl;simp only[jt] at hl;split at hl
   ·unfold jE at hl;split at hl
    ·rename_i hc;exact hC.2 _ _ _ hc l hl
    ·unfold Us at hl;split at hl<;>cases hl
    ·rename_i hc;exact hC.2 _ _ _ hc l hl
    ·cases hl
   ·cases hl
  ·cases ho
 refine⟨key.1,fun l hl=>?_⟩;unfold ji at hl;split at hl
 ·exact key.2 l hl
 ·split at hl
  ·split at hl
   ·split at hl
    ·exact key.2 l hl
    ·simp[eZ] at hl
   ·simp[eZ] at hl
   ·simp[cI] at hl
  ·simp[cI] at hl
def oO.u{X:RX}{loc:Nat→Nat→Prop}(h:oO X loc C):pq X.u C:=h.1
def pull{K:FR→(Nat→Prop)→St→Prop}(hK:KOk K){X:RX}{loc:Nat→Nat→Prop}(hC:oO X loc C)(l2:List Oper)(o:Oper):∀(l1:List Oper) (f:FR) (U:Nat→Prop) (σ:St),wj U σ→Fin U→vw P X loc f→(∀x,x∈l1→zZ X ops x o=true)→(∀x,x∈l1→yC X x=true) →
  gl P C ops K (l1++o::l2) f U σ→gs U σ (ji P C ops f o) fun v U1 σ1=>∀pr,(∀l,U1 l→pr l)→gl P C ops K (l1++l2) (bI f o.dst v) pr σ1:=by
 intro l1
 induction l1 with
 |nil =>
  intro f U σ hd hf _ _ _ h;exact x8 h fun v U' af hh pr hu=>Mq hK _ _ _ U' pr af (.refl _) hu hh
 |cons x l1 ih =>
  intro f U σ hd hf hD hsw hkp h;have hx:=hsw x ax;have wx:=T4 (P:=P) (C:=C) (ops:=ops) hC.u f x;have wo:=T4 (P:=P) (C:=C) (ops:=ops) hC.u f o;have hap:x.apart ops o=true:=by simp only[zZ,TJ,ab,aa] at hx;rcases hx with⟨hap,-⟩|⟨hap,-⟩<;>exact hap
  obtain⟨a1,a2,a3⟩:=Oper.apart_spec hap;simp only[bp,gl] at h;have h':=Al (J2 h) hd hf (k':=fun v U1 σ1=>gs U1 σ1 (ji P C ops f o) fun u U2 eh=>∀ya,(∀l,U2 l→ya l)→gl P C ops K (l1++l2) (bI (bI f x.dst v) o.dst u) ya eh) (fun v U1 σ1 Zy hf1 _ ⟨ZB,hh⟩=>by
   have:=ih (bI f x.dst v) U1 σ1 Zy hf1 (hD.put (hkp x ax) ZB) (fun y hy=>hsw y (by simp[hy])) (fun y hy=>hkp y (by simp[hy])) hh
   rwa [Mp a1] at this) wx.1
  have hK':∀(v u:MV) (V V':Nat→Prop) (σ:St),(∀l,V l→V' l)→(∀ya:Nat→Prop,(∀l,V l→ya l)→gl P C ops K (l1++l2) (bI (bI f x.dst v) o.dst u) ya σ)→∀ya:Nat→Prop,(∀l,V' l→ya l)→gl P C ops K (l1++l2) (bI (bI f x.dst v) o.dst u) ya σ:=fun v u V V' σ hv hh ya hu=>hh ya fun l hl=>hu l (hv l hl);have hc:((((ji P C ops f o).1=[]∨lS (ji P C ops f x))∧((ji P C ops f x).1=[]∨xz (ji P C ops f o))∧(xz (ji P C ops f x)∨xz (ji P C ops f o)))∨∀l,l∈(ji P C ops f x).1→l∉(ji P C ops f o).1) ∨
    gs U σ (ji P C ops f o) fun u U1 σ1=>∀pr,(∀l,U1 l→pr l)→gs pr σ1 (ji P C ops f x) fun v U2 eh=>∀ya,(∀l,U2 l→ya l)→gl P C ops K (l1++l2) (bI (bI f x.dst v) o.dst u) ya eh:=by
   simp only[zZ,TJ,ab,aa] at hx;rcases hx with⟨-,⟨c1,c2⟩,c3⟩|⟨-,(hdj|hdj)|hdj⟩
   ·exact .inl (.inl ⟨c1.imp wo.2.2.2 wx.2.1,c2.imp wx.2.2.2 wo.2.2.1,c3.imp wx.2.2.1 wo.2.2.1⟩)
   ·refine .inl (.inr ?_);unfold VP at hdj;split at hdj
    ·rename_i a b ha hb;obtain⟨m1,r1⟩:=C9 (P:=P) (C:=C) (ops:=ops) hD hC ha;obtain⟨m2,r2⟩:=C9 (P:=P) (C:=C) (ops:=ops) hD hC hb;intro l h1 h2;have e1:=r1 l h1;have e2:=r2 l h2;exact hD.2.1 a b m1 m2 (by simpa using hdj) l e1 e2
    ·cases hdj
   ·refine .inl (.inr ?_);unfold VW at hdj;split at hdj
    ·rename_i a b ha hb;exact Wl (by simpa using hdj) (QJ ha f) (QJ hb f) h'
    ·cases hdj
   ·rcases QT (P:=P) (C:=C) (ops:=ops) hD hdj with(q|q)|⟨t,t',l,i,a,b,y,y',q1,q2,q3⟩
    ·exact .inl (.inl ⟨.inr q.2.1,.inl q.1,.inl q.2.2⟩)
    ·exact .inl (.inl ⟨.inl q.1,.inr q.2.2,.inr q.2.2⟩)
    ·refine .inr ?_;rw[q1,q2] at h' ⊢;exact LJ q3 hK' h'
  have h2:gs U σ (ji P C ops f o) fun u U1 σ1=>∀pr,(∀l,U1 l→pr l)→gs pr σ1 (ji P C ops f x) fun v U2 eh=>∀ya,(∀l,U2 l→ya l)→gl P C ops K (l1++l2) (bI (bI f x.dst v) o.dst u) ya eh:=hc.elim (fun hc=>Uw (K:=fun v u U2 eh=>∀ya,(∀l,U2 l→ya l)→gl P C ops K (l1++l2) (bI (bI f x.dst v) o.dst u) ya eh) hd hf wx.1 wo.1 hc hK' h') fun h=>h;refine x8 h2 fun u U1 σ1 hh pr hu=>?_
  (try simp only[bp,gl])
  rw[Mp a3];refine x8 (hh pr hu) fun v U2 eh hk=>?_;exact Mq hK _ _ _ U2 U2 eh (qd.comm f v u a2) (fun _ h=>h) (hk U2 fun _ h=>h)
end
