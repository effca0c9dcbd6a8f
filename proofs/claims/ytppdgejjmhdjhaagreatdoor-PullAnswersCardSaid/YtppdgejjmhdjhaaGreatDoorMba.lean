/- Parts of the proof; conditions: as its theorems name them. -/
import Derived.WalkKit
import Derived.Orders
import Derived.OrdersIn
import Derived.TacticsIn
import Derived.RangeFuncCalls
import Derived.Deep.Quiet
import Derived.ChangeKeysEq
import Derived.MapKept
import Derived.Laws.BytesArg
set_option linter.all false
set_option maxHeartbeats 8000000
set_option maxRecDepth 100000
namespace Go.Proofs.YtppdgejjmhdjhaaGreatDoor
open BitVec renaming ofInt->aa
open Bool renaming false_eq_true->ab,and_eq_true->ag,and_eq_true_iff->ah,not_true->ak
open Builtin renaming firstCells->al,zeroCells->am,append_->ao,lenOf->ap,len_->au,clear_->av,nextslicecap->az
open Go.ByteArray renaming toList_eq->aI
open Instr renaming sliceBounds->aN,sliceAt->a1,slice->a2,indexAt->a3,buildSlice->a4,makeSlice->a5,fill->a6,fieldAt->a7,index->a9,build->bb
open IntKind renaming i64->be,signed->bg,bits->bi,max->bj
open List renaming getElem?_append_left->bp,getElem?_append_right->bs,getElem?_eq_some_iff->bv,getElem?_map->bx,getElem?_take->bz,getElem?_drop->b0,eq_nil_of_length_eq_zero->b3,replicate->b4,getElem?_cons_zero->b5,length_map->b6,flatten_cons->b7,map_cons->b8,length_drop->ca,length_cons->cb,length_append->cd,getElem?_cons_succ->ce,getElem?_toArray->cf,append_assoc->ci,take_length->co,getElem?_replicate->cp,mem_of_getElem?->cr,drop_zero->ct,flatMap_cons->cS,getD->c0,append_nil->c8,range->da,drop_eq_nil_of_le->de,replicate_succ->df
open Nat renaming add_mul->dj,le_refl->dk,mul_le_mul_right->dl,one_mul->dn,add_assoc->dt,zero_mul->du,add_zero->d0,sub_zero->d1,le_succ->d2,zero_add->d3,le_trans->d4,eq_zero_or_pos->d5
open Ne renaming symm->d6
open Obj renaming deferred->d7
open Op renaming equalIn->d8,equal->d9,bytesLess->ea,unary->eb,eqFields->ee
open Option renaming map_eq_some_iff->eg,isSome_none->em,none->eo,isSome_some->er
open Option.some renaming injEq->et,inj->eu
open Prod.mk renaming injEq->ew
open Result renaming andThen_ok->ex
open Sem renaming run_pure->ey,run_bind->ez,run_ite->e5
open _root_.Array renaming getD_eq_getD_getElem?->e6,getElem?_eq_getElem->e7,getElem?_eq_some_iff->e8,getElem?_toList->e9,getElem?_setIfInBounds->fb,getElem?_eq_none->fe,getElem?_append_left->ff,length_toList->fi,ext_getElem?->fm,toList_map->fq,range->fu,getElem?_append_right->fv,toList_zipIdx->f0,getElem?_map->f3,foldl_toList->f4,append_assoc->f5,size_append->f6
def oM{p:Prop}(h:p:=by omega):p:=h
def bc{p:Prop}(h:p:=by assumption):p:=h
def ax{p:Prop}(h:p:=by simp):p:=h
def br{p:Prop}(h:p:=by decide):p:=h
inductive MV where
 |bw
 |bool (b:Bool)
 |int (k:IntKind) (n:Int)
 |str (s:ByteArray)
 |ej
 |ptr (l i o:Nat)
 |cg (cs:List MV)
 |aK
 |aj (e:Nat) (xs:List (List MV)) (t:Bool)
 |vec (e l lo n:Nat)
 |kp
 |db (l:Nat)
 |cw
 |fn (f:Fn) (first cap:List MV)
 |qi
 |iface (t:TypeId) (v:MV)
 |agg (cs:List MV)
 |ar (vs:List MV)
 deriving Inhabited
def MV.aP:MV→Bool
 |.bw|.agg _|.ar _=>false
 |_=>true
def MV.cells:MV→List MV
 |.agg cs=>cs
 |v=>[v]
inductive aY where
 |row (t:TypeId) (e:Nat) (xs:List (List MV))
 |mp (es:List (MV×MV))
 |mk (es:List (MV×MV)) (st:List Nat) (ck:Nat)
 |it (m:Nat) (ck:Nat) (seen:List Nat)
structure Place where
 jh:Option Nat
 bo:Nat
 e:Nat
 C:Nat
structure bd where
 snap:Addr→Option Value
 obj:Nat→Option Place
 base:Nat
structure bd.le (Φ Φ':bd):Prop where
 snap:∀a v,Φ.snap a=some v→Φ'.snap a=some v
 obj:∀l p,Φ.obj l=some p→Φ'.obj l=some p
 base:Φ'.base=Φ.base
def bd.le.refl(Φ:bd):Φ.le Φ:=⟨fun _ _ h=>h,fun _ _ h=>h,rfl⟩
def bd.le.trans{a b c:bd}(h:a.le b)(k:b.le c):a.le c:=⟨fun x v q=>k.snap x v (h.snap x v q),fun x v q=>k.obj x v (h.obj x v q),k.base.trans h.base⟩
inductive Rel (Φ:bd):Value→MV→Prop where
 |bw (v:Value):Rel Φ v .bw
 |bool (b:Bool):Rel Φ (.bool b) (.bool b)
 |int (k:IntKind) (n:Int):Rel Φ (.int k n) (.int k n)
 |str (s:ByteArray):Rel Φ (.string s) (.str s)
 |ej:Rel Φ (.pointer none) .ej
 |ptr {l i o R:Nat} {p:Place} (ho:Φ.obj l=some p) (hb:p.jh=some R):Rel Φ (.pointer (some ⟨R,p.bo+i*p.e+o,none⟩)) (.ptr l i o)
 |cg {b off:Nat} {cs:List MV} (vs:Nat→Value) (hc:∀(j:Nat) (m:MV),cs[j]?=some m→m.aP=true∧Φ.snap ⟨b,off+j,none⟩=some (vs j))
   (hr:∀(j:Nat) (m:MV),cs[j]?=some m→Rel Φ (vs j) m):Rel Φ (.pointer (some ⟨b,off,none⟩)) (.cg cs)
 |aK:Rel Φ (.slice none 0 0) .aK
 |nj (e:Nat) (t:Bool):Rel Φ (.slice none 0 0) (.aj e [] t)
 |qa (a:Addr) (e cap:Nat) (t:Bool) (ht:t=true→cap=0) (hm:cap≤maxLen):Rel Φ (.slice (some a) 0 cap) (.aj e [] t)
 |aj {b off e len cap:Nat} {xs:List (List MV)} {t:Bool} (hl:xs.length=len) (h0:0<len) (dv:len≤cap) (hm:cap≤maxLen) (ht:t=true→cap=len)
   (hx:∀(i:Nat) (x:List MV),xs[i]?=some x→x.length=e) (vs:Nat→Nat→Value)
   (hc:∀(i:Nat) (x:List MV) (j:Nat) (m:MV),xs[i]?=some x→x[j]?=some m→m.aP=true∧Φ.snap ⟨b,off+(i*e+j),none⟩=some (vs i j))
   (hr:∀(i:Nat) (x:List MV) (j:Nat) (m:MV),xs[i]?=some x→x[j]?=some m→Rel Φ (vs i j) m):Rel Φ (.slice (some ⟨b,off,none⟩) len cap) (.aj e xs t)
 |vec {l lo n cap R:Nat} {p:Place} (ho:Φ.obj l=some p) (hb:p.jh=some R) (dv:lo+cap=p.C) (hn:n≤cap):Rel Φ (.slice (some ⟨R,p.bo+lo*p.e,none⟩) n cap) (.vec p.e l lo n)
 |ZW {l lo:Nat} {p:Place} (a:Addr) (ho:Φ.obj l=some p) (hC:lo=p.C):Rel Φ (.slice (some a) 0 0) (.vec p.e l lo 0)
 |ZX {l:Nat} {p:Place} (ho:Φ.obj l=some p) (hb:p.jh=none) (hC:p.C=0):Rel Φ (.slice none 0 0) (.vec p.e l 0 0)
 |kp:Rel Φ (.map none) .kp
 |db {l R:Nat} {p:Place} (ho:Φ.obj l=some p) (hb:p.jh=some R):Rel Φ (.map (some R)) (.db l)
 |cw:Rel Φ .nilFunc .cw
 |fn (f:Fn) {first cap:Array Value} {ms ns:List MV} (h1:first.size=ms.length) (h2:cap.size=ns.length)
   (r1:∀(i:Nat) m,ms[i]?=some m→Rel Φ (first.getD i undef) m) (r2:∀(i:Nat) m,ns[i]?=some m→Rel Φ (cap.getD i undef) m):Rel Φ (.func f first cap) (.fn f ms ns)
 |qi:Rel Φ .nilIface .qi
 |iface (t:TypeId) {v:Value} {m:MV} (h:Rel Φ v m):Rel Φ (.iface t v) (.iface t m)
 |agg {cs:Array Value} {ms:List MV} (h:cs.size=ms.length) (hc:∀(i:Nat) m,ms[i]?=some m→m.aP=true) (r:∀(i:Nat) m,ms[i]?=some m→Rel Φ (cs.getD i undef) m):Rel Φ (.agg cs) (.agg ms)
 |ar {cs:Array Value} {ms:List MV} (h:cs.size=ms.length) (r:∀(i:Nat) m,ms[i]?=some m→Rel Φ (cs.getD i undef) m):Rel Φ (.tuple cs) (.ar ms)
def Rel.HG{Φ Φ':bd}(h1:∀a v,Φ.snap a=some v→Φ'.snap a=some v)(h2:∀l p,Φ.obj l=some p→Φ'.obj l=some p){v:Value}{m:MV}(h:Rel Φ v m):Rel Φ' v m:=by
 induction h with
 |bw v=>exact .bw v
 |bool b=>exact .bool b
 |int k n=>exact .int k n
 |str s=>exact .str s
 |ej=>exact .ej
 |ptr ho hb=>exact .ptr (h2 _ _ ho) hb
 |cg vs hc hr ih=>exact .cg vs (fun j m hm=>⟨(hc j m hm).1,h1 _ _ (hc j m hm).2⟩) ih
 |aK=>exact .aK
 |nj e t=>exact .nj e t
 |qa a e cap t ht hm=>exact .qa a e cap t ht hm
 |aj hl h0 dv hm ht hx vs hc hr ih=>exact .aj hl h0 dv hm ht hx vs (fun i x j m a b=>⟨(hc i x j m a b).1,h1 _ _ (hc i x j m a b).2⟩) ih
 |vec ho hb dv hn=>exact .vec (h2 _ _ ho) hb dv hn
 |ZW a ho hC=>exact .ZW a (h2 _ _ ho) hC
 |ZX ho hb hC=>exact .ZX (h2 _ _ ho) hb hC
 |kp=>exact .kp
 |db ho hb=>exact .db (h2 _ _ ho) hb
 |cw=>exact .cw
 |fn f h1 h2 _ _ r1 r2=>exact .fn f h1 h2 r1 r2
 |qi=>exact .qi
 |iface t _ ih=>exact .iface t ih
 |agg h hc _ ih=>exact .agg h hc ih
 |ar h _ ih=>exact .ar h ih
def Rel.mono{Φ Φ':bd}(hle:Φ.le Φ'){v:Value}{m:MV}(h:Rel Φ v m):Rel Φ' v m:=h.HG hle.snap hle.obj
def Rel.MN{Φ:bd}{v:Value}{m:MV}(h:Rel Φ v m)(hm:m.aP=true):v.oneCell'=true:=by cases h<;>first|rfl|(simp[MV.aP] at hm)
def iX(Φ:bd)(vs:Array Value)(ms:List MV):Prop:=vs.size=ms.length∧∀(i:Nat) m,ms[i]?=some m→Rel Φ (vs.getD i undef) m
def iX.mono{Φ Φ':bd}(hle:Φ.le Φ'){vs:Array Value}{ms:List MV}(h:iX Φ vs ms):iX Φ' vs ms:=⟨h.1,fun i m hm=>(h.2 i m hm).mono hle⟩
structure FR where
 n:Nat
 l:List (Nat×MV)
 d:List (FuncId×List MV)
def cV:List (Nat×MV)→Nat→MV
 |[],_=>.bw
 |(k,v)::r,t=>if t=k then v else cV r t
def FR.get(f:FR)(t:Nat):MV:=cV f.l t
def dP(Φ:bd)(tmps:Array Value)(f:FR):Prop:=tmps.size=f.n∧∀t,Rel Φ (tmps.getD t undef) (f.get t)
def dP.mono{Φ Φ':bd}(hle:Φ.le Φ'){vs:Array Value}{f:FR}(h:dP Φ vs f):dP Φ' vs f:=⟨h.1,fun t=>(h.2 t).mono hle⟩
def eF(Φ:bd)(w:World):List Deferred→List (FuncId×List MV)→Prop
 |[],d=>d=[]∧Φ.base≤w.heap.size
 |x::xs,d=>(∃D,x.target=.collected D∧Φ.base≤D∧w.heap[D]?=some (d7 (some []))∧(∀y,y∈xs→y.target≠.collected D)∧eF Φ w xs d) ∨
   (∃g ms r cap,d=(g,ms)::r∧x.target=.fn (.func g) cap∧iX Φ (x.args++cap) ms∧eF Φ w xs r)
theorem eF.base{Φ:bd}{w:World}:∀{ds:List Deferred} {d:List (FuncId×List MV)},eF Φ w ds d→Φ.base≤w.heap.size
 |[],_,h=>h.2
 |_::_,_,.inl ⟨_,_,_,_,_,h⟩=>h.base
 |_::_,_,.inr ⟨_,_,_,_,_,_,_,h⟩=>h.base
theorem eF.mono{Φ Φ':bd}{w w':World}(hle:Φ.le Φ')(dq:w.heap.size≤w'.heap.size)(hw:∀D:Nat,w.heap[D]?=some (d7 (some []))→w'.heap[D]?=some (d7 (some []))):∀{ds:List Deferred} {d:List (FuncId×List MV)},eF Φ w ds d→eF Φ' w' ds d
 |[],_,h=>⟨h.1,by rw[hle.base];exact d4 h.2 dq⟩
 |_::_,_,.inl ⟨D,h1,h2,h3,h4,h5⟩=>.inl ⟨D,h1,by rw[hle.base];exact h2,hw D h3,h4,h5.mono hle dq hw⟩
 |_::_,_,.inr ⟨g,ms,r,cap,h1,h2,h3,h4⟩=>.inr ⟨g,ms,r,cap,h1,h2,h3.mono hle,h4.mono hle dq hw⟩
abbrev St:=Nat→Option aY
def St.set(σ:St)(l:Nat)(o:aY):St:=fun k=>if k=l then some o else σ k
def St.del(σ:St)(l:Nat):St:=fun k=>if k=l then none else σ k
def St.none:St:=fun _=>eo
def FZ(t:TypeId):Bool:=decide (t=5)
def eT(Φ:bd)(w:World)(l:Nat):aY→Prop
 |.row t e xs=>∃p,Φ.obj l=some p∧p.e=e∧xs.length≤p.C∧p.C≤maxLen∧(∀(i:Nat) (x:List MV),xs[i]?=some x→x.length=e) ∧
   match p.jh with
   |eo=>p.C=0
   |some R=>∃(c:Array Value) (fz:Nat×Nat),w.heap[R]?=some (.cells c t fz)∧(fz.2≤fz.1∨FZ t=true∧c.size≤fz.1)∧p.bo+p.C*e≤c.size ∧
     ∀(i:Nat) (x:List MV) (j:Nat) (m:MV),xs[i]?=some x→x[j]?=some m→m.aP=true∧∃v,c[p.bo+(i*e+j)]?=some v∧Rel Φ v m
 |.mp es=>∃p R,Φ.obj l=some p∧p.jh=some R∧∃(c:Array MapEntry) (clock:Nat),w.heap[R]?=some (.map c clock)∧(c.size=es.length∧Go.MapKept.Stamped c clock) ∧
   ∀(i:Nat) (x:MV×MV),es[i]?=some x→Rel Φ (c.getD i default).key x.1∧Rel Φ (c.getD i default).val x.2
 |.mk es st ck=>∃p R,Φ.obj l=some p∧p.jh=some R∧∃(c:Array MapEntry),w.heap[R]?=some (.map c ck)∧(c.size=es.length∧Go.MapKept.Stamped c ck∧c.toList.map (·.born)=st) ∧
   ∀(i:Nat) (x:MV×MV),es[i]?=some x→Rel Φ (c.getD i default).key x.1∧Rel Φ (c.getD i default).val x.2
 |.it m ck seen=>∃p R pm Rm,Φ.obj l=some p∧p.jh=some R∧p.bo=0∧Φ.obj m=some pm∧pm.jh=some Rm∧w.heap[R]?=some (.mapIter (some Rm) ck seen.toArray ck)
def GT:Nat→Nat→Option Value:=fun g i=>if g=0 then([0,1,28,2,29,14,24,3,30,22,20,15,25,17,4,8,31,27,13,23,21,19,16,7,26,12,18,6,11,5,10,9].map fun n:Int=>Value.int .u8 n)[i]? else none
def bd.fin(Φ:bd):Prop:=(∃n,∀l,n≤l→Φ.obj l=eo)∧∀l p,Φ.obj l=some p→p.bo=0
def GI:List Nat:=[1]
def bd.ints(Φ:bd):Prop:=∀g,g∈GI→∃m,Φ.snap ⟨g,0,none⟩=some (.int .i64 m)
def bd.good(Φ:bd):Prop:=Φ.fin∧(∀g i v,GT g i=some v→Φ.snap ⟨g,i,none⟩=some v)∧Φ.ints
def bd.ints.mono{Φ Φ':bd}(h:Φ.ints)(hle:∀a v,Φ.snap a=some v→Φ'.snap a=some v):Φ'.ints:=fun g hg=>(h g hg).imp fun m hm=>hle _ _ hm
structure Inv (Φ:bd) (w:World) (σ:St):Prop where
 own:∀l o,σ l=some o→eT Φ w l o
 inj:∀l l' o o' p p' R,σ l=some o→σ l'=some o'→Φ.obj l=some p→Φ.obj l'=some p'→p.jh=some R→p'.jh=some R→l=l'
 snap:∀a v,Φ.snap a=some v→w.cell? a=some v
 apart:∀l o p R a v,σ l=some o→Φ.obj l=some p→p.jh=some R→Φ.snap a=some v→a.block≠R
 fresh:Φ.good
def aV(Φ:bd)(σ:St)(R:Nat):Prop:=∃l o p,σ l=some o∧Φ.obj l=some p∧p.jh=some R
def DR:Bool:=false
def ki(w:World):Nat:=if DR=true then w.drawn else 0
def lO{w w':World}(h:w.drawn≤w'.drawn):ki w≤ki w':=by
 unfold ki;split
 ·exact h
 ·exact dk _
structure Step (Φ:bd) (σ:St) (w:World) (Φ':bd) (af:St) (w':World):Prop where
 le:Φ.le Φ'
 os:w'.os=w.os
 tape:w'.tape=w.tape
 output:w'.output=w.output
 drawn:ki w≤ki w'
 size:w.heap.size≤w'.heap.size
 block:∀k,k<w.heap.size→¬aV Φ σ k→w'.heap[k]?=w.heap[k]?
 cl:∀a v,Φ'.snap a=some v→Φ.snap a=some v∨w.heap.size≤a.block∨aV Φ σ a.block
 jc:∀l o,af l=some o→(∃o',σ l=some o')∨Φ.obj l=eo
 cz:∀R,aV Φ' af R→aV Φ σ R∨w.heap.size≤R
def Inv.Bl{Φ:bd}{w:World}{σ:St}(hi:Inv Φ w σ){D:Nat}(h:∀c t fz,w.heap[D]?≠some (.cells c t fz))(h':∀c k,w.heap[D]?≠some (.map c k))(h2':∀m a b c,w.heap[D]?≠some (.mapIter m a b c)):¬aV Φ σ D:=by
 rintro⟨l,o,p,h1,h2,h3⟩;have:=hi.own l o h1;cases o with
 |row t e xs =>
  obtain⟨p',e1,_,_,_,_,e2⟩:=this;rw[e1] at h2;cases h2;rw[h3] at e2;obtain⟨c,fz,e3,_⟩:=e2;exact h _ _ _ e3
 |mp es =>
  obtain⟨p',R,e1,e0,c,k,e3,_⟩:=this;rw[e1] at h2;cases h2;rw[h3] at e0;cases e0;exact h' _ _ e3
 |mk es st ck =>
  obtain⟨p',R,e1,e0,c,e3,_⟩:=this;rw[e1] at h2;cases h2;rw[h3] at e0;cases e0;exact h' _ _ e3
 |it m ck seen =>
  obtain⟨p',R,pm,Rm,e1,e0,_,_,_,e3⟩:=this;rw[e1] at h2;cases h2;rw[h3] at e0;cases e0;exact h2' _ _ _ _ e3
def Inv.mark{Φ:bd}{w:World}{σ:St}(hi:Inv Φ w σ){D:Nat}{x:Option (List Deferred)}(h:w.heap[D]?=some (d7 x)):¬aV Φ σ D :=
 hi.Bl (fun c t fz e=>by rw[h] at e;cases e) (fun c k e=>by rw[h] at e;cases e) (fun _ _ _ _ e=>by rw[h] at e;cases e)
def Step.refl(Φ:bd)(σ:St)(w:World):Step Φ σ w Φ σ w :=
 ⟨.refl Φ,rfl,rfl,rfl,dk _,dk _,fun _ _ _=>rfl,fun _ _ h=>.inl h,fun l o h=>.inl ⟨o,h⟩,fun _ h=>.inl h⟩
def Step.marks{Φ Φ':bd}{σ af:St}{w w':World}(h:Step Φ σ w Φ' af w')(hi:Inv Φ w σ)(D:Nat)(hD:w.heap[D]?=some (d7 (some []))):w'.heap[D]?=some (d7 (some [])) :=
 (h.block D (e8.1 hD).1 (hi.mark hD)).trans hD
def eF.step{Φ Φ':bd}{σ af:St}{w w':World}{ds:List Deferred}{d:List (FuncId×List MV)}(h:eF Φ w ds d)(hi:Inv Φ w σ)(hs:Step Φ σ w Φ' af w'):eF Φ' w' ds d:=h.mono hs.le hs.size (hs.marks hi)
def Step.trans{Φ ei kh:bd}{σ σ1 eh:St}{w w1 w2:World}(h:Step Φ σ w ei σ1 w1)(k:Step ei σ1 w1 kh eh w2):Step Φ σ w kh eh w2 where
 le:=h.le.trans k.le
 os:=k.os.trans h.os
 tape:=k.tape.trans h.tape
 output:=k.output.trans h.output
 drawn:=d4 h.drawn k.drawn
 size:=d4 h.size k.size
 block:=fun i hi hn=>(k.block i (Nat.lt_of_lt_of_le hi h.size) (fun ho=>(h.cz i ho).elim hn (fun q=>oM))).trans (h.block i hi hn)
 cl:=fun a v hv=>by
  rcases k.cl a v hv with q|q|q
  ·exact h.cl a v q
  ·exact .inr (.inl (d4 h.size q))
  ·rcases h.cz _ q with q|q
   ·exact .inr (.inr q)
   ·exact .inr (.inl q)
 jc:=fun l o hl=>by
  rcases k.jc l o hl with⟨o',q⟩|q
  ·exact h.jc l o' q
  ·right;cases hl:Φ.obj l with
   |none=>rfl
   |some p=>have:=h.le.obj l p hl;simp[this] at q
 cz:=fun R hR=>by
  rcases k.cz R hR with q|q
  ·exact h.cz R q
  ·exact .inr (d4 h.size q)
def Enters(P:Program)(f:FuncId):Prop:=∃fn,P.funcs[f]?=some fn∧fn.body.isNone=false∧(fn.name == "runtime.NumGoroutine")=false
def aA(P:Program)(f:FuncId)(ms:List MV)(σ:St)(Q:MV→St→Prop):Prop :=
 Enters P f∧∀Φ w vs,Inv Φ w σ→iX Φ vs ms→Calls P f vs w fun e w'=>∃v mv af Φ',e=.returned v∧Rel Φ' v mv∧Inv Φ' w' af∧Step Φ σ w Φ' af w'∧Q mv af
def aA.mono{P:Program}{f:FuncId}{ms:List MV}{σ:St}{Q Q':MV→St→Prop}(h:aA P f ms σ Q)(hq:∀v af,Q v af→Q' v af):aA P f ms σ Q' :=
 ⟨h.1,fun Φ w vs hi hr=>(h.2 Φ w vs hi hr).mono fun _ _ ⟨v,mv,af,Φ',a,b,c,d,q⟩=>⟨v,mv,af,Φ',a,b,c,d,hq _ _ q⟩⟩
abbrev MQ:=Exit→FR→St→Prop
def lift(Φ:bd)(σ:St)(w:World)(Q:MQ):Exit→Act→World→Prop:=fun e a' w' =>
 ∃f' af Φ',eF Φ' w' a'.defers f'.d∧dP Φ' a'.tmps f'∧Inv Φ' w' af∧Step Φ σ w Φ' af w'∧Q e f' af
def gW:Code→Bool
 |.seq a b|.cond _ a b=>gW a&&gW b
 |.block _ b|.loop b|.scope b=>gW b
 |.region _ ops _=>ops.toList.all fun o=>match o.op with|.defer _=>false|_=>true
 |.rangeFunc _ _ _ _=>false
 |_=>true
def mi(F:Fence)(c:Code):Prop:=F=Fence.wide∨∃l,F=Fence.wide.inRound l∧gW c=true
section fok
variable {F:Fence} {x y:Code}
def mi.fn(h:mi F x)(g:FuncId):F.fn g:=by rcases h with rfl|⟨l,rfl,_⟩<;>trivial
def mi.depth(h:mi F x):F.depth=none:=by rcases h with rfl|⟨l,rfl,_⟩<;>rfl
def mi.room(h:mi F x)(n:Nat):F.room n:=fun d hd=>by rw[h.depth] at hd;cases hd
def mi.imp(h:mi F x)(k:gW x=true→gW y=true):mi F y:=h.elim .inl fun⟨l,e,q⟩=>.inr ⟨l,e,k q⟩
def mi.seq1(h:mi F (.seq x y)):mi F x:=h.imp fun q=>(ah.1 q).1
def mi.W5(h:mi F (.seq x y)):mi F y:=h.imp fun q=>(ah.1 q).2
def mi.QE{c:Operand}(h:mi F (.cond c x y)):mi F x:=h.imp fun q=>(ah.1 q).1
def mi.QF{c:Operand}(h:mi F (.cond c x y)):mi F y:=h.imp fun q=>(ah.1 q).2
def mi.block{id:Nat}(h:mi F (.block id x)):mi F x:=h.imp fun q=>q
def mi.loop(h:mi F (.loop x)):mi F x:=h.imp fun q=>q
def mi.lone(h:mi F x){fr:Frame}{P:Program}{cs:List Frame}{w:World}(ha:fr.about P w=none):(lone fr cs w).fenced P F:=fenced_calm (n:=0) (h.fn _) (h.room _) ha
def mi.wide{c:Code}:mi Fence.wide c:=.inl rfl
end fok
def il(P:Program)(c:Code)(f:FR)(σ:St)(Q:MQ):Prop :=
 ∀F,mi F c→∀Φ w a,Inv Φ w σ→dP Φ a.tmps f→eF Φ w a.defers f.d→c.wpIn F 0 P (lift Φ σ w Q) a w
section rules
variable {P:Program} {f:FR} {σ:St} {Q:MQ}
def HU{c:Code}{Q':MQ}(h:il P c f σ Q)(hq:∀e f σ,Q e f σ→Q' e f σ):il P c f σ Q' :=
 fun F hF Φ w a hi hr hd=>wpIn_mono (h F hF Φ w a hi hr hd) fun _ _ _ ⟨f',af,Φ',x1,x2,x3,x4,q⟩=>⟨f',af,Φ',x1,x2,x3,x4,hq _ _ _ q⟩
def o5{Φ ei:bd}{σ1:St}{w w1:World}{Q:MQ}(hs:Step Φ σ w ei σ1 w1){e:Exit}{a:Act}{w':World}(h:lift ei σ1 w1 Q e a w'):lift Φ σ w Q e a w' :=
 let ⟨f',af,Φ',x1,x2,x3,x4,q⟩:=h
 ⟨f',af,Φ',x1,x2,x3,hs.trans x4,q⟩
def Sy(h:Q .normal f σ):il P .skip f σ Q:=fun F hF Φ w a hi hr hd=>wpIn_skip ⟨f,σ,Φ,hd,hr,hi,.refl _ _ _,h⟩
def Vc(h:Q .ret f σ):il P .ret f σ Q:=fun F hF Φ w a hi hr hd=>wpIn_ret ⟨f,σ,Φ,hd,hr,hi,.refl _ _ _,h⟩
def Su{id:Nat}(h:Q (.exit id) f σ):il P (.exit id) f σ Q:=fun F hF Φ w a hi hr hd=>wpIn_exit ⟨f,σ,Φ,hd,hr,hi,.refl _ _ _,h⟩
def tK(next:FR→St→Prop)(Q:MQ):MQ
 |.normal,f,σ=>next f σ
 |e,f,σ=>Q e f σ
def bD{x y:Code}(h:il P x f σ (tK (fun f' af=>il P y f' af Q) Q)):il P (.seq x y) f σ Q:=by
 intro F hF Φ w a hi hr hd;refine wpIn_seq (wpIn_mono (h F hF.seq1 Φ w a hi hr hd) fun e a' w' ⟨f',af,Φ',x1,x2,x3,x4,q⟩=>?_);cases e with
 |normal=>exact wpIn_mono (q F hF.W5 Φ' w' a' x3 x2 x1) fun _ _ _ hq=>o5 x4 hq
 |_=>exact⟨f',af,Φ',x1,x2,x3,x4,q⟩
def oJ(id:Nat)(Q:MQ):MQ
 |.exit ZQ,f,σ=>if ZQ=id then Q .normal f σ else Q (.exit ZQ) f σ
 |e,f,σ=>Q e f σ
def OZ{id:Nat}{c:Code}(h:il P c f σ (oJ id Q)):il P (.block id c) f σ Q:=by
 intro F hF Φ w a hi hr hd;refine wpIn_block (wpIn_mono (h F hF.block Φ w a hi hr hd) fun e a' w' ⟨f',af,Φ',x1,x2,x3,x4,q⟩=>?_);cases e with
 |exit ZQ =>
  simp only[Exit.inBlock];simp only[oJ] at q;split
  ·rw[if_pos bc] at q;exact⟨f',af,Φ',x1,x2,x3,x4,q⟩
  ·rw[if_neg bc] at q;exact⟨f',af,Φ',x1,x2,x3,x4,q⟩
 |_=>exact⟨f',af,Φ',x1,x2,x3,x4,q⟩
def iP{b:Frame}{a:Act}{k:List Item}{cs:List Frame}{w:World}{c:Code}:step P (Go.lone (b.atR a (.code (.scope c)::k)) cs w)=.next (Go.lone (b.atR a (.code c::.inScope c::k)) cs w) :=
 step_lone_go (by simp[stepG,stepG.exec,Frame.atR])
def BT{b:Frame}{a:Act}{k:List Item}{cs:List Frame}{w:World}{c:Code}:step P (Go.lone (b.atR a (.inScope c::k)) cs w)=.next (Go.lone (b.atR a k) cs w) :=
 step_lone_go (by simp[stepG,stepG.exec,Frame.atR])
def LS{F:Fence}{n:Nat}{Q:Exit→Act→World→Prop}{a:Act}{w:World}{c:Code}(h:c.wpIn F n P (Exit.noGoto Q) a w):(Code.scope c).wpIn F n P Q a w:=by
 intro b k cs hro hb hr;have h0:(Go.lone (b.atR a (.code (.scope c)::k)) cs w).fenced P F:=fenced_calm hb hr rfl;obtain⟨e,ix,fj,hq,ek⟩:=h b (.inScope c::k) cs hro hb hr;cases e with
 |normal=>exact⟨.normal,ix,fj,hq,.head h0 iP (StepsIn.trans ek (.one (fenced_calm hb hr rfl) BT))⟩
 |exit ZQ =>
  have hx:exitTo ZQ (.inScope c::k)=exitTo ZQ k:=by simp[exitTo]
  exact⟨.exit ZQ,ix,fj,hq,fun k' hk=>.head h0 iP (ek.1 k' (by rw[hx];exact hk)),
   fun hr' hk=>let ⟨k₁,h1,h2⟩:=ek.2 hr' (by rw[hx];exact hk);⟨k₁,h1,.head h0 iP h2⟩⟩
 |goto l=>exact hq.elim
 |ret=>exact⟨_,ix,fj,hq,.of_steps (.one h0 iP) ek⟩
 |panic ch=>exact⟨_,ix,fj,hq,.of_steps (.one h0 iP) ek⟩
 |outgrown=>exact⟨_,ix,fj,hq,.of_steps (.one h0 iP) ek⟩
def FN(Q:MQ):MQ
 |.goto _,_,_=>False
 |e,f,σ=>Q e f σ
def mi.scope{F:Fence}{x:Code}(h:mi F (.scope x)):mi F x:=h.imp fun q=>q
def O5{c:Code}(h:il P c f σ (FN Q)):il P (.scope c) f σ Q:=by
 intro F hF Φ w a hi hr hd;refine LS (wpIn_mono (h F hF.scope Φ w a hi hr hd) fun e a' w' ⟨f',af,Φ',x1,x2,x3,x4,q⟩=>?_);cases e with
 |goto l=>exact q.elim
 |_=>exact⟨f',af,Φ',x1,x2,x3,x4,q⟩
def O4{l:Nat}(h:Q .normal f σ):il P (.label l) f σ Q:=fun F hF Φ w a hi hr hd=>wpIn_label ⟨f,σ,Φ,hd,hr,hi,.refl _ _ _,h⟩
def vq:Value→MV
 |.bool b=>.bool b
 |.int k n=>.int k n
 |.string s=>.str s
 |.pointer eo=>.ej
 |.slice eo 0 0=>.aK
 |.map eo=>.kp
 |.nilFunc=>.cw
 |.func f ⟨[]⟩ ⟨[]⟩=>.fn f [] []
 |.nilIface=>.qi
 |_=>.bw
def wR(Φ:bd)(v:Value):Rel Φ v (vq v):=by
 unfold vq;split<;>first
  |exact .bw _|exact .bool _|exact .int _ _|exact .str _|exact .ej|exact .aK|exact .kp|exact .cw|exact .qi
  |exact .fn _ ax ax ax ax
def aH(f:FR):Operand→MV
 |.tmp t=>f.get t
 |.const v=>vq v
 |.global _=>.bw
 |.func g=>.fn (.func g) [] []
def aL{Φ:bd}{a:Act}(hr:dP Φ a.tmps f)(x:Operand):Rel Φ (a.eval x) (aH f x):=by
 cases x with
 |tmp t=>exact hr.2 t
 |const v=>exact wR Φ v
 |global g=>exact .bw _
 |func g=>exact .fn _ ax ax ax ax
def Ss{c:Operand}{x y:Code}{t:Bool}(hc:aH f c=.bool t)(h1:t=true→il P x f σ Q)(h2:t=false→il P y f σ Q):il P (.cond c x y) f σ Q:=by
 intro F hF Φ w a hi hr hd;have he:a.eval c=.bool t:=by have:=aL hr c;rw[hc] at this;generalize a.eval c=v at this;cases this;rfl
 exact wpIn_cond_split he (fun ht=>h1 ht F hF.QE Φ w a hi hr hd) (fun hf=>h2 hf F hF.QF Φ w a hi hr hd)
def aR(f:FR)(σ:St)(f1:FR)(σ1:St):Prop :=
 f1.d=f.d∧∀Φ w vs,Inv Φ w σ→dP Φ vs f→∃ei,Inv ei w σ1∧dP ei vs f1∧Step Φ σ w ei σ1 w
def aR.refl(f:FR)(σ:St):aR f σ f σ:=⟨rfl,fun Φ w vs hi hr=>⟨Φ,hi,hr,.refl _ _ _⟩⟩
def aR.trans{f f1 f2:FR}{σ σ1 eh:St}(h:aR f σ f1 σ1)(k:aR f1 σ1 f2 eh):aR f σ f2 eh:=⟨k.1.trans h.1,fun Φ w vs hi hr=>by
 obtain⟨ei,i1,r1,s1⟩:=h.2 Φ w vs hi hr;obtain⟨kh,i2,r2,s2⟩:=k.2 ei w vs i1 r1;exact⟨kh,i2,r2,s1.trans s2⟩⟩
def Gh(f:FR)(σ:St)(K:FR→St→Prop):Prop :=
 ∀Φ w vs,Inv Φ w σ→dP Φ vs f→∃f1 σ1 ei,f1.d=f.d∧K f1 σ1∧Inv ei w σ1∧dP ei vs f1∧Step Φ σ w ei σ1 w
def Gh.done{f:FR}{σ:St}{K:FR→St→Prop}(h:K f σ):Gh f σ K:=fun Φ w vs hi hr=>⟨f,σ,Φ,rfl,h,hi,hr,.refl _ _ _⟩
def Gh.step{f f1:FR}{σ σ1:St}{K:FR→St→Prop}(g:aR f σ f1 σ1)(h:Gh f1 σ1 K):Gh f σ K:=fun Φ w vs hi hr=>by obtain⟨ei,i1,r1,s1⟩:=g.2 Φ w vs hi hr;obtain⟨f2,eh,kh,e2,k2,i2,r2,s2⟩:=h ei w vs i1 r1;exact⟨f2,eh,kh,e2.trans g.1,k2,i2,r2,s1.trans s2⟩
def Gh.of{f f1:FR}{σ σ1:St}{K:FR→St→Prop}(g:aR f σ f1 σ1)(h:K f1 σ1):Gh f σ K:=Gh.step g (Gh.done h)
def Sv{c:Code}(h:Gh f σ fun f1 σ1=>il P c f1 σ1 Q):il P c f σ Q:=by intro F hF Φ w a hi hr hd;obtain⟨f1,σ1,ei,hf,k1,i1,r1,s1⟩:=h Φ w a.tmps hi hr;exact wpIn_mono (k1 F hF ei w a i1 r1 (hf ▸ hd.step hi s1)) fun _ _ _ hq=>o5 s1 hq
def Sw{α:Type}{c:Code}(F:α→FR)(S:α→St)(p:α→Prop)(μ:α→Nat)(h0:Gh f σ fun f1 σ1=>∃a,f1=F a∧σ1=S a∧p a)
 (round:∀a,p a→il P c (F a) (S a) (tK (fun f' af=>Gh f' af fun f1 σ1=>∃b,f1=F b∧σ1=S b∧p b∧μ b<μ a) Q)):il P (.loop c) f σ Q:=by
 refine Sv (fun Φ w vs hi hr=>?_);obtain⟨f1,σ1,ei,hf,⟨a0,e1,e2,p0⟩,i1,r1,s1⟩:=h0 Φ w vs hi hr;subst e1;subst e2;refine⟨_,_,ei,hf,?_,i1,r1,s1⟩;clear h0 hi hr s1 i1 r1 hf;intro Fe hF Φ w a hi hr hd b k cs hro hb gu;have key:∀n x Φ w a,μ x=n→p x→Inv Φ w (S x)→dP Φ a.tmps (F x)→eF Φ w a.defers (F x).d →
   ∃e a' w',lift Φ (S x) w Q e a' w'∧ArrivesIn (Machine.fenced P Fe) P (lone (b.atR a (.code c::.inLoop c::k)) cs w) b k cs e a' w':=by
  intro n
  induction n using Nat.strongRecOn with
  |_ n ih =>
   intro x Φ w a hn hI hi hr hd;obtain⟨e,ix,fj,hq,ek⟩:=round x hI Fe hF.loop Φ w a hi hr hd b (.inLoop c::k) cs hro hb gu;cases e with
   |normal =>
    obtain⟨f',af,Φ',y1,y2,y3,y4,g2⟩:=hq;obtain⟨f2,eh,kh,g0,⟨x2,e1,e2,hI2,bh⟩,i2,r2,s2⟩:=g2 Φ' fj ix.tmps y3 y2;subst e1;subst e2;obtain⟨e₂,a₂,gz,hq₂,yg⟩:=ih (μ x2) (hn ▸ bh) x2 kh fj ix rfl hI2 i2 r2 (g0 ▸ y1.step y3 s2);exact⟨e₂,a₂,gz,o5 y4 (o5 s2 hq₂),.of_steps (StepsIn.trans ek (.one (fenced_calm hb gu rfl) stepR_inLoop)) yg⟩
   |exit id=>exact⟨_,ix,fj,hq,.pass (x:=.inLoop c) rfl (fun _ _=>.inl ax) ek⟩
   |goto l=>exact⟨_,ix,fj,hq,.pass (x:=.inLoop c) rfl (fun _ _=>.inl ax) ek⟩
   |ret=>exact⟨_,ix,fj,hq,.pass (x:=.inLoop c) rfl (fun _ _=>.inl ax) ek⟩
   |panic ch=>exact⟨_,ix,fj,hq,.pass (x:=.inLoop c) rfl (fun _ _=>.inl ax) ek⟩
   |outgrown=>exact⟨_,ix,fj,hq,.pass (x:=.inLoop c) rfl (fun _ _=>.inl ax) ek⟩
 obtain⟨e,a',w',hq,ek⟩:=key _ a0 Φ w a rfl p0 hi hr hd;exact⟨e,a',w',hq,.of_steps (.one (fenced_calm hb gu rfl) stepR_loop) ek⟩
end rules
def Inv.less{Φ:bd}{w:World}{σ σ1:St}(hi:Inv Φ w σ)(h:∀l o,σ1 l=some o→σ l=some o):Inv Φ w σ1 :=
 ⟨fun l o q=>hi.own l o (h l o q),fun l l' o o' p p' R a b=>hi.inj l l' o o' p p' R (h l o a) (h l' o' b),hi.snap,fun l o p R a v q=>hi.apart l o p R a v (h l o q),hi.fresh⟩
def aV.less{Φ:bd}{σ σ1:St}(h:∀l o,σ1 l=some o→σ l=some o){R:Nat}(q:aV Φ σ1 R):aV Φ σ R :=
 let ⟨l,o,p,a,b,c⟩:=q;⟨l,o,p,h l o a,b,c⟩
def Step.less{Φ:bd}{σ σ1:St}(w:World)(h:∀l o,σ1 l=some o→σ l=some o):Step Φ σ w Φ σ1 w :=
 ⟨.refl Φ,rfl,rfl,rfl,dk _,dk _,fun _ _ _=>rfl,fun _ _ h=>.inl h,fun l o q=>.inl ⟨o,h l o q⟩,fun _ q=>.inl (q.less h)⟩
def aR.drop{f:FR}{σ σ1:St}(h:∀l o,σ1 l=some o→σ l=some o):aR f σ f σ1:=⟨rfl,fun Φ w vs hi hr=>⟨Φ,hi.less h,hr,.less w h⟩⟩
inductive oP:MV→MV→Prop where
 |same (m:MV):oP m m
 |bw (m:MV):oP m .bw
 |nil (e:Nat) (t:Bool):oP .aK (.aj e [] t)
 |tight (e:Nat) (xs:List (List MV)):oP (.aj e xs true) (.aj e xs false)
def oP.rel{Φ:bd}{v:Value}{m m':MV}(h:oP m m')(r:Rel Φ v m):Rel Φ v m':=by
 cases h with
 |same=>exact r
 |bw=>exact .bw _
 |nil e t=>cases r;exact .nj e t
 |tight e xs =>
  cases r with
  |nj=>exact .nj e _
  |qa a e cap t ht hm=>exact .qa a e cap _ ax hm
  |aj hl h0 dv hm ht hx vs hc hr=>exact .aj hl h0 dv hm ax hx vs hc hr
def aR.Yt{f f1:FR}{σ:St}(hl:f.n=f1.n)(hd:f1.d=f.d)(h:∀t,oP (f.get t) (f1.get t)):aR f σ f1 σ:=⟨hd,fun Φ w vs hi hr =>
 ⟨Φ,hi,⟨hr.1.trans hl,fun t=>(h t).rel (hr.2 t)⟩,.refl _ _ _⟩⟩
def aR.UB{n:Nat}{l l1:List (Nat×MV)}{d:List (FuncId×List MV)}{σ:St}(h:∀p,p∈l1→oP (cV l p.1) p.2):aR ⟨n,l,d⟩ σ ⟨n,l1,d⟩ σ :=
 aR.Yt rfl rfl fun t=>by
  show oP (cV l t) (cV l1 t)
  induction l1 with
  |nil=>exact .bw _
  |cons p r ih =>
   obtain⟨k,v⟩:=p;simp only[cV];split
   ·rename_i ht;subst ht;exact h (t,v) ax
   ·exact ih fun q hq=>h q (by simp[hq])
inductive TK where
 |bool|int (k:IntKind)|str|ptr (e:TypeId)|slice (e:TypeId)|array (n:Nat) (e:TypeId)|struct (fs:List (Nat×TypeId))|map (k e:TypeId)|func|iface|other
 deriving Inhabited
def TK.isAgg:TK→Bool
 |.array ..|.struct _=>true
 |_=>false
structure TD where
 ok:Bool:=false
 size:Nat:=0
 bytes:Nat:=0
 jq:Bool:=false
 zero:List MV:=[]
 k:TK:=.other
 deriving Inhabited
def xM:TypeDesc→TK
 |.bool=>.bool
 |.int k=>.int k
 |.string=>.str
 |.pointer e=>.ptr e
 |.slice e=>.slice e
 |.array n e=>.array n e
 |.struct fs=>.struct (fs.toList.map fun f=>(f.offset,f.type))
 |.map k e=>.map k e
 |.func _ _ _=>.func
 |.interface _=>.iface
 |_=>.other
def LW:Value→Bool
 |.agg _=>true
 |_=>false
def zOk(size:Nat)(agg:Bool):Option Value→Bool
 |some z=>z.cells.size==size&&z.cells.toList.all (fun v=>(vq v).aP)&&(agg==LW z)
 |none=>false
def Xn:Option Value→List MV
 |some z=>z.cells.toList.map vq
 |none=>[]
def Xc(i:TypeInfo)(d:TypeDesc):TD:={ ok:=true,size:=i.size,bytes:=i.bytes,jq:=zOk i.size (xM d).isAgg i.zero,zero:=Xn i.zero,k:=xM d }
def td(P:Program)(t:TypeId):TD :=
 match P.info? t with
 |none=>{}
 |some i=>match P.underlying t with
  |none=>{}
  |some d=>Xc i d
section
variable {P:Program} {t:TypeId}
def BY(P:Program)(t:TypeId):td P t={}∨∃i d,P.info? t=some i∧P.underlying t=some d∧td P t=Xc i d:=by
 unfold td;split
 ·exact .inl rfl
 ·split
  ·exact .inl rfl
  ·exact .inr ⟨_,_,bc,bc,rfl⟩
def dM(h:(td P t).ok=true):∃i d,P.info? t=some i∧P.underlying t=some d∧(td P t).size=i.size∧(td P t).bytes=i.bytes∧(td P t).k=xM d:=by
 rcases BY P t with hn|⟨i,d,hi,hd,he⟩
 ·rw[hn] at h;cases h
 ·exact⟨i,d,hi,hd,by rw[he];rfl,by rw[he];rfl,by rw[he];rfl⟩
def p8{k:TK}(h:(td P t).k=k)(fg:k≠.other):(td P t).ok=true:=by
 rcases BY P t with hn|⟨i,d,hi,hd,he⟩
 ·rw[hn] at h;exact absurd h.symm fg
 ·rw[he];rfl
def aS(h:(td P t).ok=true)(w:World):(sizeOf t).run P w=.ok (td P t).size w:=by obtain⟨i,d,hi,hd,hs,hb,hk⟩:=dM h;simp[sizeOf,typeInfo,hi,hs]
def aO{d:TypeDesc}(h:P.underlying t=some d)(w:World):(underlying t).run P w=.ok d w:=by simp[underlying,h]
def uN(h:(td P t).ok=true)(w:World):(isAgg t).run P w=.ok (td P t).k.isAgg w:=by obtain⟨i,d,hi,hd,hs,hb,hk⟩:=dM h;rw[hk];simp only[isAgg,ez,aO hd,ex];cases d<;>rfl
def bB{e:TypeId}(h:(td P t).k=.slice e):P.underlying t=some (.slice e):=by obtain⟨i,d,hi,hd,hs,hb,hk⟩:=dM (p8 h ax);rw[hk] at h;cases d<;>simp[xM] at h;rw[hd,h]
def iQ{n:Nat}{e:TypeId}(h:(td P t).k=.array n e):P.underlying t=some (.array n e):=by obtain⟨i,d,hi,hd,hs,hb,hk⟩:=dM (p8 h ax);rw[hk] at h;cases d<;>simp[xM] at h;rw[hd,h.1,h.2]
def kO{fs:List (Nat×TypeId)}(h:(td P t).k=.struct fs):∃fa:Array Field,P.underlying t=some (.struct fa)∧fs=fa.toList.map fun f=>(f.offset,f.type):=by obtain⟨i,d,hi,hd,hs,hb,hk⟩:=dM (p8 h ax);rw[hk] at h;cases d<;>simp[xM] at h;exact⟨_,hd,h.symm⟩
def iW(h:(td P t).k=.str):P.underlying t=some .string:=by obtain⟨i,d,hi,hd,hs,hb,hk⟩:=dM (p8 h ax);rw[hk] at h;cases d<;>simp[xM] at h;exact hd
def kY{k:IntKind}(h:(td P t).k=.int k):P.underlying t=some (.int k):=by obtain⟨i,d,hi,hd,hs,hb,hk⟩:=dM (p8 h ax);rw[hk] at h;cases d<;>simp[xM] at h;rw[hd,h]
def xN(h:(td P t).k=.bool):P.underlying t=some .bool:=by obtain⟨i,d,hi,hd,hs,hb,hk⟩:=dM (p8 h ax);rw[hk] at h;cases d<;>simp[xM] at h;exact hd
def VC{e:TypeId}(h:(td P t).k=.ptr e):P.underlying t=some (.pointer e):=by obtain⟨i,d,hi,hd,hs,hb,hk⟩:=dM (p8 h ax);rw[hk] at h;cases d<;>simp[xM] at h;rw[hd,h]
def sR{k e:TypeId}(h:(td P t).k=.map k e):P.underlying t=some (.map k e):=by obtain⟨i,d,hi,hd,hs,hb,hk⟩:=dM (p8 h ax);rw[hk] at h;cases d<;>simp[xM] at h;rw[hd,h.1,h.2]
def dZ(h:(td P t).jq=true)(w:World):∃z,(zeroValue t).run P w=.ok z w∧z.cells.toList.map vq=(td P t).zero∧z.cells.size=(td P t).size∧(td P t).ok=true ∧
  (∀v,v∈z.cells.toList→(vq v).aP=true)∧((td P t).k.isAgg=true→∃cs,z=.agg cs)∧((td P t).k.isAgg=false→z.cells=#[z]):=by
 rcases BY P t with hn|⟨i,d,hi,hd,he⟩
 ·rw[hn] at h;cases h
 ·rw[he] at h ⊢;simp only[Xc] at h ⊢;cases hz:i.zero with
  |none=>simp[hz,zOk] at h
  |some z =>
   simp only[hz,zOk,ag,beq_iff_eq,List.all_eq_true] at h;refine⟨z,by simp[zeroValue,typeInfo,hi,hz],rfl,h.1.1,trivial,h.1.2,fun hk=>?_,fun hk=>?_⟩
   ·rw[hk] at h;cases z<;>simp[LW] at h ⊢
   ·rw[hk] at h;cases z<;>first|rfl|simp[LW] at h
end
def eM(b off n:Nat):(⟨b,off,none⟩:Addr).add n=⟨b,off+n,none⟩:=by unfold Addr.add;split<;>simp_all
section
variable {Φ:bd} {v:Value}
def Rel.mU{b:Bool}(h:Rel Φ v (.bool b)):v=.bool b:=by cases h;rfl
def Rel.aZ{k:IntKind}{n:Int}(h:Rel Φ v (.int k n)):v=.int k n:=by cases h;rfl
def Rel.gS{s:ByteArray}(h:Rel Φ v (.str s)):v=.string s:=by cases h;rfl
def Rel.oW(h:Rel Φ v .ej):v=.pointer none:=by cases h;rfl
def Rel.gF(h:Rel Φ v .aK):v=.slice none 0 0:=by cases h;rfl
def Rel.Q9(h:Rel Φ v .kp):v=.map none:=by cases h;rfl
def Rel.x9(h:Rel Φ v .cw):v=.nilFunc:=by cases h;rfl
def Rel.jU{l i o:Nat}(h:Rel Φ v (.ptr l i o)):∃p R,Φ.obj l=some p∧p.jh=some R∧v=.pointer (some ⟨R,p.bo+i*p.e+o,none⟩):=by cases h with|ptr ho hb=>exact⟨_,_,ho,hb,rfl⟩
def Rel.oU{cs:List MV}(h:Rel Φ v (.cg cs)):∃(b off:Nat) (vs:Nat→Value),v=.pointer (some ⟨b,off,none⟩)∧(∀(j:Nat) (m:MV),cs[j]?=some m→m.aP=true∧Φ.snap ⟨b,off+j,none⟩=some (vs j))∧∀(j:Nat) (m:MV),cs[j]?=some m→Rel Φ (vs j) m:=by cases h with|cg vs hc hr=>exact⟨_,_,vs,rfl,hc,hr⟩
def Rel.Ez{ms:List MV}(h:Rel Φ v (.ar ms)):∃cs:Array Value,v=.tuple cs∧cs.size=ms.length∧∀(i:Nat) m,ms[i]?=some m→Rel Φ (cs.getD i undef) m:=by cases h with|ar h r=>exact⟨_,rfl,h,r⟩
def Rel.kU{ms:List MV}(h:Rel Φ v (.agg ms)):∃cs:Array Value,v=.agg cs∧cs.size=ms.length∧(∀(i:Nat) m,ms[i]?=some m→m.aP=true)∧∀(i:Nat) m,ms[i]?=some m→Rel Φ (cs.getD i undef) m:=by cases h with|agg h hc r=>exact⟨_,rfl,h,hc,r⟩
def Rel.pM{f:Fn}{ms ns:List MV}(h:Rel Φ v (.fn f ms ns)):∃first cap:Array Value,v=.func f first cap∧iX Φ first ms∧iX Φ cap ns:=by cases h with|fn _ h1 h2 r1 r2=>exact⟨_,_,rfl,⟨h1,r1⟩,⟨h2,r2⟩⟩
def lX(Φ:bd)(b off e:Nat)(xs:List (List MV)):Prop :=
 (∀(i:Nat) (x:List MV),xs[i]?=some x→x.length=e)∧∃vs:Nat→Nat→Value,
  ∀(i:Nat) (x:List MV) (j:Nat) (m:MV),xs[i]?=some x→x[j]?=some m→m.aP=true∧Φ.snap ⟨b,off+(i*e+j),none⟩=some (vs i j)∧Rel Φ (vs i j) m
def Rel.l7{e:Nat}{xs:List (List MV)}{t:Bool}(h:Rel Φ v (.aj e xs t)):∃a cap,v=.slice a xs.length cap∧xs.length≤cap∧cap≤maxLen∧(t=true→cap=xs.length)∧(a=none→cap=0) ∧
  (0<xs.length→∃b off,a=some ⟨b,off,none⟩∧lX Φ b off e xs):=by
 cases h with
 |nj=>exact⟨none,0,rfl,dk _,by simp[maxLen],fun _=>rfl,fun _=>rfl,fun h=>by simp at h⟩
 |qa a e cap t ht hm=>exact⟨some a,cap,rfl,Nat.zero_le _,hm,ht,ax,fun h=>by simp at h⟩
 |aj hl h0 dv hm ht hx vs hc hr=>exact⟨_,_,by rw[hl],oM,hm,fun q=>by rw[ht q,hl],ax,fun _=>⟨_,_,rfl,hx,vs,fun i x j m a b=>⟨(hc i x j m a b).1,(hc i x j m a b).2,hr i x j m a b⟩⟩⟩
def Rel.ES{e len cap:Nat}{xs:List (List MV)}{t:Bool}{a:Option Addr}(hl:xs.length=len)(hc:len≤cap)(hm:cap≤maxLen)(ht:t=true→cap=len)(ha:a=none→cap=0)
 (h:0<len→∃b off,a=some ⟨b,off,none⟩∧lX Φ b off e xs):Rel Φ (.slice a len cap) (.aj e xs t):=by
 rcases d5 len with h0|h0
 ·subst h0;have hx:xs=[]:=b3 hl;subst hx;cases a with
  |none=>rw[ha rfl];exact .nj e t
  |some a=>exact .qa a e cap t ht hm
 ·obtain⟨b,off,rfl,hx,vs,hv⟩:=h h0;exact .aj hl h0 hc hm ht hx vs (fun i x j m p q=>⟨(hv i x j m p q).1,(hv i x j m p q).2.1⟩) (fun i x j m p q=>(hv i x j m p q).2.2)
def lX.drop{b off e k:Nat}{xs:List (List MV)}(h:lX Φ b off e xs):lX Φ b (off+k*e) e (xs.drop k):=by obtain⟨hx,vs,hv⟩:=h;refine⟨fun i x q=>hx (k+i) x (by simpa using q),fun i j=>vs (k+i) j,fun i x j m q r=>?_⟩;have:=hv (k+i) x j m (by simpa using q) r;refine⟨this.1,?_,this.2.2⟩;rw[←this.2.1,dj,dt off,dt (k*e)]
def lX.take{b off e k:Nat}{xs:List (List MV)}(h:lX Φ b off e xs):lX Φ b off e (xs.take k):=by
 obtain⟨hx,vs,hv⟩:=h;have key:∀(i:Nat) (x:List MV),(xs.take k)[i]?=some x→xs[i]?=some x:=fun i x q=>by
  rw[bz] at q;split at q
  ·exact q
  ·cases q
 exact⟨fun i x q=>hx i x (key i x q),vs,fun i x j m q r=>hv i x j m (key i x q) r⟩
def Rel.eQ{e l lo n:Nat}(h:Rel Φ v (.vec e l lo n)):∃a cap p,v=.slice a n cap∧Φ.obj l=some p∧p.e=e∧lo+cap=p.C∧n≤cap ∧
  ((∃R,p.jh=some R∧a=some ⟨R,p.bo+lo*p.e,none⟩)∨cap=0):=by
 cases h with
 |vec ho hb dv hn=>exact⟨_,_,_,rfl,ho,rfl,dv,hn,.inl ⟨_,hb,rfl⟩⟩
 |ZW a ho hC=>exact⟨_,_,_,rfl,ho,rfl,oM,dk _,.inr rfl⟩
 |ZX ho hb hC=>exact⟨_,_,_,rfl,ho,rfl,oM,dk _,.inr rfl⟩
def Rel.oV{l:Nat}(h:Rel Φ v (.db l)):∃p R,Φ.obj l=some p∧p.jh=some R∧v=.map (some R):=by cases h with|db ho hb=>exact⟨_,_,ho,hb,rfl⟩
end
abbrev PV:=Option (Prop×MV)
def pD(k:IntKind)(a b:Int):Int:=k.wrap (aa k.bits a &&& aa k.bits b).toNat
def orK(k:IntKind)(a b:Int):Int:=k.wrap (aa k.bits a ||| aa k.bits b).toNat
def Zb(k:IntKind)(a b:Int):Int:=k.wrap (aa k.bits a ^^^ aa k.bits b).toNat
def uY(k:IntKind)(a b:Int):Int:=k.wrap (aa k.bits a &&& ~~~aa k.bits b).toNat
def YL(k:IntKind)(n:Int):Int:=k.wrap (aa k.bits (if k.signed then -1 else k.max) ^^^ aa k.bits n).toNat
def iD(op:BinOp)(k:IntKind)(a b:Int):PV :=
 match op with
 |.add=>some (True,.int k (k.wrap (a+b)))
 |.sub=>some (True,.int k (k.wrap (a-b)))
 |.mul=>some (True,.int k (k.wrap (a*b)))
 |.quo=>some (b≠0,.int k (k.wrap (a.tdiv b)))
 |.rem=>some (b≠0,.int k (a.tmod b))
 |.and=>some (True,.int k (pD k a b))
 |.or=>some (True,.int k (orK k a b))
 |.xor=>some (True,.int k (Zb k a b))
 |.andNot=>some (True,.int k (uY k a b))
 |.eql=>some (True,.bool (a==b))
 |.neq=>some (True,.bool (a != b))
 |.lss=>some (True,.bool (decide (a<b)))
 |.leq=>some (True,.bool (decide (a≤b)))
 |.gtr=>some (True,.bool (decide (a > b)))
 |.geq=>some (True,.bool (decide (a ≥ b)))
 |_=>none
def qW(op:BinOp)(k:IntKind)(a b:Int):PV :=
 match op with
 |.shl=>some (0≤b,.int k (k.wrap (a*2 ^ (min b.toNat k.bits))))
 |.shr=>some (0≤b,.int k (a.fdiv (2 ^ (min b.toNat k.bits))))
 |_=>none
def rU(op:BinOp)(x y:ByteArray):PV :=
 match op with
 |.add=>some (((x.size+y.size:Nat):Int)≤9223372036854775807,.str (x++y))
 |.eql=>some (True,.bool (x.toList==y.toList))
 |.neq=>some (True,.bool (!(x.toList==y.toList)))
 |.lss=>some (True,.bool (ea x.toList y.toList))
 |.leq=>some (True,.bool (ea x.toList y.toList || x.toList==y.toList))
 |.gtr=>some (True,.bool (!(ea x.toList y.toList || x.toList==y.toList)))
 |.geq=>some (True,.bool (!(ea x.toList y.toList)))
 |_=>none
def uo(op:BinOp)(c:Prop)(b:Bool):PV :=
 match op with
 |.eql=>some (c,.bool b)
 |.neq=>some (c,.bool (!b))
 |_=>none
def TK.vN:TK→Bool
 |.ptr _=>true
 |_=>false
def TK.J8:TK→Bool
 |.slice _=>true
 |_=>false
def TK.J6:TK→Bool
 |.func=>true
 |_=>false
def TK.isBool:TK→Bool
 |.bool=>true
 |_=>false
def eJ(d:TD)(cs:List MV)(off:Nat):MV:=if d.k.isAgg=true then .agg ((cs.drop off).take d.size) else cs.getD off .bw
def dU(P:Program)(t:TypeId):Bool:=!P.stoodInHeld t&&(P.fieldsOf t).toList.all (fun f=>f.name != "_")&&!P.eqGuardType P.depth t
def cK(P:Program)(g:TypeId→MV→MV→Option Bool)(xs ys:List MV):List (Nat×TypeId)→Option Bool
 |[]=>some true
 |(off,ft)::r=>if (td P ft).ok=true∧off+(td P ft).size≤xs.length∧off+(td P ft).size≤ys.length∧0<(td P ft).size then
   (match g ft (eJ (td P ft) xs off) (eJ (td P ft) ys off) with
   |none=>none
   |some b=>(cK P g xs ys r).map fun c=>b&&c)
  else none
def jX(P:Program):Nat→TypeId→MV→MV→Option Bool
 |0,_,_,_=>none
 |d+1,t,x,y=>match (td P t).k,x,y with
  |.int _,.int k a,.int k' b=>if k=k' then some (decide (a=b)) else none
  |.bool,.bool a,.bool b=>some (a==b)
  |.str,.str a,.str b=>some (decide (a=b))
  |.struct fs,.agg xs,.agg ys=>if dU P t=true then cK P (jX P d) xs ys fs else none
  |.array n e,.agg xs,.agg ys=>if (td P e).ok=true then cK P (jX P d) xs ys ((da n).map fun i=>(i*(td P e).size,e)) else none
  |_,_,_=>none
def cX(P:Program)(t:TypeId)(op:BinOp)(x y:MV):PV :=
 match x,y with
 |.int k a,.int k' b=>match op with
  |.shl|.shr=>qW op k a b
  |_=>if k=k' then iD op k a b else none
 |.str a,.str b=>rU op a b
 |.bool a,.bool b=>uo op ((td P t).k.isBool=true) (a==b)
 |.ej,.ej=>uo op ((td P t).k.vN=true) true
 |.ptr _ _ _,.ej|.ej,.ptr _ _ _|.cg _,.ej|.ej,.cg _=>uo op ((td P t).k.vN=true) false
 |.agg xs,.agg ys=>match jX P 6 t (.agg xs) (.agg ys) with
  |some b=>uo op (dU P t=true) b
  |none=>none
 |.aK,.aK=>uo op ((td P t).k.J8=true) true
 |.aj _ (_::_) _,.aK=>uo op ((td P t).k.J8=true) false
 |.cw,.cw=>uo op ((td P t).k.J6=true) true
 |.fn _ _ _,.cw=>uo op ((td P t).k.J6=true) false
 |_,_=>none
def mun(op:UnOp)(x:MV):PV :=
 match op,x with
 |.neg,.int k n=>some (True,.int k (k.wrap (0-n)))
 |.xor,.int k n=>some (True,.int k (YL k n))
 |.not,.bool b=>some (True,.bool (!b))
 |_,_=>none
def vT(P:Program)(s d:TypeId)(x:MV):PV :=
 match x,(td P d).k,(td P s).ok with
 |.int _ n,.int k,true=>some (True,.int k (k.wrap n))
 |.str s,.str,true=>some (True,.str s)
 |_,_,_=>none
def chunks(e:Nat):Nat→List MV→List (List MV)
 |0,_=>[]
 |n+1,cs=>cs.take e::chunks e n (cs.drop e)
def rF(P:Program)(t:TypeId)(x:MV)(lo hi mx:Option MV):PV :=
 match x,lo,hi,mx with
 |.str s,some (.int _ l),some (.int _ h),none=>some ((td P t).k=.str∧0≤l∧l≤h∧h≤s.size,.str (s.extract l.toNat h.toNat))
 |.str s,none,some (.int _ h),none=>some ((td P t).k=.str∧0≤h∧h≤s.size,.str (s.extract 0 h.toNat))
 |.str s,some (.int _ l),none,none=>some ((td P t).k=.str∧0≤l∧l≤s.size,.str (s.extract l.toNat s.size))
 |.aj e xs tt,lo,hi,mx=>match (td P t).k with
  |.slice el=>match lo,hi,mx with
   |some (.int _ l),some (.int _ h),none=>some ((td P el).ok=true∧(td P el).size=e∧0≤l∧l≤h∧h≤xs.length,.aj e ((xs.take h.toNat).drop l.toNat) (tt&&decide (h.toNat=xs.length)))
   |none,some (.int _ h),none=>some ((td P el).ok=true∧(td P el).size=e∧0≤h∧h≤xs.length,.aj e (xs.take h.toNat) (tt&&decide (h.toNat=xs.length)))
   |some (.int _ l),none,none=>some ((td P el).ok=true∧(td P el).size=e∧0≤l∧l≤xs.length,.aj e (xs.drop l.toNat) tt)
   |none,some (.int _ h),some (.int _ m)=>some ((td P el).ok=true∧(td P el).size=e∧0≤h∧h≤m∧m≤xs.length,.aj e (xs.take h.toNat) (decide (h=m)))
   |some (.int _ l),some (.int _ h),some (.int _ m)=>some ((td P el).ok=true∧(td P el).size=e∧0≤l∧l≤h∧h≤m∧m≤xs.length,.aj e ((xs.take h.toNat).drop l.toNat) (decide (h=m)))
   |_,_,_=>none
  |_=>none
 |.vec e l lo0 n,lo,hi,mx=>match (td P t).k with
  |.slice el=>match lo,hi,mx with
   |some (.int _ l'),some (.int _ h),none=>some ((td P el).ok=true∧(td P el).size=e∧0≤l'∧l'≤h∧h≤n,.vec e l (lo0+l'.toNat) (h.toNat-l'.toNat))
   |none,some (.int _ h),none=>some ((td P el).ok=true∧(td P el).size=e∧0≤h∧h≤n,.vec e l lo0 h.toNat)
   |some (.int _ l'),none,none=>some ((td P el).ok=true∧(td P el).size=e∧0≤l'∧l'≤n,.vec e l (lo0+l'.toNat) (n-l'.toNat))
   |some (.int _ l'),some (.int _ h),some (.int _ m)=>some ((td P el).ok=true∧(td P el).size=e∧0≤l'∧l'≤h∧h≤m∧m≤n,.bw)
   |_,_,_=>none
  |_=>none
 |.cg cs,none,none,none=>match (td P t).k with
  |.array n el=>some ((td P el).ok=true∧0<n∧(td P el).size*n≤cs.length∧n≤9223372036854775807,.aj (td P el).size (chunks (td P el).size n cs) true)
  |_=>none
 |.aK,none,some (.int _ h),none=>match (td P t).k with
  |.slice el=>some ((td P el).ok=true∧h=0,.aK)
  |_=>none
 |_,_,_,_=>none
def eP(P:Program)(t:TypeId)(x:MV)(i:Nat):PV :=
 match (td P t).k with
 |.struct fs=>match fs[i]?,x with
  |some (off,ft),.ptr l j o=>some ((td P ft).ok=true∧(td P ft).size≠0,.ptr l j (o+off))
  |some (off,ft),.cg cs=>some ((td P ft).ok=true∧(td P ft).size≠0,.cg (cs.drop off))
  |_,_=>none
 |_=>none
def mX(P:Program)(t:TypeId)(x i:MV):PV :=
 match (td P t).k,x,i with
 |.slice el,.aj e xs _,.int _ n=>some ((td P el).ok=true∧(td P el).size=e∧0≤n∧n<xs.length,.cg (xs.getD n.toNat []))
 |.slice el,.vec e l lo k,.int _ n=>some ((td P el).ok=true∧(td P el).size=e∧0≤n∧n<k,.ptr l (lo+n.toNat) 0)
 |.array len el,.ptr l j o,.int _ n=>some ((td P el).ok=true∧0≤n∧n<len,.ptr l j (o+n.toNat*(td P el).size))
 |.array len el,.cg cs,.int _ n=>some ((td P el).ok=true∧0≤n∧n<len,.cg (cs.drop (n.toNat*(td P el).size)))
 |_,_,_=>none
def A9(P:Program)(t:TypeId)(x i:MV):PV :=
 match (td P t).k,x,i with
 |.str,.str s,.int _ n=>some (0≤n∧n<s.size,.int .u8 ((s.toList.getD n.toNat 0).toNat:Int))
 |.array len el,.agg cs,.int _ n=>some ((td P el).ok=true∧0≤n∧n<len∧(td P el).size*len≤cs.length∧0<(td P el).size,eJ (td P el) cs (n.toNat*(td P el).size))
 |_,_,_=>none
def EO(P:Program)(t:TypeId)(x:MV)(i:Nat):PV :=
 match (td P t).k with
 |.struct fs=>match fs[i]?,x with
  |some (off,ft),.agg cs=>some ((td P ft).ok=true∧off+(td P ft).size≤cs.length∧0<(td P ft).size,eJ (td P ft) cs off)
  |_,_=>none
 |_=>none
def laid(cs:List MV)(off:Nat)(new:List MV):List MV:=cs.take off++new++cs.drop (off+new.length)
def fN(P:Program)(f:FR)(place:Nat→Option (Nat×TypeId)):List (Nat×Operand)→List MV→Option (Prop×List MV)
 |[],cs=>some (True,cs)
 |(i,x)::rest,cs=>match place i with
  |none=>none
  |some (off,ft)=>match fN P f place rest (laid cs off (aH f x).cells) with
   |none=>none
   |some (C,r)=>some (((td P ft).ok=true∧(aH f x).cells.length=(td P ft).size∧(∀c,c∈(aH f x).cells→c.aP=true)∧off+(aH f x).cells.length≤cs.length)∧C,r)
def rB(P:Program)(f:FR)(t:TypeId)(parts:Array (Nat×Operand)):PV :=
 match (td P t).k with
 |.struct fs=>match fN P f (fun i=>fs[i]?) parts.toList (td P t).zero with
  |some (C,cs)=>some ((td P t).jq=true∧(fs.all fun x=>(td P x.2).ok)=true∧C,.agg cs)
  |none=>none
 |.array n el=>match fN P f (fun i=>some (i*(td P el).size,el)) parts.toList (td P t).zero with
  |some (C,cs)=>some ((td P t).jq=true∧(td P el).ok=true∧C,.agg cs)
  |none=>none
 |_=>none
def R8(P:Program)(t:TypeId)(x:MV):PV :=
 match x with
 |.str s=>some ((td P t).k=.str,.int .i64 s.size)
 |.aj _ xs _=>match (td P t).k with|.slice _=>some (True,.int .i64 xs.length)|_=>none
 |.vec _ _ _ n=>match (td P t).k with|.slice _=>some (True,.int .i64 n)|_=>none
 |.aK=>match (td P t).k with|.slice _=>some (True,.int .i64 0)|_=>none
 |.kp=>match (td P t).k with|.map _ _=>some (True,.int .i64 0)|_=>none
 |_=>none
def UZ(P:Program)(t:TypeId)(x:MV):PV :=
 match x with
 |.aK=>match (td P t).k with|.slice _=>some (True,.int .i64 0)|_=>none
 |_=>none
def MJ(x y:MV):PV :=
 match x,y with
 |.int k a,.int _ b=>some (True,.int k (if b<a then b else a))
 |_,_=>none
def MI(x y:MV):PV :=
 match x,y with
 |.int k a,.int _ b=>some (True,.int k (if b > a then b else a))
 |_,_=>none
def fB(P:Program)(b:Builtin)(ts:Array TypeId)(xs:List MV):PV :=
 match b,xs with
 |.len,[x]=>R8 P (ts.getD 0 0) x
 |.min,[x,y]=>MJ x y
 |.max,[x,y]=>MI x y
 |.cap,[x]=>UZ P (ts.getD 0 0) x
 |_,_=>none
def JX(P:Program)(t:TypeId)(g:Nat)(i:MV):PV :=
 match (td P t).k,i with
 |.array len el,.int _ n=>(GT g n.toNat).bind fun v=>some ((td P el).ok=true∧(td P el).size=1∧0≤n∧n<len∧(vq v).aP=true,.cg [vq v])
 |_,_=>none
def yy(P:Program)(f:FR):Op→PV
 |.move x|.assign x=>some (True,aH f x)
 |.pick c a b=>match aH f c with
  |.bool t=>some (True,if t=true then aH f a else aH f b)
  |_=>none
 |.nilCheck x=>match aH f x with
  |.ptr l i o=>some (True,.ptr l i o)
  |.cg cs=>some (True,.cg cs)
  |_=>none
 |.binOp op t x y _=>cX P t op (aH f x) (aH f y)
 |.unOp op _ x=>mun op (aH f x)
 |.convert s d x=>vT P s d (aH f x)
 |.makeInterface t x=>match (td P t).k,(td P t).ok with
  |.iface,_=>none
  |_,true=>some (True,.iface t (aH f x))
  |_,_=>none
 |.makeFunc fn first cap=>some (True,.fn fn (first.toList.map (aH f)) (cap.toList.map (aH f)))
 |.slice t x lo hi mx=>rF P t (aH f x) (lo.map (aH f)) (hi.map (aH f)) (mx.map (aH f))
 |.fieldAddr t x i=>eP P t (aH f x) i
 |.field t x i=>EO P t (aH f x) i
 |.indexAddr t (.global g) i=>JX P t g (aH f i)
 |.indexAddr t x i=>mX P t (aH f x) (aH f i)
 |.index t x i=>A9 P t (aH f x) (aH f i)
 |.extract x i=>match aH f x with
  |.ar vs=>match vs[i]? with|some v=>some (True,v)|none=>none
  |_=>none
 |.build t parts=>rB P f t parts
 |.call { callee:=.builtin b,args,argTypes }=>fB P b argTypes (args.toList.map (aH f))
 |_=>none
section
variable {P:Program} {Φ:bd}
def Ey{op:BinOp}{k:IntKind}{a b:Int}{C:Prop}{mv:MV}(h:iD op k a b=some (C,mv))(hC:C)(t:TypeId) :
  ∃v,(∀w,(binOp op t (.int k a) (.int k b)).run P w=.ok v w)∧Rel Φ v mv:=by
 cases op<;>simp only[iD,et,ew,reduceCtorEq] at h<;>obtain⟨rfl,rfl⟩:=h;case quo=>exact⟨_,fun w=>by simp only[binOp,ne_eq,not_true_eq_false,if_false,Op.intDiv,if_neg hC,ey],.int _ _⟩
 case rem=>exact⟨_,fun w=>by simp only[binOp,ne_eq,not_true_eq_false,if_false,Op.intDiv,if_neg hC,ey],.int _ _⟩
 all_goals refine⟨_,fun w=>by simp only[binOp,ne_eq,not_true_eq_false,if_false,Op.intArith,Op.intBits,Op.intCmp,ey];rfl,?_⟩
 all_goals first|exact .int _ _|exact .bool _
def qX{op:BinOp}{k k':IntKind}{a b:Int}{C:Prop}{mv:MV}(h:qW op k a b=some (C,mv))(hC:C)(t:TypeId) :
  ∃v,(∀w,(binOp op t (.int k a) (.int k' b)).run P w=.ok v w)∧Rel Φ v mv:=by
 cases op<;>simp only[qW,et,ew,reduceCtorEq] at h<;>obtain⟨rfl,rfl⟩:=h <;>
  exact⟨_,fun w=>by simp[binOp,Op.shift,show ¬b<0 by omega],.int _ _⟩
def FY{op:BinOp}{x y:ByteArray}{C:Prop}{mv:MV}(h:rU op x y=some (C,mv))(hC:C)(t:TypeId) :
  ∃v,(∀w,(binOp op t (.string x) (.string y)).run P w=.ok v w)∧Rel Φ v mv:=by
 cases op<;>simp only[rU,et,ew,reduceCtorEq] at h<;>obtain⟨rfl,rfl⟩:=h <;>
  first
  |exact⟨_,fun w=>by simp[binOp,Op.stringOp],.bool _⟩
  |exact⟨.string (x++y),fun w=>by
    have h2:¬((x.size+y.size:Nat):Int) > be.max:=by simp only[bj,bg,bi];have:=hC;simp;omega
    unfold binOp;simp only[Op.stringOp,if_neg h2,ey],.str _⟩
def GG{op:BinOp}{t:TypeId}{x y:Operand}{k k':IntKind}{a b:Int}(w:World):(eqGuard op t x y (.int k a) (.int k' b)).run P w=.ok () w:=by cases op<;>rfl
def GJ{op:BinOp}{t:TypeId}{x y:Operand}{a b:ByteArray}(w:World):(eqGuard op t x y (.string a) (.string b)).run P w=.ok () w:=by cases op<;>rfl
def En{op:BinOp}{t:TypeId}{x y:Operand}{a b:Bool}(w:World):(eqGuard op t x y (.bool a) (.bool b)).run P w=.ok () w:=by cases op<;>rfl
def lA{op:BinOp}{t:TypeId}{x y:Operand}{a b:Option Addr}(w:World):(eqGuard op t x y (.pointer a) (.pointer b)).run P w=.ok () w:=by cases op<;>rfl
def Vz{t:TypeId}(h:(td P t).k.isBool=true):P.underlying t=some .bool:=xN (by
 cases hk:(td P t).k<;>simp[hk,TK.isBool] at h;rfl)
def B2{t:TypeId}(h:(td P t).k.vN=true):∃e,P.underlying t=some (.pointer e):=by cases hk:(td P t).k<;>simp[hk,TK.vN] at h;exact⟨_,VC hk⟩
def AL{op:BinOp}{t:TypeId}{x y:Operand}{a b:Option Addr}{n c n' c':Nat}(w:World):(eqGuard op t x y (.slice a n c) (.slice b n' c')).run P w=.ok () w:=by cases op<;>rfl
def V8{t:TypeId}(h:(td P t).k.J8=true):∃e,P.underlying t=some (.slice e):=by cases hk:(td P t).k<;>simp[hk,TK.J8] at h;exact⟨_,bB hk⟩
def uM{t e:TypeId}(h:P.underlying t=some (.slice e))(a:Option Addr)(n c:Nat)(w:World)(d:Nat):(d8 (d+1) t (.slice a n c) (.slice none 0 0)).run P w=.ok a.isNone w:=by cases a<;>simp only[d8,ez,aO h,ex,ey]<;>rfl
def pA{t e:TypeId}(h:P.underlying t=some (.slice e))(a:Option Addr)(n c:Nat)(w:World):(d9 t (.slice a n c) (.slice none 0 0)).run P w=.ok a.isNone w:=uM h a n c w 9999
def sW{t e:TypeId}(h:P.underlying t=some (.pointer e))(a:Option Addr)(w:World)(d:Nat):(d8 (d+1) t (.pointer a) (.pointer none)).run P w=.ok a.isNone w:=by cases a<;>simp only[d8,ez,aO h,ex,ey]<;>rfl
def sV{t e:TypeId}(h:P.underlying t=some (.pointer e))(a:Option Addr)(w:World)(d:Nat):(d8 (d+1) t (.pointer none) (.pointer a)).run P w=.ok a.isNone w:=by cases a<;>simp only[d8,ez,aO h,ex,ey]
def xD{t:TypeId}(h:P.underlying t=some .bool)(a b:Bool)(w:World)(d:Nat):(d8 (d+1) t (.bool a) (.bool b)).run P w=.ok (a==b) w:=by simp only[d8,ez,aO h,ex,ey]
def j6{t e:TypeId}(h:P.underlying t=some (.pointer e))(a:Option Addr)(w:World):(d9 t (.pointer a) (.pointer none)).run P w=.ok a.isNone w:=sW h a w 9999
def oC{t e:TypeId}(h:P.underlying t=some (.pointer e))(a:Option Addr)(w:World):(d9 t (.pointer none) (.pointer a)).run P w=.ok a.isNone w:=sV h a w 9999
def run_equal_bool{t:TypeId}(h:P.underlying t=some .bool)(a b:Bool)(w:World):(d9 t (.bool a) (.bool b)).run P w=.ok (a==b) w:=xD h a b w 9999
def JU{op:BinOp}{t:TypeId}{x y:Operand}{f:Fn}{a b:Array Value}(w:World):(eqGuard op t x y (.func f a b) .nilFunc).run P w=.ok () w:=by cases op<;>rfl
def GH{op:BinOp}{t:TypeId}{x y:Operand}(w:World):(eqGuard op t x y .nilFunc .nilFunc).run P w=.ok () w:=by cases op<;>rfl
def V7{t:TypeId}(h:(td P t).k.J6=true):∃a b c,P.underlying t=some (.func a b c):=by
 have h:(td P t).k=.func:=by cases hk:(td P t).k<;>simp[hk,TK.J6] at h;rfl
 obtain⟨i,d,hi,hd,hs,hb,hk⟩:=dM (p8 h ax);rw[hk] at h;cases d<;>simp[xM] at h;exact⟨_,_,_,hd⟩
def uL{t:TypeId}{a b c}(h:P.underlying t=some (.func a b c))(f:Fn)(x y:Array Value)(w:World)(d:Nat):(d8 (d+1) t (.func f x y) .nilFunc).run P w=.ok false w:=by simp only[d8,ez,aO h,ex,ey]
def run_equalIn_nil_nil{t:TypeId}{a b c}(h:P.underlying t=some (.func a b c))(w:World)(d:Nat):(d8 (d+1) t .nilFunc .nilFunc).run P w=.ok true w:=by simp only[d8,ez,aO h,ex,ey]
def yO{t:TypeId}{a b c}(h:P.underlying t=some (.func a b c))(f:Fn)(x y:Array Value)(w:World):(d9 t (.func f x y) .nilFunc).run P w=.ok false w:=uL h f x y w 9999
def run_equal_nil_nil{t:TypeId}{a b c}(h:P.underlying t=some (.func a b c))(w:World):(d9 t .nilFunc .nilFunc).run P w=.ok true w:=run_equalIn_nil_nil h w 9999
def Rel.yL{v:Value}{l i o:Nat}(h:Rel Φ v (.ptr l i o)):∃a,v=.pointer (some a):=by obtain⟨p,R,_,_,rfl⟩:=h.jU;exact⟨_,rfl⟩
def Rel.tO{v:Value}{cs:List MV}(h:Rel Φ v (.cg cs)):∃a,v=.pointer (some a):=by obtain⟨b,off,vs,rfl,_,_⟩:=h.oU;exact⟨_,rfl⟩
def fQ{op:BinOp}{t:TypeId}{c:Prop}{b:Bool}{C:Prop}{mv:MV}{v1 v2:Value}(h:uo op c b=some (C,mv))(hC:C)
 (hb:binOp .eql t v1 v2=(do pure (.bool (←d9 t v1 v2))))(mw:binOp .neq t v1 v2=(do pure (.bool (!(←d9 t v1 v2)))))(he:c→∀w,(d9 t v1 v2).run P w=.ok b w) :
  ∃v,(∀w,(binOp op t v1 v2).run P w=.ok v w)∧Rel Φ v mv:=by
 cases op<;>simp only[uo,et,ew,reduceCtorEq] at h<;>obtain⟨rfl,rfl⟩:=h
 ·exact⟨_,fun w=>by rw[hb];simp[he hC w],.bool _⟩
 ·exact⟨_,fun w=>by rw[mw];simp[he hC w],.bool _⟩
def kS{α:Type}{l:List α}{i:Nat}{d:α}(h:i<l.length):l[i]?=some (l.getD i d):=by simp[c0,List.getElem?_eq_getElem h]
def kL{t:TypeId}(cm:(td P t).ok=true){cs:Array Value}{ms:List MV}{off:Nat}(hs:cs.size=ms.length)(hc:∀(i:Nat) m,ms[i]?=some m→m.aP=true)(hr:∀(i:Nat) m,ms[i]?=some m→Rel Φ (cs.getD i undef) m)
 (h1:off+(td P t).size≤ms.length)(h2:0<(td P t).size):∃v,(∀w,(part t cs off).run P w=.ok v w)∧Rel Φ v (eJ (td P t) ms off):=by
 unfold eJ;cases hk:(td P t).k.isAgg with
 |true =>
  simp only[if_true];refine⟨.agg (cs.extract off (off+(td P t).size)),fun w=>by simp[part,uN cm,hk,aS cm],.agg ?_ (fun i m hm=>?_) (fun i m hm=>?_)⟩
  ·simp only[Array.size_extract,List.length_take,ca];omega
  ·rw[bz] at hm;split at hm
   ·exact hc _ m (by simpa using hm)
   ·cases hm
  ·rw[bz] at hm;split at hm
   ·rename_i hi;have:=hr (off+i) m (by simpa using hm);have e:(cs.extract off (off+(td P t).size)).getD i undef=cs.getD (off+i) undef:=by
     simp only[e6]
     congr 1
     rw[Array.getElem?_extract];rw[if_pos oM]
    rw[e];exact this
   ·cases hm
 |false =>
  have bh:off<cs.size:=oM;refine⟨cs.getD off undef,fun w=>?_,?_⟩
  ·have:cs[off]?=some (cs.getD off undef):=by simp[e6,e7 bh]
   simp only[part,ez,uN cm,hk,ex,ab,if_false,this,ey]
  ·simp only[ab,if_false];exact hr off _ (kS oM)
def Ad{t:TypeId}{g:TypeId→MV→MV→Option Bool}{dd:Nat}(hg:∀t x y b,g t x y=some b→∀v1 v2,Rel Φ v1 x→Rel Φ v2 y→∀w,(d8 dd t v1 v2).run P w=.ok b w)
 {xs ys:List MV}{cx cy:Array Value}(hsx:cx.size=xs.length)(hcx:∀(i:Nat) m,xs[i]?=some m→m.aP=true)(hrx:∀(i:Nat) m,xs[i]?=some m→Rel Φ (cx.getD i undef) m)
 (hsy:cy.size=ys.length)(hcy:∀(i:Nat) m,ys[i]?=some m→m.aP=true)(hry:∀(i:Nat) m,ys[i]?=some m→Rel Φ (cy.getD i undef) m)(w:World) :
  ∀(fs:List Field) (b:Bool),(∀f,f∈fs→f.name ≠ "_")→cK P g xs ys (fs.map fun f=>(f.offset,f.type))=some b→(ee dd cx cy fs).run P w=.ok b w:=by
 intro fs
 induction fs with
 |nil=>intro b _ h;simp[cK] at h;subst h;simp[ee]
 |cons f r ih =>
  intro b hn h;simp only[b8,cK] at h;split at h
  ·rename_i hc;obtain⟨cm,h1,h2,h3⟩:=hc;split at h
   ·cases h
   ·rename_i b1 Z2;simp only[eg] at h;obtain⟨b2,me,rfl⟩:=h;obtain⟨v1,hv1,r1⟩:=kL cm hsx hcx hrx h1 h3;obtain⟨v2,hv2,r2⟩:=kL cm hsy hcy hry h2 h3;have Zh:=hn f ax;simp only[ee,ne_eq,Zh,not_false_eq_true,if_true,ez,hv1 w,hv2 w,ex,hg _ _ _ _ Z2 v1 v2 r1 r2 w];cases b1
    ·simp
    ·simp only[ak,ab,if_false,Bool.true_and];exact ih b2 (fun f hf=>hn f (by simp[hf])) me
  ·cases h
def A8{e:TypeId}(cm:(td P e).ok=true){g:TypeId→MV→MV→Option Bool}{dd:Nat}(hg:∀t x y b,g t x y=some b→∀v1 v2,Rel Φ v1 x→Rel Φ v2 y→∀w,(d8 dd t v1 v2).run P w=.ok b w)
 {xs ys:List MV}{cx cy:Array Value}(hsx:cx.size=xs.length)(hcx:∀(i:Nat) m,xs[i]?=some m→m.aP=true)(hrx:∀(i:Nat) m,xs[i]?=some m→Rel Φ (cx.getD i undef) m)
 (hsy:cy.size=ys.length)(hcy:∀(i:Nat) m,ys[i]?=some m→m.aP=true)(hry:∀(i:Nat) m,ys[i]?=some m→Rel Φ (cy.getD i undef) m)(w:World) :
  ∀(is:List Nat) (b:Bool),cK P g xs ys (is.map fun i=>(i*(td P e).size,e))=some b→(Op.eqItems dd e (td P e).size cx cy is).run P w=.ok b w:=by
 intro is
 induction is with
 |nil=>intro b h;simp[cK] at h;subst h;simp[Op.eqItems]
 |cons i r ih =>
  intro b h;simp only[b8,cK] at h;split at h
  ·rename_i hc;obtain⟨cm,h1,h2,h3⟩:=hc;split at h
   ·cases h
   ·rename_i b1 Z2;simp only[eg] at h;obtain⟨b2,me,rfl⟩:=h;obtain⟨v1,hv1,r1⟩:=kL cm hsx hcx hrx h1 h3;obtain⟨v2,hv2,r2⟩:=kL cm hsy hcy hry h2 h3;simp only[Op.eqItems,ez,hv1 w,hv2 w,ex,hg _ _ _ _ Z2 v1 v2 r1 r2 w];cases b1
    ·simp
    ·simp only[ak,ab,if_false,Bool.true_and];exact ih b2 me
  ·cases h
def Kw:∀(d:Nat) (t:TypeId) (x y:MV) (b:Bool),jX P d t x y=some b→∀v1 v2,Rel Φ v1 x→Rel Φ v2 y→∀(D:Nat) w,(d8 (D+d) t v1 v2).run P w=.ok b w:=by
 intro d
 induction d with
 |zero=>intro t x y b h;simp[jX] at h
 |succ d ih =>
  intro t x y b h v1 v2 r1 r2 D w;simp only[jX] at h;split at h
  ·rename_i q k a k' c hk;cases r1.aZ;cases r2.aZ;split at h
   ·rename_i zj;subst zj;cases h;rw[show D+(d+1)=(D+d)+1 from rfl];simp only[d8,ez,aO (kY hk),ex,if_true,ey];rfl
   ·cases h
  ·rename_i a c hk;cases r1.mU;cases r2.mU;cases h;rw[show D+(d+1)=(D+d)+1 from rfl];simp only[d8,ez,aO (xN hk),ex,ey]
  ·rename_i a c hk;cases r1.gS;cases r2.gS;cases h;rw[show D+(d+1)=(D+d)+1 from rfl];simp only[d8,ez,aO (iW hk),ex,ey]
   congr 1
   obtain⟨⟨p⟩⟩:=a;obtain⟨⟨q⟩⟩:=c;show((⟨p⟩:Array UInt8)==⟨q⟩)=_;rw[Bool.eq_iff_iff];simp
  ·rename_i fs xs ys hk;split at h
   ·rename_i hp;obtain⟨cx,rfl,hsx,hcx,hrx⟩:=r1.kU;obtain⟨cy,rfl,hsy,hcy,hry⟩:=r2.kU;obtain⟨fa,hu,rfl⟩:=kO hk;have hf:P.fieldsOf t=fa:=by simp[Program.fieldsOf,hu]
    simp only[dU,ag,Bool.not_eq_true',List.all_eq_true,bne_iff_ne] at hp;rw[show D+(d+1)=(D+d)+1 from rfl,run_equalIn_struct w (D+d) t cx cy (by rw[hf];exact hu) hp.1.1,hf];refine Ad (P:=P) (Φ:=Φ) (t:=t) (g:=jX P d) (dd:=D+d) (fun t x y b h v1 v2 r1 r2 w=>ih t x y b h v1 v2 r1 r2 D w) hsx hcx hrx hsy hcy hry w fa.toList b (fun f hf'=>hp.1.2 f (by rw[hf];exact hf')) h
   ·cases h
  ·rename_i n e xs ys hk;split at h
   ·rename_i cm;obtain⟨cx,rfl,hsx,hcx,hrx⟩:=r1.kU;obtain⟨cy,rfl,hsy,hcy,hry⟩:=r2.kU;obtain⟨i,q,hi,hq,hs,-,-⟩:=dM cm;have od:P.cellsOf e=(td P e).size:=by rw[hs];simp[Program.cellsOf,hi]
    rw[show D+(d+1)=(D+d)+1 from rfl,run_equalIn_array w (D+d) cx cy (iQ hk) hi,od];exact A8 (P:=P) (Φ:=Φ) cm (g:=jX P d) (dd:=D+d) (fun t x y b h v1 v2 r1 r2 w=>ih t x y b h v1 v2 r1 r2 D w) hsx hcx hrx hsy hcy hry w _ b h
   ·cases h
  ·cases h
def Kk{t:TypeId}{op:BinOp}{x y:MV}{C:Prop}{mv:MV}(h:cX P t op x y=some (C,mv))(hC:C){v1 v2:Value}(r1:Rel Φ v1 x)(r2:Rel Φ v2 y)(o1 o2:Operand) :
  ∃v,(∀w,(eqGuard op t o1 o2 v1 v2).run P w=.ok () w∧(binOp op t v1 v2).run P w=.ok v w)∧Rel Φ v mv:=by
 unfold cX at h;split at h
 ·rename_i k a k' b;cases r1.aZ;cases r2.aZ;have hg:∀w,(eqGuard op t o1 o2 (.int k a) (.int k' b)).run P w=.ok () w:=fun w=>GG w;split at h
  ·obtain⟨v,hv,hr⟩:=qX (P:=P) (Φ:=Φ) (k':=k') h hC t;exact⟨v,fun w=>⟨hg w,hv w⟩,hr⟩
  ·obtain⟨v,hv,hr⟩:=qX (P:=P) (Φ:=Φ) (k':=k') h hC t;exact⟨v,fun w=>⟨hg w,hv w⟩,hr⟩
  ·split at h
   ·rename_i hk;subst hk;obtain⟨v,hv,hr⟩:=Ey (P:=P) (Φ:=Φ) h hC t;exact⟨v,fun w=>⟨hg w,hv w⟩,hr⟩
   ·cases h
 ·cases r1.gS;cases r2.gS;obtain⟨v,hv,hr⟩:=FY (P:=P) (Φ:=Φ) h hC t;exact⟨v,fun w=>⟨GJ w,hv w⟩,hr⟩
 ·cases r1.mU;cases r2.mU;obtain⟨v,hv,hr⟩:=fQ (P:=P) (Φ:=Φ) (t:=t) h hC rfl rfl (fun hc w=>run_equal_bool (Vz hc) _ _ w);exact⟨v,fun w=>⟨En w,hv w⟩,hr⟩
 ·cases r1.oW;cases r2.oW;obtain⟨v,hv,hr⟩:=fQ (P:=P) (Φ:=Φ) (t:=t) (v1:=.pointer none) (v2:=.pointer none) h hC rfl rfl (fun hc w=>by obtain⟨e,he⟩:=B2 hc;exact j6 he none w);exact⟨v,fun w=>⟨lA w,hv w⟩,hr⟩
 ·obtain⟨ad,rfl⟩:=r1.yL;cases r2.oW;obtain⟨v,hv,hr⟩:=fQ (P:=P) (Φ:=Φ) (t:=t) (v1:=.pointer (some ad)) (v2:=.pointer none) h hC rfl rfl (fun hc w=>by obtain⟨e,he⟩:=B2 hc;exact j6 he (some ad) w);exact⟨v,fun w=>⟨lA w,hv w⟩,hr⟩
 ·obtain⟨ad,rfl⟩:=r2.yL;cases r1.oW;obtain⟨v,hv,hr⟩:=fQ (P:=P) (Φ:=Φ) (t:=t) (v1:=.pointer none) (v2:=.pointer (some ad)) h hC rfl rfl (fun hc w=>by obtain⟨e,he⟩:=B2 hc;exact oC he (some ad) w);exact⟨v,fun w=>⟨lA w,hv w⟩,hr⟩
 ·obtain⟨ad,rfl⟩:=r1.tO;cases r2.oW;obtain⟨v,hv,hr⟩:=fQ (P:=P) (Φ:=Φ) (t:=t) (v1:=.pointer (some ad)) (v2:=.pointer none) h hC rfl rfl (fun hc w=>by obtain⟨e,he⟩:=B2 hc;exact j6 he (some ad) w);exact⟨v,fun w=>⟨lA w,hv w⟩,hr⟩
 ·obtain⟨ad,rfl⟩:=r2.tO;cases r1.oW;obtain⟨v,hv,hr⟩:=fQ (P:=P) (Φ:=Φ) (t:=t) (v1:=.pointer none) (v2:=.pointer (some ad)) h hC rfl rfl (fun hc w=>by obtain⟨e,he⟩:=B2 hc;exact oC he (some ad) w);exact⟨v,fun w=>⟨lA w,hv w⟩,hr⟩
 ·rename_i xs ys;split at h
  ·rename_i b hb;obtain⟨cx,rfl,-⟩:=r1.kU;obtain⟨cy,rfl,-⟩:=r2.kU;obtain⟨v,hv,hr⟩:=fQ (P:=P) (Φ:=Φ) (t:=t) (v1:=.agg cx) (v2:=.agg cy) h hC rfl rfl (fun _ w=>Kw 6 t _ _ b hb _ _ r1 r2 9994 w);have hp:dU P t=true:=by cases op<;>simp only[uo,et,ew,reduceCtorEq] at h<;>obtain⟨rfl,-⟩:=h<;>exact hC
   have tp:P.eqGuardType P.depth t=false:=by simp only[dU,ag,Bool.not_eq_true'] at hp;exact hp.2
   refine⟨v,fun w=>⟨?_,hv w⟩,hr⟩;unfold eqGuard;cases op<;>simp[run_program,tp]
  ·cases h
 ·cases r1.gF;cases r2.gF;obtain⟨v,hv,hr⟩:=fQ (P:=P) (Φ:=Φ) (t:=t) (v1:=.slice none 0 0) (v2:=.slice none 0 0) h hC rfl rfl (fun hc w=>by obtain⟨e,he⟩:=V8 hc;exact pA he none 0 0 w);exact⟨v,fun w=>⟨AL w,hv w⟩,hr⟩
 ·obtain⟨a,cap,rfl,-,-,-,-,hx⟩:=r1.l7;obtain⟨b,off,rfl,-⟩:=hx (Nat.succ_pos _);cases r2.gF;obtain⟨v,hv,hr⟩:=fQ (P:=P) (Φ:=Φ) (t:=t) (v1:=.slice (some ⟨b,off,none⟩) (_+1) cap) (v2:=.slice none 0 0) h hC rfl rfl (fun hc w=>by obtain⟨e,he⟩:=V8 hc;exact pA he (some ⟨b,off,none⟩) _ cap w);exact⟨v,fun w=>⟨AL w,hv w⟩,hr⟩
 ·cases r1.x9;cases r2.x9;obtain⟨v,hv,hr⟩:=fQ (P:=P) (Φ:=Φ) (t:=t) (v1:=.nilFunc) (v2:=.nilFunc) h hC rfl rfl (fun hc w=>by obtain⟨a,b,c,he⟩:=V7 hc;exact run_equal_nil_nil he w);exact⟨v,fun w=>⟨GH w,hv w⟩,hr⟩
 ·rename_i fn0 _ _;obtain⟨x,y,rfl,-⟩:=r1.pM;cases r2.x9;obtain⟨v,hv,hr⟩:=fQ (P:=P) (Φ:=Φ) (t:=t) (v1:=.func fn0 x y) (v2:=.nilFunc) h hC rfl rfl (fun hc w=>by obtain⟨a,b,c,he⟩:=V7 hc;exact yO he fn0 x y w);exact⟨v,fun w=>⟨JU w,hv w⟩,hr⟩
 ·cases h
def OX{op:UnOp}{x:MV}{C:Prop}{mv:MV}(h:mun op x=some (C,mv)){v1:Value}(r1:Rel Φ v1 x) :
  ∃v,(∀w,(eb op v1).run P w=.ok v w)∧Rel Φ v mv:=by
 unfold mun at h;split at h
 ·simp only[et,ew] at h;obtain⟨_,rfl⟩:=h;cases r1.aZ;exact⟨_,fun w=>by simp[eb,Op.intArith],.int _ _⟩
 ·simp only[et,ew] at h;obtain⟨_,rfl⟩:=h;cases r1.aZ;exact⟨_,fun w=>by simp only[eb,Op.intBits,ey];rfl,.int _ _⟩
 ·simp only[et,ew] at h;obtain⟨_,rfl⟩:=h;cases r1.mU;exact⟨_,fun w=>by simp[eb],.bool _⟩
 ·cases h
def Hp{s d:TypeId}{x:MV}{C:Prop}{mv:MV}(h:vT P s d x=some (C,mv)){v1:Value}(r1:Rel Φ v1 x) :
  ∃v,(∀w,(convert s d v1).run P w=.ok v w)∧Rel Φ v mv:=by
 unfold vT at h;split at h
 ·rename_i hk hs;simp only[et,ew] at h;obtain⟨_,rfl⟩:=h;cases r1.aZ;obtain⟨i,d',hi,hd,_⟩:=dM hs;exact⟨_,fun w=>by simp[convert,aO hd,aO (kY hk),Conv.intToInt],.int _ _⟩
 ·rename_i hk hs;simp only[et,ew] at h;obtain⟨_,rfl⟩:=h;cases r1.gS;obtain⟨i,d',hi,hd,_⟩:=dM hs;exact⟨_,fun w=>by simp[convert,aO hd,aO (iW hk)],.str _⟩
 ·cases h
def eI(a:Addr)(w:World):(Instr.sureAddr (.pointer (some a))).run P w=.ok a w:=rfl
def yF{t:TypeId}{x:MV}{i:Nat}{C:Prop}{mv:MV}(h:eP P t x i=some (C,mv))(hC:C){v1:Value}(r1:Rel Φ v1 x) :
  ∃v,(∀w,(a7 t v1 i).run P w=.ok v w)∧Rel Φ v mv:=by
 unfold eP at h;split at h
 ·rename_i fs hk;obtain⟨fa,hu,rfl⟩:=kO hk;split at h
  ·rename_i off ft l j o hf;simp only[et,ew] at h;obtain⟨rfl,rfl⟩:=h;obtain⟨cm,dq⟩:=hC;obtain⟨p,R,ho,hb,rfl⟩:=r1.jU;simp only[bx,e9,eg] at hf;obtain⟨fd,hfd,he⟩:=hf;obtain⟨rfl,rfl⟩:=ew .. ▸ he;refine⟨.pointer (some ⟨R,p.bo+j*p.e+(o+fd.offset),none⟩),fun w=>?_,.ptr ho hb⟩;simp only[a7,ez,aO hu,ex,hfd,eI,fieldPlace,aS cm,e5,if_neg dq,ey,eM];rw[dt]
  ·rename_i off ft cs hf;simp only[et,ew] at h;obtain⟨rfl,rfl⟩:=h;obtain⟨cm,dq⟩:=hC;obtain⟨b,o,vs,rfl,hc,hr⟩:=r1.oU;simp only[bx,e9,eg] at hf;obtain⟨fd,hfd,he⟩:=hf;obtain⟨rfl,rfl⟩:=ew .. ▸ he;refine⟨.pointer (some ⟨b,o+fd.offset,none⟩),fun w=>?_,.cg (fun q=>vs (fd.offset+q)) (fun q m hm=>?_) (fun q m hm=>hr _ m (by simpa using hm))⟩
   ·simp only[a7,ez,aO hu,ex,hfd,eI,fieldPlace,aS cm,e5,if_neg dq,ey,eM]
   ·have:=hc (fd.offset+q) m (by simpa using hm);rw[dt];exact this
  ·cases h
 ·cases h
def fY(k:IntKind)(n:Int)(w:World):(asIntOf (.int k n)).run P w=.ok (k,n) w:=rfl
def yG{t:TypeId}{x i:MV}{C:Prop}{mv:MV}(h:mX P t x i=some (C,mv))(hC:C){v1 v2:Value}(r1:Rel Φ v1 x)(r2:Rel Φ v2 i) :
  ∃v,(∀w,(a3 t v1 v2).run P w=.ok v w)∧Rel Φ v mv:=by
 unfold mX at h;split at h
 ·rename_i el e xs tt k n hk;simp only[et,ew] at h;obtain⟨rfl,rfl⟩:=h;obtain⟨cm,dq,h0,h1⟩:=hC;cases r2.aZ;obtain⟨a,cap,rfl,_,_,_,_,ay⟩:=r1.l7;obtain⟨b,off,rfl,hx,vs,hv⟩:=ay oM;have hi:xs[n.toNat]?=some (xs.getD n.toNat []):=kS oM;refine⟨.pointer (some ⟨b,off+n.toNat*e,none⟩),fun w=>?_,.cg (vs n.toNat) (fun j m hm=>?_) (fun j m hm=>(hv n.toNat _ j m hi hm).2.2)⟩
  ·simp only[a3,ez,fY,ex,aO (bB hk),ey,e5,if_pos (show 0≤n∧n<(xs.length:Int) from⟨h0,h1⟩),aS cm,dq,eM]
  ·have:=hv n.toNat _ j m hi hm;rw[dt];exact⟨this.1,this.2.1⟩
 ·rename_i el e l lo kk k n hk;simp only[et,ew] at h;obtain⟨rfl,rfl⟩:=h;obtain⟨cm,dq,h0,h1⟩:=hC;cases r2.aZ;obtain⟨a,cap,p,rfl,ho,rfl,dv,hn,hR⟩:=r1.eQ;rcases hR with⟨R,hb,rfl⟩|hR
  ·refine⟨.pointer (some ⟨R,p.bo+(lo+n.toNat)*p.e+0,none⟩),fun w=>?_,.ptr ho hb⟩;simp only[a3,ez,fY,ex,aO (bB hk),ey,e5,if_pos (show 0≤n∧n<(kk:Int) from⟨h0,h1⟩),aS cm,dq,eM];rw[dj,d0,dt]
  ·omega
 ·rename_i len el l j o k n hk;simp only[et,ew] at h;obtain⟨rfl,rfl⟩:=h;obtain⟨cm,h0,h1⟩:=hC;cases r2.aZ;obtain⟨p,R,ho,hb,rfl⟩:=r1.jU;refine⟨.pointer (some ⟨R,p.bo+j*p.e+(o+n.toNat*(td P el).size),none⟩),fun w=>?_,.ptr ho hb⟩;simp only[a3,ez,fY,ex,aO (iQ hk),eI,ey,e5,if_pos (show 0≤n∧n<(len:Int) from⟨h0,h1⟩),aS cm,eM];rw[dt]
 ·rename_i len el cs k n hk;simp only[et,ew] at h;obtain⟨rfl,rfl⟩:=h;obtain⟨cm,h0,h1⟩:=hC;cases r2.aZ;obtain⟨b,off,vs,rfl,hc,hr⟩:=r1.oU;refine⟨.pointer (some ⟨b,off+n.toNat*(td P el).size,none⟩),fun w=>?_,.cg (fun q=>vs (n.toNat*(td P el).size+q)) (fun q m hm=>?_) (fun q m hm=>hr _ m (by simpa using hm))⟩
  ·simp only[a3,ez,fY,ex,aO (iQ hk),eI,ey,e5,if_pos (show 0≤n∧n<(len:Int) from⟨h0,h1⟩),aS cm,eM]
  ·have:=hc (n.toNat*(td P el).size+q) m (by simpa using hm);rw[dt];exact this
 ·cases h
def EP{t:TypeId}{x:MV}{i:Nat}{C:Prop}{mv:MV}(h:EO P t x i=some (C,mv))(hC:C){v1:Value}(r1:Rel Φ v1 x) :
  ∃v,(∀w,(Instr.field t v1 i).run P w=.ok v w)∧Rel Φ v mv:=by
 unfold EO at h;split at h
 ·rename_i fs hk;obtain⟨fa,hu,rfl⟩:=kO hk;split at h
  ·rename_i off ft cs hf;simp only[et,ew] at h;obtain⟨rfl,rfl⟩:=h;obtain⟨cm,h1,h2⟩:=hC;obtain⟨cv,rfl,hs,hc,hr⟩:=r1.kU;simp only[bx,e9,eg] at hf;obtain⟨fd,hfd,he⟩:=hf;obtain⟨rfl,rfl⟩:=ew .. ▸ he;obtain⟨v,hv,bf⟩:=kL cm hs hc hr h1 h2;exact⟨v,fun w=>by simp only[Instr.field,ez,aO hu,ex,hfd,asAgg,ey,hv w],bf⟩
  ·cases h
 ·cases h
def uR(s:ByteArray)(n:Nat):s[n]?=s.toList[n]?:=by rw[aI];obtain⟨⟨l⟩⟩:=s;simp[getElem?_def];rfl
def ER{t:TypeId}{x i:MV}{C:Prop}{mv:MV}(h:A9 P t x i=some (C,mv))(hC:C){v1 v2:Value}(r1:Rel Φ v1 x)(r2:Rel Φ v2 i) :
  ∃v,(∀w,(a9 t v1 v2).run P w=.ok v w)∧Rel Φ v mv:=by
 unfold A9 at h;split at h
 ·rename_i s k n hk;simp only[et,ew] at h;obtain⟨rfl,rfl⟩:=h;cases r1.gS;cases r2.aZ;obtain⟨h0,h1⟩:=hC;have hb:s[n.toNat]?=some (s.toList.getD n.toNat 0):=by
   rw[uR];refine kS ?_;rw[aI];have:s.data.toList.length=s.size:=by rw[fi];rfl
   omega
  refine⟨_,fun w=>?_,.int _ _⟩;simp only[a9,ez,fY,ex,aO (iW hk),if_pos h0,hb,ey]
 ·rename_i len el cs k n hk;simp only[et,ew] at h;obtain⟨rfl,rfl⟩:=h;obtain⟨cm,h0,h1,h2,h3⟩:=hC;cases r2.aZ;obtain⟨cv,rfl,hs,hc,hr⟩:=r1.kU;obtain⟨v,hv,bf⟩:=kL (off:=n.toNat*(td P el).size) cm hs hc hr (by
   have:n.toNat+1≤len:=oM;have:=dl (td P el).size this;rw[dj,dn,Nat.mul_comm len] at this;omega) h3
  exact⟨v,fun w=>by simp only[a9,ez,fY,ex,aO (iQ hk),e5,if_pos (show 0≤n∧n<(len:Int) from⟨h0,h1⟩),aS cm,hv w],bf⟩
 ·cases h
def KC{t:TypeId}{x:MV}{C:Prop}{mv:MV}(h:R8 P t x=some (C,mv))(hC:C){v1:Value}(r1:Rel Φ v1 x)(ts:Array TypeId)(hts:ts.size=1)(ht:ts.getD 0 0=t)(ty:TypeId) :
  ∃v,(∀w,(au ts ty #[v1]).run P w=.ok v w)∧Rel Φ v mv:=by
 have ZN:ts[0]?=some t:=by rw[←ht,e6,e7 oM];simp
 unfold R8 at h;split at h
 ·simp only[et,ew] at h;obtain⟨rfl,rfl⟩:=h;cases r1.gS;exact⟨_,fun w=>by simp[au,ZN,aO (iW hC),goInt],.int _ _⟩
 ·split at h<;>simp only[et,ew,reduceCtorEq] at h;obtain⟨rfl,rfl⟩:=h;obtain⟨a,cap,rfl,_⟩:=r1.l7;exact⟨_,fun w=>by simp[au,ZN,aO (bB bc),goInt],.int _ _⟩
 ·split at h<;>simp only[et,ew,reduceCtorEq] at h;obtain⟨rfl,rfl⟩:=h;obtain⟨a,cap,p,rfl,_⟩:=r1.eQ;exact⟨_,fun w=>by simp[au,ZN,aO (bB bc),goInt],.int _ _⟩
 ·split at h<;>simp only[et,ew,reduceCtorEq] at h;obtain⟨rfl,rfl⟩:=h;cases r1.gF;exact⟨_,fun w=>by simp[au,ZN,aO (bB bc),goInt],.int _ _⟩
 ·split at h<;>simp only[et,ew,reduceCtorEq] at h;obtain⟨rfl,rfl⟩:=h;cases r1.Q9;exact⟨_,fun w=>by simp[au,ZN,aO (sR bc),goInt],.int _ _⟩
 ·cases h
def Km{t:TypeId}{x:MV}{C:Prop}{mv:MV}(h:UZ P t x=some (C,mv)){v1:Value}(r1:Rel Φ v1 x)(ts:Array TypeId)(hts:ts.size=1)(ht:ts.getD 0 0=t)(ty:TypeId) :
  ∃v,(∀w,(Builtin.cap_ ts ty #[v1]).run P w=.ok v w)∧Rel Φ v mv:=by
 have ZN:ts[0]?=some t:=by rw[←ht,e6,e7 oM];simp
 unfold UZ at h;split at h
 ·split at h<;>simp only[et,ew,reduceCtorEq] at h;obtain⟨rfl,rfl⟩:=h;cases r1.gF;exact⟨_,fun w=>by simp[Builtin.cap_,ZN,aO (bB bc),goInt],.int _ _⟩
 ·cases h
end
section
variable {P:Program} {Φ:bd}
def k0(Φ:bd)(cs:Array Value)(ms:List MV):Prop :=
 cs.size=ms.length∧(∀(i:Nat) m,ms[i]?=some m→m.aP=true)∧∀(i:Nat) m,ms[i]?=some m→Rel Φ (cs.getD i undef) m
def k0.agg{cs:Array Value}{ms:List MV}(h:k0 Φ cs ms):Rel Φ (.agg cs) (.agg ms):=.agg h.1 h.2.1 h.2.2
def Cw{v:Value}(h:v.oneCell'=true):v.cells=#[v]:=by cases v<;>first|rfl|simp[Value.oneCell'] at h
def JE{m:MV}(h:m.aP=true):m.cells=[m]:=by cases m<;>first|rfl|simp[MV.aP] at h
def sO{v:Value}{m:MV}(r:Rel Φ v m)(hc:∀c,c∈m.cells→c.aP=true):k0 Φ v.cells m.cells:=by
 by_cases hm:m.aP=true
 ·rw[Cw (r.MN hm),JE hm];exact⟨rfl,fun i x hx=>by cases i<;>simp at hx;exact hx ▸ hm,fun i x hx=>by cases i<;>simp at hx;subst hx;exact r⟩
 ·cases m<;>simp[MV.aP] at hm
  ·have:=hc .bw (by simp[MV.cells]);simp[MV.aP] at this
  ·obtain⟨cs,rfl,h1,h2,h3⟩:=r.kU;exact⟨h1,h2,h3⟩
  ·rename_i vs;have:=hc (.ar vs) (by simp[MV.cells]);simp[MV.aP] at this
def mem_of_getElem?{α:Type}{l:List α}{i:Nat}{a:α}(h:l[i]?=some a):a∈l:=cr h
def cJ(cs:Array Value)(off:Nat):List Value→Array Value
 |[]=>cs
 |c::r=>cJ (cs.setIfInBounds off c) (off+1) r
def dA(l:List Value):∀(cs:Array Value) (off:Nat),(cJ cs off l).size=cs.size:=by
 induction l with
 |nil=>intro cs off;rfl
 |cons c r ih=>intro cs off;simp[cJ,ih]
def zW(l:List Value):∀(cs:Array Value) (off i:Nat) (d:Value),off+l.length≤cs.size →
  (cJ cs off l).getD i d=if off≤i∧i<off+l.length then l.getD (i-off) d else cs.getD i d:=by
 induction l with
 |nil=>intro cs off i d _;simp[cJ];omega
 |cons c r ih =>
  intro cs off i d h;simp only[cb] at h;rw[cJ,ih _ _ _ _ (by simp;omega)];by_cases h1:off+1≤i∧i<off+1+r.length
  ·rw[if_pos h1,if_pos (by simp;omega)];obtain⟨k,rfl⟩:∃k,i=off+1+k:=⟨i-(off+1),oM⟩
   rw[show off+1+k-(off+1)=k from by omega,show off+1+k-off=k+1 from by omega];rfl
  ·rw[if_neg h1];by_cases h2:i=off
   ·subst h2;rw[if_pos ax];simp[e6,fb,show i<cs.size by omega]
   ·rw[if_neg (by simp;omega)];simp[e6,fb,d6 h2]
def vJ(l:List Value):∀(k:Nat) (cs:Array Value) (off:Nat),
  (l.zipIdx k).foldl (fun cs (p:Value×Nat)=>cs.setIfInBounds (off+p.2) p.1) cs=cJ cs (off+k) l:=by
 induction l with
 |nil=>intro k cs off;rfl
 |cons c r ih=>intro k cs off;simp only[List.zipIdx_cons,List.foldl_cons,cJ];rw[ih];rfl
def k0.cJ{cs new:Array Value}{ms nms:List MV}{off:Nat}(h:k0 Φ cs ms)(hn:k0 Φ new nms)(gk:off+nms.length≤ms.length) :
  k0 Φ (cJ cs off new.toList) (laid ms off nms):=by
 have hlen:(laid ms off nms).length=ms.length:=by simp[laid];omega
 have ec:new.toList.length=nms.length:=by simpa using hn.1
 have jo:∀i,(laid ms off nms)[i]?=if off≤i∧i<off+nms.length then nms[i-off]? else ms[i]?:=by
  intro i;unfold laid;by_cases h1:i<off
  ·rw[if_neg oM,ci,bp (by simp;omega),bz,if_pos h1]
  ·by_cases h2:i<off+nms.length
   ·rw[if_pos oM,ci,bs (by simp;omega),bp (by simp;omega)];simp[show min off ms.length=off by omega]
   ·rw[if_neg oM,bs (by simp;omega),b0]
    congr 1
    simp;omega
 refine⟨by rw[dA,h.1,hlen],fun i m hm=>?_,fun i m hm=>?_⟩
 ·rw[jo] at hm;split at hm
  ·exact hn.2.1 _ m hm
  ·exact h.2.1 _ m hm
 ·rw[jo] at hm;rw[zW _ _ _ _ _ (by rw[ec,h.1];exact gk),ec];split at hm
  ·rename_i hc;rw[if_pos hc];have:=hn.2.2 _ m hm;simpa[e6,c0] using this
  ·rename_i hc;rw[if_neg hc];exact h.2.2 _ m hm
def AP{f:FR}{a:Act}(hr:dP Φ a.tmps f)(place:Nat→Option (Nat×TypeId))(pl:Nat→Option (Nat×Nat))
 (qh:∀i off t,place i=some (off,t)→(td P t).ok=true→pl i=some (off,(td P t).size)) :
  ∀(parts:List (Nat×Operand)) (cs:Array Value) (ms:List MV) (C:Prop) (r:List MV),k0 Φ cs ms→fN P f place parts ms=some (C,r)→C →
   ∃vz,a6 pl cs (parts.map fun p=>(p.1,a.eval p.2))=some vz∧k0 Φ vz r:=by
 intro parts
 induction parts with
 |nil =>
  intro cs ms C r h hb hC;simp only[fN,et,ew] at hb;obtain⟨_,rfl⟩:=hb;exact⟨cs,rfl,h⟩
 |cons p rest ih =>
  obtain⟨i,x⟩:=p;intro cs ms C r h hb hC;simp only[fN] at hb;cases hp:place i with
  |none=>simp[hp] at hb
  |some q =>
   obtain⟨off,ft⟩:=q;simp only[hp] at hb;cases me:fN P f place rest (laid ms off (aH f x).cells) with
   |none=>simp[me] at hb
   |some q =>
    obtain⟨C2,r2⟩:=q;simp only[me,et,ew] at hb;obtain⟨rfl,rfl⟩:=hb;obtain⟨⟨cm,hlen,dc,gk⟩,hC2⟩:=hC;have rc:=sO (aL hr x) dc;obtain⟨vz,h1,h2⟩:=ih _ _ C2 r2 (h.cJ rc gk) me hC2;refine⟨vz,?_,h2⟩;simp only[b8,a6,qh i off ft hp cm];have e1:(a.eval x).cells.size=(td P ft).size:=rc.1.trans hlen;rw[if_neg (by
     have e2:=rc.1;have e3:=h.1;simp only[e1,ne_eq,not_true_eq_false,decide_false,Bool.false_or,decide_eq_true_eq];omega)]
    rw[←h1]
    congr 1
    rw[←f4,f0];exact vJ _ 0 _ _
def kP{t:TypeId}{z:Value}(h1:z.cells.toList.map vq=(td P t).zero)(h2:∀v,v∈z.cells.toList→(vq v).aP=true):k0 Φ z.cells (td P t).zero:=by
 refine⟨by rw[←h1];simp,fun i m hm=>?_,fun i m hm=>?_⟩
 ·rw[←h1,bx] at hm;simp only[eg] at hm;obtain⟨v,hv,rfl⟩:=hm;exact h2 v (cr hv)
 ·rw[←h1,bx] at hm;simp only[eg] at hm;obtain⟨v,hv,rfl⟩:=hm;have:z.cells.getD i undef=v:=by rw[e9] at hv;simp[e6,hv]
  rw[this];exact wR Φ v
def run_places(fs:List Field)(h:(fs.all fun x=>(td P x.type).ok)=true)(w:World) :
  (fs.mapM (m:=Sem) fun f=>do pure (f.offset,←sizeOf f.type)).run P w=.ok (fs.map fun f=>(f.offset,(td P f.type).size)) w:=by
 induction fs with
 |nil=>simp
 |cons f fs ih =>
  simp only[List.all_cons,ag] at h;simp only[List.mapM_cons,ez,aS h.1,ex,ey,ih h.2,b8]
def EK{f:FR}{a:Act}(hr:dP Φ a.tmps f){t:TypeId}{parts:Array (Nat×Operand)}{C:Prop}{mv:MV}(h:rB P f t parts=some (C,mv))(hC:C) :
  ∃v,(∀w,(bb t (parts.map fun p=>(p.1,a.eval p.2))).run P w=.ok v w)∧Rel Φ v mv:=by
 unfold rB at h;split at h
 ·rename_i fs hk;obtain⟨fa,hu,rfl⟩:=kO hk;split at h
  ·rename_i C2 cs hb;simp only[et,ew] at h;obtain⟨rfl,rfl⟩:=h;obtain⟨hz,ef,hC2⟩:=hC;obtain⟨z,hzr,pd,qb,cm,xp,_⟩:=dZ (P:=P) hz default;have hz':∀w,(zeroValue t).run P w=.ok z w:=fun w=>by
    obtain⟨z',h',_⟩:=dZ (P:=P) hz w;have:z'=z:=by
     simp only[zeroValue,typeInfo,ez,run_program,ex] at hzr h';obtain⟨i,d,hi,_⟩:=dM cm;simp only[hi,ey,ex] at hzr h';cases mf:i.zero with
     |none=>simp[mf] at hzr
     |some y=>simp[mf] at hzr h';rw[←hzr,←h']
    rw[h',this]
   obtain⟨vz,hf,bf⟩:=AP (P:=P) hr _ (fun i=>(fa.toList.map fun f=>(f.offset,(td P f.type).size))[i]?) (fun i off ft hp hokf=>by
    simp only[bx,e9,eg] at hp ⊢;obtain⟨fd,hfd,he⟩:=hp;obtain⟨rfl,rfl⟩:=ew .. ▸ he;exact⟨fd,hfd,rfl⟩) parts.toList z.cells _ _ _ (kP pd xp) hb hC2
   refine⟨.agg vz,fun w=>?_,bf.agg⟩;simp only[bb,ez,hz',ex,aO hu];have hm:=run_places (P:=P) fa.toList (by simpa using ef) w;rw[←Array.toList_mapM] at hm;simp only[Sem.run_map] at hm;generalize hg:(Array.mapM (m:=Sem) (fun f=>do pure (f.offset,←sizeOf f.type)) fa).run P w=res at hm ⊢;cases res with
   |halt x w'=>simp at hm
   |ok places w' =>
    simp only[ex,Result.ok.injEq] at hm ⊢;obtain⟨hm,rfl⟩:=hm;have e:(fun(x:Nat)=>places[x]?)=fun(i:Nat)=>(fa.toList.map fun f=>(f.offset,(td P f.type).size))[i]?:=by funext i;rw[←hm,e9]
    rw[fq,e,hf];rfl
  ·cases h
 ·rename_i n el hk;split at h
  ·rename_i C2 cs hb;simp only[et,ew] at h;obtain⟨rfl,rfl⟩:=h;obtain⟨hz,hokel,hC2⟩:=hC;obtain⟨z,hzr,pd,qb,cm,xp,_⟩:=dZ (P:=P) hz default;have hz':∀w,(zeroValue t).run P w=.ok z w:=fun w=>by
    obtain⟨z',h',_⟩:=dZ (P:=P) hz w;have:z'=z:=by
     simp only[zeroValue,typeInfo,ez,run_program,ex] at hzr h';obtain⟨i,d,hi,_⟩:=dM cm;simp only[hi,ey,ex] at hzr h';cases mf:i.zero with
     |none=>simp[mf] at hzr
     |some y=>simp[mf] at hzr h';rw[←hzr,←h']
    rw[h',this]
   obtain⟨vz,hf,bf⟩:=AP (P:=P) hr _ (fun i=>some (i*(td P el).size,(td P el).size)) (fun i off ft hp hokf=>by
    simp only[et,ew] at hp;obtain⟨rfl,rfl⟩:=hp;rfl) parts.toList z.cells _ _ _ (kP pd xp) hb hC2
   refine⟨.agg vz,fun w=>?_,bf.agg⟩;simp only[bb,ez,hz',ex,aO (iQ hk),aS hokel];rw[fq,hf];rfl
  ·cases h
 ·cases h
def mV{a:Option Addr}{len cap e:Nat}{xs:List (List MV)}{t:Bool}(r:Rel Φ (.slice a len cap) (.aj e xs t))(l h m:Nat)(t':Bool)(hl:l≤h)(hh:h≤xs.length)(hm:h≤m)(hmc:m≤cap)(ht:t'=true→m=h) :
  Rel Φ (.slice (if m=l then a else a.map (·.add (l*e))) (h-l) (m-l)) (.aj e ((xs.take h).drop l) t'):=by
 obtain⟨a',cap',he,h1,h2,h3,h4,h5⟩:=r.l7;simp only[Value.slice.injEq] at he;obtain⟨rfl,rfl,rfl⟩:=he;refine Rel.ES (by simp;omega) oM oM (fun q=>by rw[ht q]) (fun q=>?_) (fun q=>?_)
 ·have:a=none:=by
   split at q
   ·exact q
   ·cases a<;>simp at q ⊢
  have:=h4 this;omega
 ·obtain⟨b,off,rfl,ay⟩:=h5 oM;rw[if_neg oM];exact⟨b,off+l*e,by simp[eM],ay.take.drop⟩
def nH{a:Option Addr}{n cap e lo l0:Nat}(r:Rel Φ (.slice a n cap) (.vec e l0 lo n))(l h:Nat)(hl:l≤h)(hh:h≤cap) :
  Rel Φ (.slice (if cap=l then a else a.map (·.add (l*e))) (h-l) (cap-l)) (.vec e l0 (lo+l) (h-l)):=by
 obtain⟨a',cap',p,he,ho,rfl,dv,hn,hR⟩:=r.eQ;simp only[Value.slice.injEq] at he;obtain⟨rfl,_,rfl⟩:=he;by_cases hc:cap=l
 ·rw[if_pos hc];have e1:h-l=0:=oM;have e2:cap-l=0:=oM;rw[e1,e2];cases a with
  |none =>
   have ze:cap=0:=by
    rcases hR with⟨R,_,q⟩|q
    ·cases q
    ·exact q
   subst ze;subst hc;obtain rfl:n=0:=oM;simpa using r
  |some a=>exact .ZW a ho oM
 ·rw[if_neg hc];rcases hR with⟨R,hb,rfl⟩|q
  ·have:=Rel.vec (Φ:=Φ) (l:=l0) (lo:=lo+l) (n:=h-l) (cap:=cap-l) ho hb oM oM;simpa[eM,dj,dt] using this
  ·omega
def run_sliceBound{i:Int}{k:IntKind}{y:Nat}{code:BoundsCode}(h:0≤i∧i≤y)(w:World):(Instr.sliceBound (.int k i) y code).run P w=.ok i.toNat w:=by simp only[Instr.sliceBound,ez,fY,ex,e5,if_pos h,ey]
def AD(e:Nat):∀(n:Nat) (cs:List MV) (i:Nat) (x:List MV),(chunks e n cs)[i]?=some x→i<n∧x=(cs.drop (i*e)).take e:=by
 intro n
 induction n with
 |zero=>intro cs i x h;simp[chunks] at h
 |succ n ih =>
  intro cs i x h;cases i with
  |zero=>simp[chunks] at h;exact⟨oM,by simp[h]⟩
  |succ i =>
   simp only[chunks,ce] at h;obtain⟨h1,h2⟩:=ih _ _ _ h;refine⟨oM,?_⟩;rw[h2,List.drop_drop,dj,dn,Nat.add_comm]
def Cb(e:Nat):∀(n:Nat) (cs:List MV),(chunks e n cs).length=n:=by
 intro n
 induction n with
 |zero=>intro cs;rfl
 |succ n ih=>intro cs;simp[chunks,ih]
def EZ{t:TypeId}{x:MV}{lo hi mx:Option MV}{C:Prop}{mv:MV}(h:rF P t x lo hi mx=some (C,mv))(hC:C){v1:Value}{lo' hi' mx':Option Value}(r1:Rel Φ v1 x)
 (rl:∀m,lo=some m→∃v,lo'=some v∧Rel Φ v m)(rl0:lo=none→lo'=none)(rh:∀m,hi=some m→∃v,hi'=some v∧Rel Φ v m)(rh0:hi=none→hi'=none)
 (rm:∀m,mx=some m→∃v,mx'=some v∧Rel Φ v m)(rm0:mx=none→mx'=none) :
  ∃v,(∀w,(a1 t v1 lo' hi' mx').run P w=.ok v w)∧Rel Φ v mv:=by
 unfold rF at h;split at h
 ·-- string,both
  rename_i s k1 l k2 hh;simp only[et,ew] at h;obtain⟨rfl,rfl⟩:=h;obtain⟨hk,h0,h1,h2⟩:=hC;obtain⟨_,rfl,q1⟩:=rl _ rfl;obtain⟨_,rfl,q2⟩:=rh _ rfl;cases rm0 rfl;cases q1.aZ;cases q2.aZ;cases r1.gS;refine⟨_,fun w=>?_,.str _⟩;simp only[a1,ez,aO (iW hk),ex,a2,em,ab,if_false,aN,ey];rw[run_sliceBound ⟨oM,oM⟩];simp only[ex];rw[run_sliceBound ⟨oM,oM⟩];rfl
 ·rename_i s k2 hh;simp only[et,ew] at h;obtain⟨rfl,rfl⟩:=h;obtain⟨hk,h0,h1⟩:=hC;cases rl0 rfl;obtain⟨_,rfl,q2⟩:=rh _ rfl;cases rm0 rfl;cases q2.aZ;cases r1.gS;refine⟨_,fun w=>?_,.str _⟩;simp only[a1,ez,aO (iW hk),ex,a2,em,ab,if_false,aN,ey];rw[run_sliceBound ⟨oM,oM⟩];rfl
 ·rename_i s k1 l;simp only[et,ew] at h;obtain⟨rfl,rfl⟩:=h;obtain⟨hk,h0,h1⟩:=hC;obtain⟨_,rfl,q1⟩:=rl _ rfl;cases rh0 rfl;cases rm0 rfl;cases q1.aZ;cases r1.gS;refine⟨_,fun w=>?_,.str _⟩;simp only[a1,ez,aO (iW hk),ex,a2,em,ab,if_false,aN,ey];rw[run_sliceBound ⟨oM,oM⟩];rfl
 ·rename_i lo hi mx e xs tt;split at h
  ·rename_i el hk;obtain⟨a,cap,rfl,c1,c2,c3,c4,_⟩:=r1.l7;split at h
   ·rename_i k1 l k2 hh;simp only[et,ew] at h;obtain⟨rfl,rfl⟩:=h;obtain⟨cm,dq,h0,h1,h2⟩:=hC;obtain⟨_,rfl,q1⟩:=rl _ rfl;obtain⟨_,rfl,q2⟩:=rh _ rfl;cases rm0 rfl;cases q1.aZ;cases q2.aZ;refine⟨_,fun w=>?_,mV r1 l.toNat hh.toNat cap _ oM oM oM (dk _) (fun q=>by simp at q;rw[c3 q.1,q.2])⟩;simp only[a1,ez,aO (bB hk),ex,a2,aN,ey];rw[run_sliceBound ⟨oM,oM⟩];simp only[ex,em,ab,if_false];rw[run_sliceBound ⟨oM,oM⟩];simp only[ex,aS cm,dq,ey]
   ·rename_i k2 hh;simp only[et,ew] at h;obtain⟨rfl,rfl⟩:=h;obtain⟨cm,dq,h0,h1⟩:=hC;cases rl0 rfl;obtain⟨_,rfl,q2⟩:=rh _ rfl;cases rm0 rfl;cases q2.aZ;have:=mV r1 0 hh.toNat cap (tt&&decide (hh.toNat=xs.length)) oM oM oM (dk _) (fun q=>by simp at q;rw[c3 q.1,q.2]);refine⟨_,fun w=>?_,by simpa only[ct,d1,du,co,d0] using this⟩;simp only[a1,ez,aO (bB hk),ex,a2,aN,ey];rw[run_sliceBound ⟨oM,oM⟩];simp only[ex,aS cm,dq,ey,du,d1]
   ·rename_i k1 l;simp only[et,ew] at h;obtain⟨rfl,rfl⟩:=h;obtain⟨cm,dq,h0,h1⟩:=hC;obtain⟨_,rfl,q1⟩:=rl _ rfl;cases rh0 rfl;cases rm0 rfl;cases q1.aZ;have:=mV r1 l.toNat xs.length cap tt oM oM oM (dk _) (fun q=>c3 q);refine⟨_,fun w=>?_,by simpa only[ct,d1,du,co,d0] using this⟩;simp only[a1,ez,aO (bB hk),ex,a2,aN,ey,em,ab,if_false];rw[run_sliceBound ⟨oM,oM⟩];simp only[ex,aS cm,dq,ey]
   ·rename_i k2 hh k3 m;simp only[et,ew] at h;obtain⟨rfl,rfl⟩:=h;obtain⟨cm,dq,h0,h1,h2⟩:=hC;cases rl0 rfl;obtain⟨_,rfl,q2⟩:=rh _ rfl;obtain⟨_,rfl,q3⟩:=rm _ rfl;cases q2.aZ;cases q3.aZ;have:=mV r1 0 hh.toNat m.toNat (decide (hh=m)) oM oM oM oM (fun q=>by simp at q;rw[q]);refine⟨_,fun w=>?_,by simpa only[ct,d1,du,co,d0] using this⟩;simp only[a1,ez,aO (bB hk),ex,a2,aN,ey,if_true];rw[run_sliceBound ⟨oM,oM⟩];simp only[ex];rw[run_sliceBound ⟨oM,oM⟩];simp only[ex,aS cm,dq,ey,du,d1]
   ·rename_i k1 l k2 hh k3 m;simp only[et,ew] at h;obtain⟨rfl,rfl⟩:=h;obtain⟨cm,dq,h0,h1,h2,h3⟩:=hC;obtain⟨_,rfl,q1⟩:=rl _ rfl;obtain⟨_,rfl,q2⟩:=rh _ rfl;obtain⟨_,rfl,q3⟩:=rm _ rfl;cases q1.aZ;cases q2.aZ;cases q3.aZ;refine⟨_,fun w=>?_,mV r1 l.toNat hh.toNat m.toNat (decide (hh=m)) oM oM oM oM (fun q=>by simp at q;rw[q])⟩;simp only[a1,ez,aO (bB hk),ex,a2,aN,ey,if_true,er];rw[run_sliceBound ⟨oM,oM⟩];simp only[ex];rw[run_sliceBound ⟨oM,oM⟩];simp only[ex];rw[run_sliceBound ⟨oM,oM⟩];simp only[ex,aS cm,dq,ey]
   ·cases h
  ·cases h
 ·rename_i lo hi mx e l0 lo0 n;split at h
  ·rename_i el hk;obtain⟨a,cap,p,rfl,ho,iz,c1,c2,_⟩:=r1.eQ;split at h
   ·rename_i k1 l k2 hh;simp only[et,ew] at h;obtain⟨rfl,rfl⟩:=h;obtain⟨cm,dq,h0,h1,h2⟩:=hC;obtain⟨_,rfl,q1⟩:=rl _ rfl;obtain⟨_,rfl,q2⟩:=rh _ rfl;cases rm0 rfl;cases q1.aZ;cases q2.aZ;refine⟨_,fun w=>?_,nH r1 l.toNat hh.toNat oM oM⟩;simp only[a1,ez,aO (bB hk),ex,a2,aN,ey];rw[run_sliceBound ⟨oM,oM⟩];simp only[ex,em,ab,if_false];rw[run_sliceBound ⟨oM,oM⟩];simp only[ex,aS cm,dq,ey]
   ·rename_i k2 hh;simp only[et,ew] at h;obtain⟨rfl,rfl⟩:=h;obtain⟨cm,dq,h0,h1⟩:=hC;cases rl0 rfl;obtain⟨_,rfl,q2⟩:=rh _ rfl;cases rm0 rfl;cases q2.aZ;have:=nH r1 0 hh.toNat oM oM;refine⟨_,fun w=>?_,by simpa only[ct,d1,du,co,d0] using this⟩;simp only[a1,ez,aO (bB hk),ex,a2,aN,ey];rw[run_sliceBound ⟨oM,oM⟩];simp only[ex,aS cm,dq,ey,du,d1]
   ·rename_i k1 l;simp only[et,ew] at h;obtain⟨rfl,rfl⟩:=h;obtain⟨cm,dq,h0,h1⟩:=hC;obtain⟨_,rfl,q1⟩:=rl _ rfl;cases rh0 rfl;cases rm0 rfl;cases q1.aZ;refine⟨_,fun w=>?_,nH r1 l.toNat n oM oM⟩;simp only[a1,ez,aO (bB hk),ex,a2,aN,ey,em,ab,if_false];rw[run_sliceBound ⟨oM,oM⟩];simp only[ex,aS cm,dq,ey]
   ·rename_i k1 l k2 hh k3 m;simp only[et,ew] at h;obtain⟨rfl,rfl⟩:=h;obtain⟨cm,dq,h0,h1,h2,h3⟩:=hC;obtain⟨_,rfl,q1⟩:=rl _ rfl;obtain⟨_,rfl,q2⟩:=rh _ rfl;obtain⟨_,rfl,q3⟩:=rm _ rfl;cases q1.aZ;cases q2.aZ;cases q3.aZ;refine⟨.slice (if m.toNat=l.toNat then a else a.map (·.add (l.toNat*e))) (hh.toNat-l.toNat) (m.toNat-l.toNat),fun w=>?_,.bw _⟩;simp only[a1,ez,aO (bB hk),ex,a2,aN,ey,if_true,er];rw[run_sliceBound ⟨oM,oM⟩];simp only[ex];rw[run_sliceBound ⟨oM,oM⟩];simp only[ex];rw[run_sliceBound ⟨oM,oM⟩];simp only[ex,aS cm,dq,ey]
   ·cases h
  ·cases h
 ·rename_i cs;split at h
  ·rename_i n el hk;simp only[et,ew] at h;obtain⟨rfl,rfl⟩:=h;obtain⟨cm,h0,h1,h2⟩:=hC;cases rl0 rfl;cases rh0 rfl;cases rm0 rfl;obtain⟨b,off,vs,rfl,hc,hr⟩:=r1.oU;refine⟨.slice (some ⟨b,off,none⟩) n n,fun w=>?_,Rel.ES (Cb _ _ _) (dk _) (by simpa[maxLen] using h2) (fun _=>rfl) ax (fun _=>⟨b,off,rfl,fun i x hx=>?_,fun i j=>vs (i*(td P el).size+j),fun i x j m hx hm=>?_⟩)⟩
   ·simp only[a1,ez,aO (iQ hk),ex,eI,aN,ey,aS cm,du,eM,d1,d0,if_neg (show ¬n=0 by omega)]
   ·obtain⟨hi,rfl⟩:=AD _ _ _ _ _ hx;have:(i+1)*(td P el).size≤n*(td P el).size:=dl _ hi;rw[dj,dn,Nat.mul_comm n] at this;simp;omega
   ·obtain⟨hi,rfl⟩:=AD _ _ _ _ _ hx;rw[bz] at hm;split at hm
    ·rw[b0] at hm;have:=hc _ m hm;exact⟨this.1,this.2,hr _ m hm⟩
    ·cases hm
  ·cases h
 ·split at h
  ·rename_i el hk;simp only[et,ew] at h;obtain⟨rfl,rfl⟩:=h;obtain⟨cm,h0⟩:=hC;subst h0;cases rl0 rfl;obtain⟨_,rfl,q2⟩:=rh _ rfl;cases rm0 rfl;cases q2.aZ;cases r1.gF;refine⟨_,fun w=>?_,.aK⟩;simp only[a1,ez,aO (bB hk),ex,a2,aN,ey,em,ab,if_false];rw[run_sliceBound ⟨oM,oM⟩];simp only[ex,aS cm,ey,Int.toNat_zero,d1,if_true]
  ·cases h
 ·cases h
end
section
variable {P:Program} {Φ:bd}
def A6{b:Builtin}{ts:Array TypeId}{xs:List MV}{C:Prop}{mv:MV}(h:fB P b ts xs=some (C,mv))(hC:C)(vs:Array Value)(hr:iX Φ vs xs)(hts:ts.size=xs.length)(ty:TypeId)(cs:Array Bool) :
  ∃v,(∀w,(builtin b ts ty cs vs).run P w=.ok (.value v) w)∧Rel Φ v mv:=by
 obtain⟨vl⟩:=vs;have hlen:vl.length=xs.length:=hr.1;unfold fB at h;split at h
 ·rename_i x
  match vl,hlen with
  |[v1],_ =>
  have r1:Rel Φ v1 x:=hr.2 0 x rfl;obtain⟨v,hv,bf⟩:=KC h hC r1 ts hts rfl ty;exact⟨v,fun w=>by simp[builtin,hv],bf⟩
 ·rename_i x y
  match vl,hlen with
  |[v1,v2],_ =>
  have r1:Rel Φ v1 x:=hr.2 0 x rfl;have r2:Rel Φ v2 y:=hr.2 1 y rfl;unfold MJ at h;split at h
  ·simp only[et,ew] at h;obtain⟨rfl,rfl⟩:=h;cases r1.aZ;cases r2.aZ;exact⟨_,fun w=>by simp[builtin,Builtin.min_,Builtin.min2],.int _ _⟩
  ·cases h
 ·rename_i x y
  match vl,hlen with
  |[v1,v2],_ =>
  have r1:Rel Φ v1 x:=hr.2 0 x rfl;have r2:Rel Φ v2 y:=hr.2 1 y rfl;unfold MI at h;split at h
  ·simp only[et,ew] at h;obtain⟨rfl,rfl⟩:=h;cases r1.aZ;cases r2.aZ;exact⟨_,fun w=>by simp[builtin,Builtin.max_,Builtin.max2],.int _ _⟩
  ·cases h
 ·rename_i x
  match vl,hlen with
  |[v1],_ =>
  have r1:Rel Φ v1 x:=hr.2 0 x rfl;obtain⟨v,hv,bf⟩:=Km h r1 ts hts rfl ty;exact⟨v,fun w=>by simp[builtin,hv],bf⟩
 ·cases h
def nD{f:FR}{a:Act}(hr:dP Φ a.tmps f)(xs:Array Operand):iX Φ (xs.map a.eval) (xs.toList.map (aH f)):=by
 refine⟨ax,fun i m hm=>?_⟩;rw[bx,e9] at hm;simp only[eg] at hm;obtain⟨x,hx,rfl⟩:=hm;have:(xs.map a.eval).getD i undef=a.eval x:=by simp[e6,hx]
 rw[this];exact aL hr x
def vY:Op→Bool
 |.call { callee:=.builtin _,args,argTypes }=>argTypes.size==args.size
 |_=>true
def JY{t:TypeId}{g:Nat}{i:MV}{C:Prop}{mv:MV}(hG:∀g i v,GT g i=some v→Φ.snap ⟨g,i,none⟩=some v)(h:JX P t g i=some (C,mv))(hC:C){v2:Value}(r2:Rel Φ v2 i) :
  ∃v,(∀w,(a3 t (.pointer (some ⟨g,0,none⟩)) v2).run P w=.ok v w)∧Rel Φ v mv:=by
 unfold JX at h;split at h
 ·rename_i len el k n hk;obtain⟨v,hv,h⟩:=Option.bind_eq_some_iff.1 h;simp only[et,ew] at h;obtain⟨rfl,rfl⟩:=h;obtain⟨cm,dq,h0,h1,hc⟩:=hC;cases r2.aZ;refine⟨.pointer (some ⟨g,0+n.toNat*(td P el).size,none⟩),fun w=>?_,.cg (fun _=>v) (fun q m hm=>?_) (fun q m hm=>?_)⟩
  ·simp only[a3,ez,fY,ex,aO (iQ hk),eI,ey,e5,if_pos (show 0≤n∧n<(len:Int) from⟨h0,h1⟩),aS cm,eM]
  ·rw[dq,Nat.mul_one,d3];cases q with
   |zero =>
    simp only[b5,et] at hm;subst hm;exact⟨hc,hG _ _ _ hv⟩
   |succ q=>simp at hm
  ·cases q with
   |zero =>
    simp only[b5,et] at hm;subst hm;exact wR Φ v
   |succ q=>simp at hm
 ·cases h
def Ps{o:Oper}{f:FR}{a:Act}(hG:∀g i v,GT g i=some v→Φ.snap ⟨g,i,none⟩=some v)(hr:dP Φ a.tmps f){C:Prop}{mv:MV}(h:yy P f o.op=some (C,mv))(hC:C)(hot:vY o.op=true) :
  ∃v,(∀w,(execOp a.eval o).run P w=.ok (.value v) w)∧Rel Φ v mv:=by
 unfold execOp;generalize o.op=op at h hot;unfold yy at h;split at h
 ·simp only[et,ew] at h;obtain⟨rfl,rfl⟩:=h;exact⟨_,fun w=>rfl,aL hr _⟩
 ·simp only[et,ew] at h;obtain⟨rfl,rfl⟩:=h;exact⟨_,fun w=>rfl,aL hr _⟩
 ·rename_i c x y;split at h
  ·rename_i t hc;simp only[et,ew] at h;obtain⟨rfl,rfl⟩:=h;have rc:=aL hr c;rw[hc] at rc;refine⟨if t=true then a.eval x else a.eval y,fun w=>?_,?_⟩
   ·simp only[rc.mU,asBool,ez,ey,ex]
   ·split
    ·exact aL hr x
    ·exact aL hr y
  ·cases h
 ·rename_i x;split at h
  ·rename_i l i o' hx;simp only[et,ew] at h;obtain⟨rfl,rfl⟩:=h;have rc:=aL hr x;rw[hx] at rc;obtain⟨ad,he⟩:=rc.yL;rw[he] at rc;exact⟨_,fun w=>by simp only[he];rfl,rc⟩
  ·rename_i cs hx;simp only[et,ew] at h;obtain⟨rfl,rfl⟩:=h;have rc:=aL hr x;rw[hx] at rc;obtain⟨ad,he⟩:=rc.tO;rw[he] at rc;exact⟨_,fun w=>by simp only[he];rfl,rc⟩
  ·cases h
 ·rename_i op t x y yt;obtain⟨v,hv,bf⟩:=Kk h hC (aL hr x) (aL hr y) x y;exact⟨v,fun w=>by simp only[ez,(hv w).1,(hv w).2,ex,ey],bf⟩
 ·rename_i op t x;obtain⟨v,hv,bf⟩:=OX (P:=P) h (aL hr x);exact⟨v,fun w=>by simp only[ez,hv w,ex,ey],bf⟩
 ·rename_i s d x;obtain⟨v,hv,bf⟩:=Hp h (aL hr x);exact⟨v,fun w=>by simp only[ez,hv w,ex,ey],bf⟩
 ·rename_i t x;split at h
  ·cases h
  ·rename_i cm hni;simp only[et,ew] at h;obtain⟨rfl,rfl⟩:=h;obtain⟨i,d,hi,hd,_,_,hk⟩:=dM cm;refine⟨.iface t (a.eval x),fun w=>?_,.iface t (aL hr x)⟩;simp only[Instr.makeInterface,ez,aO hd,ex];cases d<;>first|rfl|(exact absurd hk (by simpa[xM] using hni))
  ·cases h
 ·rename_i fn first cap
  simp only[et,ew] at h;obtain⟨rfl,rfl⟩:=h;have h1:=nD hr first
  have h2:=nD hr cap;exact⟨_,fun w=>rfl,.fn fn h1.1 h2.1 h1.2 h2.2⟩
 ·rename_i t x lo hi mx;obtain⟨v,hv,bf⟩:=EZ (P:=P) (lo':=lo.map a.eval) (hi':=hi.map a.eval) (mx':=mx.map a.eval) h hC (aL hr x)
   (fun m hm=>by cases lo<;>simp at hm ⊢;subst hm;exact aL hr _) (fun hn=>by cases lo<;>simp at hn ⊢)
   (fun m hm=>by cases hi<;>simp at hm ⊢;subst hm;exact aL hr _) (fun hn=>by cases hi<;>simp at hn ⊢)
   (fun m hm=>by cases mx<;>simp at hm ⊢;subst hm;exact aL hr _) (fun hn=>by cases mx<;>simp at hn ⊢)
  exact⟨v,fun w=>by simp only[ez,hv w,ex,ey],bf⟩
 ·rename_i t x i;obtain⟨v,hv,bf⟩:=yF h hC (aL hr x);exact⟨v,fun w=>by simp only[ez,hv w,ex,ey],bf⟩
 ·rename_i t x i;obtain⟨v,hv,bf⟩:=EP h hC (aL hr x);exact⟨v,fun w=>by simp only[ez,hv w,ex,ey],bf⟩
 ·rename_i t g i;obtain⟨v,hv,bf⟩:=JY hG h hC (aL hr i);have he:a.eval (.global g)=.pointer (some ⟨g,0,none⟩):=rfl;exact⟨v,fun w=>by simp only[he,ez,hv w,ex,ey],bf⟩
 ·rename_i t x i hng;obtain⟨v,hv,bf⟩:=yG h hC (aL hr x) (aL hr i);exact⟨v,fun w=>by simp only[ez,hv w,ex,ey],bf⟩
 ·rename_i t x i;obtain⟨v,hv,bf⟩:=ER h hC (aL hr x) (aL hr i);exact⟨v,fun w=>by simp only[ez,hv w,ex,ey],bf⟩
 ·rename_i x i;split at h
  ·rename_i vs hx;split at h
   ·rename_i v hv;simp only[et,ew] at h;obtain⟨rfl,rfl⟩:=h;have rc:=aL hr x;rw[hx] at rc;obtain⟨cs,he,hs,hrr⟩:=rc.Ez;have bh:i<cs.size:=by have:=(bv.1 hv).1;omega
    refine⟨cs.getD i undef,fun w=>?_,hrr i v hv⟩;have:cs[i]?=some (cs.getD i undef):=by simp[e6,e7 bh]
    simp only[he,Instr.extract,ez,this,ey,ex]
   ·cases h
  ·cases h
 ·rename_i t parts;obtain⟨v,hv,bf⟩:=EK hr h hC;exact⟨v,fun w=>by simp only[ez,hv w,ex,ey],bf⟩
 ·rename_i b args ts;have hs:ts.size=(args.toList.map (aH f)).length:=by simpa[vY] using hot
  obtain⟨v,hv,bf⟩:=A6 h hC (args.map a.eval) (nD hr args) hs o.type (args.map fun|.const _=>true|_=>false);refine⟨v,fun w=>?_,bf⟩;simp only[resolve,ez,ey,ex,invoke];exact hv w
 ·cases h
end
def Inv.gI{Φ:bd}{w:World}{σ:St}(hi:Inv Φ w σ){l:Nat}(h:Φ.obj l=none):σ l=none:=by
 cases hs:σ l with
 |none=>rfl
 |some o =>
  have:=hi.own l o hs;cases o with
  |row t e xs=>obtain⟨p,hp,_⟩:=this;rw[h] at hp;cases hp
  |mp es=>obtain⟨p,R,hp,_⟩:=this;rw[h] at hp;cases hp
  |mk es st ck=>obtain⟨p,R,hp,_⟩:=this;rw[h] at hp;cases hp
  |it m ck seen=>obtain⟨p,R,pm,Rm,hp,_⟩:=this;rw[h] at hp;cases hp
def eT.mono{Φ Φ':bd}{w w':World}{l:Nat}{o:aY}(h:eT Φ w l o)(hle:Φ.le Φ')(hb:∀p R,Φ.obj l=some p→p.jh=some R→w'.heap[R]?=w.heap[R]?):eT Φ' w' l o:=by
 cases o with
 |row t e xs =>
  obtain⟨p,hp,he,h1,h2,h3,h4⟩:=h;refine⟨p,hle.obj _ _ hp,he,h1,h2,h3,?_⟩;cases qt:p.jh with
  |none=>rw[qt] at h4;exact h4
  |some R =>
   rw[qt] at h4;obtain⟨c,fz,k1,k2,k3,k4⟩:=h4;exact⟨c,fz,(hb p R hp qt).trans k1,k2,k3,fun i x j m a b=>let ⟨q1,v,q2,q3⟩:=k4 i x j m a b;⟨q1,v,q2,q3.mono hle⟩⟩
 |mp es =>
  obtain⟨p,R,hp,qt,c,clock,h1,h2,h3⟩:=h;exact⟨p,R,hle.obj _ _ hp,qt,c,clock,(hb p R hp qt).trans h1,h2,fun i x q=>⟨(h3 i x q).1.mono hle,(h3 i x q).2.mono hle⟩⟩
 |mk es st ck =>
  obtain⟨p,R,hp,qt,c,h1,h2,h3⟩:=h;exact⟨p,R,hle.obj _ _ hp,qt,c,(hb p R hp qt).trans h1,h2,fun i x q=>⟨(h3 i x q).1.mono hle,(h3 i x q).2.mono hle⟩⟩
 |it m ck seen =>
  obtain⟨p,R,pm,Rm,hp,qt,h0,h1,h2,h3⟩:=h;exact⟨p,R,pm,Rm,hle.obj _ _ hp,qt,h0,hle.obj _ _ h1,h2,(hb p R hp qt).trans h3⟩
def eT.place{Φ:bd}{w:World}{l:Nat}{o:aY}(h:eT Φ w l o):∃p,Φ.obj l=some p∧∀R,p.jh=some R→R<w.heap.size:=by
 cases o with
 |row t e xs =>
  obtain⟨p,hp,he,h1,h2,h3,h4⟩:=h;refine⟨p,hp,fun R hR=>?_⟩;rw[hR] at h4;obtain⟨c,fz,k1,_⟩:=h4;exact(e8.1 k1).1
 |mp es =>
  obtain⟨p,R,hp,qt,c,clock,h1,_⟩:=h;exact⟨p,hp,fun R' ju=>by rw[qt] at ju;cases ju;exact(e8.1 h1).1⟩
 |mk es st ck =>
  obtain⟨p,R,hp,qt,c,h1,_⟩:=h;exact⟨p,hp,fun R' ju=>by rw[qt] at ju;cases ju;exact(e8.1 h1).1⟩
 |it m ck seen =>
  obtain⟨p,R,pm,Rm,hp,qt,_,_,_,h1⟩:=h;exact⟨p,hp,fun R' ju=>by rw[qt] at ju;cases ju;exact(e8.1 h1).1⟩
def World.fF{w w':World}{a:Addr}(h:w'.heap[a.block]?=w.heap[a.block]?):w'.cell? a=w.cell? a:=by simp[World.cell?,h]
def Inv.tz{Φ Φ':bd}{w w':World}{σ af:St}(hi:Inv Φ w σ)(hle:Φ.le Φ')(hsnap:∀a,Φ'.snap a=Φ.snap a)(l':Nat)(o':aY)(p':Place)(dw:Φ'.obj l'=some p')
 (hσ:∀m o,af m=some o→(m≠l'∧σ m=some o)∨(m=l'∧o=o'))
 (yh:∀m o p R,m≠l'→af m=some o→Φ.obj m=some p→p.jh=some R→w'.heap[R]?=w.heap[R]?∧p'.jh≠some R)
 (cc:∀a v,Φ.snap a=some v→w'.heap[a.block]?=w.heap[a.block]?∧p'.jh≠some a.block)
 (gp:eT Φ' w' l' o')(hfresh:Φ'.fin):Inv Φ' w' af:=by
 have gj:∀m o,m≠l'→af m=some o→∃p,Φ.obj m=some p∧Φ'.obj m=some p:=fun m o hm hs=>by
  rcases hσ m o hs with⟨_,q⟩|⟨q,_⟩
  ·obtain⟨p,hp,_⟩:=(hi.own m o q).place;exact⟨p,hp,hle.obj _ _ hp⟩
  ·exact absurd q hm
 constructor
 ·intro m o hs;rcases hσ m o hs with⟨hm,q⟩|⟨rfl,rfl⟩
  ·exact(hi.own m o q).mono hle fun p R hp hR=>(yh m o p R hm hs hp hR).1
  ·exact gp
 ·intro m m' o o' p p1 R hs xm hp hp1 hR hR1;by_cases h1:m=l'
  ·subst h1;by_cases h2:m'=m
   ·exact h2.symm
   ·obtain⟨q,hq,hq'⟩:=gj m' o' h2 xm;obtain rfl:q=p1:=eu (hq'.symm.trans hp1);rw[dw] at hp;cases hp;exact absurd hR (yh m' o' q R h2 xm hq hR1).2
  ·obtain⟨q,hq,hq'⟩:=gj m o h1 hs;obtain rfl:q=p:=eu (hq'.symm.trans hp);by_cases h2:m'=l'
   ·subst h2;rw[dw] at hp1;cases hp1;exact absurd hR1 (yh m o q R h1 hs hq hR).2
   ·obtain⟨q1,ZI,hq1'⟩:=gj m' o' h2 xm;obtain rfl:q1=p1:=eu (hq1'.symm.trans hp1);rcases hσ m o hs with⟨_,s1⟩|⟨s1,_⟩
    ·rcases hσ m' o' xm with⟨_,s2⟩|⟨s2,_⟩
     ·exact hi.inj m m' o o' q q1 R s1 s2 hq ZI hR hR1
     ·exact absurd s2 h2
    ·exact absurd s1 h1
 ·intro a v h;rw[hsnap] at h;exact(World.fF (cc a v h).1).trans (hi.snap a v h)
 ·intro m o p R a v hs hp hR h he;rw[hsnap] at h;by_cases h1:m=l'
  ·subst h1;rw[dw] at hp;cases hp;exact(cc a v h).2 (he ▸ hR)
  ·obtain⟨q,hq,hq'⟩:=gj m o h1 hs;obtain rfl:q=p:=eu (hq'.symm.trans hp);rcases hσ m o hs with⟨_,s1⟩|⟨s1,_⟩
   ·exact hi.apart m o q R a v s1 hq hR h he
   ·exact absurd s1 h1
 ·exact⟨hfresh,fun g i v q=>by rw[hsnap];exact hi.fresh.2.1 g i v q,fun g hg=>by rw[hsnap];exact hi.fresh.2.2 g hg⟩
def bd.put(Φ:bd)(l:Nat)(p:Place):bd:={ Φ with obj:=fun k=>if k=l then some p else Φ.obj k }
def bd.uE{Φ:bd}{l:Nat}(p:Place)(h:Φ.obj l=none):Φ.le (Φ.put l p) :=
 ⟨fun _ _ q=>q,fun k q hq=>by
  simp only[bd.put];split
  ·rename_i hk;subst hk;rw[h] at hq;cases hq
  ·exact hq,rfl⟩
def bd.dC(Φ:bd)(l:Nat)(p:Place):(Φ.put l p).obj l=some p:=by simp[bd.put]
def Inv.x7{Φ:bd}{w:World}{σ:St}(hi:Inv Φ w σ)(l:Nat)(p:Place)(hbo:p.bo=0:=by rfl):(Φ.put l p).fin:=by
 obtain⟨n,hn⟩:=hi.fresh.1.1;refine⟨⟨max n (l+1),fun k hk=>?_⟩,fun k q hk=>?_⟩
 ·simp only[bd.put];rw[if_neg oM];exact hn k oM
 ·simp only[bd.put] at hk;split at hk
  ·cases hk;exact hbo
  ·exact hi.fresh.1.2 k q hk
def St.cG{σ:St}{l m:Nat}{o o':aY}(h:(σ.set l o') m=some o):(m≠l∧σ m=some o)∨(m=l∧o=o'):=by
 simp only[St.set] at h;split at h
 ·rename_i hm;exact .inr ⟨hm,by cases h;rfl⟩
 ·rename_i hm;exact .inl ⟨hm,h⟩
def Inv.alloc{Φ:bd}{w w':World}{σ:St}(hi:Inv Φ w σ)(l:Nat)(hl:Φ.obj l=none)(o:aY)(ob:Obj)(p:Place)(hp:p.jh=some w.heap.size)(hh:w'.heap=w.heap.push ob)
 (h1:w'.os=w.os)(h2:w'.tape=w.tape)(h3:w'.output=w.output)(h4:ki w≤ki w')(gp:eT (Φ.put l p) w' l o)(hbo:p.bo=0:=by rfl):Inv (Φ.put l p) w' (σ.set l o)∧Step Φ σ w (Φ.put l p) (σ.set l o) w':=by
 have hold:∀k,k<w.heap.size→w'.heap[k]?=w.heap[k]?:=fun k hk=>by rw[hh,Array.getElem?_push,if_neg oM]
 have hle:=bd.uE p hl;refine⟨hi.tz hle (fun _=>rfl) l o p (bd.dC _ _ _) (fun m o q=>St.cG q) (fun m o' q R hm hs hq hR=>?_) (fun a v h=>?_) gp (hi.x7 l p hbo),hle,h1,h2,h3,h4,by rw[hh];simp,fun k hk _=>hold k hk,fun a v h=>.inl h,fun m o q=>?_,fun R hR=>?_⟩
 ·rcases St.cG hs with⟨_,q1⟩|⟨q1,_⟩
  ·obtain⟨p1,hp1,bh⟩:=(hi.own m o' q1).place;rw[hp1] at hq;cases hq;have:=bh R hR;exact⟨hold R this,by rw[hp];simp;omega⟩
  ·exact absurd q1 hm
 ·have:=World.block_lt_of_cell? w a (hi.snap a v h);exact⟨hold _ this,by rw[hp];simp;omega⟩
 ·rcases St.cG q with⟨_,q1⟩|⟨rfl,_⟩
  ·exact .inl ⟨_,q1⟩
  ·exact .inr hl
 ·obtain⟨m,o1,p1,s1,s2,s3⟩:=hR;rcases St.cG s1 with⟨hm,q1⟩|⟨rfl,_⟩
  ·have:(Φ.put l p).obj m=Φ.obj m:=by simp[bd.put,hm]
   rw[this] at s2;exact .inl ⟨m,o1,p1,q1,s2,s3⟩
  ·rw[bd.dC] at s2;cases s2;rw[hp] at s3;cases s3;exact .inr (dk _)
def Inv.F6{Φ:bd}{w w':World}{σ:St}(hi:Inv Φ w σ)(l:Nat){o0:aY}(hs:σ l=some o0)(o:aY){p:Place}{R:Nat}(hp:Φ.obj l=some p)(hR:p.jh=some R)
 (dq:w'.heap.size=w.heap.size)(hh:∀k,k≠R→w'.heap[k]?=w.heap[k]?)(h1:w'.os=w.os)(h2:w'.tape=w.tape)(h3:w'.output=w.output)(h4:ki w≤ki w')(gp:eT Φ w' l o) :
  Inv Φ w' (σ.set l o)∧Step Φ σ w Φ (σ.set l o) w':=by
 refine⟨hi.tz (.refl Φ) (fun _=>rfl) l o p hp (fun m o q=>St.cG q) (fun m o' q R' hm xm hq ju=>?_) (fun a v h=>?_) gp hi.fresh.1,.refl Φ,h1,h2,h3,h4,Nat.le_of_eq dq.symm,fun k hk hn=>hh k ?_,fun a v h=>.inl h,fun m o q=>?_,fun R' ju=>?_⟩
 ·rcases St.cG xm with⟨_,q1⟩|⟨q1,_⟩
  ·have fg:R'≠R:=fun e=>hm (hi.inj m l o' o0 q p R' q1 hs hq hp ju (e ▸ hR));exact⟨hh R' fg,by rw[hR];simpa using d6 fg⟩
  ·exact absurd q1 hm
 ·have fg:=hi.apart l o0 p R a v hs hp hR h;exact⟨hh _ fg,by rw[hR];simpa using d6 fg⟩
 ·intro e;subst e;exact hn ⟨l,o0,p,hs,hp,hR⟩
 ·rcases St.cG q with⟨_,q1⟩|⟨rfl,_⟩
  ·exact .inl ⟨_,q1⟩
  ·exact .inl ⟨_,hs⟩
 ·obtain⟨m,o1,p1,s1,s2,s3⟩:=ju;rcases St.cG s1 with⟨hm,q1⟩|⟨rfl,_⟩
  ·exact .inl ⟨m,o1,p1,q1,s2,s3⟩
  ·exact .inl ⟨m,o0,p1,hs,s2,s3⟩
def kq(P:Program)(o:Oper)(f:FR)(σ:St)(k:MV→St→Prop):Prop :=
 ∀Φ w a K Q',Inv Φ w σ→dP Φ a.tmps f→(∀v mv af Φ' w',Rel Φ' v mv→Inv Φ' w' af→Step Φ σ w Φ' af w'→k mv af→K (a.put o.dst v) w')→o.wp P a w K Q'
def bQ{P:Program}{o:Oper}{a:Act}{w w':World}{K:Act→World→Prop}{Q:Exit→Act→World→Prop}{v:Value}(h:(execOp a.eval o).run P w=.ok (.value v) w')(hK:K (a.put o.dst v) w'):o.wp P a w K Q:=by unfold Oper.wp Oper.upon;rw[h];exact hK
def Gi{P:Program}{o:Oper}{a:Act}{w w':World}{K:Act→World→Prop}{Q:Exit→Act→World→Prop}(h:(execOp a.eval o).run P w=.ok .skip w')(hK:K (a.put o.dst undef) w'):o.wp P a w K Q:=by unfold Oper.wp Oper.upon;rw[h];exact hK
def TE{P:Program}{o:Oper}{f:FR}{σ:St}{k:MV→St→Prop}{C:Prop}{mv:MV}(h:yy P f o.op=some (C,mv))(hot:vY o.op=true)(hC:C)(hk:k mv σ):kq P o f σ k:=by intro Φ w a K Q' hi hr hK;obtain⟨v,hv,bf⟩:=Ps hi.fresh.2.1 hr h hC hot;exact bQ (hv w) (hK v mv σ Φ w bf hi (.refl _ _ _) hk)
def MP{Φ:bd}{w:World}{l:Nat}{t:TypeId}{cs:Array Value}{ms:List MV}{R:Nat}(hp:Φ.obj l=some ⟨some R,0,ms.length,1⟩)(hh:w.heap[R]?=some (.cells cs t (0,0)))(hc:k0 Φ cs ms):eT Φ w l (.row t ms.length [ms]):=by
 refine⟨_,hp,rfl,ax,by simp[maxLen],fun i x hx=>?_,cs,(0,0),hh,.inl (dk _),by have:=hc.1;simp;omega,fun i x j m hx hm=>?_⟩
 ·cases i<;>simp at hx;subst hx;rfl
 ·cases i<;>simp at hx;subst hx;refine⟨hc.2.1 j m hm,cs.getD j undef,?_,hc.2.2 j m hm⟩;have bh:j<cs.size:=by have:=(bv.1 hm).1;rw[hc.1];exact this
  simp[e6,e7 bh]
def k0.mono{Φ Φ':bd}(hle:Φ.le Φ'){cs:Array Value}{ms:List MV}(h:k0 Φ cs ms):k0 Φ' cs ms:=⟨h.1,h.2.1,fun i m hm=>(h.2.2 i m hm).mono hle⟩
def PX{P:Program}{o:Oper}{f:FR}{σ:St}{k:MV→St→Prop}{t:TypeId}(ho:o.op=.alloc t)(hz:(td P t).jq=true)
 (hk:∀l,σ l=none→k (.ptr l 0 0) (σ.set l (.row t (td P t).size [(td P t).zero]))):kq P o f σ k:=by
 intro Φ w a K Q' hi hr hK;obtain⟨n,hn⟩:=hi.fresh.1.1;have hl:=hn n (dk _);obtain⟨z,wc,pd,qb,cm,xp,_⟩:=dZ hz w;have hlen:(td P t).zero.length=(td P t).size:=by rw[←pd,←qb];simp
 have di:(execOp a.eval o).run P w=.ok (.value (.pointer (some ⟨w.heap.size,0,none⟩))) (w.alloc (.cells z.cells t)):=by unfold execOp;simp only[ho,Instr.alloc,ez,wc,ex,newVar,newRow,run_newObj,ey];rfl
 obtain⟨i1,s1⟩:=hi.alloc (w':=w.alloc (.cells z.cells t)) n hl (.row t (td P t).zero.length [(td P t).zero]) (.cells z.cells t) ⟨some w.heap.size,0,(td P t).zero.length,1⟩ rfl rfl rfl rfl rfl (by first|exact dk _|exact lO (d2 _))
  (MP (R:=w.heap.size) (bd.dC _ _ _) (heap_alloc_new w _) (kP pd xp))
 rw[hlen] at i1 s1;refine bQ di (hK _ (.ptr n 0 0) _ _ _ ?_ i1 s1 (hk n (hi.gI hl)));have:=Rel.ptr (Φ:=Φ.put n ⟨some w.heap.size,0,(td P t).size,1⟩) (l:=n) (i:=0) (o:=0) (R:=w.heap.size) (bd.dC _ _ _) rfl;simpa using this
def Vu{P:Program}{o:Oper}{f:FR}{σ:St}{k:MV→St→Prop}{t:TypeId}{x:Operand}(ho:o.op=.box t x)(hc:∀c,c∈(aH f x).cells→c.aP=true)
 (hk:∀l,σ l=none→k (.ptr l 0 0) (σ.set l (.row t (aH f x).cells.length [(aH f x).cells]))):kq P o f σ k:=by
 intro Φ w a K Q' hi hr hK;obtain⟨n,hn⟩:=hi.fresh.1.1;have hl:=hn n (dk _);have rc:=sO (aL hr x) hc;have di:(execOp a.eval o).run P w=.ok (.value (.pointer (some ⟨w.heap.size,0,none⟩))) (w.alloc (.cells (a.eval x).cells t)):=by unfold execOp;simp only[ho,Instr.box,ez,newVar,newRow,run_newObj,ex,ey];rfl
 obtain⟨i1,s1⟩:=hi.alloc (w':=w.alloc (.cells (a.eval x).cells t)) n hl (.row t (aH f x).cells.length [(aH f x).cells]) (.cells (a.eval x).cells t) ⟨some w.heap.size,0,(aH f x).cells.length,1⟩ rfl rfl rfl rfl rfl (by first|exact dk _|exact lO (d2 _))
  (MP (R:=w.heap.size) (bd.dC _ _ _) (heap_alloc_new w _) (rc.mono (bd.uE _ hl)))
 refine bQ di (hK _ (.ptr n 0 0) _ _ _ ?_ i1 s1 (hk n (hi.gI hl)));have:=Rel.ptr (Φ:=Φ.put n ⟨some w.heap.size,0,(aH f x).cells.length,1⟩) (l:=n) (i:=0) (o:=0) (R:=w.heap.size) (bd.dC _ _ _) rfl;simpa using this
def mD{P:Program}{Φ:bd}{w:World}{t:TypeId}{b off:Nat}{ms:List MV}(cm:(td P t).ok=true)(h1:(td P t).size≤ms.length)(h0:0<(td P t).size)
 (hc:∀(j:Nat) m,ms[j]?=some m→m.aP=true∧∃v,w.cell? ⟨b,off+j,none⟩=some v∧Rel Φ v m) :
  ∃v,(loadVar t ⟨b,off,none⟩).run P w=.ok v w∧Rel Φ v (eJ (td P t) ms 0):=by
 have hch:∀j,j<ms.length→∃v,w.cell? ⟨b,off+j,none⟩=some v∧Rel Φ v (ms.getD j .bw):=fun j hj=>(hc j _ (kS hj)).2;let g:Nat→Value:=fun j=>if hj:j<ms.length then(hch j hj).choose else undef;have hg:∀j,j<ms.length→w.cell? ⟨b,off+j,none⟩=some (g j)∧Rel Φ (g j) (ms.getD j .bw):=fun j hj=>by have:=(hch j hj).choose_spec;simp only[g,dif_pos hj];exact this
 unfold eJ;simp only[loadVar,ez,uN cm,ex];cases hk:(td P t).k.isAgg with
 |true =>
  simp only[if_true,aS cm,ez,ex];rw[run_loadCells w ⟨b,off,none⟩ (td P t).size g (fun j hj=>by rw[eM];exact(hg j oM).1)];refine⟨_,rfl,.agg ?_ (fun i m hm=>?_) (fun i m hm=>?_)⟩
  ·simp;omega
  ·rw[bz] at hm;split at hm
   ·exact(hc i m (by simpa using hm)).1
   ·cases hm
  ·rw[bz] at hm;split at hm
   ·rename_i hi;have lu:ms[i]?=some m:=by simpa using hm
    have e:ms.getD i .bw=m:=by simp[c0,lu]
    have:=(hg i oM).2;rw[e] at this;simpa[e6,hi] using this
   ·cases hm
 |false =>
  have:=hg 0 oM;rw[d0] at this;refine⟨g 0,?_,this.2⟩;simp only[ab,if_false,run_load,this.1]
def eT.elem{Φ:bd}{w:World}{l:Nat}{t:TypeId}{e:Nat}{xs:List (List MV)}(h:eT Φ w l (.row t e xs)){i:Nat}{x:List MV}(hx:xs[i]?=some x) :
  ∃p,Φ.obj l=some p∧p.e=e∧x.length=e∧((∃R,p.jh=some R∧∀(j:Nat) m,x[j]?=some m→m.aP=true∧∃v,w.cell? ⟨R,p.bo+i*e+j,none⟩=some v∧Rel Φ v m)):=by
 obtain⟨p,hp,he,h1,h2,h3,h4⟩:=h;refine⟨p,hp,he,h3 i x hx,?_⟩;cases hb:p.jh with
 |none =>
  rw[hb] at h4;have:=(bv.1 hx).1;have h4':p.C=0:=h4;omega
 |some R =>
  rw[hb] at h4;obtain⟨c,fz,k1,k2,k3,k4⟩:=h4;refine⟨R,rfl,fun j m hm=>?_⟩;obtain⟨q1,v,q2,q3⟩:=k4 i x j m hx hm;refine⟨q1,v,?_,q3⟩;simp only[World.cell?,k1,em,ab,if_false];rw[←q2,dt]
def TB{P:Program}{o:Oper}{f:FR}{σ:St}{k:MV→St→Prop}{t:TypeId}{x:Operand}(ho:o.op=.load t x){l i of:Nat}(hx:aH f x=.ptr l i of)
 {tt:TypeId}{e:Nat}{xs:List (List MV)}(hs:σ l=some (.row tt e xs))(cm:(td P t).ok=true)(hi':i<xs.length)(h1:of+(td P t).size≤(xs.getD i []).length)(h0:0<(td P t).size)
 (hk:k (eJ (td P t) (xs.getD i []) of) σ):kq P o f σ k:=by
 intro Φ w a K Q' hi hr hK;have rx:=aL hr x;rw[hx] at rx;obtain⟨p,R,hp,hR,he⟩:=rx.jU;obtain⟨p',dw,iz,hlen,R',ju,oe⟩:=(hi.own l _ hs).elem (kS hi' (d:=[]));rw[hp] at dw;cases dw;rw[hR] at ju;cases ju;obtain⟨v,hv,bf⟩:=mD (P:=P) (Φ:=Φ) (w:=w) (t:=t) (b:=R) (off:=p.bo+i*p.e+of) (ms:=(xs.getD i []).drop of) cm (by rw[ca];omega) h0 (fun j m hm=>by
  rw[b0] at hm;have:=oe _ m hm;rw[dt (p.bo+i*p.e),iz];exact this)
 have e2:eJ (td P t) ((xs.getD i []).drop of) 0=eJ (td P t) (xs.getD i []) of:=by unfold eJ;simp[c0,b0]
 rw[e2] at bf;refine bQ (v:=v) (w':=w) ?_ (hK _ _ _ _ _ bf hi (.refl _ _ _) hk);unfold execOp;simp only[ho,he,Instr.loadAt,ez,eI,ex,hv,ey]
def PZ{P:Program}{o:Oper}{f:FR}{σ:St}{k:MV→St→Prop}{t:TypeId}{x:Operand}(ho:o.op=.load t x){cs:List MV}(hx:aH f x=.cg cs)
 (cm:(td P t).ok=true)(h1:(td P t).size≤cs.length)(h0:0<(td P t).size)(hk:k (eJ (td P t) cs 0) σ):kq P o f σ k:=by intro Φ w a K Q' hi hr hK;have rx:=aL hr x;rw[hx] at rx;obtain⟨b,off,vs,he,hc,hrr⟩:=rx.oU;obtain⟨v,hv,bf⟩:=mD (P:=P) (Φ:=Φ) (w:=w) (t:=t) (b:=b) (off:=off) (ms:=cs) cm h1 h0 (fun j m hm=>⟨(hc j m hm).1,vs j,hi.snap _ _ (hc j m hm).2,hrr j m hm⟩);refine bQ (v:=v) (w':=w) ?_ (hK _ _ _ _ _ bf hi (.refl _ _ _) hk);unfold execOp;simp only[ho,he,Instr.loadAt,ez,eI,ex,hv,ey]
def gK(w:World)(R:Nat)(o:Obj):World:={ w with heap:=w.heap.setIfInBounds R o }
def iR{w:World}{R:Nat}{o:Obj}(h:R<w.heap.size):(gK w R o).heap[R]?=some o:=by simp[gK,h]
def fL{w:World}{R k:Nat}{o:Obj}(h:k≠R):(gK w R o).heap[k]?=w.heap[k]?:=by simp[gK,fb,d6 h]
def jJ{w:World}{R:Nat}{o:Obj}:(gK w R o).heap.size=w.heap.size:=by simp[gK]
def Qf{w:World}{R:Nat}{o o':Obj}:gK (gK w R o) R o'=gK w R o':=by simp only[gK,Array.setIfInBounds_setIfInBounds]
def D7{w:World}{R:Nat}{o:Obj}(h:w.heap[R]?=some o):gK w R o=w:=by
 have:w.heap.setIfInBounds R o=w.heap:=by
  apply fm;intro i;rw[fb];split
  ·rename_i hi;subst hi;have:=(e8.1 h).1;simp[this,←h]
  ·rfl
 unfold gK;rw[this]
def xG{w:World}{R k:Nat}{c:Array Value}{t:TypeId}{fz:Nat×Nat}{v:Value}(h:w.heap[R]?=some (.cells c t fz)) :
  w.setCell ⟨R,k,none⟩ v=gK w R (.cells (c.setIfInBounds k v) t fz):=by
 unfold World.setCell gK
 congr 1
 apply fm;intro i;rw[Array.getElem?_modify,fb];have bh:=(e8.1 h).1;split
 ·rename_i hi;subst hi;have h2:w.heap[R]=.cells c t fz:=(e8.1 h).2;simp[bh,h2]
 ·rfl
def Ay(t:TypeId)(c:Array Value)(fz:Nat×Nat):Prop:=fz.2≤fz.1∨FZ t=true∧c.size≤fz.1
section
variable {P:Program} {Φ:bd}
def iV{R:Nat}{t:TypeId}{fz:Nat×Nat}{off:Nat}:∀(vs:List Value) (i:Nat) (c:Array Value) (w:World),w.heap[R]?=some (.cells c t fz)→Ay t c fz→off+i+vs.length≤c.size→(∀v,v∈vs→v.oneCell'=true) →
  (storeCells ⟨R,off,none⟩ vs i).run P w=.ok () (gK w R (.cells (cJ c (off+i) vs) t fz)):=by
 intro vs
 induction vs with
 |nil=>intro i c w h _ _ _;simp only[storeCells,cJ,ey];rw[D7 h]
 |cons v vs ih =>
  intro i c w h hf hl h1;simp only[cb] at hl;have bh:R<w.heap.size:=(e8.1 h).1;have hc:w.cell? ⟨R,off+i,none⟩=some (c.getD (off+i) undef):=by simp only[World.cell?,h,em,ab,if_false];simp[e6,e7 (show off+i<c.size by omega)]
  have hz:w.frozen? ⟨R,off+i,none⟩=false:=by
   simp only[World.frozen?,h];rcases hf with hf|hf
   ·simp;omega
   ·simp;omega
  simp only[storeCells,ez];rw[eM,run_store P w _ v _ (h1 v ax),hc];simp only[hz,ab,if_false,ex];rw[xG h,ih (i+1) (c.setIfInBounds (off+i) v) _ (iR bh) (by simpa[Ay] using hf) (by simp;omega) (fun x hx=>h1 x (by simp[hx])),Qf];rfl
def k0.vX{cs:Array Value}{ms:List MV}(h:k0 Φ cs ms):∀v,v∈cs.toList→v.oneCell'=true:=by
 intro v hv;obtain⟨i,hi⟩:=List.mem_iff_getElem?.1 hv;have bh:i<ms.length:=by have:=(bv.1 hi).1;have:=h.1;simp at *;omega
 have hm:ms[i]?=some (ms.getD i .bw):=kS bh;have:=(h.2.2 i _ hm).MN (h.2.1 i _ hm);rw[e9] at hi;simpa[e6,hi] using this
def nR{e:Nat}:∀(xs:List (List MV)) (i j:Nat) (x:List MV) (m:MV),(∀(i:Nat) (x:List MV),xs[i]?=some x→x.length=e)→xs[i]?=some x→x[j]?=some m→xs.flatten[i*e+j]?=some m:=by
 intro xs
 induction xs with
 |nil=>intro i j x m _ hx;simp at hx
 |cons y ys ih =>
  intro i j x m ef hx hm;have hy:y.length=e:=ef 0 y rfl;cases i with
  |zero =>
   simp at hx;subst hx;have:=(bv.1 hm).1;rw[b7,bp oM];simpa using hm
  |succ i =>
   have:=ih i j x m (fun k z hz=>ef (k+1) z (by simpa using hz)) (by simpa using hx) hm;rw[b7,bs (by rw[hy,dj];omega)];rw[←this]
   congr 1
   rw[hy,dj];omega
def eN{e:Nat}:∀(xs:List (List MV)),(∀(i:Nat) (x:List MV),xs[i]?=some x→x.length=e)→xs.flatten.length=xs.length*e:=by
 intro xs
 induction xs with
 |nil=>intro _;simp
 |cons y ys ih =>
  intro h;rw[b7,cd,ih (fun k z hz=>h (k+1) z (by simpa using hz)),h 0 y rfl,cb,dj];omega
def MR{w:World}{l:Nat}{t:TypeId}{e:Nat}{xs:List (List MV)}{p:Place}{R:Nat}{c:Array Value}{fz:Nat×Nat}(hp:Φ.obj l=some p)(hR:p.jh=some R)(he:p.e=e)(hC:xs.length≤p.C)(hm:p.C≤maxLen)
 (hx:∀(i:Nat) (x:List MV),xs[i]?=some x→x.length=e)(hh:w.heap[R]?=some (.cells c t fz))(hf:Ay t c fz)(dq:p.bo+p.C*e≤c.size)
 (hc:∀(i:Nat) m,xs.flatten[i]?=some m→m.aP=true∧∃v,c[p.bo+i]?=some v∧Rel Φ v m):eT Φ w l (.row t e xs):=by refine⟨p,hp,he,hC,hm,hx,?_⟩;rw[hR];exact⟨c,fz,hh,hf,dq,fun i x j m a b=>hc _ m (nR xs i j x m hx a b)⟩
def SN{w:World}{l:Nat}{t:TypeId}{e:Nat}{p:Place}(hp:Φ.obj l=some p)(hR:p.jh=none)(he:p.e=e)(hC:p.C=0):eT Φ w l (.row t e []):=by refine⟨p,hp,he,Nat.zero_le _,by simp[hC,maxLen],ax,?_⟩;rw[hR];exact hC
def rR{w:World}{b off:Nat}{ms:List MV}(hc:∀(j:Nat) m,ms[j]?=some m→m.aP=true∧∃v,w.cell? ⟨b,off+j,none⟩=some v∧Rel Φ v m) :
  ∃arr,(∀w':World,w'.heap=w.heap→(loadCells ⟨b,off,none⟩ ms.length).run P w'=.ok arr w')∧k0 Φ arr ms:=by
 have hch:∀j,j<ms.length→∃v,w.cell? ⟨b,off+j,none⟩=some v∧Rel Φ v (ms.getD j .bw):=fun j hj=>(hc j _ (kS hj)).2;let g:Nat→Value:=fun j=>if hj:j<ms.length then(hch j hj).choose else undef;have hg:∀j,j<ms.length→w.cell? ⟨b,off+j,none⟩=some (g j)∧Rel Φ (g j) (ms.getD j .bw):=fun j hj=>by have:=(hch j hj).choose_spec;simp only[g,dif_pos hj];exact this
 refine⟨((da ms.length).map g).toArray,fun w' hw'=>?_,ax,fun i m hm=>(hc i m hm).1,fun i m hm=>?_⟩
 ·exact run_loadCells w' ⟨b,off,none⟩ ms.length g (fun j hj=>by
   rw[eM];have:=(hg j hj).1;simpa[World.cell?,hw'] using this)
 ·have bh:=(bv.1 hm).1;have e:ms.getD i .bw=m:=by simp[c0,hm]
  have:=(hg i bh).2;rw[e] at this;simpa[e6,bh] using this
theorem jR{α β:Type}(g:α→β):∀l:List α,(l.map fun b=>[g b]).flatten=l.map g
 |[]=>rfl
 |a::l=>by simp[jR g l]
def fX(σ:St)(e:Nat):MV→Option (List (List MV))
 |.aK=>some []
 |.aj e' xs _=>if e'=e then some xs else none
 |.vec e' l lo n=>if e'=e then(match σ l with
  |some (.row _ _ ys)=>if lo+n≤ys.length then some ((ys.drop lo).take n) else none
  |_=>none) else none
 |.str s=>if e=1 then some (s.toList.map fun b=>[.int .u8 (b.toNat:Int)]) else none
 |_=>none
def eT.Wm{w:World}{l:Nat}{t:TypeId}{e:Nat}{xs:List (List MV)}(h:eT Φ w l (.row t e xs)):∀(i:Nat) (x:List MV),xs[i]?=some x→x.length=e:=h.choose_spec.2.2.2.2.1
def sY{w:World}{b off e:Nat}{xs:List (List MV)}(hx:∀(i:Nat) (x:List MV),xs[i]?=some x→x.length=e)
 (h:∀(i:Nat) (x:List MV) (j:Nat) (m:MV),xs[i]?=some x→x[j]?=some m→m.aP=true∧∃v,w.cell? ⟨b,off+(i*e+j),none⟩=some v∧Rel Φ v m) :
  ∀(k:Nat) m,xs.flatten[k]?=some m→m.aP=true∧∃v,w.cell? ⟨b,off+k,none⟩=some v∧Rel Φ v m:=by
 induction xs generalizing off with
 |nil=>intro k m hm;simp at hm
 |cons y ys ih =>
  intro k m hm;have hy:y.length=e:=hx 0 y rfl;rw[b7] at hm;by_cases hk:k<y.length
  ·rw[bp hk] at hm;have:=h 0 y k m rfl hm;simpa using this
  ·rw[bs oM] at hm;have:=ih (off:=off+e) (fun i x q=>hx (i+1) x (by simpa using q)) (fun i x j m q r=>by
    have:=h (i+1) x j m (by simpa using q) r;rw[dj,dn] at this;rw[show off+e+(i*e+j)=off+(i*e+e+j) from by omega];exact this) _ m hm
   rw[hy] at this;rw[show off+e+(k-e)=off+k from by omega] at this;exact this
def i7{w:World}{σ:St}{e:Nat}{x:MV}{ys:List (List MV)}(h:fX σ e x=some ys)(hi:Inv Φ w σ){v:Value}(r:Rel Φ v x) :
  ∃arr,(∀w':World,w'.heap=w.heap→(ap v).run P w'=.ok ys.length w'∧(al e ys.length v).run P w'=.ok arr w')∧k0 Φ arr ys.flatten∧∀(i:Nat) (y:List MV),ys[i]?=some y→y.length=e:=by
 unfold fX at h;split at h
 ·cases h;cases r.gF;exact⟨#[],fun w' _=>⟨rfl,rfl⟩,⟨rfl,ax,ax⟩,ax⟩
 ·rename_i e' xs t;split at h<;>simp only[et,reduceCtorEq] at h;rename_i he;subst he;subst h;obtain⟨a,cap,rfl,_,_,_,ha,ay⟩:=r.l7;rcases d5 xs.length with h0|h0
  ·have hx:=b3 h0;subst hx;refine⟨#[],fun w' _=>⟨rfl,?_⟩,⟨rfl,ax,ax⟩,ax⟩;cases a with
   |none=>rfl
   |some a=>simp[al,loadCells,loadCellsFrom]
  ·obtain⟨b,off,rfl,hx,vs,hv⟩:=ay h0;obtain⟨arr,h1,h2⟩:=rR (P:=P) (Φ:=Φ) (w:=w) (b:=b) (off:=off) (ms:=xs.flatten) (sY hx (fun i x j m a b=>⟨(hv i x j m a b).1,_,hi.snap _ _ (hv i x j m a b).2.1,(hv i x j m a b).2.2⟩));refine⟨arr,fun w' hw=>⟨rfl,?_⟩,h2,hx⟩;have e3:=eN _ hx;show(loadCells _ (xs.length*e')).run P w'=_;rw[←e3];exact h1 w' hw
 ·rename_i e' l lo n;split at h
  rotate_left
  ·cases h
  rename_i he;subst he;split at h
  ·rename_i t e2 zs hs;split at h<;>simp only[et,reduceCtorEq] at h;rename_i hlen;subst h;have gp:=hi.own l _ hs;obtain⟨a,cap,p,rfl,hp,rfl,dv,hn,hR⟩:=r.eQ;have hl:((zs.drop lo).take n).length=n:=by simp;omega
   have hxx:∀(i:Nat) (y:List MV),((zs.drop lo).take n)[i]?=some y→zs[lo+i]?=some y:=fun i y q=>by
    rw[bz] at q;split at q
    ·simpa using q
    ·cases q
   have iz:p.e=e2:=by obtain⟨p',dw,Z3,_⟩:=gp;rw[hp] at dw;cases dw;exact Z3
   have hx:∀(i:Nat) (y:List MV),((zs.drop lo).take n)[i]?=some y→y.length=p.e:=fun i y q=>by rw[iz];exact gp.Wm (lo+i) y (hxx i y q)
   rcases d5 n with h0|h0
   ·subst h0;refine⟨#[],fun w' _=>⟨by simp[ap],?_⟩,⟨ax,ax,ax⟩,ax⟩;cases a with
    |none=>simp[al]
    |some a=>simp[al,loadCells,loadCellsFrom]
   ·rcases hR with⟨R,hb,rfl⟩|hR
    ·obtain⟨arr,h1,h2⟩:=rR (P:=P) (Φ:=Φ) (w:=w) (b:=R) (off:=p.bo+lo*p.e) (ms:=((zs.drop lo).take n).flatten) (sY hx (fun i x j m q1 q2=>by
      obtain⟨p',dw,Z3,_,R',ju,hc⟩:=gp.elem (hxx i x q1);rw[hp] at dw;cases dw;rw[hb] at ju;cases ju;have:=hc j m q2;rw[←iz,show p.bo+(lo+i)*p.e+j=p.bo+lo*p.e+(i*p.e+j) from by rw[dj];omega] at this;exact this))
     refine⟨arr,fun w' hw=>⟨by simp only[ap,hl];rfl,?_⟩,h2,hx⟩;have e3:=eN _ hx;show(loadCells _ (((zs.drop lo).take n).length*p.e)).run P w'=_;rw[←e3];exact h1 w' hw
    ·omega
  ·cases h
 ·rename_i s;split at h<;>simp only[et,reduceCtorEq] at h;rename_i he;subst he;subst h;cases r.gS;have iq:s.toList.length=s.size:=by rw[aI,fi];rfl
  refine⟨s.data.map fun b=>.int .u8 b.toNat,fun w' _=>⟨by simp only[ap,b6,iq];rfl,?_⟩,?_,fun i y hy=>?_⟩
  ·simp only[al,b6,iq,ey,ByteArray.extract_zero_size]
  ·rw[jR];refine⟨by rw[b6,iq,Array.size_map];rfl,fun i m hm=>?_,fun i m hm=>?_⟩
   ·rw[bx,eg] at hm;obtain⟨b,_,rfl⟩:=hm;rfl
   ·rw[bx,eg] at hm;obtain⟨b,hb,rfl⟩:=hm;rw[aI,e9] at hb;have:(s.data.map fun b=>Value.int .u8 (b.toNat:Int)).getD i undef=.int .u8 b.toNat:=by rw[e6,f3,hb];rfl
    rw[this];exact .int _ _
  ·simp at hy;obtain⟨b,_,rfl⟩:=hy;rfl
 ·cases h
end
section
variable {P:Program}
def jI(l:List Value)(cs:Array Value)(off i:Nat)(h:off+l.length≤cs.size):(cJ cs off l)[i]?=if off≤i∧i<off+l.length then l[i-off]? else cs[i]?:=by
 by_cases hi:i<cs.size
 ·have e1:(cJ cs off l)[i]?=some ((cJ cs off l).getD i undef):=by simp[e6,e7 (show i<(cJ cs off l).size by rw[dA];exact hi)]
  rw[e1,zW _ _ _ _ _ h];split
  ·rename_i hc;exact(kS oM).symm
  ·simp[e6,e7 hi]
 ·rw[if_neg oM,fe (by rw[dA];omega),fe oM]
def lB{cs new:List MV}{off:Nat}(h:off+new.length≤cs.length):(laid cs off new).length=cs.length:=by simp[laid];omega
def oY{cs new:List MV}{off:Nat}(h:off+new.length≤cs.length)(i:Nat):(laid cs off new)[i]?=if off≤i∧i<off+new.length then new[i-off]? else cs[i]?:=by
 unfold laid;by_cases h1:i<off
 ·rw[if_neg oM,ci,bp (by simp;omega),bz,if_pos h1]
 ·by_cases h2:i<off+new.length
  ·rw[if_pos oM,ci,bs (by simp;omega),bp (by simp;omega)];simp[show min off cs.length=off by omega]
  ·rw[if_neg oM,bs (by simp;omega),b0]
   congr 1
   simp;omega
def P3{o:Oper}{f:FR}{σ:St}{k:MV→St→Prop}{t:TypeId}{x y:Operand}(ho:o.op=.store t x y){l i of:Nat}(hx:aH f x=.ptr l i of)
 {tt:TypeId}{e:Nat}{xs:List (List MV)}(hs:σ l=some (.row tt e xs))(cm:(td P t).ok=true)(hi':i<xs.length)(hc:∀c,c∈(aH f y).cells→c.aP=true)(hlen:(aH f y).cells.length=(td P t).size)
 (h1:of+(aH f y).cells.length≤(xs.getD i []).length)(hk:k .bw (σ.set l (.row tt e (xs.set i (laid (xs.getD i []) of (aH f y).cells))))):kq P o f σ k:=by
 intro Φ w a K Q' hi hr hK;have rx:=aL hr x;rw[hx] at rx;obtain⟨p,R,hp,hR,he⟩:=rx.jU;have rc:=sO (aL hr y) hc;have gp:=hi.own l _ hs;have hown':=gp;obtain⟨p',dw,iz,q1,q2,q3,q4⟩:=gp;rw[hp] at dw;cases dw;rw[hR] at q4;obtain⟨c,fz,k1,k2,k3,k4⟩:=q4;have hxi:xs[i]?=some (xs.getD i []):=kS hi';have zt:=q3 i _ hxi;have hvl:(a.eval y).cells.toList.length=(aH f y).cells.length:=by simpa using rc.1
 have gk:p.bo+i*p.e+of+(a.eval y).cells.toList.length≤c.size:=by have:(i+1)*e≤p.C*e:=dl _ oM;rw[dj,dn] at this;rw[iz];omega
 have di:(execOp a.eval o).run P w=.ok .skip (gK w R (.cells (cJ c (p.bo+i*p.e+of) (a.eval y).cells.toList) tt fz)):=by unfold execOp;simp only[ho,he,Instr.storeAt,ez,eI,ex,storeVar,aS cm];rw[if_neg (by have:=rc.1;omega)];rw[iV (P:=P) _ 0 c w k1 k2 (by simpa using gk) rc.vX];rfl
 have bh:R<w.heap.size:=(e8.1 k1).1;obtain⟨i1,s1⟩:=hi.F6 (w':=gK w R (.cells (cJ c (p.bo+i*p.e+of) (a.eval y).cells.toList) tt fz)) l hs (.row tt e (xs.set i (laid (xs.getD i []) of (aH f y).cells))) hp hR jJ (fun k hk=>fL hk) rfl rfl rfl (dk _) (by
  refine⟨p,hp,iz,by simpa using q1,q2,fun i' x' vm=>?_,?_⟩
  ·rw[List.getElem?_set] at vm;split at vm
   ·simp only[et] at vm;subst vm;rw[lB h1,zt]
   ·exact q3 i' x' vm
  ·rw[hR];refine⟨_,fz,iR bh,by simpa[Ay,dA] using k2,by rw[dA];exact k3,fun i' x' j m vm hm=>?_⟩;rw[jI _ _ _ _ gk,hvl,iz];rw[List.getElem?_set] at vm;split at vm
   ·rename_i hii;subst hii;simp only[et] at vm;subst vm;rw[oY h1] at hm;split at hm
    ·rename_i ku;rw[if_pos oM];refine⟨rc.2.1 _ m hm,(a.eval y).cells.getD (j-of) undef,?_,rc.2.2 _ m hm⟩;rw[show p.bo+(i*e+j)-(p.bo+i*e+of)=j-of from by omega,e9];have:j-of<(a.eval y).cells.size:=by have:=rc.1;omega
     simp[e6,e7 this]
    ·rename_i ku;rw[if_neg oM];exact k4 i _ j m hxi hm
   ·rename_i hii;have xk:j<e:=by have:=(bv.1 hm).1;have:=q3 i' x' vm;omega
    rw[if_neg (by
     intro hcon;have hle:of+(aH f y).cells.length≤e:=oM;rcases Nat.lt_or_gt_of_ne hii with ot|tp
     ·have:(i+1)*e≤i'*e:=dl _ ot;rw[dj,dn] at this;omega
     ·have:(i'+1)*e≤i*e:=dl _ tp;rw[dj,dn] at this;omega)]
    exact k4 i' x' j m vm hm)
 exact Gi di (hK undef .bw _ _ _ (.bw _) i1 s1 hk)
def TK.gT:TK→Bool
 |.slice _|.str=>true
 |_=>false
def M9{t:TypeId}(h:(td P t).k.gT=true):(∃e,P.underlying t=some (.slice e))∨P.underlying t=some .string:=by
 cases hk:(td P t).k<;>simp[hk,TK.gT] at h
 ·exact .inr (iW hk)
 ·exact .inl ⟨_,bB hk⟩
theorem run_append_room{t xt ty el:TypeId}{w:World}{a:Option Addr}{n cap m:Nat}{v:Value}{arr:Array Value}(ht:(td P t).k=.slice el)(Zk:(td P xt).k.gT=true)(cm:(td P el).ok=true)
 (hl:(ap v).run P w=.ok m w)(hf:(al (td P el).size m v).run P w=.ok arr w)(gu:n+m≤cap) :
  (ao #[t,xt] ty #[.slice a n cap,v]).run P w=((match a with|some ad=>storeCells (ad.add (n*(td P el).size)) arr.toList|none=>pure ()).run P w).andThen fun _ w'=>.ok (.slice a (n+m) cap) w':=by
 unfold ao;rcases M9 Zk with⟨e,hd⟩|hd <;>
 ·simp only[cf,b5,ce,ez,aO (bB ht),ex,aS cm,aO hd,ey,ab,if_false,hl,if_pos gu,Bool.not_false,if_true,hf];cases a<;>simp only[ez,ey,ex]
def o9{t xt ty el:TypeId}{w:World}{a:Option Addr}{n cap m:Nat}{v:Value}{arr old:Array Value}(ht:(td P t).k=.slice el)(Zk:(td P xt).k.gT=true)(hz:(td P el).jq=true)
 (hl:(ap v).run P w=.ok m w)(hf:∀w':World,w'.heap=w.heap→(al (td P el).size m v).run P w'=.ok arr w')(ho:∀w':World,w'.heap=w.heap→(al (td P el).size n (.slice a n cap)).run P w'=.ok old w')
 (gu:cap<n+m)(hm:n+m≤maxLen)(hb:(n+m)*(td P el).bytes≤140737488355328) :
  ∃rest:Array Value,rest.size=(grownCap w (n+m) cap el-(n+m))*(td P el).size∧(ao #[t,xt] ty #[.slice a n cap,v]).run P w=.ok (.slice (some ⟨w.heap.size,0,none⟩) (n+m) (grownCap w (n+m) cap el)) (w.drew.alloc (.cells (old++arr++rest) el)):=by
 obtain⟨z,wc,pd,qb,cm,xp,_⟩:=dZ hz w.drew;obtain⟨i,d,zh,hd,dq,hby,hk⟩:=dM cm;refine⟨am z.cells (grownCap w (n+m) cap el-(n+m)),by rw[size_zeroCells,qb],?_⟩;have hn:¬(n+m≤cap):=oM;have h48':¬(az (n+m) cap*i.bytes > 2 ^ 48):=by rw[←hby];have:=growslice_fits (show cap<n+m from gu) hb;omega
 have h63:¬(((n+m:Nat):Int) > be.max):=by simp only[bj,bg,bi,maxLen] at hm ⊢;simp;omega
 unfold ao;have e1:=ho w.drew rfl;have e2:=hf w.drew rfl;simp only[World.drew] at e1 e2 wc;rcases M9 Zk with⟨e,hd2⟩|hd2 <;>
 ·simp only[cf,b5,ce,ez,aO (bB ht),ex,aS cm,aO hd2,ey,ab,if_false,hl,if_neg hn,Bool.not_false,if_true,
   h63,false_and,typeInfo,run_program,zh,if_neg h48',run_choose,Question.forced,run_askRoom]
  simp only[e1,e2,wc,ex,newRow,ez,run_newObj,ey];rfl
def sF{Φ:bd}{w:World}{σ σ1:St}(hi:Inv Φ w σ)(fo:∀l o,σ1 l=some o→σ l=some o){l':Nat}(na:Φ.obj l'=none){el:TypeId}{e n m cap':Nat}{xs ys:List (List MV)}{old arr rest:Array Value}
 (hx:∀(i:Nat) (x:List MV),xs[i]?=some x→x.length=e)(hy:∀(i:Nat) (x:List MV),ys[i]?=some x→x.length=e)(hn:xs.length=n)(hm:ys.length=m)(ho:k0 Φ old xs.flatten)(ha:k0 Φ arr ys.flatten)
 (hr:rest.size=(cap'-(n+m))*e)(hc:n+m≤cap')(zn:cap'≤maxLen) :
  Inv (Φ.put l' ⟨some w.heap.size,0,e,cap'⟩) (w.drew.alloc (.cells (old++arr++rest) el)) (σ1.set l' (.row el e (xs++ys))) ∧
  Step Φ σ w (Φ.put l' ⟨some w.heap.size,0,e,cap'⟩) (σ1.set l' (.row el e (xs++ys))) (w.drew.alloc (.cells (old++arr++rest) el)) ∧
  Rel (Φ.put l' ⟨some w.heap.size,0,e,cap'⟩) (.slice (some ⟨w.heap.size,0,none⟩) (n+m) cap') (.vec e l' 0 (n+m)):=by
 have hle:=bd.uE (Φ:=Φ) ⟨some w.heap.size,0,e,cap'⟩ na;have hxy:∀(i:Nat) (x:List MV),(xs++ys)[i]?=some x→x.length=e:=fun i x q=>by
  by_cases h:i<xs.length
  ·rw[bp h] at q;exact hx i x q
  ·rw[bs oM] at q;exact hy _ x q
 have hox:old.size=n*e:=by rw[ho.1,eN xs hx,hn]
 have hay:arr.size=m*e:=by rw[ha.1,eN ys hy,hm]
 have i0:=hi.less fo;have s0:=Step.less w fo (Φ:=Φ);obtain⟨i1,s1⟩:=i0.alloc (w':=w.drew.alloc (.cells (old++arr++rest) el)) l' na (.row el e (xs++ys)) (.cells (old++arr++rest) el) ⟨some w.heap.size,0,e,cap'⟩ rfl rfl rfl rfl rfl (by first|exact dk _|exact lO (d2 _))
  (MR (c:=old++arr++rest) (fz:=(0,0)) (R:=w.heap.size) (bd.dC _ _ _) rfl rfl (by simp;omega) zn hxy (heap_alloc_new w.drew _) (.inl (dk _)) (by
   simp only[f6,hox,hay,hr,d3];rw[←dj,←dj];exact dl _ oM) (fun i m' q=>by
   rw[List.flatten_append] at q;simp only[d3];by_cases h:i<xs.flatten.length
   ·rw[bp h] at q;have h':i<old.size:=by have:=ho.1;omega
    refine⟨ho.2.1 i m' q,old.getD i undef,?_,(ho.2.2 i m' q).mono hle⟩;rw[f5,ff h'];simp[e6,e7 h']
   ·rw[bs oM] at q;have bh:=(bv.1 q).1;have e1:=ho.1;have e2:=ha.1;refine⟨ha.2.1 _ m' q,arr.getD (i-xs.flatten.length) undef,?_,(ha.2.2 _ m' q).mono hle⟩;have h3:i-xs.flatten.length<arr.size:=oM;have e3:arr.getD (i-xs.flatten.length) undef=arr[i-xs.flatten.length]:=by simp only[e6,e7 h3,Option.getD_some]
    rw[f5,fv oM,ff oM,e1,e3,e7 h3]))
 refine⟨i1,s0.trans s1,?_⟩;have:=Rel.vec (Φ:=Φ.put l' ⟨some w.heap.size,0,e,cap'⟩) (l:=l') (lo:=0) (n:=n+m) (cap:=cap') (R:=w.heap.size) (bd.dC _ _ _) rfl ax hc;simpa using this
def pC{Φ:bd}{w:World}{σ σ1:St}(hi:Inv Φ w σ)(fo:∀l o,σ1 l=some o→σ l=some o){l':Nat}(na:Φ.obj l'=none)(el:TypeId)(e:Nat)(a:Option Addr) :
  Inv (Φ.put l' ⟨none,0,e,0⟩) w (σ1.set l' (.row el e []))∧Step Φ σ w (Φ.put l' ⟨none,0,e,0⟩) (σ1.set l' (.row el e [])) w∧Rel (Φ.put l' ⟨none,0,e,0⟩) (.slice a 0 0) (.vec e l' 0 0):=by
 have hle:=bd.uE (Φ:=Φ) ⟨none,0,e,0⟩ na;refine⟨(hi.less fo).tz hle (fun _=>rfl) l' _ ⟨none,0,e,0⟩ (bd.dC _ _ _) (fun m o q=>St.cG q) (fun _ _ _ _ _ _ _ _=>⟨rfl,ax⟩) (fun _ _ _=>⟨rfl,ax⟩) (SN (bd.dC _ _ _) rfl rfl rfl) (hi.x7 l' _),
  ⟨hle,rfl,rfl,rfl,dk _,dk _,fun _ _ _=>rfl,fun _ _ h=>.inl h,fun m o q=>?_,fun R hR=>?_⟩,?_⟩
 ·rcases St.cG q with⟨_,q1⟩|⟨rfl,_⟩
  ·exact .inl ⟨_,fo _ _ q1⟩
  ·exact .inr na
 ·obtain⟨m,o1,p1,s1,s2,s3⟩:=hR;rcases St.cG s1 with⟨hm,q1⟩|⟨rfl,_⟩
  ·have:(Φ.put l' ⟨none,0,e,0⟩).obj m=Φ.obj m:=by simp[bd.put,hm]
   rw[this] at s2;exact .inl ⟨m,o1,p1,fo _ _ q1,s2,s3⟩
  ·rw[bd.dC] at s2;cases s2;cases s3
 ·cases a with
  |none=>exact .ZX (p:=⟨none,0,e,0⟩) (bd.dC _ _ _) rfl rfl
  |some a=>exact .ZW (p:=⟨none,0,e,0⟩) a (bd.dC _ _ _) rfl
def fI{o:Oper}{a:Act}{s x:Operand}{t xt:TypeId}(ho:o.op=.call { callee:=.builtin .append,args:=#[s,x],argTypes:=#[t,xt] })(w:World) :
  (execOp a.eval o).run P w=((ao #[t,xt] o.type #[a.eval s,a.eval x]).run P w).andThen fun v w'=>.ok (.value v) w':=by unfold execOp;simp only[ho,resolve,invoke,builtin,ez,ey,ex,List.map_toArray,b8,List.map_nil]
def inv_eq{Φ:bd}{w:World}{σ:St}(hi:Inv Φ w σ):∃l,Φ.obj l=none∧σ l=none:=by obtain⟨n,hn⟩:=hi.fresh.1.1;exact⟨n,hn n (dk _),hi.gI (hn n (dk _))⟩
def rS{o:Oper}{f:FR}{σ:St}{k:MV→St→Prop}{s x:Operand}{t xt el:TypeId}(ho:o.op=.call { callee:=.builtin .append,args:=#[s,x],argTypes:=#[t,xt] })
 (ht:(td P t).k=.slice el)(Zk:(td P xt).k.gT=true)(hz:(td P el).jq=true){xs ys:List (List MV)}(hs:aH f s=.aK∧xs=[]∨aH f s=.aj (td P el).size xs true)(hy:fX σ (td P el).size (aH f x)=some ys)
 (fg:xs=[]∨0<ys.length)(hm:xs.length+ys.length≤maxLen)(hb:(xs.length+ys.length)*(td P el).bytes≤140737488355328)
 (hk:∀l,σ l=none→k (.vec (td P el).size l 0 (xs.length+ys.length)) (σ.set l (.row el (td P el).size (xs++ys)))):kq P o f σ k:=by
 intro Φ w a K Q' hi hr hK;obtain⟨l',na,iq⟩:=inv_eq hi;obtain⟨arr,ek,bf,vp⟩:=i7 (P:=P) hy hi (aL hr x);have hsx:fX σ (td P el).size (aH f s)=some xs:=by
  rcases hs with⟨h,rfl⟩|h
  ·rw[h];rfl
  ·rw[h];simp[fX]
 obtain⟨old,hold,zo,zt⟩:=i7 (P:=P) hsx hi (aL hr s);obtain⟨ad,cap,hv,dv⟩:∃ad cap,a.eval s=.slice ad xs.length cap∧cap=xs.length:=by
  have rs:=aL hr s;rcases hs with⟨h,rfl⟩|h
  ·rw[h] at rs;exact⟨none,0,rs.gF,rfl⟩
  ·rw[h] at rs;obtain⟨ad,cap,he,_,_,ht',_⟩:=rs.l7;exact⟨ad,cap,he,ht' rfl⟩
 subst dv;by_cases vh:0<ys.length
 ·obtain⟨rest,hrest,di⟩:=o9 (P:=P) (ty:=o.type) (a:=ad) ht Zk hz (ek w rfl).1 (fun w' h=>(ek w' h).2) (fun w' h=>by have:=(hold w' h).2;rw[hv] at this;exact this) oM hm hb;obtain⟨i1,s1,r1⟩:=sF (σ1:=σ) (el:=el) hi (fun _ _ q=>q) na zt vp rfl rfl zo bf hrest (grownCap_ge w _ _ el) (grownCap_le_maxLen w _ _ el hm);refine bQ (v:=_) (w':=_) ?_ (hK _ _ _ _ _ r1 i1 s1 (hk l' iq));rw[fI ho,hv,di];rfl
 ·have xf:xs=[]:=fg.resolve_right vh;subst xf;have hy0:ys=[]:=b3 oM;subst hy0;obtain⟨i1,s1,r1⟩:=pC (σ1:=σ) hi (fun _ _ q=>q) na el (td P el).size ad;have harr0:arr=#[]:=by have:=bf.1;simp at this;exact this
  subst harr0;refine bQ (v:=.slice ad 0 0) (w':=w) ?_ (hK _ _ _ _ _ r1 i1 s1 (hk l' iq));rw[fI ho,hv,run_append_room (P:=P) ht Zk (by obtain⟨z,_,_,_,cm,_⟩:=dZ hz w;exact cm) (ek w rfl).1 (ek w rfl).2 ax];cases ad<;>rfl
def gP(xs:List (List MV))(lo n:Nat)(ys:List (List MV)):List (List MV):=((xs.drop lo).take n++ys)++(xs.drop lo).drop (n+ys.length)
def Jw{xs ys:List (List MV)}{lo n:Nat}(h:lo+n=xs.length):gP xs lo n ys=xs.drop lo++ys:=by have h1:(xs.drop lo).take n=xs.drop lo:=List.take_of_length_le (by rw[ca];omega);have h2:(xs.drop lo).drop (n+ys.length)=[]:=de (by rw[ca];omega);unfold gP;rw[h1,h2,c8]
def BP{o:Oper}{f:FR}{σ:St}{k:MV→St→Prop}{s x:Operand}{t xt el:TypeId}(ho:o.op=.call { callee:=.builtin .append,args:=#[s,x],argTypes:=#[t,xt] })
 (ht:(td P t).k=.slice el)(Zk:(td P xt).k.gT=true)(hz:(td P el).jq=true){l lo n:Nat}{tt:TypeId}{xs ys:List (List MV)}(hs:aH f s=.vec (td P el).size l lo n)(iq:σ l=some (.row tt (td P el).size xs))(htt:tt=el)(hlo:lo=0)
 (dy:lo+n≤xs.length)(hy:fX σ (td P el).size (aH f x)=some ys)(hm:n+ys.length≤maxLen)(hb:(n+ys.length)*(td P el).bytes≤140737488355328)
 (hk:∀l',σ l'=none→k (.vec (td P el).size l' 0 (n+ys.length)) ((σ.del l).set l' (.row el (td P el).size (gP xs lo n ys)))):kq P o f σ k:=by
 subst htt;intro Φ w a K Q' hi hr hK;obtain⟨l',na,hsl'⟩:=inv_eq hi;obtain⟨z,_,_,_,cm,_⟩:=dZ hz w;obtain⟨arr,ek,bf,vp⟩:=i7 (P:=P) hy hi (aL hr x);have hsx:fX σ (td P tt).size (aH f s)=some ((xs.drop lo).take n):=by rw[hs];simp only[fX,if_true,iq];rw[if_pos oM]
 obtain⟨old,hold,zo,zt⟩:=i7 (P:=P) hsx hi (aL hr s);have hn:((xs.drop lo).take n).length=n:=by simp;omega
 have dq:=(hi.own l _ iq).Wm;have rs:=aL hr s;rw[hs] at rs;obtain⟨ad,cap,p,hv,hp,iz,dv,tg,hR⟩:=rs.eQ;have fo:∀m o,(σ.del l) m=some o→σ m=some o:=fun m o q=>by
  simp only[St.del] at q;split at q
  ·cases q
  ·exact q
 by_cases gu:n+ys.length≤cap
 ·rcases hR with⟨R,mw,rfl⟩|ze
  ·have gp:=hi.own l _ iq;obtain⟨p',dw,hpe',q1,q2,q3,q4⟩:=gp;rw[hp] at dw;cases dw;rw[mw] at q4;obtain⟨c,fz,k1,k2,k3,k4⟩:=q4;have bh:R<w.heap.size:=(e8.1 k1).1;have qv:arr.toList.length=ys.length*(td P tt).size:=by have:=bf.1;rw[eN ys vp] at this;simpa using this
   have gk:p.bo+lo*p.e+n*(td P tt).size+arr.toList.length≤c.size:=by rw[qv,iz];have:(lo+(n+ys.length))*(td P tt).size≤p.C*(td P tt).size:=dl _ oM;rw[dj,dj] at this;omega
   have di:(execOp a.eval o).run P w=.ok (.value (.slice (some ⟨R,p.bo+lo*p.e,none⟩) (n+ys.length) cap)) (gK w R (.cells (cJ c (p.bo+lo*p.e+n*(td P tt).size) arr.toList) tt fz)):=by rw[fI ho,hv,run_append_room (P:=P) ht Zk cm (ek w rfl).1 (ek w rfl).2 gu];simp only[eM];rw[iV (P:=P) _ 0 c w k1 k2 (by simpa using gk) bf.vX];rfl
   rw[iz] at gk di;let p2:Place:=⟨some R,p.bo+lo*(td P tt).size,(td P tt).size,cap⟩
   have hle:=bd.uE (Φ:=Φ) p2 na;have fg:∀m o q,(σ.del l) m=some o→Φ.obj m=some q→∀R',q.jh=some R'→R'≠R:=fun m o q hm hq R' ju e=>by have bn:m=l:=hi.inj m l o _ q p R (fo m o hm) iq hq hp (e ▸ ju) mw;subst bn;simp[St.del] at hm
   -- an element that stays
   have stays:∀(i:Nat) (y:List MV) (j:Nat) (m:MV),(xs.drop lo)[i]?=some y→y[j]?=some m→((i+1)*(td P tt).size≤n*(td P tt).size∨(n+ys.length)*(td P tt).size≤i*(td P tt).size) →
     m.aP=true∧∃v,(cJ c (p.bo+lo*(td P tt).size+n*(td P tt).size) arr.toList)[p.bo+lo*(td P tt).size+(i*(td P tt).size+j)]?=some v∧Rel (Φ.put l' p2) v m:=by
    intro i y j m q hm hij;rw[b0] at q;have xk:j<(td P tt).size:=by have:=(bv.1 hm).1;have:=dq (lo+i) y q;omega
    rw[jI _ _ _ _ gk,qv,if_neg (by
     rcases hij with h|h
     ·rw[dj,dn] at h;omega
     ·rw[dj] at h;omega)]
    have:=k4 (lo+i) y j m q hm;rw[show p.bo+lo*(td P tt).size+(i*(td P tt).size+j)=p.bo+((lo+i)*(td P tt).size+j) from by rw[dj];omega];obtain⟨t1,v,t2,t3⟩:=this;exact⟨t1,v,t2,t3.mono hle⟩
   have i1:Inv (Φ.put l' p2) (gK w R (.cells (cJ c (p.bo+lo*(td P tt).size+n*(td P tt).size) arr.toList) tt fz)) ((σ.del l).set l' (.row tt (td P tt).size (gP xs lo n ys))):=by
    refine(hi.less fo).tz hle (fun _=>rfl) l' _ p2 (bd.dC _ _ _) (fun m o q=>St.cG q) (fun m o' q R' hm xm hq ju=>?_) (fun b v h=>?_) ?_ (hi.x7 l' _ (by show p.bo+lo*_=0;rw[hi.fresh.1.2 l p hp,hlo];simp))
    ·rcases St.cG xm with⟨_,q1⟩|⟨q1,_⟩
     ·have:=fg m o' q q1 hq R' ju;exact⟨fL this,by simp only[p2];simpa using d6 this⟩
     ·exact absurd q1 hm
    ·have:=hi.apart l _ p R b v iq hp mw h;exact⟨fL this,by simp only[p2];simpa using d6 this⟩
    ·have hsplit:∀(i:Nat) (y:List MV),(gP xs lo n ys)[i]?=some y→(i<n∧(xs.drop lo)[i]?=some y)∨(n≤i∧i<n+ys.length∧ys[i-n]?=some y)∨(n+ys.length≤i∧(xs.drop lo)[i]?=some y):=by
      intro i y q;unfold gP at q;have uf:((xs.drop lo).take n++ys).length=n+ys.length:=by rw[cd,hn]
      by_cases h1:i<n
      ·rw[bp oM,bp oM,bz,if_pos h1] at q;exact .inl ⟨h1,q⟩
      ·by_cases h2:i<n+ys.length
       ·rw[bp oM,bs oM,hn] at q;exact .inr (.inl ⟨oM,h2,q⟩)
       ·rw[bs oM,uf,b0] at q;rw[show n+ys.length+(i-(n+ys.length))=i from by omega] at q;exact .inr (.inr ⟨oM,q⟩)
     refine⟨p2,bd.dC _ _ _,rfl,?_,by simp only[p2];omega,fun i y q=>?_,?_⟩
     ·simp only[p2,gP,cd,hn,ca];omega
     ·rcases hsplit i y q with⟨_,q⟩|⟨_,_,q⟩|⟨_,q⟩
      ·rw[b0] at q;exact dq _ y q
      ·exact vp _ y q
      ·rw[b0] at q;exact dq _ y q
     ·refine⟨_,fz,iR bh,by simpa[Ay,dA] using k2,by
       rw[dA];simp only[p2];have:(lo+cap)*(td P tt).size≤p.C*(td P tt).size:=dl _ oM;rw[dj] at this;omega,fun i y j m q hm=>?_⟩
      simp only[p2];rcases hsplit i y q with⟨h,q⟩|⟨h0,h,q⟩|⟨h,q⟩
      ·exact stays i y j m q hm (.inl (dl _ oM))
      ·have xk:j<(td P tt).size:=by have:=(bv.1 hm).1;have:=vp _ y q;omega
       have qu:=(bv.1 q).1;have iw:=nR ys (i-n) j y m vp q hm;have ZF:=(bv.1 iw).1;have harr1:=bf.1;have e3:(i-n)*(td P tt).size+j+n*(td P tt).size=i*(td P tt).size+j:=by
        have:i*(td P tt).size=(i-n+n)*(td P tt).size:=by congr 1;omega
        rw[this,dj];omega
       have e4:(i-n)*(td P tt).size+j<ys.length*(td P tt).size:=by have:(i-n+1)*(td P tt).size≤ys.length*(td P tt).size:=dl _ oM;rw[dj,dn] at this;omega
       rw[jI _ _ _ _ gk,qv,if_pos oM,show p.bo+lo*(td P tt).size+(i*(td P tt).size+j)-(p.bo+lo*(td P tt).size+n*(td P tt).size)=(i-n)*(td P tt).size+j from by omega,e9];refine⟨bf.2.1 _ m iw,arr.getD ((i-n)*(td P tt).size+j) undef,?_,(bf.2.2 _ m iw).mono hle⟩;simp[e6,e7 (show(i-n)*(td P tt).size+j<arr.size by omega)]
      ·exact stays i y j m q hm (.inr (dl _ oM))
   have s1:Step Φ σ w (Φ.put l' p2) ((σ.del l).set l' (.row tt (td P tt).size (gP xs lo n ys))) (gK w R (.cells (cJ c (p.bo+lo*(td P tt).size+n*(td P tt).size) arr.toList) tt fz)):=by
    refine⟨hle,rfl,rfl,rfl,dk _,Nat.le_of_eq jJ.symm,fun k hk lx=>fL (fun e=>lx (e ▸ ⟨l,_,p,iq,hp,mw⟩)),fun b v h=>.inl h,fun m o q=>?_,fun R' ju=>?_⟩
    ·rcases St.cG q with⟨_,q1⟩|⟨rfl,_⟩
     ·exact .inl ⟨_,fo _ _ q1⟩
     ·exact .inr na
    ·obtain⟨m,o1,p1,t1,t2,t3⟩:=ju;rcases St.cG t1 with⟨lu,q1⟩|⟨rfl,_⟩
     ·have:(Φ.put l' p2).obj m=Φ.obj m:=by simp[bd.put,lu]
      rw[this] at t2;exact .inl ⟨m,o1,p1,fo _ _ q1,t2,t3⟩
     ·rw[bd.dC] at t2;cases t2;cases t3;exact .inl ⟨l,_,p,iq,hp,mw⟩
   refine bQ di (hK _ _ _ _ _ ?_ i1 s1 (hk l' hsl'));have:=Rel.vec (Φ:=Φ.put l' p2) (l:=l') (lo:=0) (n:=n+ys.length) (cap:=cap) (R:=R) (p:=p2) (bd.dC _ _ _) rfl (by simp[p2]) gu;simp only[p2,du,d0] at this ⊢;exact this
  ·subst ze;have Zh:n=0:=oM;have hy0:ys=[]:=b3 oM;subst hy0;obtain⟨p',dw,hpe',q1,q2,q3,q4⟩:=hi.own l _ iq;rw[hp] at dw;cases dw;obtain⟨i1,s1,r1⟩:=pC (σ1:=σ.del l) hi fo na tt (td P tt).size ad;have harr0:arr=#[]:=by have:=bf.1;simp at this;exact this
   subst harr0;have xf:xs.drop lo=[]:=b3 (by simp;omega);have hk':=hk l' hsl';simp only[gP,xf,Zh,List.length_nil,c8,d0,List.take_nil,List.drop_nil] at hk';refine bQ (v:=.slice ad 0 0) (w':=w) ?_ (hK _ _ _ _ _ r1 i1 s1 hk');rw[fI ho,hv,run_append_room (P:=P) ht Zk cm (ek w rfl).1 (ek w rfl).2 gu,Zh];cases ad<;>rfl
 ·obtain⟨p',dw,hpe',q1,q2,q3,q4⟩:=hi.own l _ iq;rw[hp] at dw;cases dw;have htail:gP xs lo n ys=(xs.drop lo).take n++ys:=by have h2:(xs.drop lo).drop (n+ys.length)=[]:=de (by rw[ca];omega);unfold gP;rw[h2,c8]
  rw[htail] at hk;obtain⟨rest,hrest,di⟩:=o9 (P:=P) (ty:=o.type) (a:=ad) (n:=n) (cap:=cap) ht Zk hz (ek w rfl).1 (fun w' h=>(ek w' h).2) (fun w' h=>by have:=(hold w' h).2;rw[hv,hn] at this;exact this) oM hm hb;obtain⟨i1,s1,r1⟩:=sF (σ1:=σ.del l) (el:=tt) hi fo na zt vp hn rfl zo bf hrest (grownCap_ge w _ _ tt) (grownCap_le_maxLen w _ _ tt hm);refine bQ (v:=_) (w':=_) ?_ (hK _ _ _ _ _ r1 i1 s1 (hk l' hsl'));rw[fI ho,hv,di];rfl
def TA{o:Oper}{f:FR}{σ:St}{k:MV→St→Prop}{x:Operand}{args:Array Operand}{ts:Array TypeId}(ho:o.op=.call { callee:=.value x,args:=args,argTypes:=ts }){g:FuncId}{ms ns:List MV}
 (hx:aH f x=.fn (.func g) ms ns)(hk:aA P g (ms++args.toList.map (aH f)++ns) σ k):kq P o f σ k:=by
 intro Φ w a K Q' hi hr hK;have rx:=aL hr x;rw[hx] at rx;obtain⟨first,cap,he,r1,r2⟩:=rx.pM;obtain⟨fn,mm,nz,vd⟩:=hk.1;have ou:iX Φ (first++args.map a.eval++cap) (ms++args.toList.map (aH f)++ns):=by
  have r3:=nD hr args;have app:∀{x y:Array Value} {m n:List MV},iX Φ x m→iX Φ y n→iX Φ (x++y) (m++n):=fun {x y m n} h1 h2=>by
   refine⟨by simp[h1.1,h2.1],fun i q hq=>?_⟩;have e1:=h1.1;by_cases h:i<m.length
   ·rw[bp h] at hq;have:=h1.2 i q hq;simpa[e6,ff (show i<x.size by omega)] using this
   ·rw[bs oM] at hq;have:=h2.2 _ q hq;simpa[e6,fv (show x.size≤i by omega),e1] using this
  exact app (app r1 r3) r2
 have di:(execOp a.eval o).run P w=.ok (.enter g (first++args.map a.eval++cap)) w:=by unfold execOp;simp only[ho,resolve,he,Deferred.ofValue,ez,ey,ex,invoke,callFunc,run_program,mm,vd,nz,ab,if_false]
 unfold Oper.wp Oper.upon;rw[di];refine(hk.2 Φ w _ hi ou).mono ?_;rintro e w' ⟨v,mv,af,Φ',rfl,q1,q2,q3,q4⟩;exact hK v mv af Φ' w' q1 q2 q3 q4
end
section
variable {P:Program}
def E3{Φ:bd}{w w':World}{σ:St}(hi:Inv Φ w σ){l':Nat}(na:Φ.obj l'=none){el:TypeId}{e n C:Nat}{xs:List (List MV)}{c:Array Value}{fz:Nat×Nat}
 (hx:∀(i:Nat) (x:List MV),xs[i]?=some x→x.length=e)(hn:xs.length=n)(hC:n≤C)(zn:C≤maxLen)(hh:w'.heap=w.heap.push (.cells c el fz))(h1:w'.os=w.os)(h2:w'.tape=w.tape)(h3:w'.output=w.output)(h4:ki w≤ki w')
 (hf:Ay el c fz)(dq:C*e≤c.size)(hc:∀(i:Nat) m,xs.flatten[i]?=some m→m.aP=true∧∃v,c[i]?=some v∧Rel Φ v m) :
  Inv (Φ.put l' ⟨some w.heap.size,0,e,C⟩) w' (σ.set l' (.row el e xs))∧Step Φ σ w (Φ.put l' ⟨some w.heap.size,0,e,C⟩) (σ.set l' (.row el e xs)) w' ∧
  Rel (Φ.put l' ⟨some w.heap.size,0,e,C⟩) (.slice (some ⟨w.heap.size,0,none⟩) n C) (.vec e l' 0 n):=by
 have hle:=bd.uE (Φ:=Φ) ⟨some w.heap.size,0,e,C⟩ na;have gi:w'.heap[w.heap.size]?=some (.cells c el fz):=by rw[hh];simp
 obtain⟨i1,s1⟩:=hi.alloc (w':=w') l' na (.row el e xs) (.cells c el fz) ⟨some w.heap.size,0,e,C⟩ rfl hh h1 h2 h3 h4
  (MR (c:=c) (fz:=fz) (R:=w.heap.size) (bd.dC _ _ _) rfl rfl (by simp;omega) zn hx gi hf (by simpa using dq) (fun i m q=>by
   obtain⟨q1,v,q2,q3⟩:=hc i m q;exact⟨q1,v,by simpa using q2,q3.mono hle⟩))
 refine⟨i1,s1,?_⟩;have:=Rel.vec (Φ:=Φ.put l' ⟨some w.heap.size,0,e,C⟩) (l:=l') (lo:=0) (n:=n) (cap:=C) (R:=w.heap.size) (bd.dC _ _ _) rfl ax hC;simpa using this
def CV(l1 l2:List Value):∀(cs:Array Value) (off:Nat),cJ cs off (l1++l2)=cJ (cJ cs off l1) (off+l1.length) l2:=by
 induction l1 with
 |nil=>intro cs off;rfl
 |cons c r ih =>
  intro cs off;simp only[List.cons_append,cJ,ih,cb]
  congr 1
  omega
def GO{e:Nat}:∀(vs:List Value) (i0:Nat) (cs:Array Value),(∀v,v∈vs→v.cells.size=e)→i0*e+vs.length*e≤cs.size →
  a6 (fun i=>some (i*e,e)) cs ((vs.zipIdx i0).map fun p=>(p.2,p.1))=some (cJ cs (i0*e) (vs.flatMap fun v=>v.cells.toList)):=by
 intro vs
 induction vs with
 |nil=>intro i0 cs _ _;rfl
 |cons v vs ih =>
  intro i0 cs h hl;have hv:=h v ax;simp only[cb,dj,dn] at hl;simp only[List.zipIdx_cons,b8,a6];rw[if_neg (by simp only[hv,ne_eq,not_true_eq_false,decide_false,Bool.false_or,decide_eq_true_eq];omega)];rw[←f4,f0];have e1:=vJ v.cells.toList 0 cs (i0*e);simp only[d0] at e1;rw[e1,ih (i0+1) _ (fun x hx=>h x (by simp[hx])) (by rw[dA,dj,dn];omega)];rw[cS,CV]
  congr 2
  rw[dj,dn,fi,hv]
def BI{t el:TypeId}(ht:(td P t).k=.slice el)(hz:(td P el).jq=true)(vs:List Value)(hv:∀v,v∈vs→v.cells.size=(td P el).size)(ZL:vs.length*(td P el).size≤16777216)(w:World) :
  ∃c:Array Value,c.size=vs.length*(td P el).size∧(∀i:Nat,c[i]?=(vs.flatMap fun v=>v.cells.toList)[i]?) ∧
   (a4 t vs.length ((vs.zipIdx 0).map fun p=>(p.2,p.1)).toArray).run P w=.ok (.slice (some ⟨w.heap.size,0,none⟩) vs.length vs.length) (w.alloc (.cells c el)):=by
 obtain⟨z,wc,pd,qb,cm,xp,_⟩:=dZ hz w;have hlen:(vs.flatMap fun v=>v.cells.toList).length=vs.length*(td P el).size:=by
  clear ZL
  induction vs with
  |nil=>simp
  |cons v vs ih =>
   rw[cS,cd,ih (fun x hx=>hv x (by simp[hx])),fi,hv v ax,cb,dj,dn];omega
 have key:∀cs:Array Value,cs.size=vs.length*(td P el).size→(cJ cs 0 (vs.flatMap fun v=>v.cells.toList)).size=vs.length*(td P el).size∧∀i:Nat,(cJ cs 0 (vs.flatMap fun v=>v.cells.toList))[i]?=(vs.flatMap fun v=>v.cells.toList)[i]?:=fun cs It=>by
  refine⟨by rw[dA,It],fun i=>?_⟩;rw[jI _ _ _ _ oM];split
  ·simp
  ·rename_i hn;rw[fe oM,List.getElem?_eq_none oM]
 have Z9:¬(vs.length*(td P el).size > 2 ^ 24):=oM;by_cases h0:vs.length*(td P el).size=0
 ·let cs:Array Value:=(fu (vs.length*(td P el).size)).map fun x=>(#[]:Array Value)[x % (#[]:Array Value).size]!;have It:cs.size=vs.length*(td P el).size:=by simp[cs]
  obtain⟨k1,k2⟩:=key cs It;refine⟨_,k1,k2,?_⟩;have hf:=GO (e:=(td P el).size) vs 0 cs hv oM;simp only[du] at hf;simp only[a4,ez,aO (bB ht),ex,aS cm,if_neg Z9,ey,if_pos h0];simp only[cs] at hf;rw[hf];simp only[newRow,ez,run_newObj,ex,ey];rfl
 ·let cs:Array Value:=(fu (vs.length*(td P el).size)).map fun x=>z.cells[x % z.cells.size]!;have It:cs.size=vs.length*(td P el).size:=by simp[cs]
  obtain⟨k1,k2⟩:=key cs It;refine⟨_,k1,k2,?_⟩;have hf:=GO (e:=(td P el).size) vs 0 cs hv oM;simp only[du] at hf;simp only[a4,ez,aO (bB ht),ex,aS cm,if_neg Z9,ey,if_neg h0,wc];simp only[cs] at hf;rw[hf];simp only[newRow,ez,run_newObj,ex,ey];rfl
def BQ{o:Oper}{f:FR}{σ:St}{k:MV→St→Prop}{t el:TypeId}{len:Nat}{parts:Array (Nat×Operand)}(ho:o.op=.buildSlice t len parts)(ht:(td P t).k=.slice el)(hz:(td P el).jq=true)
 (hidx:parts.toList.map (·.1)=da len)(hc:∀p,p∈parts.toList→(∀c,c∈(aH f p.2).cells→c.aP=true)∧(aH f p.2).cells.length=(td P el).size)(ZL:len*(td P el).size≤16777216)(zn:len≤maxLen)
 (hk:∀l,σ l=none→k (.vec (td P el).size l 0 len) (σ.set l (.row el (td P el).size (parts.toList.map fun p=>(aH f p.2).cells)))):kq P o f σ k:=by
 intro Φ w a K Q' hi hr hK;obtain⟨l',na,iq⟩:=inv_eq hi;have hlen:parts.toList.length=len:=by have:=congrArg List.length hidx;simpa using this
 have dc:∀p,p∈parts.toList→k0 Φ (a.eval p.2).cells (aH f p.2).cells:=fun p hp=>sO (aL hr p.2) (hc p hp).1;let vs:=parts.toList.map fun p=>a.eval p.2;have hvl:vs.length=len:=by simp[vs];simpa using hlen
 have hvs:∀v,v∈vs→v.cells.size=(td P el).size:=fun v hv=>by simp only[vs,List.mem_map] at hv;obtain⟨p,hp,rfl⟩:=hv;exact(dc p hp).1.trans (hc p hp).2
 obtain⟨c,hc1,hc2,di⟩:=BI ht hz vs hvs (by rw[hvl];exact ZL) w;have lq:(parts.map fun p=>(p.1,a.eval p.2))=((vs.zipIdx 0).map fun p=>(p.2,p.1)).toArray:=by
  apply Array.ext';simp only[fq];apply List.ext_getElem?;intro i;simp only[bx,List.getElem?_zipIdx,vs,Option.map_map];have h1:(parts.toList.map (·.1))[i]?=(da len)[i]?:=by rw[hidx]
  rw[bx] at h1;cases hp:parts.toList[i]? with
  |none=>simp
  |some p =>
   rw[hp] at h1;have qu:i<len:=by have:=(bv.1 hp).1;omega
   rw[List.getElem?_range qu] at h1;simp at h1 ⊢;exact h1
 have hxs:(parts.toList.map fun p=>(aH f p.2).cells).length=len:=by rw[b6,hlen]
 have hflat:∀(l:List (Nat×Operand)),(∀p,p∈l→k0 Φ (a.eval p.2).cells (aH f p.2).cells)→∀(i:Nat) m,(l.map fun p=>(aH f p.2).cells).flatten[i]?=some m→m.aP=true∧∃v,((l.map fun p=>a.eval p.2).flatMap fun v=>v.cells.toList)[i]?=some v∧Rel Φ v m:=by
  intro l
  induction l with
  |nil=>intro _ i m h;simp at h
  |cons p l ih =>
   intro h i m hm;have rc:=h p ax;have rl:(a.eval p.2).cells.toList.length=(aH f p.2).cells.length:=by simpa using rc.1
   simp only[b8,b7,cS] at hm ⊢;by_cases hi:i<(aH f p.2).cells.length
   ·rw[bp hi] at hm;refine⟨rc.2.1 i m hm,(a.eval p.2).cells.getD i undef,?_,rc.2.2 i m hm⟩;rw[bp oM,e9];have:i<(a.eval p.2).cells.size:=by have:=rc.1;omega
    simp[e6,e7 this]
   ·rw[bs oM] at hm;rw[bs oM,rl];exact ih (fun q hq=>h q (by simp[hq])) _ m hm
 obtain⟨i1,s1,r1⟩:=E3 (w':=w.alloc (.cells c el)) (el:=el) (e:=(td P el).size) (n:=len) (C:=len) (xs:=parts.toList.map fun p=>(aH f p.2).cells) (c:=c) (fz:=(0,0)) hi na
  (fun i x hx=>by
   rw[bx,eg] at hx;obtain⟨p,hp,rfl⟩:=hx;exact(hc p (cr hp)).2) hxs (dk _) zn rfl rfl rfl rfl (by first|exact dk _|exact lO (d2 _)) (.inl (dk _)) (by rw[hc1,hvl];exact dk _) (fun i m q=>by
   obtain⟨q1,v,q2,q3⟩:=hflat parts.toList dc i m q;exact⟨q1,v,by rw[hc2];exact q2,q3⟩)
 refine bQ (v:=_) (w':=_) ?_ (hK _ _ _ _ _ r1 i1 s1 (hk l' iq));unfold execOp;rw[hvl] at di;simp only[ho,lq,ez,di,ex,ey]
def pZ(k:IntKind)(n:Int)(w:World):(asInt (.int k n)).run P w=.ok n w:=rfl
def CW{o:Oper}{f:FR}{σ:St}{k:MV→St→Prop}{t el:TypeId}{x y:Operand}(ho:o.op=.makeSlice t x y)(ht:(td P t).k=.slice el)(hz:(td P el).jq=true){n c:Int}(hx:aH f x=.int .i64 n)(hy:aH f y=.int .i64 c)
 (h0:0≤n)(h1:n≤c)(h2:c≤140737488355328)(h3:(td P el).bytes*c≤140737488355328)
 (hk:∀l,σ l=none→k (.vec (td P el).size l 0 n.toNat) (σ.set l (.row el (td P el).size (b4 n.toNat (td P el).zero)))):kq P o f σ k:=by
 intro Φ w a K Q' hi hr hK;obtain⟨l',na,iq⟩:=inv_eq hi;obtain⟨z,wc,pd,qb,cm,xp,_⟩:=dZ hz w;have ph:(td P el).zero.length=(td P el).size:=by rw[←pd,←qb];simp
 obtain⟨inf,d,zh,hd,dq,hby,_⟩:=dM cm;have e1:a.eval x=.int .i64 n:=by have:=aL hr x;rw[hx] at this;exact this.aZ
 have e2:a.eval y=.int .i64 c:=by have:=aL hr y;rw[hy] at this;exact this.aZ
 have w1:be.wrap n=n:=IntWalk.i64_in n oM;have w2:be.wrap c=c:=IntWalk.i64_in c oM;have rz:=kP (P:=P) (Φ:=Φ) pd xp;obtain⟨cells,It,oe,di⟩:∃cells:Array Value,cells.size=c.toNat*(td P el).size∧(∀i:Nat,i<c.toNat*(td P el).size→cells[i]?=some (z.cells.getD (i % (td P el).size) undef)) ∧
   (a5 t (a.eval x) (a.eval y)).run P w=.ok (.slice (some ⟨w.heap.size,0,none⟩) n.toNat c.toNat) (w.alloc (.cells cells el)):=by
  have hneg:¬(inf.bytes*c > 2 ^ 48):=by rw[←hby];omega
  have hc0:¬(c<0):=oM;have Zh:¬(n<0):=oM;have Zi:¬(n > c):=oM;by_cases hz':c.toNat*(td P el).size=0
  ·refine⟨(fu (c.toNat*(td P el).size)).map fun x=>(#[]:Array Value)[x % (#[]:Array Value).size]!,ax,fun i hi=>oM,?_⟩;simp only[a5,e1,e2,pZ,ez,aO (bB ht),ex,ey,typeInfo,run_program,zh,w1,w2,hneg,hc0,Zh,Zi,decide_false,Bool.or_false,ab,if_false,or_self,run_askRoom,aS cm,if_pos hz',newRow,run_newObj];rfl
  ·refine⟨(fu (c.toNat*(td P el).size)).map fun x=>z.cells[x % z.cells.size]!,ax,fun i hi=>?_,?_⟩
   ·have:i % (td P el).size<z.cells.size:=by rw[qb];exact Nat.mod_lt _ (Nat.pos_of_ne_zero (fun h=>by rw[h] at hi;omega))
    simp[hi,qb,e6,getElem!_def];rw[e7 this];simp
   ·simp only[a5,e1,e2,pZ,ez,aO (bB ht),ex,ey,typeInfo,run_program,zh,w1,w2,hneg,hc0,Zh,Zi,decide_false,Bool.or_false,ab,if_false,or_self,run_askRoom,aS cm,if_neg hz',wc,newRow,run_newObj];rfl
 have iw:∀(m i:Nat) (q:MV),(b4 m (td P el).zero).flatten[i]?=some q→i<m*(td P el).size∧(td P el).zero[i % (td P el).size]?=some q:=by
  intro m
  induction m with
  |zero=>intro i q h;simp at h
  |succ m ih =>
   intro i q h;rw[df,b7] at h;by_cases hi:i<(td P el).zero.length
   ·rw[bp hi] at h;rw[Nat.mod_eq_of_lt oM,dj,dn];exact⟨oM,h⟩
   ·rw[bs oM] at h;obtain⟨q1,q2⟩:=ih _ q h;rw[ph] at q1 q2;rw[dj,dn];refine⟨oM,?_⟩;rw[←q2]
    congr 1
    rw[Nat.mod_eq_sub_mod oM]
 obtain⟨i1,s1,r1⟩:=E3 (w':=w.alloc (.cells cells el)) (el:=el) (e:=(td P el).size) (n:=n.toNat) (C:=c.toNat) (xs:=b4 n.toNat (td P el).zero) (c:=cells) (fz:=(0,0)) hi na
  (fun i x hx=>by rw[cp] at hx;split at hx<;>simp at hx;rw[←hx,ph]) ax oM (by simp only[maxLen];omega) rfl rfl rfl rfl (by first|exact dk _|exact lO (d2 _)) (.inl (dk _)) (by rw[It];exact dk _) (fun i m q=>by
   obtain⟨q1,q2⟩:=iw _ i m q;refine⟨rz.2.1 _ m q2,_,oe i (Nat.lt_of_lt_of_le q1 (dl _ oM)),rz.2.2 _ m q2⟩)
 refine bQ (v:=_) (w':=_) ?_ (hK _ _ _ _ _ r1 i1 s1 (hk l' iq));unfold execOp;simp only[ho,ez,di,ex,ey]
def bytesOf(ys:List (List MV)):ByteArray:=⟨(ys.map fun y=>match y with|[.int .u8 n]=>UInt8.ofNat n.toNat|_=>0).toArray⟩
def isByte:List MV→Bool
 |[.int .u8 _]=>true
 |_=>false
def P4{o:Oper}{f:FR}{σ:St}{k:MV→St→Prop}{s d el:TypeId}{x:Operand}(ho:o.op=.convert s d x)(hs:(td P s).k=.slice el)(he:(td P el).k=.int .u8)(hd:(td P d).k=.str){ys:List (List MV)}
 (hx:fX σ 1 (aH f x)=some ys)(iq:∀b,aH f x≠.str b)(hb:ys.all isByte=true)(hk:k (.str (bytesOf ys)) σ):kq P o f σ k:=by
 intro Φ w a K Q' hi hr hK;obtain⟨arr,ek,bf,vp⟩:=i7 (P:=P) hx hi (aL hr x);obtain⟨ns,Z9⟩:∃ns:List Int,ys=ns.map fun n=>[.int .u8 n]:=by
  clear hx ek bf vp hk
  induction ys with
  |nil=>exact⟨[],rfl⟩
  |cons y ys ih =>
   simp only[List.all_cons,ag] at hb;obtain⟨ns,h⟩:=ih hb.2
   match y,hb.1 with
   |[.int .u8 n],_=>exact⟨n::ns,by rw[h];rfl⟩
 subst Z9;rw[jR] at bf;have harr2:arr=(ns.map (Value.int .u8)).toArray:=by
  apply fm;intro i;by_cases hi':i<ns.length
  ·have h1:=bf.2.2 i (.int .u8 ns[i]) (by simp[hi']);have h2:i<arr.size:=by have:=bf.1;rw[b6] at this;omega
   have h3:=h1.aZ;rw[e6,e7 h2] at h3;rw[e7 h2];simp at h3 ⊢;simp[hi',h3]
  ·have h2:arr.size≤i:=by have:=bf.1;rw[b6] at this;omega
   rw[fe h2,fe (by rw[List.size_toArray,b6];omega)]
 have hbytes:bytesOf (ns.map fun n=>[.int .u8 n])=ns.foldl (fun r n=>r.push (UInt8.ofNat n.toNat)) ByteArray.empty:=by rw[foldl_push_bytes];simp[bytesOf,ByteArray.empty,ByteArray.emptyWithCapacity,List.map_map];rfl
 obtain⟨ad,len,cap,hv⟩:∃ad len cap,a.eval x=.slice ad len cap:=by
  have rx:=aL hr x;cases hm:aH f x<;>rw[hm] at rx hx<;>simp[fX] at hx
  ·exact absurd hm (iq _)
  ·exact⟨_,_,_,rx.gF⟩
  ·obtain⟨ad,cap,h,_⟩:=rx.l7;exact⟨_,_,_,h⟩
  ·obtain⟨ad,cap,p,h,_⟩:=rx.eQ;exact⟨_,_,_,h⟩
 have hw:=ek w rfl;rw[hv] at hw;have hlen:len=ns.length:=by have:=hw.1;simp[ap] at this;exact this
 have di:(execOp a.eval o).run P w=.ok (.value (.string (bytesOf (ns.map fun n=>[.int .u8 n])))) w:=by
  unfold execOp;simp only[ho,hv,ez];rw[run_convert_bytes_string w s d el ad len cap (bB hs) (kY he) (iW hd)];cases ad with
  |none =>
   have hz:arr=#[]:=by simpa[al,eq_comm] using hw.2
   rw[hz] at harr2;have hns0:ns=[]:=by have:=congrArg Array.size harr2;simp at this;exact b3 this.symm
   subst hns0;rfl
  |some ad =>
   have hld:=hw.2;simp only[al,b6,Nat.mul_one] at hld;rw[run_bytesToString w ad len cap ns (by rw[hlen,hld,harr2]),hbytes];rfl
 exact bQ di (hK _ _ _ _ _ (.str _) hi (.refl _ _ _) hk)
def P1{o:Oper}{f:FR}{σ:St}{k:MV→St→Prop}{s d el:TypeId}{x:Operand}(ho:o.op=.convert s d x)(hs:(td P s).k=.str)(hd:(td P d).k=.slice el)(he:(td P el).k=.int .u8)(hZ:FZ el=true){b:ByteArray}
 (hx:aH f x=.str b)(zn:b.size≤maxLen)(hk:∀l,σ l=none→k (.vec 1 l 0 b.size) (σ.set l (.row el 1 (b.toList.map fun c=>[.int .u8 (c.toNat:Int)])))):kq P o f σ k:=by
 intro Φ w a K Q' hi hr hK;obtain⟨l',na,iq⟩:=inv_eq hi;have e1:a.eval x=.string b:=by have:=aL hr x;rw[hx] at this;exact this.gS
 have sc:b.toList.length=b.size:=by rw[aI,fi];rfl
 have di:=run_bytes_of_string (P:=P) w s d el b (iW hs) (bB hd) (kY he);have dv:=grownCap_ge w b.size 0 el;have hcm:=grownCap_le_maxLen w b.size 0 el zn;obtain⟨i1,s1,r1⟩:=E3 (w':=w.drew.alloc (.cells (bytesRow b (grownCap w b.size 0 el)) el ((bytesRow b (grownCap w b.size 0 el)).size,(bytesRow b (grownCap w b.size 0 el)).size+1))) (el:=el) (e:=1) (n:=b.size) (C:=grownCap w b.size 0 el)
  (xs:=b.toList.map fun c=>[.int .u8 (c.toNat:Int)]) hi na (fun i x hx=>by rw[bx,eg] at hx;obtain⟨c,_,rfl⟩:=hx;rfl) (by rw[b6,sc]) dv hcm rfl rfl rfl rfl (by first|exact dk _|exact lO (d2 _)) (.inr ⟨hZ,dk _⟩)
  (by
   simp only[bytesRow,f6,Array.size_map,Array.size_replicate];have:b.data.size=b.size:=rfl;omega)
  (fun i m q=>by
   rw[jR,bx,eg] at q;obtain⟨c,hc,rfl⟩:=q;refine⟨rfl,.int .u8 c.toNat,?_,.int _ _⟩;rw[aI,e9] at hc;have bh:=(e8.1 hc).1;simp only[bytesRow];rw[ff (by simpa using bh),f3,hc];rfl)
 refine bQ (v:=_) (w':=_) ?_ (hK _ _ _ _ _ r1 i1 s1 (hk l' iq));unfold execOp;simp only[ho,e1,ez,di,ex,ey]
def LI{o:Oper}{f:FR}{σ:St}{k:MV→St→Prop}{t el:TypeId}{x y z:Operand}(ho:o.op=.slice t x (some y) (some z) none)(ht:(td P t).k=.slice el)(cm:(td P el).ok=true){l l0 n:Nat}{tt:TypeId}{xs:List (List MV)}
 (hx:aH f x=.vec (td P el).size l l0 n)(iq:σ l=some (.row tt (td P el).size xs)){k1 k2:IntKind}{a h:Int}(hy:aH f y=.int k1 a)(hz:aH f z=.int k2 h)(h0:0≤a)(h1:a≤h)(h2:l0+h.toNat≤xs.length)
 (hk:k (.vec (td P el).size l (l0+a.toNat) (h.toNat-a.toNat)) σ):kq P o f σ k:=by intro Φ w ac K Q' hi hr hK;have rx:=aL hr x;have ry:=aL hr y;have rz:=aL hr z;rw[hx] at rx;rw[hy] at ry;rw[hz] at rz;obtain⟨p0,hp0,hpe0,q1,q2,q3,q4⟩:=hi.own l _ iq;have rx':=rx;generalize hv:ac.eval x=vx at rx rx';obtain⟨ad,cap,p,rfl,hp,iz,dv,tg,hR⟩:=rx'.eQ;rw[hp0] at hp;cases hp;have e1:=ry.aZ;have e2:=rz.aZ;refine bQ (v:=_) (w':=w) ?_ (hK _ _ _ Φ w (nH rx a.toNat h.toNat oM oM) hi (.refl _ _ _) hk);unfold execOp;simp only[ho,hv,Option.map_some,Option.map_none,e1,e2,ez,a1,aO (bB ht),ex,a2,aN,ey];rw[run_sliceBound ⟨oM,oM⟩];simp only[ex,em,ab,if_false];rw[run_sliceBound ⟨oM,oM⟩];simp only[ex,aS cm,ey]
def bK(xs:List (List MV))(i0:Nat)(ys:List (List MV)):List (List MV):=(xs.take i0++ys)++xs.drop (i0+ys.length)
def zR{xs ys:List (List MV)}{i0:Nat}(h:i0+ys.length≤xs.length)(i:Nat):(bK xs i0 ys)[i]?=if i0≤i∧i<i0+ys.length then ys[i-i0]? else xs[i]?:=by
 unfold bK;have hl1:(xs.take i0).length=i0:=by simp;omega
 have uf:(xs.take i0++ys).length=i0+ys.length:=by rw[cd,hl1]
 by_cases h1:i<i0
 ·rw[bp oM,bp oM,bz,if_pos h1,if_neg oM]
 ·by_cases h2:i<i0+ys.length
  ·rw[bp oM,bs oM,hl1,if_pos ⟨oM,h2⟩]
  ·rw[bs oM,uf,b0,show i0+ys.length+(i-(i0+ys.length))=i from by omega,if_neg oM]
def nE{xs ys:List (List MV)}{i0:Nat}(h:i0+ys.length≤xs.length):(bK xs i0 ys).length=xs.length:=by simp[bK];omega
def Tq{Φ:bd}{w:World}{σ:St}(hi:Inv Φ w σ){l:Nat}{t:TypeId}{e:Nat}{xs ys:List (List MV)}(iq:σ l=some (.row t e xs)){i0:Nat}(gk:i0+ys.length≤xs.length)
 (vp:∀(i:Nat) (y:List MV),ys[i]?=some y→y.length=e){arr:Array Value}(bf:k0 Φ arr ys.flatten){p:Place}(hp:Φ.obj l=some p){R:Nat}(hR:p.jh=some R){c:Array Value}{fz:Nat×Nat}(hc:w.heap[R]?=some (.cells c t fz)) :
  Ay t c fz∧p.bo+i0*e+arr.toList.length≤c.size∧Inv Φ (gK w R (.cells (cJ c (p.bo+i0*e) arr.toList) t fz)) (σ.set l (.row t e (bK xs i0 ys))) ∧
   Step Φ σ w Φ (σ.set l (.row t e (bK xs i0 ys))) (gK w R (.cells (cJ c (p.bo+i0*e) arr.toList) t fz)):=by
 obtain⟨p',dw,iz,q1,q2,q3,q4⟩:=hi.own l _ iq;rw[hp] at dw;cases dw;rw[hR] at q4;obtain⟨c',fz',k1,k2,k3,k4⟩:=q4;rw[hc] at k1;cases k1;have bh:R<w.heap.size:=(e8.1 hc).1;have qv:arr.toList.length=ys.length*e:=by have:=bf.1;rw[eN ys vp] at this;simpa using this
 have zg:p.bo+i0*e+arr.toList.length≤c.size:=by rw[qv];have:(i0+ys.length)*e≤p.C*e:=dl _ oM;rw[dj] at this;omega
 refine⟨k2,zg,hi.F6 (w':=gK w R (.cells (cJ c (p.bo+i0*e) arr.toList) t fz)) l iq _ hp hR jJ (fun k hk=>fL hk) rfl rfl rfl (dk _) ?_⟩;refine⟨p,hp,iz,by rw[nE gk];exact q1,q2,fun i y q=>?_,?_⟩
 ·rw[zR gk] at q;split at q
  ·exact vp _ y q
  ·exact q3 i y q
 ·rw[hR];refine⟨_,fz,iR bh,by simpa[Ay,dA] using k2,by rw[dA];exact k3,fun i y j m q hm=>?_⟩;rw[jI _ _ _ _ zg,qv];rw[zR gk] at q;split at q
  ·rename_i ku;have xk:j<e:=by have:=(bv.1 hm).1;have:=vp _ y q;omega
   have qu:=(bv.1 q).1;have iw:=nR ys (i-i0) j y m vp q hm;have ZF:=(bv.1 iw).1;have harr1:=bf.1;have e3:(i-i0)*e+j+i0*e=i*e+j:=by
    have:i*e=(i-i0+i0)*e:=by congr 1;omega
    rw[this,dj];omega
   have e4:(i-i0)*e+j<ys.length*e:=by have:(i-i0+1)*e≤ys.length*e:=dl _ oM;rw[dj,dn] at this;omega
   rw[if_pos oM,show p.bo+(i*e+j)-(p.bo+i0*e)=(i-i0)*e+j from by omega,e9];refine⟨bf.2.1 _ m iw,arr.getD ((i-i0)*e+j) undef,?_,bf.2.2 _ m iw⟩;simp[e6,e7 (show(i-i0)*e+j<arr.size by omega)]
  ·rename_i lh;have xk:j<e:=by have:=(bv.1 hm).1;have:=q3 i y q;omega
   rw[if_neg (by
    intro hcon;rcases Nat.lt_or_ge i i0 with h|h
    ·have:(i+1)*e≤i0*e:=dl _ h;rw[dj,dn] at this;omega
    ·have:(i0+ys.length)*e≤i*e:=dl _ oM;rw[dj] at this;omega)]
   exact k4 i y j m q hm
def uU{Φ:bd}{el:TypeId}{z:Value}(pd:z.cells.toList.map vq=(td P el).zero)(qb:z.cells.size=(td P el).size)(xp:∀v,v∈z.cells.toList→(vq v).aP=true)(h0:0<(td P el).size):∀n,k0 Φ (am z.cells n) (b4 n (td P el).zero).flatten:=by
 have rz:=kP (P:=P) (Φ:=Φ) pd xp;have ph:(td P el).zero.length=(td P el).size:=by rw[←pd,←qb];simp
 intro n;have jo:∀i:Nat,i<n*(td P el).size→(am z.cells n)[i]?=some (z.cells.getD (i % (td P el).size) undef):=by
  intro i hi;have:i % (td P el).size<z.cells.size:=by rw[qb];exact Nat.mod_lt _ h0
  simp only[am];simp[hi,qb,e6,getElem!_def];rw[e7 this];simp
 have iw:∀(m i:Nat) (q:MV),(b4 m (td P el).zero).flatten[i]?=some q→i<m*(td P el).size∧(td P el).zero[i % (td P el).size]?=some q:=by
  intro m
  induction m with
  |zero=>intro i q h;simp at h
  |succ m ih =>
   intro i q h;rw[df,b7] at h;by_cases hi:i<(td P el).zero.length
   ·rw[bp hi] at h;rw[Nat.mod_eq_of_lt oM,dj,dn];exact⟨oM,h⟩
   ·rw[bs oM] at h;obtain⟨q1,q2⟩:=ih _ q h;rw[ph] at q1 q2;rw[dj,dn];refine⟨oM,?_⟩;rw[←q2]
    congr 1
    rw[Nat.mod_eq_sub_mod oM]
 refine⟨?_,fun i m h=>?_,fun i m h=>?_⟩
 ·simp[am,qb,ph,List.length_flatten]
 ·exact rz.2.1 _ m (iw n i m h).2
 ·obtain⟨q1,q2⟩:=iw n i m h;have:=jo i q1;rw[e6,this];exact rz.2.2 _ m q2
def TK.isInt:TK→Bool
 |.int _=>true
 |_=>false
def D4{t:TypeId}(h:(td P t).k.isInt=true):∃k,P.underlying t=some (.int k):=by cases hk:(td P t).k<;>rw[hk] at h<;>simp[TK.isInt] at h;exact⟨_,kY hk⟩
def yS{o:Oper}{f:FR}{σ:St}{k:MV→St→Prop}{s x:Operand}{t xt el:TypeId}(ho:o.op=.call { callee:=.builtin .append,args:=#[s,x],argTypes:=#[t,xt] })
 (ht:(td P t).k=.slice el)(Zk:(td P xt).k.isInt=true)(hz:(td P el).jq=true)(h0:0<(td P el).size){n:Int}(hs:aH f s=.aK)(hx:aH f x=.int .i64 n)(hn:0<n)
 (hm:n.toNat≤140737488355328)(hb:n.toNat*(td P el).bytes≤140737488355328)
 (hk:∀l,σ l=none→k (.vec (td P el).size l 0 n.toNat) (σ.set l (.row el (td P el).size (b4 n.toNat (td P el).zero)))):kq P o f σ k:=by
 intro Φ w a K Q' hi hr hK;obtain⟨l',na,iq⟩:=inv_eq hi;have e1:a.eval s=.slice none 0 0:=by have:=aL hr s;rw[hs] at this;exact this.gF
 have e2:a.eval x=.int .i64 n:=by have:=aL hr x;rw[hx] at this;exact this.aZ
 obtain⟨z,wc,pd,qb,cm,xp,_⟩:=dZ hz w.drew;have ph:(td P el).zero.length=(td P el).size:=by rw[←pd,←qb];simp
 obtain⟨i,d,zh,hd,dq,hby,_⟩:=dM cm;obtain⟨ik,hxu⟩:=D4 Zk;have w1:be.wrap n=n:=IntWalk.i64_in n oM;have di:(ao #[t,xt] o.type #[.slice none 0 0,.int .i64 n]).run P w=.ok (.slice (some ⟨w.heap.size,0,none⟩) (0+n.toNat) (grownCap w (0+n.toNat) 0 el)) (w.drew.alloc (.cells (#[]++am z.cells n.toNat++am z.cells (grownCap w (0+n.toNat) 0 el-(0+n.toNat))) el)):=by
  have gu:¬(0+n.toNat≤0):=oM;have h48':¬(az (0+n.toNat) 0*i.bytes > 2 ^ 48):=by rw[←hby];have:=growslice_fits (show 0<0+n.toNat by omega) (show(0+n.toNat)*(td P el).bytes≤140737488355328 by rw[d3];exact hb);omega
  have h63:¬(((0+n.toNat:Nat):Int) > be.max):=by simp only[bj,bg,bi];simp;omega
  have hneg:¬(n<0):=oM;have hbig:¬(n*i.bytes > 2 ^ 48):=by
   rw[←hby];have:n*((td P el).bytes:Int)=((n.toNat*(td P el).bytes:Nat):Int):=by rw[Int.natCast_mul,Int.toNat_of_nonneg oM]
   omega
  have Z9:¬(n.toNat*(td P el).size=0):=by have:0<n.toNat*(td P el).size:=Nat.mul_pos oM h0;omega
  unfold ao;simp only[World.drew] at wc;simp only[cf,b5,ce,ez,aO (bB ht),ex,aS cm,aO hxu,ey,if_true,pZ,w1,if_neg hneg,typeInfo,run_program,zh,if_neg hbig,
   if_neg gu,ak,ab,if_false,h63,false_and,if_neg h48',run_choose,Question.forced,run_askRoom,if_neg Z9]
  simp only[wc,al,ex,newRow,ez,run_newObj,ey];rfl
 obtain⟨i1,s1,r1⟩:=sF (σ1:=σ) (el:=el) (n:=0) (m:=n.toNat) (cap':=grownCap w (0+n.toNat) 0 el) (xs:=[]) (ys:=b4 n.toNat (td P el).zero) (old:=#[]) (arr:=am z.cells n.toNat)
  (rest:=am z.cells (grownCap w (0+n.toNat) 0 el-(0+n.toNat))) hi (fun _ _ q=>q) na (fun i x hx=>by simp at hx) (fun i x hx=>by rw[cp] at hx;split at hx<;>simp at hx;rw[←hx,ph]) rfl ax
  ⟨rfl,fun i m h=>by simp at h,fun i m h=>by simp at h⟩ (uU (P:=P) (Φ:=Φ) pd qb xp h0 n.toNat) (by rw[size_zeroCells,qb]) (grownCap_ge w _ _ el) (grownCap_le_maxLen w _ _ el (by simp only[maxLen];omega))
 simp only[d3,List.nil_append] at i1 s1 r1 di;refine bQ (v:=_) (w':=_) ?_ (hK _ _ _ _ _ r1 i1 s1 (hk l' iq));rw[fI ho,e1,e2,di];rfl
def PY{o:Oper}{f:FR}{σ:St}{k:MV→St→Prop}{t el:TypeId}{x:Operand}(ho:o.op=.call { callee:=.builtin .clear,args:=#[x],argTypes:=#[t] })(ht:(td P t).k=.slice el)(hz:(td P el).jq=true)(h0:0<(td P el).size)
 {l l0 n:Nat}{tt:TypeId}{xs:List (List MV)}(hx:aH f x=.vec (td P el).size l l0 n)(iq:σ l=some (.row tt (td P el).size xs))(gk:l0+n≤xs.length)
 (hk:k .bw (σ.set l (.row tt (td P el).size (bK xs l0 (b4 n (td P el).zero))))):kq P o f σ k:=by
 intro Φ w ac K Q' hi hr hK;obtain⟨z,wc,pd,qb,cm,xp,_⟩:=dZ hz w;have ph:(td P el).zero.length=(td P el).size:=by rw[←pd,←qb];simp
 have rx:=aL hr x;rw[hx] at rx;generalize hv:ac.eval x=vx at rx;obtain⟨ad,cap,p,rfl,hp,iz,dv,tg,hR⟩:=rx.eQ;have sj:∀r w',(av #[t] o.type #[.slice ad n cap]).run P w=.ok r w'→(execOp ac.eval o).run P w=.ok (.value r) w':=fun r w' h=>by unfold execOp;simp only[ho,resolve,List.map_toArray,b8,List.map_nil,hv,ez,ey,ex,invoke];show Sem.run P (do pure (Next.value (←av #[t] o.type #[.slice ad n cap]))) w=_;simp only[ez,h,ex,ey]
 by_cases hn:n=0
 ·subst hn;have zp:bK xs l0 (b4 0 (td P el).zero)=xs:=by simp[bK]
  have dg:σ.set l (.row tt (td P el).size xs)=σ:=by
   funext j;simp only[St.set];split
   ·rename_i e;rw[e,iq]
   ·rfl
  rw[zp,dg] at hk;refine bQ (sj (.tuple #[]) w ?_) (hK _ _ _ Φ w (.bw _) hi (.refl _ _ _) hk);unfold av;cases ad<;>simp[aO (bB ht)]
 ·rcases hR with⟨R,hb,rfl⟩|ze
  ·obtain⟨p',dw,hpe',q1,q2,q3,q4⟩:=hi.own l _ iq;rw[hp] at dw;cases dw;rw[hb] at q4;obtain⟨c,fz,k1,-⟩:=q4;have hzc:=uU (P:=P) (Φ:=Φ) pd qb xp h0 n;obtain⟨r1,r2,i1,s1⟩:=Tq hi iq (i0:=l0) (ys:=b4 n (td P el).zero) (by simpa using gk) (fun i y h=>by
    rw[cp] at h;split at h<;>simp at h;rw[←h,ph]) hzc hp hb k1
   refine bQ (sj (.tuple #[]) _ ?_) (hK _ _ _ Φ _ (.bw _) i1 s1 hk);unfold av;have ZH:¬n=0:=hn;simp only[cf,b5,ez,aO (bB ht),ex];cases n with
   |zero=>exact absurd rfl hn
   |succ n =>
    simp only[ez,wc,ex];rw[iz];rw[iV (P:=P) _ 0 c w k1 r1 (by simpa using r2) (k0.vX hzc)];rfl
  ·omega
end
