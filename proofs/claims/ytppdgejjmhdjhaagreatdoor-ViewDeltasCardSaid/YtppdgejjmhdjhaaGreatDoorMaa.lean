/- Parts of the proof; conditions: as its theorems name them. -/
import Derived.WalkKit
import Derived.Orders
import Derived.OrdersIn
import Derived.TacticsIn
import Derived.RangeFuncCalls
import Derived.Deep.Quiet
import Derived.ChangeKeysEq
import Derived.MapKept
import Derived.Laws.BytesArg
set_option linter.unusedVariables false
set_option linter.unusedSimpArgs false
set_option maxHeartbeats 8000000
set_option maxRecDepth 100000
namespace Go.Proofs.YtppdgejjmhdjhaaGreatDoor
section
theorem oM{p:Prop}(h:p:=by omega):p:=h
inductive MV where
 | junk
 | bool (b:Bool)
 | int (k:IntKind) (n:Int)
 | str (s:ByteArray)
 | nilp
 | ptr (l i o:Nat)
 | cptr (cs:List MV)
 | aM
 | lst (e:Nat) (xs:List (List MV)) (t:Bool)
 | vec (e l lo n:Nat)
 | nilm
 | mapv (l:Nat)
 | nilfn
 | fn (f:Fn) (first cap:List MV)
 | nili
 | iface (t:TypeId) (v:MV)
 | agg (cs:List MV)
 | tup (vs:List MV)
 deriving Inhabited
def MV.aL:MV→Bool
 | .junk|.agg _|.tup _=>false
 | _=>true
def MV.cells:MV→List MV
 | .agg cs=>cs
 | v=>[v]
inductive aT where
 | row (t:TypeId) (e:Nat) (xs:List (List MV))
 | mp (es:List (MV × MV))
 | mk (es:List (MV × MV)) (st:List Nat) (ck:Nat)
 | it (m:Nat) (ck:Nat) (seen:List Nat)
structure Place where
 blk:Option Nat
 bo:Nat
 e:Nat
 C:Nat
structure Phi where
 snap:Addr→Option Value
 obj:Nat→Option Place
 base:Nat
structure Phi.le (Φ Φ':Phi):Prop where
 snap:∀a v,Φ.snap a=some v→Φ'.snap a=some v
 obj:∀l p,Φ.obj l=some p→Φ'.obj l=some p
 base:Φ'.base=Φ.base
theorem Phi.le.refl(Φ:Phi):Φ.le Φ:=⟨fun _ _ h=>h,fun _ _ h=>h,rfl⟩
theorem Phi.le.trans{a b c:Phi}(h:a.le b)(k:b.le c):a.le c:=⟨fun x v q=>k.snap x v (h.snap x v q),fun x v q=>k.obj x v (h.obj x v q),k.base.trans h.base⟩
inductive Rel (Φ:Phi):Value→MV→Prop where
 | junk (v:Value):Rel Φ v .junk
 | bool (b:Bool):Rel Φ (.bool b) (.bool b)
 | int (k:IntKind) (n:Int):Rel Φ (.int k n) (.int k n)
 | str (s:ByteArray):Rel Φ (.string s) (.str s)
 | nilp:Rel Φ (.pointer none) .nilp
 | ptr {l i o R:Nat} {p:Place} (ho:Φ.obj l=some p) (hb:p.blk=some R):Rel Φ (.pointer (some ⟨R,p.bo+i * p.e+o,none⟩)) (.ptr l i o)
 | cptr {b off:Nat} {cs:List MV} (vs:Nat→Value) (hc:∀(j:Nat) (m:MV),cs[j]?=some m→m.aL=true∧Φ.snap ⟨b,off+j,none⟩=some (vs j))
   (hr:∀(j:Nat) (m:MV),cs[j]?=some m→Rel Φ (vs j) m):Rel Φ (.pointer (some ⟨b,off,none⟩)) (.cptr cs)
 | aM:Rel Φ (.slice none 0 0) .aM
 | lstn (e:Nat) (t:Bool):Rel Φ (.slice none 0 0) (.lst e [] t)
 | lst0 (a:Addr) (e cap:Nat) (t:Bool) (ht:t=true→cap=0) (hm:cap≤maxLen):Rel Φ (.slice (some a) 0 cap) (.lst e [] t)
 | lst {b off e len cap:Nat} {xs:List (List MV)} {t:Bool} (hl:xs.length=len) (h0:0<len) (hcap:len≤cap) (hm:cap≤maxLen) (ht:t=true→cap=len)
   (hx:∀(i:Nat) (x:List MV),xs[i]?=some x→x.length=e) (vs:Nat→Nat→Value)
   (hc:∀(i:Nat) (x:List MV) (j:Nat) (m:MV),xs[i]?=some x→x[j]?=some m→m.aL=true∧Φ.snap ⟨b,off+(i * e+j),none⟩=some (vs i j))
   (hr:∀(i:Nat) (x:List MV) (j:Nat) (m:MV),xs[i]?=some x→x[j]?=some m→Rel Φ (vs i j) m):Rel Φ (.slice (some ⟨b,off,none⟩) len cap) (.lst e xs t)
 | vec {l lo n cap R:Nat} {p:Place} (ho:Φ.obj l=some p) (hb:p.blk=some R) (hcap:lo+cap=p.C) (hn:n≤cap):Rel Φ (.slice (some ⟨R,p.bo+lo * p.e,none⟩) n cap) (.vec p.e l lo n)
 | vec0 {l lo:Nat} {p:Place} (a:Addr) (ho:Φ.obj l=some p) (hC:lo=p.C):Rel Φ (.slice (some a) 0 0) (.vec p.e l lo 0)
 | vecn {l:Nat} {p:Place} (ho:Φ.obj l=some p) (hb:p.blk=none) (hC:p.C=0):Rel Φ (.slice none 0 0) (.vec p.e l 0 0)
 | nilm:Rel Φ (.map none) .nilm
 | mapv {l R:Nat} {p:Place} (ho:Φ.obj l=some p) (hb:p.blk=some R):Rel Φ (.map (some R)) (.mapv l)
 | nilfn:Rel Φ .nilFunc .nilfn
 | fn (f:Fn) {first cap:Array Value} {ms ns:List MV} (h1:first.size=ms.length) (h2:cap.size=ns.length)
   (r1:∀(i:Nat) m,ms[i]?=some m→Rel Φ (first.getD i undef) m) (r2:∀(i:Nat) m,ns[i]?=some m→Rel Φ (cap.getD i undef) m):Rel Φ (.func f first cap) (.fn f ms ns)
 | nili:Rel Φ .nilIface .nili
 | iface (t:TypeId) {v:Value} {m:MV} (h:Rel Φ v m):Rel Φ (.iface t v) (.iface t m)
 | agg {cs:Array Value} {ms:List MV} (h:cs.size=ms.length) (hc:∀(i:Nat) m,ms[i]?=some m→m.aL=true) (r:∀(i:Nat) m,ms[i]?=some m→Rel Φ (cs.getD i undef) m):Rel Φ (.agg cs) (.agg ms)
 | tup {cs:Array Value} {ms:List MV} (h:cs.size=ms.length) (r:∀(i:Nat) m,ms[i]?=some m→Rel Φ (cs.getD i undef) m):Rel Φ (.tuple cs) (.tup ms)
theorem Rel.Gx{Φ Φ':Phi}(h1:∀a v,Φ.snap a=some v→Φ'.snap a=some v)(h2:∀l p,Φ.obj l=some p→Φ'.obj l=some p){v:Value}{m:MV}(h:Rel Φ v m):Rel Φ' v m:=by
 induction h with
 | junk v=>exact .junk v
 | bool b=>exact .bool b
 | int k n=>exact .int k n
 | str s=>exact .str s
 | nilp=>exact .nilp
 | ptr ho hb=>exact .ptr (h2 _ _ ho) hb
 | cptr vs hc hr ih=>exact .cptr vs (fun j m hm=>⟨(hc j m hm).1,h1 _ _ (hc j m hm).2⟩) ih
 | aM=>exact .aM
 | lstn e t=>exact .lstn e t
 | lst0 a e cap t ht hm=>exact .lst0 a e cap t ht hm
 | lst hl h0 hcap hm ht hx vs hc hr ih=>exact .lst hl h0 hcap hm ht hx vs (fun i x j m a b=>⟨(hc i x j m a b).1,h1 _ _ (hc i x j m a b).2⟩) ih
 | vec ho hb hcap hn=>exact .vec (h2 _ _ ho) hb hcap hn
 | vec0 a ho hC=>exact .vec0 a (h2 _ _ ho) hC
 | vecn ho hb hC=>exact .vecn (h2 _ _ ho) hb hC
 | nilm=>exact .nilm
 | mapv ho hb=>exact .mapv (h2 _ _ ho) hb
 | nilfn=>exact .nilfn
 | fn f h1 h2 _ _ r1 r2=>exact .fn f h1 h2 r1 r2
 | nili=>exact .nili
 | iface t _ ih=>exact .iface t ih
 | agg h hc _ ih=>exact .agg h hc ih
 | tup h _ ih=>exact .tup h ih
theorem Rel.mono{Φ Φ':Phi}(hle:Φ.le Φ'){v:Value}{m:MV}(h:Rel Φ v m):Rel Φ' v m:=h.Gx hle.snap hle.obj
theorem Rel.Lx{Φ:Phi}{v:Value}{m:MV}(h:Rel Φ v m)(hm:m.aL=true):v.oneCell'=true:=by
 cases h<;>first|rfl|(simp[MV.aL] at hm)
def iS(Φ:Phi)(vs:Array Value)(ms:List MV):Prop:=vs.size=ms.length∧∀(i:Nat) m,ms[i]?=some m→Rel Φ (vs.getD i undef) m
theorem iS.mono{Φ Φ':Phi}(hle:Φ.le Φ'){vs:Array Value}{ms:List MV}(h:iS Φ vs ms):iS Φ' vs ms:=⟨h.1,fun i m hm=>(h.2 i m hm).mono hle⟩
structure FR where
 n:Nat
 l:List (Nat × MV)
 d:List (FuncId × List MV)
def cQ:List (Nat × MV)→Nat→MV
 | [],_=>.junk
 | (k,v)::r,t=>if t=k then v else cQ r t
def FR.get(f:FR)(t:Nat):MV:=cQ f.l t
def dD(Φ:Phi)(tmps:Array Value)(f:FR):Prop:=tmps.size=f.n∧∀t,Rel Φ (tmps.getD t undef) (f.get t)
theorem dD.mono{Φ Φ':Phi}(hle:Φ.le Φ'){vs:Array Value}{f:FR}(h:dD Φ vs f):dD Φ' vs f:=⟨h.1,fun t=>(h.2 t).mono hle⟩
def eC(Φ:Phi)(w:World):List Deferred→List (FuncId × List MV)→Prop
 | [],d=>d=[]∧Φ.base≤w.heap.size
 | x::xs,d=>(∃D,x.target=.collected D∧Φ.base≤D∧w.heap[D]?=some (Obj.deferred (some []))∧(∀y,y∈xs→y.target≠.collected D)∧eC Φ w xs d) ∨
   (∃g ms r cap,d=(g,ms)::r∧x.target=.fn (.func g) cap∧iS Φ (x.args++cap) ms∧eC Φ w xs r)
theorem eC.base{Φ:Phi}{w:World}:∀{ds:List Deferred} {d:List (FuncId × List MV)},eC Φ w ds d→Φ.base≤w.heap.size
 | [],_,h=>h.2
 | _::_,_,.inl ⟨_,_,_,_,_,h⟩=>h.base
 | _::_,_,.inr ⟨_,_,_,_,_,_,_,h⟩=>h.base
theorem eC.mono{Φ Φ':Phi}{w w':World}(hle:Φ.le Φ')(hsz:w.heap.size≤w'.heap.size)(hw:∀D:Nat,w.heap[D]?=some (Obj.deferred (some []))→w'.heap[D]?=some (Obj.deferred (some []))):∀{ds:List Deferred} {d:List (FuncId × List MV)},eC Φ w ds d→eC Φ' w' ds d
 | [],_,h=>⟨h.1,by rw[hle.base];exact Nat.le_trans h.2 hsz⟩
 | _::_,_,.inl ⟨D,h1,h2,h3,h4,h5⟩=>.inl ⟨D,h1,by rw[hle.base];exact h2,hw D h3,h4,h5.mono hle hsz hw⟩
 | _::_,_,.inr ⟨g,ms,r,cap,h1,h2,h3,h4⟩=>.inr ⟨g,ms,r,cap,h1,h2,h3.mono hle,h4.mono hle hsz hw⟩
abbrev St:=Nat→Option aT
def St.set(σ:St)(l:Nat)(o:aT):St:=fun k=>if k=l then some o else σ k
def St.del(σ:St)(l:Nat):St:=fun k=>if k=l then none else σ k
def St.none:St:=fun _=>Option.none
def FZ(t:TypeId):Bool:=decide (t=5)
def eY(Φ:Phi)(w:World)(l:Nat):aT→Prop
 | .row t e xs=>∃p,Φ.obj l=some p∧p.e=e∧xs.length≤p.C∧p.C≤maxLen∧(∀(i:Nat) (x:List MV),xs[i]?=some x→x.length=e) ∧
   match p.blk with
   | Option.none=>p.C=0
   | some R=>∃(c:Array Value) (fz:Nat × Nat),w.heap[R]?=some (.cells c t fz)∧(fz.2≤fz.1∨FZ t=true∧c.size≤fz.1)∧p.bo+p.C * e≤c.size ∧
     ∀(i:Nat) (x:List MV) (j:Nat) (m:MV),xs[i]?=some x→x[j]?=some m→m.aL=true∧∃v,c[p.bo+(i * e+j)]?=some v∧Rel Φ v m
 | .mp es=>∃p R,Φ.obj l=some p∧p.blk=some R∧∃(c:Array MapEntry) (clock:Nat),w.heap[R]?=some (.map c clock)∧(c.size=es.length∧Go.MapKept.Stamped c clock) ∧
   ∀(i:Nat) (x:MV × MV),es[i]?=some x→Rel Φ (c.getD i default).key x.1∧Rel Φ (c.getD i default).val x.2
 | .mk es st ck=>∃p R,Φ.obj l=some p∧p.blk=some R∧∃(c:Array MapEntry),w.heap[R]?=some (.map c ck)∧(c.size=es.length∧Go.MapKept.Stamped c ck∧c.toList.map (·.born)=st) ∧
   ∀(i:Nat) (x:MV × MV),es[i]?=some x→Rel Φ (c.getD i default).key x.1∧Rel Φ (c.getD i default).val x.2
 | .it m ck seen=>∃p R pm Rm,Φ.obj l=some p∧p.blk=some R∧p.bo=0∧Φ.obj m=some pm∧pm.blk=some Rm∧w.heap[R]?=some (.mapIter (some Rm) ck seen.toArray ck)
def GT:Nat→Nat→Option Value:=fun g i=>if g=0 then([0,1,28,2,29,14,24,3,30,22,20,15,25,17,4,8,31,27,13,23,21,19,16,7,26,12,18,6,11,5,10,9].map fun n:Int=>Value.int .u8 n)[i]? else none
def Phi.fin(Φ:Phi):Prop:=(∃n,∀l,n≤l→Φ.obj l=Option.none)∧∀l p,Φ.obj l=some p→p.bo=0
def GI:List Nat:=[1]
def Phi.ints(Φ:Phi):Prop:=∀g,g∈GI→∃m,Φ.snap ⟨g,0,none⟩=some (.int .i64 m)
def Phi.Xm(Φ:Phi):Prop:=Φ.fin∧(∀g i v,GT g i=some v→Φ.snap ⟨g,i,none⟩=some v)∧Φ.ints
theorem Phi.ints.mono{Φ Φ':Phi}(h:Φ.ints)(hle:∀a v,Φ.snap a=some v→Φ'.snap a=some v):Φ'.ints:=fun g hg=>(h g hg).imp fun m hm=>hle _ _ hm
structure Inv (Φ:Phi) (w:World) (σ:St):Prop where
 own:∀l o,σ l=some o→eY Φ w l o
 inj:∀l l' o o' p p' R,σ l=some o→σ l'=some o'→Φ.obj l=some p→Φ.obj l'=some p'→p.blk=some R→p'.blk=some R→l=l'
 snap:∀a v,Φ.snap a=some v→w.cell? a=some v
 apart:∀l o p R a v,σ l=some o→Φ.obj l=some p→p.blk=some R→Φ.snap a=some v→a.block≠R
 fresh:Φ.Xm
def aY(Φ:Phi)(σ:St)(R:Nat):Prop:=∃l o p,σ l=some o∧Φ.obj l=some p∧p.blk=some R
def DR:Bool:=false
def drw(w:World):Nat:=if DR=true then w.drawn else 0
theorem kS{w w':World}(h:w.drawn≤w'.drawn):drw w≤drw w':=by
 unfold drw;split
 ·exact h
 ·exact Nat.le_refl _
structure Step (Φ:Phi) (σ:St) (w:World) (Φ':Phi) (σ':St) (w':World):Prop where
 le:Φ.le Φ'
 os:w'.os=w.os
 tape:w'.tape=w.tape
 output:w'.output=w.output
 drawn:drw w≤drw w'
 size:w.heap.size≤w'.heap.size
 block:∀k,k<w.heap.size→¬aY Φ σ k→w'.heap[k]?=w.heap[k]?
 snapn:∀a v,Φ'.snap a=some v→Φ.snap a=some v∨w.heap.size≤a.block∨aY Φ σ a.block
 locs:∀l o,σ' l=some o→(∃o',σ l=some o')∨Φ.obj l=Option.none
 ownd:∀R,aY Φ' σ' R→aY Φ σ R∨w.heap.size≤R
theorem Inv.AB{Φ:Phi}{w:World}{σ:St}(hi:Inv Φ w σ){D:Nat}(h:∀c t fz,w.heap[D]?≠some (.cells c t fz))(h':∀c k,w.heap[D]?≠some (.map c k))(h2':∀m a b c,w.heap[D]?≠some (.mapIter m a b c)):¬aY Φ σ D:=by
 rintro⟨l,o,p,h1,h2,h3⟩
 have:=hi.own l o h1
 cases o with
 | row t e xs =>
  obtain⟨p',e1,_,_,_,_,e2⟩:=this
  rw[e1] at h2;cases h2
  rw[h3] at e2
  obtain⟨c,fz,e3,_⟩:=e2
  exact h _ _ _ e3
 | mp es =>
  obtain⟨p',R,e1,e0,c,k,e3,_⟩:=this
  rw[e1] at h2;cases h2
  rw[h3] at e0;cases e0
  exact h' _ _ e3
 | mk es st ck =>
  obtain⟨p',R,e1,e0,c,e3,_⟩:=this
  rw[e1] at h2;cases h2
  rw[h3] at e0;cases e0
  exact h' _ _ e3
 | it m ck seen =>
  obtain⟨p',R,pm,Rm,e1,e0,_,_,_,e3⟩:=this
  rw[e1] at h2;cases h2
  rw[h3] at e0;cases e0
  exact h2' _ _ _ _ e3
theorem Inv.mark{Φ:Phi}{w:World}{σ:St}(hi:Inv Φ w σ){D:Nat}{x:Option (List Deferred)}(h:w.heap[D]?=some (Obj.deferred x)):¬aY Φ σ D :=
 hi.AB (fun c t fz e=>by rw[h] at e;cases e) (fun c k e=>by rw[h] at e;cases e) (fun _ _ _ _ e=>by rw[h] at e;cases e)
theorem Step.refl(Φ:Phi)(σ:St)(w:World):Step Φ σ w Φ σ w :=
 ⟨.refl Φ,rfl,rfl,rfl,Nat.le_refl _,Nat.le_refl _,fun _ _ _=>rfl,fun _ _ h=>.inl h,fun l o h=>.inl ⟨o,h⟩,fun _ h=>.inl h⟩
theorem Step.marks{Φ Φ':Phi}{σ σ':St}{w w':World}(h:Step Φ σ w Φ' σ' w')(hi:Inv Φ w σ)(D:Nat)(hD:w.heap[D]?=some (Obj.deferred (some []))):w'.heap[D]?=some (Obj.deferred (some [])) :=
 (h.block D (Array.getElem?_eq_some_iff.1 hD).1 (hi.mark hD)).trans hD
theorem eC.step{Φ Φ':Phi}{σ σ':St}{w w':World}{ds:List Deferred}{d:List (FuncId × List MV)}(h:eC Φ w ds d)(hi:Inv Φ w σ)(hs:Step Φ σ w Φ' σ' w'):eC Φ' w' ds d:=h.mono hs.le hs.size (hs.marks hi)
theorem Step.trans{Φ Φ1 Φ2:Phi}{σ σ1 σ2:St}{w w1 w2:World}(h:Step Φ σ w Φ1 σ1 w1)(k:Step Φ1 σ1 w1 Φ2 σ2 w2):Step Φ σ w Φ2 σ2 w2 where
 le:=h.le.trans k.le
 os:=k.os.trans h.os
 tape:=k.tape.trans h.tape
 output:=k.output.trans h.output
 drawn:=Nat.le_trans h.drawn k.drawn
 size:=Nat.le_trans h.size k.size
 block:=fun i hi hn=>(k.block i (Nat.lt_of_lt_of_le hi h.size) (fun ho=>(h.ownd i ho).elim hn (fun q=>by omega))).trans (h.block i hi hn)
 snapn:=fun a v hv=>by
  rcases k.snapn a v hv with q|q|q
  ·exact h.snapn a v q
  ·exact .inr (.inl (Nat.le_trans h.size q))
  ·rcases h.ownd _ q with q|q
   ·exact .inr (.inr q)
   ·exact .inr (.inl q)
 locs:=fun l o hl=>by
  rcases k.locs l o hl with⟨o',q⟩|q
  ·exact h.locs l o' q
  ·right
   cases hl:Φ.obj l with
   | none=>rfl
   | some p=>have:=h.le.obj l p hl;simp[this] at q
 ownd:=fun R hR=>by
  rcases k.ownd R hR with q|q
  ·exact h.ownd R q
  ·exact .inr (Nat.le_trans h.size q)
def Enters(P:Program)(f:FuncId):Prop:=∃fn,P.funcs[f]?=some fn∧fn.body.isNone=false∧(fn.name == "runtime.NumGoroutine")=false
def aA(P:Program)(f:FuncId)(ms:List MV)(σ:St)(Q:MV→St→Prop):Prop :=
 Enters P f∧∀Φ w vs,Inv Φ w σ→iS Φ vs ms→Calls P f vs w fun e w'=>∃v mv σ' Φ',e=.returned v∧Rel Φ' v mv∧Inv Φ' w' σ'∧Step Φ σ w Φ' σ' w'∧Q mv σ'
theorem aA.mono{P:Program}{f:FuncId}{ms:List MV}{σ:St}{Q Q':MV→St→Prop}(h:aA P f ms σ Q)(hq:∀v σ',Q v σ'→Q' v σ'):aA P f ms σ Q' :=
 ⟨h.1,fun Φ w vs hi hr=>(h.2 Φ w vs hi hr).mono fun _ _ ⟨v,mv,σ',Φ',a,b,c,d,q⟩=>⟨v,mv,σ',Φ',a,b,c,d,hq _ _ q⟩⟩
abbrev MQ:=Exit→FR→St→Prop
def lift(Φ:Phi)(σ:St)(w:World)(Q:MQ):Exit→Act→World→Prop:=fun e a' w' =>
 ∃f' σ' Φ',eC Φ' w' a'.defers f'.d∧dD Φ' a'.tmps f'∧Inv Φ' w' σ'∧Step Φ σ w Φ' σ' w'∧Q e f' σ'
def j9:Code→Bool
 | .seq a b|.cond _ a b=>j9 a&&j9 b
 | .block _ b|.loop b|.scope b=>j9 b
 | .region _ ops _=>ops.toList.all fun o=>match o.op with|.defer _=>false|_=>true
 | .rangeFunc _ _ _ _=>false
 | _=>true
def FOk(F:Fence)(c:Code):Prop:=F=Fence.wide∨∃l,F=Fence.wide.inRound l∧j9 c=true
section fok
variable {F:Fence} {x y:Code}
theorem FOk.fn(h:FOk F x)(g:FuncId):F.fn g:=by rcases h with rfl|⟨l,rfl,_⟩<;>trivial
theorem FOk.depth(h:FOk F x):F.depth=none:=by rcases h with rfl|⟨l,rfl,_⟩<;>rfl
theorem FOk.room(h:FOk F x)(n:Nat):F.room n:=fun d hd=>by rw[h.depth] at hd;cases hd
theorem FOk.imp(h:FOk F x)(k:j9 x=true→j9 y=true):FOk F y:=h.elim .inl fun⟨l,e,q⟩=>.inr ⟨l,e,k q⟩
theorem FOk.seq1(h:FOk F (.seq x y)):FOk F x:=h.imp fun q=>(Bool.and_eq_true_iff.1 q).1
theorem FOk.VM(h:FOk F (.seq x y)):FOk F y:=h.imp fun q=>(Bool.and_eq_true_iff.1 q).2
theorem FOk.Pc{c:Operand}(h:FOk F (.cond c x y)):FOk F x:=h.imp fun q=>(Bool.and_eq_true_iff.1 q).1
theorem FOk.Pd{c:Operand}(h:FOk F (.cond c x y)):FOk F y:=h.imp fun q=>(Bool.and_eq_true_iff.1 q).2
theorem FOk.block{id:Nat}(h:FOk F (.block id x)):FOk F x:=h.imp fun q=>q
theorem FOk.loop(h:FOk F (.loop x)):FOk F x:=h.imp fun q=>q
theorem FOk.lone(h:FOk F x){fr:Frame}{P:Program}{cs:List Frame}{w:World}(ha:fr.about P w=none):(lone fr cs w).fenced P F:=fenced_calm (n:=0) (h.fn _) (h.room _) ha
theorem FOk.wide{c:Code}:FOk Fence.wide c:=.inl rfl
end fok
def mwp(P:Program)(c:Code)(f:FR)(σ:St)(Q:MQ):Prop :=
 ∀F,FOk F c→∀Φ w a,Inv Φ w σ→dD Φ a.tmps f→eC Φ w a.defers f.d→c.wpIn F 0 P (lift Φ σ w Q) a w
section rules
variable {P:Program} {f:FR} {σ:St} {Q:MQ}
theorem QQ{c:Code}{Q':MQ}(h:mwp P c f σ Q)(hq:∀e f σ,Q e f σ→Q' e f σ):mwp P c f σ Q' :=
 fun F hF Φ w a hi hr hd=>wpIn_mono (h F hF Φ w a hi hr hd) fun _ _ _ ⟨f',σ',Φ',x1,x2,x3,x4,q⟩=>⟨f',σ',Φ',x1,x2,x3,x4,hq _ _ _ q⟩
theorem nN{Φ Φ1:Phi}{σ1:St}{w w1:World}{Q:MQ}(hs:Step Φ σ w Φ1 σ1 w1){e:Exit}{a:Act}{w':World}(h:lift Φ1 σ1 w1 Q e a w'):lift Φ σ w Q e a w' :=
 let ⟨f',σ',Φ',x1,x2,x3,x4,q⟩:=h
 ⟨f',σ',Φ',x1,x2,x3,hs.trans x4,q⟩
theorem QR(h:Q .normal f σ):mwp P .skip f σ Q:=fun F hF Φ w a hi hr hd=>wpIn_skip ⟨f,σ,Φ,hd,hr,hi,.refl _ _ _,h⟩
theorem TX(h:Q .ret f σ):mwp P .ret f σ Q:=fun F hF Φ w a hi hr hd=>wpIn_ret ⟨f,σ,Φ,hd,hr,hi,.refl _ _ _,h⟩
theorem QO{id:Nat}(h:Q (.exit id) f σ):mwp P (.exit id) f σ Q:=fun F hF Φ w a hi hr hd=>wpIn_exit ⟨f,σ,Φ,hd,hr,hi,.refl _ _ _,h⟩
def uQ(next:FR→St→Prop)(Q:MQ):MQ
 | .normal,f,σ=>next f σ
 | e,f,σ=>Q e f σ
theorem a8{x y:Code}(h:mwp P x f σ (uQ (fun f' σ'=>mwp P y f' σ' Q) Q)):mwp P (.seq x y) f σ Q:=by
 intro F hF Φ w a hi hr hd
 refine wpIn_seq (wpIn_mono (h F hF.seq1 Φ w a hi hr hd) fun e a' w' ⟨f',σ',Φ',x1,x2,x3,x4,q⟩=>?_)
 cases e with
 | normal=>exact wpIn_mono (q F hF.VM Φ' w' a' x3 x2 x1) fun _ _ _ hq=>nN x4 hq
 | _=>exact⟨f',σ',Φ',x1,x2,x3,x4,q⟩
def o8(id:Nat)(Q:MQ):MQ
 | .exit id',f,σ=>if id'=id then Q .normal f σ else Q (.exit id') f σ
 | e,f,σ=>Q e f σ
theorem NU{id:Nat}{c:Code}(h:mwp P c f σ (o8 id Q)):mwp P (.block id c) f σ Q:=by
 intro F hF Φ w a hi hr hd
 refine wpIn_block (wpIn_mono (h F hF.block Φ w a hi hr hd) fun e a' w' ⟨f',σ',Φ',x1,x2,x3,x4,q⟩=>?_)
 cases e with
 | exit id' =>
  simp only[Exit.inBlock]
  simp only[o8] at q
  split
  ·rw[if_pos (by assumption)] at q;exact⟨f',σ',Φ',x1,x2,x3,x4,q⟩
  ·rw[if_neg (by assumption)] at q;exact⟨f',σ',Φ',x1,x2,x3,x4,q⟩
 | _=>exact⟨f',σ',Φ',x1,x2,x3,x4,q⟩
theorem gQ{b:Frame}{a:Act}{k:List Item}{cs:List Frame}{w:World}{c:Code}:step P (Go.lone (b.atR a (.code (.scope c)::k)) cs w)=.next (Go.lone (b.atR a (.code c::.inScope c::k)) cs w) :=
 step_lone_go (by simp[stepG,stepG.exec,Frame.atR])
theorem A8{b:Frame}{a:Act}{k:List Item}{cs:List Frame}{w:World}{c:Code}:step P (Go.lone (b.atR a (.inScope c::k)) cs w)=.next (Go.lone (b.atR a k) cs w) :=
 step_lone_go (by simp[stepG,stepG.exec,Frame.atR])
theorem KJ{F:Fence}{n:Nat}{Q:Exit→Act→World→Prop}{a:Act}{w:World}{c:Code}(h:c.wpIn F n P (Exit.noGoto Q) a w):(Code.scope c).wpIn F n P Q a w:=by
 intro b k cs hro hb hr
 have h0:(Go.lone (b.atR a (.code (.scope c)::k)) cs w).fenced P F:=fenced_calm hb hr rfl
 obtain⟨e,a₁,w₁,hq,harr⟩:=h b (.inScope c::k) cs hro hb hr
 cases e with
 | normal=>exact⟨.normal,a₁,w₁,hq,.head h0 gQ (StepsIn.trans harr (.one (fenced_calm hb hr rfl) A8))⟩
 | exit id' =>
  have hx:exitTo id' (.inScope c::k)=exitTo id' k:=by simp[exitTo]
  exact⟨.exit id',a₁,w₁,hq,fun k' hk=>.head h0 gQ (harr.1 k' (by rw[hx];exact hk)),
   fun hr' hk=>let ⟨k₁,h1,h2⟩:=harr.2 hr' (by rw[hx];exact hk);⟨k₁,h1,.head h0 gQ h2⟩⟩
 | goto l=>exact hq.elim
 | ret=>exact⟨_,a₁,w₁,hq,.of_steps (.one h0 gQ) harr⟩
 | panic ch=>exact⟨_,a₁,w₁,hq,.of_steps (.one h0 gQ) harr⟩
 | outgrown=>exact⟨_,a₁,w₁,hq,.of_steps (.one h0 gQ) harr⟩
def EL(Q:MQ):MQ
 | .goto _,_,_=>False
 | e,f,σ=>Q e f σ
theorem FOk.scope{F:Fence}{x:Code}(h:FOk F (.scope x)):FOk F x:=h.imp fun q=>q
theorem NZ{c:Code}(h:mwp P c f σ (EL Q)):mwp P (.scope c) f σ Q:=by
 intro F hF Φ w a hi hr hd
 refine KJ (wpIn_mono (h F hF.scope Φ w a hi hr hd) fun e a' w' ⟨f',σ',Φ',x1,x2,x3,x4,q⟩=>?_)
 cases e with
 | goto l=>exact q.elim
 | _=>exact⟨f',σ',Φ',x1,x2,x3,x4,q⟩
theorem NY{l:Nat}(h:Q .normal f σ):mwp P (.label l) f σ Q:=fun F hF Φ w a hi hr hd=>wpIn_label ⟨f,σ,Φ,hd,hr,hi,.refl _ _ _,h⟩
def ofV:Value→MV
 | .bool b=>.bool b
 | .int k n=>.int k n
 | .string s=>.str s
 | .pointer Option.none=>.nilp
 | .slice Option.none 0 0=>.aM
 | .map Option.none=>.nilm
 | .nilFunc=>.nilfn
 | .func f ⟨[]⟩ ⟨[]⟩=>.fn f [] []
 | .nilIface=>.nili
 | _=>.junk
theorem uE(Φ:Phi)(v:Value):Rel Φ v (ofV v):=by
 unfold ofV
 split<;>first
  | exact .junk _|exact .bool _|exact .int _ _|exact .str _|exact .nilp|exact .aM|exact .nilm|exact .nilfn|exact .nili
  | exact .fn _ (by simp) (by simp) (by simp) (by simp)
def aE(f:FR):Operand→MV
 | .tmp t=>f.get t
 | .const v=>ofV v
 | .global _=>.junk
 | .func g=>.fn (.func g) [] []
theorem aI{Φ:Phi}{a:Act}(hr:dD Φ a.tmps f)(x:Operand):Rel Φ (a.eval x) (aE f x):=by
 cases x with
 | tmp t=>exact hr.2 t
 | const v=>exact uE Φ v
 | global g=>exact .junk _
 | func g=>exact .fn _ (by simp) (by simp) (by simp) (by simp)
theorem QN{c:Operand}{x y:Code}{t:Bool}(hc:aE f c=.bool t)(h1:t=true→mwp P x f σ Q)(h2:t=false→mwp P y f σ Q):mwp P (.cond c x y) f σ Q:=by
 intro F hF Φ w a hi hr hd
 have he:a.eval c=.bool t:=by
  have:=aI hr c
  rw[hc] at this
  generalize a.eval c=v at this
  cases this
  rfl
 exact wpIn_cond_split he (fun ht=>h1 ht F hF.Pc Φ w a hi hr hd) (fun hf=>h2 hf F hF.Pd Φ w a hi hr hd)
def bA(f:FR)(σ:St)(f1:FR)(σ1:St):Prop :=
 f1.d=f.d∧∀Φ w vs,Inv Φ w σ→dD Φ vs f→∃Φ1,Inv Φ1 w σ1∧dD Φ1 vs f1∧Step Φ σ w Φ1 σ1 w
theorem bA.refl(f:FR)(σ:St):bA f σ f σ:=⟨rfl,fun Φ w vs hi hr=>⟨Φ,hi,hr,.refl _ _ _⟩⟩
theorem bA.trans{f f1 f2:FR}{σ σ1 σ2:St}(h:bA f σ f1 σ1)(k:bA f1 σ1 f2 σ2):bA f σ f2 σ2:=⟨k.1.trans h.1,fun Φ w vs hi hr=>by
 obtain⟨Φ1,i1,r1,s1⟩:=h.2 Φ w vs hi hr
 obtain⟨Φ2,i2,r2,s2⟩:=k.2 Φ1 w vs i1 r1
 exact⟨Φ2,i2,r2,s1.trans s2⟩⟩
def Gh(f:FR)(σ:St)(K:FR→St→Prop):Prop :=
 ∀Φ w vs,Inv Φ w σ→dD Φ vs f→∃f1 σ1 Φ1,f1.d=f.d∧K f1 σ1∧Inv Φ1 w σ1∧dD Φ1 vs f1∧Step Φ σ w Φ1 σ1 w
theorem Gh.done{f:FR}{σ:St}{K:FR→St→Prop}(h:K f σ):Gh f σ K:=fun Φ w vs hi hr=>⟨f,σ,Φ,rfl,h,hi,hr,.refl _ _ _⟩
theorem Gh.step{f f1:FR}{σ σ1:St}{K:FR→St→Prop}(g:bA f σ f1 σ1)(h:Gh f1 σ1 K):Gh f σ K:=fun Φ w vs hi hr=>by
 obtain⟨Φ1,i1,r1,s1⟩:=g.2 Φ w vs hi hr
 obtain⟨f2,σ2,Φ2,e2,k2,i2,r2,s2⟩:=h Φ1 w vs i1 r1
 exact⟨f2,σ2,Φ2,e2.trans g.1,k2,i2,r2,s1.trans s2⟩
theorem Gh.of{f f1:FR}{σ σ1:St}{K:FR→St→Prop}(g:bA f σ f1 σ1)(h:K f1 σ1):Gh f σ K:=Gh.step g (Gh.done h)
theorem Vz{c:Code}(h:Gh f σ fun f1 σ1=>mwp P c f1 σ1 Q):mwp P c f σ Q:=by
 intro F hF Φ w a hi hr hd
 obtain⟨f1,σ1,Φ1,hf,k1,i1,r1,s1⟩:=h Φ w a.tmps hi hr
 exact wpIn_mono (k1 F hF Φ1 w a i1 r1 (hf ▸ hd.step hi s1)) fun _ _ _ hq=>nN s1 hq
theorem QP{α:Type}{c:Code}(F:α→FR)(S:α→St)(p:α→Prop)(μ:α→Nat)(h0:Gh f σ fun f1 σ1=>∃a,f1=F a∧σ1=S a∧p a)
 (round:∀a,p a→mwp P c (F a) (S a) (uQ (fun f' σ'=>Gh f' σ' fun f1 σ1=>∃b,f1=F b∧σ1=S b∧p b∧μ b<μ a) Q)):mwp P (.loop c) f σ Q:=by
 refine Vz (fun Φ w vs hi hr=>?_)
 obtain⟨f1,σ1,Φ1,hf,⟨a0,e1,e2,p0⟩,i1,r1,s1⟩:=h0 Φ w vs hi hr
 subst e1;subst e2
 refine⟨_,_,Φ1,hf,?_,i1,r1,s1⟩
 clear h0 hi hr s1 i1 r1 hf
 intro Fe hF Φ w a hi hr hd b k cs hro hb hroom
 have key:∀n x Φ w a,μ x=n→p x→Inv Φ w (S x)→dD Φ a.tmps (F x)→eC Φ w a.defers (F x).d →
   ∃e a' w',lift Φ (S x) w Q e a' w'∧ArrivesIn (Machine.fenced P Fe) P (lone (b.atR a (.code c::.inLoop c::k)) cs w) b k cs e a' w':=by
  intro n
  induction n using Nat.strongRecOn with
  | _ n ih =>
   intro x Φ w a hn hI hi hr hd
   obtain⟨e,a₁,w₁,hq,harr⟩:=round x hI Fe hF.loop Φ w a hi hr hd b (.inLoop c::k) cs hro hb hroom
   cases e with
   | normal =>
    obtain⟨f',σ',Φ',y1,y2,y3,y4,g2⟩:=hq
    obtain⟨f2,σ2,Φ2,g0,⟨x2,e1,e2,hI2,hlt⟩,i2,r2,s2⟩:=g2 Φ' w₁ a₁.tmps y3 y2
    subst e1;subst e2
    obtain⟨e₂,a₂,w₂,hq₂,harr₂⟩:=ih (μ x2) (hn ▸ hlt) x2 Φ2 w₁ a₁ rfl hI2 i2 r2 (g0 ▸ y1.step y3 s2)
    exact⟨e₂,a₂,w₂,nN y4 (nN s2 hq₂),.of_steps (StepsIn.trans harr (.one (fenced_calm hb hroom rfl) stepR_inLoop)) harr₂⟩
   | exit id=>exact⟨_,a₁,w₁,hq,.pass (x:=.inLoop c) rfl (fun _ _=>.inl (by simp)) harr⟩
   | goto l=>exact⟨_,a₁,w₁,hq,.pass (x:=.inLoop c) rfl (fun _ _=>.inl (by simp)) harr⟩
   | ret=>exact⟨_,a₁,w₁,hq,.pass (x:=.inLoop c) rfl (fun _ _=>.inl (by simp)) harr⟩
   | panic ch=>exact⟨_,a₁,w₁,hq,.pass (x:=.inLoop c) rfl (fun _ _=>.inl (by simp)) harr⟩
   | outgrown=>exact⟨_,a₁,w₁,hq,.pass (x:=.inLoop c) rfl (fun _ _=>.inl (by simp)) harr⟩
 obtain⟨e,a',w',hq,harr⟩:=key _ a0 Φ w a rfl p0 hi hr hd
 exact⟨e,a',w',hq,.of_steps (.one (fenced_calm hb hroom rfl) stepR_loop) harr⟩
end rules
theorem Inv.less{Φ:Phi}{w:World}{σ σ1:St}(hi:Inv Φ w σ)(h:∀l o,σ1 l=some o→σ l=some o):Inv Φ w σ1 :=
 ⟨fun l o q=>hi.own l o (h l o q),fun l l' o o' p p' R a b=>hi.inj l l' o o' p p' R (h l o a) (h l' o' b),hi.snap,fun l o p R a v q=>hi.apart l o p R a v (h l o q),hi.fresh⟩
theorem aY.less{Φ:Phi}{σ σ1:St}(h:∀l o,σ1 l=some o→σ l=some o){R:Nat}(q:aY Φ σ1 R):aY Φ σ R :=
 let ⟨l,o,p,a,b,c⟩:=q;⟨l,o,p,h l o a,b,c⟩
theorem Step.less{Φ:Phi}{σ σ1:St}(w:World)(h:∀l o,σ1 l=some o→σ l=some o):Step Φ σ w Φ σ1 w :=
 ⟨.refl Φ,rfl,rfl,rfl,Nat.le_refl _,Nat.le_refl _,fun _ _ _=>rfl,fun _ _ h=>.inl h,fun l o q=>.inl ⟨o,h l o q⟩,fun _ q=>.inl (q.less h)⟩
theorem bA.drop{f:FR}{σ σ1:St}(h:∀l o,σ1 l=some o→σ l=some o):bA f σ f σ1:=⟨rfl,fun Φ w vs hi hr=>⟨Φ,hi.less h,hr,.less w h⟩⟩
inductive oZ:MV→MV→Prop where
 | same (m:MV):oZ m m
 | junk (m:MV):oZ m .junk
 | nil (e:Nat) (t:Bool):oZ .aM (.lst e [] t)
 | tight (e:Nat) (xs:List (List MV)):oZ (.lst e xs true) (.lst e xs false)
theorem oZ.rel{Φ:Phi}{v:Value}{m m':MV}(h:oZ m m')(r:Rel Φ v m):Rel Φ v m':=by
 cases h with
 | same=>exact r
 | junk=>exact .junk _
 | nil e t=>cases r;exact .lstn e t
 | tight e xs =>
  cases r with
  | lstn=>exact .lstn e _
  | lst0 a e cap t ht hm=>exact .lst0 a e cap _ (by simp) hm
  | lst hl h0 hcap hm ht hx vs hc hr=>exact .lst hl h0 hcap hm (by simp) hx vs hc hr
theorem bA.Xc{f f1:FR}{σ:St}(hl:f.n=f1.n)(hd:f1.d=f.d)(h:∀t,oZ (f.get t) (f1.get t)):bA f σ f1 σ:=⟨hd,fun Φ w vs hi hr =>
 ⟨Φ,hi,⟨hr.1.trans hl,fun t=>(h t).rel (hr.2 t)⟩,.refl _ _ _⟩⟩
theorem bA.Tj{n:Nat}{l l1:List (Nat × MV)}{d:List (FuncId × List MV)}{σ:St}(h:∀p,p∈l1→oZ (cQ l p.1) p.2):bA ⟨n,l,d⟩ σ ⟨n,l1,d⟩ σ :=
 bA.Xc rfl rfl fun t=>by
  show oZ (cQ l t) (cQ l1 t)
  induction l1 with
  | nil=>exact .junk _
  | cons p r ih =>
   obtain⟨k,v⟩:=p
   simp only[cQ]
   split
   ·rename_i ht;subst ht;exact h (t,v) (by simp)
   ·exact ih fun q hq=>h q (by simp[hq])
end

section
inductive TK where
 | bool|int (k:IntKind)|str|ptr (e:TypeId)|slice (e:TypeId)|array (n:Nat) (e:TypeId)|struct (fs:List (Nat × TypeId))|map (k e:TypeId)|func|iface|other
 deriving Inhabited
def TK.isAgg:TK→Bool
 | .array ..|.struct _=>true
 | _=>false
structure TD where
 ok:Bool:=false
 size:Nat:=0
 bytes:Nat:=0
 zok:Bool:=false
 zero:List MV:=[]
 k:TK:=.other
 deriving Inhabited
def uR:TypeDesc→TK
 | .bool=>.bool
 | .int k=>.int k
 | .string=>.str
 | .pointer e=>.ptr e
 | .slice e=>.slice e
 | .array n e=>.array n e
 | .struct fs=>.struct (fs.toList.map fun f=>(f.offset,f.type))
 | .map k e=>.map k e
 | .func _ _ _=>.func
 | .interface _=>.iface
 | _=>.other
def KL:Value→Bool
 | .agg _=>true
 | _=>false
def zOk(size:Nat)(agg:Bool):Option Value→Bool
 | some z=>z.cells.size==size&&z.cells.toList.all (fun v=>(ofV v).aL)&&(agg==KL z)
 | none=>false
def V8:Option Value→List MV
 | some z=>z.cells.toList.map ofV
 | none=>[]
def VT(i:TypeInfo)(d:TypeDesc):TD:={ ok:=true,size:=i.size,bytes:=i.bytes,zok:=zOk i.size (uR d).isAgg i.zero,zero:=V8 i.zero,k:=uR d }
def td(P:Program)(t:TypeId):TD :=
 match P.info? t with
 | none=>{}
 | some i=>match P.underlying t with
  | none=>{}
  | some d=>VT i d
section
variable {P:Program} {t:TypeId}
theorem Bc(P:Program)(t:TypeId):td P t={}∨∃i d,P.info? t=some i∧P.underlying t=some d∧td P t=VT i d:=by
 unfold td
 split
 ·exact .inl rfl
 ·split
  ·exact .inl rfl
  ·exact .inr ⟨_,_,by assumption,by assumption,rfl⟩
theorem cY(h:(td P t).ok=true):∃i d,P.info? t=some i∧P.underlying t=some d∧(td P t).size=i.size∧(td P t).bytes=i.bytes∧(td P t).k=uR d:=by
 rcases Bc P t with hn|⟨i,d,hi,hd,he⟩
 ·rw[hn] at h;cases h
 ·exact⟨i,d,hi,hd,by rw[he];rfl,by rw[he];rfl,by rw[he];rfl⟩
theorem oT{k:TK}(h:(td P t).k=k)(hne:k≠.other):(td P t).ok=true:=by
 rcases Bc P t with hn|⟨i,d,hi,hd,he⟩
 ·rw[hn] at h;exact absurd h.symm hne
 ·rw[he];rfl
theorem aO(h:(td P t).ok=true)(w:World):(sizeOf t).run P w=.ok (td P t).size w:=by
 obtain⟨i,d,hi,hd,hs,hb,hk⟩:=cY h
 simp[sizeOf,typeInfo,hi,hs]
theorem aK{d:TypeDesc}(h:P.underlying t=some d)(w:World):(underlying t).run P w=.ok d w:=by
 simp[underlying,h]
theorem sQ(h:(td P t).ok=true)(w:World):(isAgg t).run P w=.ok (td P t).k.isAgg w:=by
 obtain⟨i,d,hi,hd,hs,hb,hk⟩:=cY h
 rw[hk]
 simp only[isAgg,Sem.run_bind,aK hd,Result.andThen_ok]
 cases d<;>rfl
theorem aW{e:TypeId}(h:(td P t).k=.slice e):P.underlying t=some (.slice e):=by
 obtain⟨i,d,hi,hd,hs,hb,hk⟩:=cY (oT h (by simp))
 rw[hk] at h
 cases d<;>simp[uR] at h
 rw[hd,h]
theorem gR{n:Nat}{e:TypeId}(h:(td P t).k=.array n e):P.underlying t=some (.array n e):=by
 obtain⟨i,d,hi,hd,hs,hb,hk⟩:=cY (oT h (by simp))
 rw[hk] at h
 cases d<;>simp[uR] at h
 rw[hd,h.1,h.2]
theorem jW{fs:List (Nat × TypeId)}(h:(td P t).k=.struct fs):∃fa:Array Field,P.underlying t=some (.struct fa)∧fs=fa.toList.map fun f=>(f.offset,f.type):=by
 obtain⟨i,d,hi,hd,hs,hb,hk⟩:=cY (oT h (by simp))
 rw[hk] at h
 cases d<;>simp[uR] at h
 exact⟨_,hd,h.symm⟩
theorem gY(h:(td P t).k=.str):P.underlying t=some .string:=by
 obtain⟨i,d,hi,hd,hs,hb,hk⟩:=cY (oT h (by simp))
 rw[hk] at h
 cases d<;>simp[uR] at h
 exact hd
theorem kC{k:IntKind}(h:(td P t).k=.int k):P.underlying t=some (.int k):=by
 obtain⟨i,d,hi,hd,hs,hb,hk⟩:=cY (oT h (by simp))
 rw[hk] at h
 cases d<;>simp[uR] at h
 rw[hd,h]
theorem uS(h:(td P t).k=.bool):P.underlying t=some .bool:=by
 obtain⟨i,d,hi,hd,hs,hb,hk⟩:=cY (oT h (by simp))
 rw[hk] at h
 cases d<;>simp[uR] at h
 exact hd
theorem Uq{e:TypeId}(h:(td P t).k=.ptr e):P.underlying t=some (.pointer e):=by
 obtain⟨i,d,hi,hd,hs,hb,hk⟩:=cY (oT h (by simp))
 rw[hk] at h
 cases d<;>simp[uR] at h
 rw[hd,h]
theorem rE{k e:TypeId}(h:(td P t).k=.map k e):P.underlying t=some (.map k e):=by
 obtain⟨i,d,hi,hd,hs,hb,hk⟩:=cY (oT h (by simp))
 rw[hk] at h
 cases d<;>simp[uR] at h
 rw[hd,h.1,h.2]
theorem dH(h:(td P t).zok=true)(w:World):∃z,(zeroValue t).run P w=.ok z w∧z.cells.toList.map ofV=(td P t).zero∧z.cells.size=(td P t).size∧(td P t).ok=true ∧
  (∀v,v∈z.cells.toList→(ofV v).aL=true)∧((td P t).k.isAgg=true→∃cs,z=.agg cs)∧((td P t).k.isAgg=false→z.cells=#[z]):=by
 rcases Bc P t with hn|⟨i,d,hi,hd,he⟩
 ·rw[hn] at h;cases h
 ·rw[he] at h ⊢
  simp only[VT] at h ⊢
  cases hz:i.zero with
  | none=>simp[hz,zOk] at h
  | some z =>
   simp only[hz,zOk,Bool.and_eq_true,beq_iff_eq,List.all_eq_true] at h
   refine⟨z,by simp[zeroValue,typeInfo,hi,hz],rfl,h.1.1,trivial,h.1.2,fun hk=>?_,fun hk=>?_⟩
   ·rw[hk] at h
    cases z<;>simp[KL] at h ⊢
   ·rw[hk] at h
    cases z<;>first|rfl|simp[KL] at h
end
theorem dU(b off n:Nat):(⟨b,off,none⟩:Addr).add n=⟨b,off+n,none⟩:=by
 unfold Addr.add;split<;>simp_all
section
variable {Φ:Phi} {v:Value}
theorem Rel.lU{b:Bool}(h:Rel Φ v (.bool b)):v=.bool b:=by cases h;rfl
theorem Rel.aS{k:IntKind}{n:Int}(h:Rel Φ v (.int k n)):v=.int k n:=by cases h;rfl
theorem Rel.fZ{s:ByteArray}(h:Rel Φ v (.str s)):v=.string s:=by cases h;rfl
theorem Rel.nJ(h:Rel Φ v .nilp):v=.pointer none:=by cases h;rfl
theorem Rel.fP(h:Rel Φ v .aM):v=.slice none 0 0:=by cases h;rfl
theorem Rel.PM(h:Rel Φ v .nilm):v=.map none:=by cases h;rfl
theorem Rel.vM(h:Rel Φ v .nilfn):v=.nilFunc:=by cases h;rfl
theorem Rel.iZ{l i o:Nat}(h:Rel Φ v (.ptr l i o)):∃p R,Φ.obj l=some p∧p.blk=some R∧v=.pointer (some ⟨R,p.bo+i * p.e+o,none⟩):=by cases h with|ptr ho hb=>exact⟨_,_,ho,hb,rfl⟩
theorem Rel.nH{cs:List MV}(h:Rel Φ v (.cptr cs)):∃(b off:Nat) (vs:Nat→Value),v=.pointer (some ⟨b,off,none⟩)∧(∀(j:Nat) (m:MV),cs[j]?=some m→m.aL=true∧Φ.snap ⟨b,off+j,none⟩=some (vs j))∧∀(j:Nat) (m:MV),cs[j]?=some m→Rel Φ (vs j) m:=by
 cases h with|cptr vs hc hr=>exact⟨_,_,vs,rfl,hc,hr⟩
theorem Rel.DI{ms:List MV}(h:Rel Φ v (.tup ms)):∃cs:Array Value,v=.tuple cs∧cs.size=ms.length∧∀(i:Nat) m,ms[i]?=some m→Rel Φ (cs.getD i undef) m:=by
 cases h with|tup h r=>exact⟨_,rfl,h,r⟩
theorem Rel.j8{ms:List MV}(h:Rel Φ v (.agg ms)):∃cs:Array Value,v=.agg cs∧cs.size=ms.length∧(∀(i:Nat) m,ms[i]?=some m→m.aL=true)∧∀(i:Nat) m,ms[i]?=some m→Rel Φ (cs.getD i undef) m:=by
 cases h with|agg h hc r=>exact⟨_,rfl,h,hc,r⟩
theorem Rel.sC{f:Fn}{ms ns:List MV}(h:Rel Φ v (.fn f ms ns)):∃first cap:Array Value,v=.func f first cap∧iS Φ first ms∧iS Φ cap ns:=by
 cases h with|fn _ h1 h2 r1 r2=>exact⟨_,_,rfl,⟨h1,r1⟩,⟨h2,r2⟩⟩
def kY(Φ:Phi)(b off e:Nat)(xs:List (List MV)):Prop :=
 (∀(i:Nat) (x:List MV),xs[i]?=some x→x.length=e)∧∃vs:Nat→Nat→Value,
  ∀(i:Nat) (x:List MV) (j:Nat) (m:MV),xs[i]?=some x→x[j]?=some m→m.aL=true∧Φ.snap ⟨b,off+(i * e+j),none⟩=some (vs i j)∧Rel Φ (vs i j) m
theorem Rel.lB{e:Nat}{xs:List (List MV)}{t:Bool}(h:Rel Φ v (.lst e xs t)):∃a cap,v=.slice a xs.length cap∧xs.length≤cap∧cap≤maxLen∧(t=true→cap=xs.length)∧(a=none→cap=0) ∧
  (0<xs.length→∃b off,a=some ⟨b,off,none⟩∧kY Φ b off e xs):=by
 cases h with
 | lstn=>exact⟨none,0,rfl,Nat.le_refl _,by simp[maxLen],fun _=>rfl,fun _=>rfl,fun h=>by simp at h⟩
 | lst0 a e cap t ht hm=>exact⟨some a,cap,rfl,Nat.zero_le _,hm,ht,by simp,fun h=>by simp at h⟩
 | lst hl h0 hcap hm ht hx vs hc hr=>exact⟨_,_,by rw[hl],by omega,hm,fun q=>by rw[ht q,hl],by simp,fun _=>⟨_,_,rfl,hx,vs,fun i x j m a b=>⟨(hc i x j m a b).1,(hc i x j m a b).2,hr i x j m a b⟩⟩⟩
theorem Rel.DZ{e len cap:Nat}{xs:List (List MV)}{t:Bool}{a:Option Addr}(hl:xs.length=len)(hc:len≤cap)(hm:cap≤maxLen)(ht:t=true→cap=len)(ha:a=none→cap=0)
 (h:0<len→∃b off,a=some ⟨b,off,none⟩∧kY Φ b off e xs):Rel Φ (.slice a len cap) (.lst e xs t):=by
 rcases Nat.eq_zero_or_pos len with h0|h0
 ·subst h0
  have hx:xs=[]:=List.eq_nil_of_length_eq_zero hl
  subst hx
  cases a with
  | none=>rw[ha rfl];exact .lstn e t
  | some a=>exact .lst0 a e cap t ht hm
 ·obtain⟨b,off,rfl,hx,vs,hv⟩:=h h0
  exact .lst hl h0 hc hm ht hx vs (fun i x j m p q=>⟨(hv i x j m p q).1,(hv i x j m p q).2.1⟩) (fun i x j m p q=>(hv i x j m p q).2.2)
theorem kY.drop{b off e k:Nat}{xs:List (List MV)}(h:kY Φ b off e xs):kY Φ b (off+k * e) e (xs.drop k):=by
 obtain⟨hx,vs,hv⟩:=h
 refine⟨fun i x q=>hx (k+i) x (by simpa using q),fun i j=>vs (k+i) j,fun i x j m q r=>?_⟩
 have:=hv (k+i) x j m (by simpa using q) r
 refine⟨this.1,?_,this.2.2⟩
 rw[←this.2.1,Nat.add_mul,Nat.add_assoc off,Nat.add_assoc (k * e)]
theorem kY.take{b off e k:Nat}{xs:List (List MV)}(h:kY Φ b off e xs):kY Φ b off e (xs.take k):=by
 obtain⟨hx,vs,hv⟩:=h
 have key:∀(i:Nat) (x:List MV),(xs.take k)[i]?=some x→xs[i]?=some x:=fun i x q=>by
  rw[List.getElem?_take] at q
  split at q
  ·exact q
  ·cases q
 exact⟨fun i x q=>hx i x (key i x q),vs,fun i x j m q r=>hv i x j m (key i x q) r⟩
theorem Rel.dR{e l lo n:Nat}(h:Rel Φ v (.vec e l lo n)):∃a cap p,v=.slice a n cap∧Φ.obj l=some p∧p.e=e∧lo+cap=p.C∧n≤cap ∧
  ((∃R,p.blk=some R∧a=some ⟨R,p.bo+lo * p.e,none⟩)∨cap=0):=by
 cases h with
 | vec ho hb hcap hn=>exact⟨_,_,_,rfl,ho,rfl,hcap,hn,.inl ⟨_,hb,rfl⟩⟩
 | vec0 a ho hC=>exact⟨_,_,_,rfl,ho,rfl,by omega,Nat.le_refl _,.inr rfl⟩
 | vecn ho hb hC=>exact⟨_,_,_,rfl,ho,rfl,by omega,Nat.le_refl _,.inr rfl⟩
theorem Rel.nI{l:Nat}(h:Rel Φ v (.mapv l)):∃p R,Φ.obj l=some p∧p.blk=some R∧v=.map (some R):=by cases h with|mapv ho hb=>exact⟨_,_,ho,hb,rfl⟩
end
end

section
abbrev PV:=Option (Prop × MV)
def nX(k:IntKind)(a b:Int):Int:=k.wrap (BitVec.ofInt k.bits a &&& BitVec.ofInt k.bits b).toNat
def orK(k:IntKind)(a b:Int):Int:=k.wrap (BitVec.ofInt k.bits a ||| BitVec.ofInt k.bits b).toNat
def XK(k:IntKind)(a b:Int):Int:=k.wrap (BitVec.ofInt k.bits a ^^^ BitVec.ofInt k.bits b).toNat
def s8(k:IntKind)(a b:Int):Int:=k.wrap (BitVec.ofInt k.bits a &&& ~~~BitVec.ofInt k.bits b).toNat
def Xq(k:IntKind)(n:Int):Int:=k.wrap (BitVec.ofInt k.bits (if k.signed then -1 else k.max) ^^^ BitVec.ofInt k.bits n).toNat
def gE(op:BinOp)(k:IntKind)(a b:Int):PV :=
 match op with
 | .add=>some (True,.int k (k.wrap (a+b)))
 | .sub=>some (True,.int k (k.wrap (a - b)))
 | .mul=>some (True,.int k (k.wrap (a * b)))
 | .quo=>some (b≠0,.int k (k.wrap (a.tdiv b)))
 | .rem=>some (b≠0,.int k (a.tmod b))
 | .and=>some (True,.int k (nX k a b))
 | .or=>some (True,.int k (orK k a b))
 | .xor=>some (True,.int k (XK k a b))
 | .andNot=>some (True,.int k (s8 k a b))
 | .eql=>some (True,.bool (a==b))
 | .neq=>some (True,.bool (a != b))
 | .lss=>some (True,.bool (decide (a<b)))
 | .leq=>some (True,.bool (decide (a≤b)))
 | .gtr=>some (True,.bool (decide (a > b)))
 | .geq=>some (True,.bool (decide (a ≥ b)))
 | _=>none
def pO(op:BinOp)(k:IntKind)(a b:Int):PV :=
 match op with
 | .shl=>some (0≤b,.int k (k.wrap (a * 2 ^ (min b.toNat k.bits))))
 | .shr=>some (0≤b,.int k (a.fdiv (2 ^ (min b.toNat k.bits))))
 | _=>none
def qI(op:BinOp)(x y:ByteArray):PV :=
 match op with
 | .add=>some (((x.size+y.size:Nat):Int)≤9223372036854775807,.str (x++y))
 | .eql=>some (True,.bool (x.toList==y.toList))
 | .neq=>some (True,.bool (!(x.toList==y.toList)))
 | .lss=>some (True,.bool (Op.bytesLess x.toList y.toList))
 | .leq=>some (True,.bool (Op.bytesLess x.toList y.toList || x.toList==y.toList))
 | .gtr=>some (True,.bool (!(Op.bytesLess x.toList y.toList || x.toList==y.toList)))
 | .geq=>some (True,.bool (!(Op.bytesLess x.toList y.toList)))
 | _=>none
def eqV(op:BinOp)(c:Prop)(b:Bool):PV :=
 match op with
 | .eql=>some (c,.bool b)
 | .neq=>some (c,.bool (!b))
 | _=>none
def TK.tO:TK→Bool
 | .ptr _=>true
 | _=>false
def TK.IV:TK→Bool
 | .slice _=>true
 | _=>false
def TK.IS:TK→Bool
 | .func=>true
 | _=>false
def TK.isBool:TK→Bool
 | .bool=>true
 | _=>false
def eA(d:TD)(cs:List MV)(off:Nat):MV:=if d.k.isAgg=true then .agg ((cs.drop off).take d.size) else cs.getD off .junk
def eX(P:Program)(t:TypeId):Bool:=!P.stoodInHeld t&&(P.fieldsOf t).toList.all (fun f=>f.name != "_")&&!P.eqGuardType P.depth t
def cF(P:Program)(g:TypeId→MV→MV→Option Bool)(xs ys:List MV):List (Nat × TypeId)→Option Bool
 | []=>some true
 | (off,ft)::r=>if (td P ft).ok=true∧off+(td P ft).size≤xs.length∧off+(td P ft).size≤ys.length∧0<(td P ft).size then
   (match g ft (eA (td P ft) xs off) (eA (td P ft) ys off) with
   | none=>none
   | some b=>(cF P g xs ys r).map fun c=>b&&c)
  else none
def kK(P:Program):Nat→TypeId→MV→MV→Option Bool
 | 0,_,_,_=>none
 | d+1,t,x,y=>match (td P t).k,x,y with
  | .int _,.int k a,.int k' b=>if k=k' then some (decide (a=b)) else none
  | .bool,.bool a,.bool b=>some (a==b)
  | .str,.str a,.str b=>some (decide (a=b))
  | .struct fs,.agg xs,.agg ys=>if eX P t=true then cF P (kK P d) xs ys fs else none
  | .array n e,.agg xs,.agg ys=>if (td P e).ok=true then cF P (kK P d) xs ys ((List.range n).map fun i=>(i * (td P e).size,e)) else none
  | _,_,_=>none
def cH(P:Program)(t:TypeId)(op:BinOp)(x y:MV):PV :=
 match x,y with
 | .int k a,.int k' b=>match op with
  | .shl|.shr=>pO op k a b
  | _=>if k=k' then gE op k a b else none
 | .str a,.str b=>qI op a b
 | .bool a,.bool b=>eqV op ((td P t).k.isBool=true) (a==b)
 | .nilp,.nilp=>eqV op ((td P t).k.tO=true) true
 | .ptr _ _ _,.nilp|.nilp,.ptr _ _ _|.cptr _,.nilp|.nilp,.cptr _=>eqV op ((td P t).k.tO=true) false
 | .agg xs,.agg ys=>match kK P 6 t (.agg xs) (.agg ys) with
  | some b=>eqV op (eX P t=true) b
  | none=>none
 | .aM,.aM=>eqV op ((td P t).k.IV=true) true
 | .lst _ (_::_) _,.aM=>eqV op ((td P t).k.IV=true) false
 | .nilfn,.nilfn=>eqV op ((td P t).k.IS=true) true
 | .fn _ _ _,.nilfn=>eqV op ((td P t).k.IS=true) false
 | _,_=>none
def mun(op:UnOp)(x:MV):PV :=
 match op,x with
 | .neg,.int k n=>some (True,.int k (k.wrap (0 - n)))
 | .xor,.int k n=>some (True,.int k (Xq k n))
 | .not,.bool b=>some (True,.bool (!b))
 | _,_=>none
def tQ(P:Program)(s d:TypeId)(x:MV):PV :=
 match x,(td P d).k,(td P s).ok with
 | .int _ n,.int k,true=>some (True,.int k (k.wrap n))
 | .str s,.str,true=>some (True,.str s)
 | _,_,_=>none
def chunks(e:Nat):Nat→List MV→List (List MV)
 | 0,_=>[]
 | n+1,cs=>cs.take e::chunks e n (cs.drop e)
def pY(P:Program)(t:TypeId)(x:MV)(lo hi mx:Option MV):PV :=
 match x,lo,hi,mx with
 | .str s,some (.int _ l),some (.int _ h),none=>some ((td P t).k=.str∧0≤l∧l≤h∧h≤s.size,.str (s.extract l.toNat h.toNat))
 | .str s,none,some (.int _ h),none=>some ((td P t).k=.str∧0≤h∧h≤s.size,.str (s.extract 0 h.toNat))
 | .str s,some (.int _ l),none,none=>some ((td P t).k=.str∧0≤l∧l≤s.size,.str (s.extract l.toNat s.size))
 | .lst e xs tt,lo,hi,mx=>match (td P t).k with
  | .slice el=>match lo,hi,mx with
   | some (.int _ l),some (.int _ h),none=>some ((td P el).ok=true∧(td P el).size=e∧0≤l∧l≤h∧h≤xs.length,.lst e ((xs.take h.toNat).drop l.toNat) (tt&&decide (h.toNat=xs.length)))
   | none,some (.int _ h),none=>some ((td P el).ok=true∧(td P el).size=e∧0≤h∧h≤xs.length,.lst e (xs.take h.toNat) (tt&&decide (h.toNat=xs.length)))
   | some (.int _ l),none,none=>some ((td P el).ok=true∧(td P el).size=e∧0≤l∧l≤xs.length,.lst e (xs.drop l.toNat) tt)
   | none,some (.int _ h),some (.int _ m)=>some ((td P el).ok=true∧(td P el).size=e∧0≤h∧h≤m∧m≤xs.length,.lst e (xs.take h.toNat) (decide (h=m)))
   | some (.int _ l),some (.int _ h),some (.int _ m)=>some ((td P el).ok=true∧(td P el).size=e∧0≤l∧l≤h∧h≤m∧m≤xs.length,.lst e ((xs.take h.toNat).drop l.toNat) (decide (h=m)))
   | _,_,_=>none
  | _=>none
 | .vec e l lo0 n,lo,hi,mx=>match (td P t).k with
  | .slice el=>match lo,hi,mx with
   | some (.int _ l'),some (.int _ h),none=>some ((td P el).ok=true∧(td P el).size=e∧0≤l'∧l'≤h∧h≤n,.vec e l (lo0+l'.toNat) (h.toNat - l'.toNat))
   | none,some (.int _ h),none=>some ((td P el).ok=true∧(td P el).size=e∧0≤h∧h≤n,.vec e l lo0 h.toNat)
   | some (.int _ l'),none,none=>some ((td P el).ok=true∧(td P el).size=e∧0≤l'∧l'≤n,.vec e l (lo0+l'.toNat) (n - l'.toNat))
   | some (.int _ l'),some (.int _ h),some (.int _ m)=>some ((td P el).ok=true∧(td P el).size=e∧0≤l'∧l'≤h∧h≤m∧m≤n,.junk)
   | _,_,_=>none
  | _=>none
 | .cptr cs,none,none,none=>match (td P t).k with
  | .array n el=>some ((td P el).ok=true∧0<n∧(td P el).size * n≤cs.length∧n≤9223372036854775807,.lst (td P el).size (chunks (td P el).size n cs) true)
  | _=>none
 | .aM,none,some (.int _ h),none=>match (td P t).k with
  | .slice el=>some ((td P el).ok=true∧h=0,.aM)
  | _=>none
 | _,_,_,_=>none
def fL(P:Program)(t:TypeId)(x:MV)(i:Nat):PV :=
 match (td P t).k with
 | .struct fs=>match fs[i]?,x with
  | some (off,ft),.ptr l j o=>some ((td P ft).ok=true∧(td P ft).size≠0,.ptr l j (o+off))
  | some (off,ft),.cptr cs=>some ((td P ft).ok=true∧(td P ft).size≠0,.cptr (cs.drop off))
  | _,_=>none
 | _=>none
def lX(P:Program)(t:TypeId)(x i:MV):PV :=
 match (td P t).k,x,i with
 | .slice el,.lst e xs _,.int _ n=>some ((td P el).ok=true∧(td P el).size=e∧0≤n∧n<xs.length,.cptr (xs.getD n.toNat []))
 | .slice el,.vec e l lo k,.int _ n=>some ((td P el).ok=true∧(td P el).size=e∧0≤n∧n<k,.ptr l (lo+n.toNat) 0)
 | .array len el,.ptr l j o,.int _ n=>some ((td P el).ok=true∧0≤n∧n<len,.ptr l j (o+n.toNat * (td P el).size))
 | .array len el,.cptr cs,.int _ n=>some ((td P el).ok=true∧0≤n∧n<len,.cptr (cs.drop (n.toNat * (td P el).size)))
 | _,_,_=>none
def An(P:Program)(t:TypeId)(x i:MV):PV :=
 match (td P t).k,x,i with
 | .str,.str s,.int _ n=>some (0≤n∧n<s.size,.int .u8 ((s.toList.getD n.toNat 0).toNat:Int))
 | .array len el,.agg cs,.int _ n=>some ((td P el).ok=true∧0≤n∧n<len∧(td P el).size * len≤cs.length∧0<(td P el).size,eA (td P el) cs (n.toNat * (td P el).size))
 | _,_,_=>none
def DW(P:Program)(t:TypeId)(x:MV)(i:Nat):PV :=
 match (td P t).k with
 | .struct fs=>match fs[i]?,x with
  | some (off,ft),.agg cs=>some ((td P ft).ok=true∧off+(td P ft).size≤cs.length∧0<(td P ft).size,eA (td P ft) cs off)
  | _,_=>none
 | _=>none
def laid(cs:List MV)(off:Nat)(new:List MV):List MV:=cs.take off++new++cs.drop (off+new.length)
def eZ(P:Program)(f:FR)(place:Nat→Option (Nat × TypeId)):List (Nat × Operand)→List MV→Option (Prop × List MV)
 | [],cs=>some (True,cs)
 | (i,x)::rest,cs=>match place i with
  | none=>none
  | some (off,ft)=>match eZ P f place rest (laid cs off (aE f x).cells) with
   | none=>none
   | some (C,r)=>some (((td P ft).ok=true∧(aE f x).cells.length=(td P ft).size∧(∀c,c∈(aE f x).cells→c.aL=true)∧off+(aE f x).cells.length≤cs.length)∧C,r)
def pS(P:Program)(f:FR)(t:TypeId)(parts:Array (Nat × Operand)):PV :=
 match (td P t).k with
 | .struct fs=>match eZ P f (fun i=>fs[i]?) parts.toList (td P t).zero with
  | some (C,cs)=>some ((td P t).zok=true∧(fs.all fun x=>(td P x.2).ok)=true∧C,.agg cs)
  | none=>none
 | .array n el=>match eZ P f (fun i=>some (i * (td P el).size,el)) parts.toList (td P t).zero with
  | some (C,cs)=>some ((td P t).zok=true∧(td P el).ok=true∧C,.agg cs)
  | none=>none
 | _=>none
def Qy(P:Program)(t:TypeId)(x:MV):PV :=
 match x with
 | .str s=>some ((td P t).k=.str,.int .i64 s.size)
 | .lst _ xs _=>match (td P t).k with|.slice _=>some (True,.int .i64 xs.length)|_=>none
 | .vec _ _ _ n=>match (td P t).k with|.slice _=>some (True,.int .i64 n)|_=>none
 | .aM=>match (td P t).k with|.slice _=>some (True,.int .i64 0)|_=>none
 | .nilm=>match (td P t).k with|.map _ _=>some (True,.int .i64 0)|_=>none
 | _=>none
def TH(P:Program)(t:TypeId)(x:MV):PV :=
 match x with
 | .aM=>match (td P t).k with|.slice _=>some (True,.int .i64 0)|_=>none
 | _=>none
def Lt(x y:MV):PV :=
 match x,y with
 | .int k a,.int _ b=>some (True,.int k (if b<a then b else a))
 | _,_=>none
def Ls(x y:MV):PV :=
 match x,y with
 | .int k a,.int _ b=>some (True,.int k (if b > a then b else a))
 | _,_=>none
def eK(P:Program)(b:Builtin)(ts:Array TypeId)(xs:List MV):PV :=
 match b,xs with
 | .len,[x]=>Qy P (ts.getD 0 0) x
 | .min,[x,y]=>Lt x y
 | .max,[x,y]=>Ls x y
 | .cap,[x]=>TH P (ts.getD 0 0) x
 | _,_=>none
def IJ(P:Program)(t:TypeId)(g:Nat)(i:MV):PV :=
 match (td P t).k,i with
 | .array len el,.int _ n=>(GT g n.toNat).bind fun v=>some ((td P el).ok=true∧(td P el).size=1∧0≤n∧n<len∧(ofV v).aL=true,.cptr [ofV v])
 | _,_=>none
def qop(P:Program)(f:FR):Op→PV
 | .move x|.assign x=>some (True,aE f x)
 | .pick c a b=>match aE f c with
  | .bool t=>some (True,if t=true then aE f a else aE f b)
  | _=>none
 | .nilCheck x=>match aE f x with
  | .ptr l i o=>some (True,.ptr l i o)
  | .cptr cs=>some (True,.cptr cs)
  | _=>none
 | .binOp op t x y _=>cH P t op (aE f x) (aE f y)
 | .unOp op _ x=>mun op (aE f x)
 | .convert s d x=>tQ P s d (aE f x)
 | .makeInterface t x=>match (td P t).k,(td P t).ok with
  | .iface,_=>none
  | _,true=>some (True,.iface t (aE f x))
  | _,_=>none
 | .makeFunc fn first cap=>some (True,.fn fn (first.toList.map (aE f)) (cap.toList.map (aE f)))
 | .slice t x lo hi mx=>pY P t (aE f x) (lo.map (aE f)) (hi.map (aE f)) (mx.map (aE f))
 | .fieldAddr t x i=>fL P t (aE f x) i
 | .field t x i=>DW P t (aE f x) i
 | .indexAddr t (.global g) i=>IJ P t g (aE f i)
 | .indexAddr t x i=>lX P t (aE f x) (aE f i)
 | .index t x i=>An P t (aE f x) (aE f i)
 | .extract x i=>match aE f x with
  | .tup vs=>match vs[i]? with|some v=>some (True,v)|none=>none
  | _=>none
 | .build t parts=>pS P f t parts
 | .call { callee:=.builtin b,args,argTypes }=>eK P b argTypes (args.toList.map (aE f))
 | _=>none
end

section
section
variable {P:Program} {Φ:Phi}
theorem DH{op:BinOp}{k:IntKind}{a b:Int}{C:Prop}{mv:MV}(h:gE op k a b=some (C,mv))(hC:C)(t:TypeId) :
  ∃v,(∀w,(binOp op t (.int k a) (.int k b)).run P w=.ok v w)∧Rel Φ v mv:=by
 cases op<;>simp only[gE,Option.some.injEq,Prod.mk.injEq,reduceCtorEq] at h<;>obtain⟨rfl,rfl⟩:=h
 case quo=>exact⟨_,fun w=>by simp only[binOp,ne_eq,not_true_eq_false,if_false,Op.intDiv,if_neg hC,Sem.run_pure],.int _ _⟩
 case rem=>exact⟨_,fun w=>by simp only[binOp,ne_eq,not_true_eq_false,if_false,Op.intDiv,if_neg hC,Sem.run_pure],.int _ _⟩
 all_goals refine⟨_,fun w=>by simp only[binOp,ne_eq,not_true_eq_false,if_false,Op.intArith,Op.intBits,Op.intCmp,Sem.run_pure];rfl,?_⟩
 all_goals first|exact .int _ _|exact .bool _
theorem pP{op:BinOp}{k k':IntKind}{a b:Int}{C:Prop}{mv:MV}(h:pO op k a b=some (C,mv))(hC:C)(t:TypeId) :
  ∃v,(∀w,(binOp op t (.int k a) (.int k' b)).run P w=.ok v w)∧Rel Φ v mv:=by
 cases op<;>simp only[pO,Option.some.injEq,Prod.mk.injEq,reduceCtorEq] at h<;>obtain⟨rfl,rfl⟩:=h <;>
  exact⟨_,fun w=>by simp[binOp,Op.shift,show ¬b<0 by omega],.int _ _⟩
theorem EU{op:BinOp}{x y:ByteArray}{C:Prop}{mv:MV}(h:qI op x y=some (C,mv))(hC:C)(t:TypeId) :
  ∃v,(∀w,(binOp op t (.string x) (.string y)).run P w=.ok v w)∧Rel Φ v mv:=by
 cases op<;>simp only[qI,Option.some.injEq,Prod.mk.injEq,reduceCtorEq] at h<;>obtain⟨rfl,rfl⟩:=h <;>
  first
  | exact⟨_,fun w=>by simp[binOp,Op.stringOp],.bool _⟩
  | exact⟨.string (x++y),fun w=>by
    have h2:¬((x.size+y.size:Nat):Int) > IntKind.i64.max:=by
     simp only[IntKind.max,IntKind.signed,IntKind.bits]
     have:=hC
     simp
     omega
    unfold binOp
    simp only[Op.stringOp,if_neg h2,Sem.run_pure],.str _⟩
theorem Fq{op:BinOp}{t:TypeId}{x y:Operand}{k k':IntKind}{a b:Int}(w:World):(eqGuard op t x y (.int k a) (.int k' b)).run P w=.ok () w:=by cases op<;>rfl
theorem Fu{op:BinOp}{t:TypeId}{x y:Operand}{a b:ByteArray}(w:World):(eqGuard op t x y (.string a) (.string b)).run P w=.ok () w:=by cases op<;>rfl
theorem Dt{op:BinOp}{t:TypeId}{x y:Operand}{a b:Bool}(w:World):(eqGuard op t x y (.bool a) (.bool b)).run P w=.ok () w:=by cases op<;>rfl
theorem kH{op:BinOp}{t:TypeId}{x y:Operand}{a b:Option Addr}(w:World):(eqGuard op t x y (.pointer a) (.pointer b)).run P w=.ok () w:=by cases op<;>rfl
theorem Un{t:TypeId}(h:(td P t).k.isBool=true):P.underlying t=some .bool:=uS (by
 cases hk:(td P t).k<;>simp[hk,TK.isBool] at h;rfl)
theorem Be{t:TypeId}(h:(td P t).k.tO=true):∃e,P.underlying t=some (.pointer e):=by
 cases hk:(td P t).k<;>simp[hk,TK.tO] at h
 exact⟨_,Uq hk⟩
theorem r9{op:BinOp}{t:TypeId}{x y:Operand}{a b:Option Addr}{n c n' c':Nat}(w:World):(eqGuard op t x y (.slice a n c) (.slice b n' c')).run P w=.ok () w:=by cases op<;>rfl
theorem US{t:TypeId}(h:(td P t).k.IV=true):∃e,P.underlying t=some (.slice e):=by
 cases hk:(td P t).k<;>simp[hk,TK.IV] at h
 exact⟨_,aW hk⟩
theorem sP{t e:TypeId}(h:P.underlying t=some (.slice e))(a:Option Addr)(n c:Nat)(w:World)(d:Nat):(Op.equalIn (d+1) t (.slice a n c) (.slice none 0 0)).run P w=.ok a.isNone w:=by
 cases a<;>simp only[Op.equalIn,Sem.run_bind,aK h,Result.andThen_ok,Sem.run_pure]<;>rfl
theorem nT{t e:TypeId}(h:P.underlying t=some (.slice e))(a:Option Addr)(n c:Nat)(w:World):(Op.equal t (.slice a n c) (.slice none 0 0)).run P w=.ok a.isNone w:=sP h a n c w 9999
theorem rI{t e:TypeId}(h:P.underlying t=some (.pointer e))(a:Option Addr)(w:World)(d:Nat):(Op.equalIn (d+1) t (.pointer a) (.pointer none)).run P w=.ok a.isNone w:=by
 cases a<;>simp only[Op.equalIn,Sem.run_bind,aK h,Result.andThen_ok,Sem.run_pure]<;>rfl
theorem rH{t e:TypeId}(h:P.underlying t=some (.pointer e))(a:Option Addr)(w:World)(d:Nat):(Op.equalIn (d+1) t (.pointer none) (.pointer a)).run P w=.ok a.isNone w:=by
 cases a<;>simp only[Op.equalIn,Sem.run_bind,aK h,Result.andThen_ok,Sem.run_pure]
theorem uH{t:TypeId}(h:P.underlying t=some .bool)(a b:Bool)(w:World)(d:Nat):(Op.equalIn (d+1) t (.bool a) (.bool b)).run P w=.ok (a==b) w:=by
 simp only[Op.equalIn,Sem.run_bind,aK h,Result.andThen_ok,Sem.run_pure]
theorem jF{t e:TypeId}(h:P.underlying t=some (.pointer e))(a:Option Addr)(w:World):(Op.equal t (.pointer a) (.pointer none)).run P w=.ok a.isNone w:=rI h a w 9999
theorem mV{t e:TypeId}(h:P.underlying t=some (.pointer e))(a:Option Addr)(w:World):(Op.equal t (.pointer none) (.pointer a)).run P w=.ok a.isNone w:=rH h a w 9999
theorem run_equal_bool{t:TypeId}(h:P.underlying t=some .bool)(a b:Bool)(w:World):(Op.equal t (.bool a) (.bool b)).run P w=.ok (a==b) w:=uH h a b w 9999
theorem IF{op:BinOp}{t:TypeId}{x y:Operand}{f:Fn}{a b:Array Value}(w:World):(eqGuard op t x y (.func f a b) .nilFunc).run P w=.ok () w:=by cases op<;>rfl
theorem Ft{op:BinOp}{t:TypeId}{x y:Operand}(w:World):(eqGuard op t x y .nilFunc .nilFunc).run P w=.ok () w:=by cases op<;>rfl
theorem UR{t:TypeId}(h:(td P t).k.IS=true):∃a b c,P.underlying t=some (.func a b c):=by
 have h:(td P t).k=.func:=by cases hk:(td P t).k<;>simp[hk,TK.IS] at h;rfl
 obtain⟨i,d,hi,hd,hs,hb,hk⟩:=cY (oT h (by simp))
 rw[hk] at h
 cases d<;>simp[uR] at h
 exact⟨_,_,_,hd⟩
theorem sO{t:TypeId}{a b c}(h:P.underlying t=some (.func a b c))(f:Fn)(x y:Array Value)(w:World)(d:Nat):(Op.equalIn (d+1) t (.func f x y) .nilFunc).run P w=.ok false w:=by
 simp only[Op.equalIn,Sem.run_bind,aK h,Result.andThen_ok,Sem.run_pure]
theorem run_equalIn_nil_nil{t:TypeId}{a b c}(h:P.underlying t=some (.func a b c))(w:World)(d:Nat):(Op.equalIn (d+1) t .nilFunc .nilFunc).run P w=.ok true w:=by
 simp only[Op.equalIn,Sem.run_bind,aK h,Result.andThen_ok,Sem.run_pure]
theorem wA{t:TypeId}{a b c}(h:P.underlying t=some (.func a b c))(f:Fn)(x y:Array Value)(w:World):(Op.equal t (.func f x y) .nilFunc).run P w=.ok false w:=sO h f x y w 9999
theorem run_equal_nil_nil{t:TypeId}{a b c}(h:P.underlying t=some (.func a b c))(w:World):(Op.equal t .nilFunc .nilFunc).run P w=.ok true w:=run_equalIn_nil_nil h w 9999
theorem Rel.v8{v:Value}{l i o:Nat}(h:Rel Φ v (.ptr l i o)):∃a,v=.pointer (some a):=by obtain⟨p,R,_,_,rfl⟩:=h.iZ;exact⟨_,rfl⟩
theorem Rel.r6{v:Value}{cs:List MV}(h:Rel Φ v (.cptr cs)):∃a,v=.pointer (some a):=by obtain⟨b,off,vs,rfl,_,_⟩:=h.nH;exact⟨_,rfl⟩
theorem fB{op:BinOp}{t:TypeId}{c:Prop}{b:Bool}{C:Prop}{mv:MV}{v1 v2:Value}(h:eqV op c b=some (C,mv))(hC:C)
 (hb:binOp .eql t v1 v2=(do pure (.bool (←Op.equal t v1 v2))))(hb':binOp .neq t v1 v2=(do pure (.bool (!(←Op.equal t v1 v2)))))(he:c→∀w,(Op.equal t v1 v2).run P w=.ok b w) :
  ∃v,(∀w,(binOp op t v1 v2).run P w=.ok v w)∧Rel Φ v mv:=by
 cases op<;>simp only[eqV,Option.some.injEq,Prod.mk.injEq,reduceCtorEq] at h<;>obtain⟨rfl,rfl⟩:=h
 ·exact⟨_,fun w=>by rw[hb];simp[he hC w],.bool _⟩
 ·exact⟨_,fun w=>by rw[hb'];simp[he hC w],.bool _⟩
theorem j6{α:Type}{l:List α}{i:Nat}{d:α}(h:i<l.length):l[i]?=some (l.getD i d):=by
 simp[List.getD,List.getElem?_eq_getElem h]
theorem jT{t:TypeId}(hok:(td P t).ok=true){cs:Array Value}{ms:List MV}{off:Nat}(hs:cs.size=ms.length)(hc:∀(i:Nat) m,ms[i]?=some m→m.aL=true)(hr:∀(i:Nat) m,ms[i]?=some m→Rel Φ (cs.getD i undef) m)
 (h1:off+(td P t).size≤ms.length)(h2:0<(td P t).size):∃v,(∀w,(part t cs off).run P w=.ok v w)∧Rel Φ v (eA (td P t) ms off):=by
 unfold eA
 cases hk:(td P t).k.isAgg with
 | true =>
  simp only[if_true]
  refine⟨.agg (cs.extract off (off+(td P t).size)),fun w=>by simp[part,sQ hok,hk,aO hok],.agg ?_ (fun i m hm=>?_) (fun i m hm=>?_)⟩
  ·simp only[Array.size_extract,List.length_take,List.length_drop];omega
  ·rw[List.getElem?_take] at hm
   split at hm
   ·exact hc _ m (by simpa using hm)
   ·cases hm
  ·rw[List.getElem?_take] at hm
   split at hm
   ·rename_i hi
    have:=hr (off+i) m (by simpa using hm)
    have e:(cs.extract off (off+(td P t).size)).getD i undef=cs.getD (off+i) undef:=by
     simp only[Array.getD_eq_getD_getElem?]
     congr 1
     rw[Array.getElem?_extract]
     rw[if_pos oM]
    rw[e]
    exact this
   ·cases hm
 | false =>
  have hlt:off<cs.size:=by omega
  refine⟨cs.getD off undef,fun w=>?_,?_⟩
  ·have:cs[off]?=some (cs.getD off undef):=by simp[Array.getD_eq_getD_getElem?,Array.getElem?_eq_getElem hlt]
   simp only[part,Sem.run_bind,sQ hok,hk,Result.andThen_ok,Bool.false_eq_true,if_false,this,Sem.run_pure]
  ·simp only[Bool.false_eq_true,if_false]
   exact hr off _ (j6 oM)
theorem yG{t:TypeId}{g:TypeId→MV→MV→Option Bool}{dd:Nat}(hg:∀t x y b,g t x y=some b→∀v1 v2,Rel Φ v1 x→Rel Φ v2 y→∀w,(Op.equalIn dd t v1 v2).run P w=.ok b w)
 {xs ys:List MV}{cx cy:Array Value}(hsx:cx.size=xs.length)(hcx:∀(i:Nat) m,xs[i]?=some m→m.aL=true)(hrx:∀(i:Nat) m,xs[i]?=some m→Rel Φ (cx.getD i undef) m)
 (hsy:cy.size=ys.length)(hcy:∀(i:Nat) m,ys[i]?=some m→m.aL=true)(hry:∀(i:Nat) m,ys[i]?=some m→Rel Φ (cy.getD i undef) m)(w:World) :
  ∀(fs:List Field) (b:Bool),(∀f,f∈fs→f.name ≠ "_")→cF P g xs ys (fs.map fun f=>(f.offset,f.type))=some b→(Op.eqFields dd cx cy fs).run P w=.ok b w:=by
 intro fs
 induction fs with
 | nil=>intro b _ h;simp[cF] at h;subst h;simp[Op.eqFields]
 | cons f r ih =>
  intro b hn h
  simp only[List.map_cons,cF] at h
  split at h
  ·rename_i hc
   obtain⟨hok,h1,h2,h3⟩:=hc
   split at h
   ·cases h
   ·rename_i b1 hb1
    simp only[Option.map_eq_some_iff] at h
    obtain⟨b2,hb2,rfl⟩:=h
    obtain⟨v1,hv1,r1⟩:=jT hok hsx hcx hrx h1 h3
    obtain⟨v2,hv2,r2⟩:=jT hok hsy hcy hry h2 h3
    have hn0:=hn f (by simp)
    simp only[Op.eqFields,ne_eq,hn0,not_false_eq_true,if_true,Sem.run_bind,hv1 w,hv2 w,Result.andThen_ok,hg _ _ _ _ hb1 v1 v2 r1 r2 w]
    cases b1
    ·simp
    ·simp only[Bool.not_true,Bool.false_eq_true,if_false,Bool.true_and]
     exact ih b2 (fun f hf=>hn f (by simp[hf])) hb2
  ·cases h
theorem Am{e:TypeId}(hok:(td P e).ok=true){g:TypeId→MV→MV→Option Bool}{dd:Nat}(hg:∀t x y b,g t x y=some b→∀v1 v2,Rel Φ v1 x→Rel Φ v2 y→∀w,(Op.equalIn dd t v1 v2).run P w=.ok b w)
 {xs ys:List MV}{cx cy:Array Value}(hsx:cx.size=xs.length)(hcx:∀(i:Nat) m,xs[i]?=some m→m.aL=true)(hrx:∀(i:Nat) m,xs[i]?=some m→Rel Φ (cx.getD i undef) m)
 (hsy:cy.size=ys.length)(hcy:∀(i:Nat) m,ys[i]?=some m→m.aL=true)(hry:∀(i:Nat) m,ys[i]?=some m→Rel Φ (cy.getD i undef) m)(w:World) :
  ∀(is:List Nat) (b:Bool),cF P g xs ys (is.map fun i=>(i * (td P e).size,e))=some b→(Op.eqItems dd e (td P e).size cx cy is).run P w=.ok b w:=by
 intro is
 induction is with
 | nil=>intro b h;simp[cF] at h;subst h;simp[Op.eqItems]
 | cons i r ih =>
  intro b h
  simp only[List.map_cons,cF] at h
  split at h
  ·rename_i hc
   obtain⟨hok,h1,h2,h3⟩:=hc
   split at h
   ·cases h
   ·rename_i b1 hb1
    simp only[Option.map_eq_some_iff] at h
    obtain⟨b2,hb2,rfl⟩:=h
    obtain⟨v1,hv1,r1⟩:=jT hok hsx hcx hrx h1 h3
    obtain⟨v2,hv2,r2⟩:=jT hok hsy hcy hry h2 h3
    simp only[Op.eqItems,Sem.run_bind,hv1 w,hv2 w,Result.andThen_ok,hg _ _ _ _ hb1 v1 v2 r1 r2 w]
    cases b1
    ·simp
    ·simp only[Bool.not_true,Bool.false_eq_true,if_false,Bool.true_and]
     exact ih b2 hb2
  ·cases h
theorem Jm:∀(d:Nat) (t:TypeId) (x y:MV) (b:Bool),kK P d t x y=some b→∀v1 v2,Rel Φ v1 x→Rel Φ v2 y→∀(D:Nat) w,(Op.equalIn (D+d) t v1 v2).run P w=.ok b w:=by
 intro d
 induction d with
 | zero=>intro t x y b h;simp[kK] at h
 | succ d ih =>
  intro t x y b h v1 v2 r1 r2 D w
  simp only[kK] at h
  split at h
  ·rename_i q k a k' c hk
   cases r1.aS;cases r2.aS
   split at h
   ·rename_i hkk;subst hkk;cases h
    rw[show D+(d+1)=(D+d)+1 from rfl]
    simp only[Op.equalIn,Sem.run_bind,aK (kC hk),Result.andThen_ok,if_true,Sem.run_pure]
    rfl
   ·cases h
  ·rename_i a c hk
   cases r1.lU;cases r2.lU;cases h
   rw[show D+(d+1)=(D+d)+1 from rfl]
   simp only[Op.equalIn,Sem.run_bind,aK (uS hk),Result.andThen_ok,Sem.run_pure]
  ·rename_i a c hk
   cases r1.fZ;cases r2.fZ;cases h
   rw[show D+(d+1)=(D+d)+1 from rfl]
   simp only[Op.equalIn,Sem.run_bind,aK (gY hk),Result.andThen_ok,Sem.run_pure]
   congr 1
   obtain⟨⟨p⟩⟩:=a
   obtain⟨⟨q⟩⟩:=c
   show((⟨p⟩:Array UInt8)==⟨q⟩)=_
   rw[Bool.eq_iff_iff]
   simp
  ·rename_i fs xs ys hk
   split at h
   ·rename_i hp
    obtain⟨cx,rfl,hsx,hcx,hrx⟩:=r1.j8
    obtain⟨cy,rfl,hsy,hcy,hry⟩:=r2.j8
    obtain⟨fa,hu,rfl⟩:=jW hk
    have hf:P.fieldsOf t=fa:=by simp[Program.fieldsOf,hu]
    simp only[eX,Bool.and_eq_true,Bool.not_eq_true',List.all_eq_true,bne_iff_ne] at hp
    rw[show D+(d+1)=(D+d)+1 from rfl,run_equalIn_struct w (D+d) t cx cy (by rw[hf];exact hu) hp.1.1,hf]
    refine yG (P:=P) (Φ:=Φ) (t:=t) (g:=kK P d) (dd:=D+d) (fun t x y b h v1 v2 r1 r2 w=>ih t x y b h v1 v2 r1 r2 D w) hsx hcx hrx hsy hcy hry w fa.toList b (fun f hf'=>hp.1.2 f (by rw[hf];exact hf')) h
   ·cases h
  ·rename_i n e xs ys hk
   split at h
   ·rename_i hok
    obtain⟨cx,rfl,hsx,hcx,hrx⟩:=r1.j8
    obtain⟨cy,rfl,hsy,hcy,hry⟩:=r2.j8
    obtain⟨i,q,hi,hq,hs,-,-⟩:=cY hok
    have hce:P.cellsOf e=(td P e).size:=by rw[hs];simp[Program.cellsOf,hi]
    rw[show D+(d+1)=(D+d)+1 from rfl,run_equalIn_array w (D+d) cx cy (gR hk) hi,hce]
    exact Am (P:=P) (Φ:=Φ) hok (g:=kK P d) (dd:=D+d) (fun t x y b h v1 v2 r1 r2 w=>ih t x y b h v1 v2 r1 r2 D w) hsx hcx hrx hsy hcy hry w _ b h
   ·cases h
  ·cases h
theorem Ja{t:TypeId}{op:BinOp}{x y:MV}{C:Prop}{mv:MV}(h:cH P t op x y=some (C,mv))(hC:C){v1 v2:Value}(r1:Rel Φ v1 x)(r2:Rel Φ v2 y)(o1 o2:Operand) :
  ∃v,(∀w,(eqGuard op t o1 o2 v1 v2).run P w=.ok () w∧(binOp op t v1 v2).run P w=.ok v w)∧Rel Φ v mv:=by
 unfold cH at h
 split at h
 ·rename_i k a k' b
  cases r1.aS;cases r2.aS
  have hg:∀w,(eqGuard op t o1 o2 (.int k a) (.int k' b)).run P w=.ok () w:=fun w=>Fq w
  split at h
  ·obtain⟨v,hv,hr⟩:=pP (P:=P) (Φ:=Φ) (k':=k') h hC t
   exact⟨v,fun w=>⟨hg w,hv w⟩,hr⟩
  ·obtain⟨v,hv,hr⟩:=pP (P:=P) (Φ:=Φ) (k':=k') h hC t
   exact⟨v,fun w=>⟨hg w,hv w⟩,hr⟩
  ·split at h
   ·rename_i hk
    subst hk
    obtain⟨v,hv,hr⟩:=DH (P:=P) (Φ:=Φ) h hC t
    exact⟨v,fun w=>⟨hg w,hv w⟩,hr⟩
   ·cases h
 ·cases r1.fZ;cases r2.fZ
  obtain⟨v,hv,hr⟩:=EU (P:=P) (Φ:=Φ) h hC t
  exact⟨v,fun w=>⟨Fu w,hv w⟩,hr⟩
 ·cases r1.lU;cases r2.lU
  obtain⟨v,hv,hr⟩:=fB (P:=P) (Φ:=Φ) (t:=t) h hC rfl rfl (fun hc w=>run_equal_bool (Un hc) _ _ w)
  exact⟨v,fun w=>⟨Dt w,hv w⟩,hr⟩
 ·cases r1.nJ;cases r2.nJ
  obtain⟨v,hv,hr⟩:=fB (P:=P) (Φ:=Φ) (t:=t) (v1:=.pointer none) (v2:=.pointer none) h hC rfl rfl (fun hc w=>by obtain⟨e,he⟩:=Be hc;exact jF he none w)
  exact⟨v,fun w=>⟨kH w,hv w⟩,hr⟩
 ·obtain⟨ad,rfl⟩:=r1.v8;cases r2.nJ
  obtain⟨v,hv,hr⟩:=fB (P:=P) (Φ:=Φ) (t:=t) (v1:=.pointer (some ad)) (v2:=.pointer none) h hC rfl rfl (fun hc w=>by obtain⟨e,he⟩:=Be hc;exact jF he (some ad) w)
  exact⟨v,fun w=>⟨kH w,hv w⟩,hr⟩
 ·obtain⟨ad,rfl⟩:=r2.v8;cases r1.nJ
  obtain⟨v,hv,hr⟩:=fB (P:=P) (Φ:=Φ) (t:=t) (v1:=.pointer none) (v2:=.pointer (some ad)) h hC rfl rfl (fun hc w=>by obtain⟨e,he⟩:=Be hc;exact mV he (some ad) w)
  exact⟨v,fun w=>⟨kH w,hv w⟩,hr⟩
 ·obtain⟨ad,rfl⟩:=r1.r6;cases r2.nJ
  obtain⟨v,hv,hr⟩:=fB (P:=P) (Φ:=Φ) (t:=t) (v1:=.pointer (some ad)) (v2:=.pointer none) h hC rfl rfl (fun hc w=>by obtain⟨e,he⟩:=Be hc;exact jF he (some ad) w)
  exact⟨v,fun w=>⟨kH w,hv w⟩,hr⟩
 ·obtain⟨ad,rfl⟩:=r2.r6;cases r1.nJ
  obtain⟨v,hv,hr⟩:=fB (P:=P) (Φ:=Φ) (t:=t) (v1:=.pointer none) (v2:=.pointer (some ad)) h hC rfl rfl (fun hc w=>by obtain⟨e,he⟩:=Be hc;exact mV he (some ad) w)
  exact⟨v,fun w=>⟨kH w,hv w⟩,hr⟩
 ·rename_i xs ys
  split at h
  ·rename_i b hb
   obtain⟨cx,rfl,-⟩:=r1.j8
   obtain⟨cy,rfl,-⟩:=r2.j8
   obtain⟨v,hv,hr⟩:=fB (P:=P) (Φ:=Φ) (t:=t) (v1:=.agg cx) (v2:=.agg cy) h hC rfl rfl (fun _ w=>Jm 6 t _ _ b hb _ _ r1 r2 9994 w)
   have hp:eX P t=true:=by
    cases op<;>simp only[eqV,Option.some.injEq,Prod.mk.injEq,reduceCtorEq] at h<;>obtain⟨rfl,-⟩:=h<;>exact hC
   have hgt:P.eqGuardType P.depth t=false:=by
    simp only[eX,Bool.and_eq_true,Bool.not_eq_true'] at hp
    exact hp.2
   refine⟨v,fun w=>⟨?_,hv w⟩,hr⟩
   unfold eqGuard
   cases op<;>simp[run_program,hgt]
  ·cases h
 ·cases r1.fP;cases r2.fP
  obtain⟨v,hv,hr⟩:=fB (P:=P) (Φ:=Φ) (t:=t) (v1:=.slice none 0 0) (v2:=.slice none 0 0) h hC rfl rfl (fun hc w=>by obtain⟨e,he⟩:=US hc;exact nT he none 0 0 w)
  exact⟨v,fun w=>⟨r9 w,hv w⟩,hr⟩
 ·obtain⟨a,cap,rfl,-,-,-,-,hx⟩:=r1.lB
  obtain⟨b,off,rfl,-⟩:=hx (Nat.succ_pos _)
  cases r2.fP
  obtain⟨v,hv,hr⟩:=fB (P:=P) (Φ:=Φ) (t:=t) (v1:=.slice (some ⟨b,off,none⟩) (_+1) cap) (v2:=.slice none 0 0) h hC rfl rfl (fun hc w=>by obtain⟨e,he⟩:=US hc;exact nT he (some ⟨b,off,none⟩) _ cap w)
  exact⟨v,fun w=>⟨r9 w,hv w⟩,hr⟩
 ·cases r1.vM;cases r2.vM
  obtain⟨v,hv,hr⟩:=fB (P:=P) (Φ:=Φ) (t:=t) (v1:=.nilFunc) (v2:=.nilFunc) h hC rfl rfl (fun hc w=>by obtain⟨a,b,c,he⟩:=UR hc;exact run_equal_nil_nil he w)
  exact⟨v,fun w=>⟨Ft w,hv w⟩,hr⟩
 ·rename_i fn0 _ _
  obtain⟨x,y,rfl,-⟩:=r1.sC;cases r2.vM
  obtain⟨v,hv,hr⟩:=fB (P:=P) (Φ:=Φ) (t:=t) (v1:=.func fn0 x y) (v2:=.nilFunc) h hC rfl rfl (fun hc w=>by obtain⟨a,b,c,he⟩:=UR hc;exact wA he fn0 x y w)
  exact⟨v,fun w=>⟨IF w,hv w⟩,hr⟩
 ·cases h
theorem NS{op:UnOp}{x:MV}{C:Prop}{mv:MV}(h:mun op x=some (C,mv)){v1:Value}(r1:Rel Φ v1 x) :
  ∃v,(∀w,(Op.unary op v1).run P w=.ok v w)∧Rel Φ v mv:=by
 unfold mun at h
 split at h
 ·simp only[Option.some.injEq,Prod.mk.injEq] at h;obtain⟨_,rfl⟩:=h;cases r1.aS
  exact⟨_,fun w=>by simp[Op.unary,Op.intArith],.int _ _⟩
 ·simp only[Option.some.injEq,Prod.mk.injEq] at h;obtain⟨_,rfl⟩:=h;cases r1.aS
  exact⟨_,fun w=>by simp only[Op.unary,Op.intBits,Sem.run_pure];rfl,.int _ _⟩
 ·simp only[Option.some.injEq,Prod.mk.injEq] at h;obtain⟨_,rfl⟩:=h;cases r1.lU
  exact⟨_,fun w=>by simp[Op.unary],.bool _⟩
 ·cases h
theorem Gg{s d:TypeId}{x:MV}{C:Prop}{mv:MV}(h:tQ P s d x=some (C,mv)){v1:Value}(r1:Rel Φ v1 x) :
  ∃v,(∀w,(convert s d v1).run P w=.ok v w)∧Rel Φ v mv:=by
 unfold tQ at h
 split at h
 ·rename_i hk hs
  simp only[Option.some.injEq,Prod.mk.injEq] at h;obtain⟨_,rfl⟩:=h;cases r1.aS
  obtain⟨i,d',hi,hd,_⟩:=cY hs
  exact⟨_,fun w=>by simp[convert,aK hd,aK (kC hk),Conv.intToInt],.int _ _⟩
 ·rename_i hk hs
  simp only[Option.some.injEq,Prod.mk.injEq] at h;obtain⟨_,rfl⟩:=h;cases r1.fZ
  obtain⟨i,d',hi,hd,_⟩:=cY hs
  exact⟨_,fun w=>by simp[convert,aK hd,aK (gY hk)],.str _⟩
 ·cases h
theorem dT(a:Addr)(w:World):(Instr.sureAddr (.pointer (some a))).run P w=.ok a w:=rfl
theorem vT{t:TypeId}{x:MV}{i:Nat}{C:Prop}{mv:MV}(h:fL P t x i=some (C,mv))(hC:C){v1:Value}(r1:Rel Φ v1 x) :
  ∃v,(∀w,(Instr.fieldAt t v1 i).run P w=.ok v w)∧Rel Φ v mv:=by
 unfold fL at h
 split at h
 ·rename_i fs hk
  obtain⟨fa,hu,rfl⟩:=jW hk
  split at h
  ·rename_i off ft l j o hf
   simp only[Option.some.injEq,Prod.mk.injEq] at h;obtain⟨rfl,rfl⟩:=h
   obtain⟨hok,hsz⟩:=hC
   obtain⟨p,R,ho,hb,rfl⟩:=r1.iZ
   simp only[List.getElem?_map,Array.getElem?_toList,Option.map_eq_some_iff] at hf
   obtain⟨fd,hfd,he⟩:=hf
   obtain⟨rfl,rfl⟩:=Prod.mk.injEq .. ▸ he
   refine⟨.pointer (some ⟨R,p.bo+j * p.e+(o+fd.offset),none⟩),fun w=>?_,.ptr ho hb⟩
   simp only[Instr.fieldAt,Sem.run_bind,aK hu,Result.andThen_ok,hfd,dT,fieldPlace,aO hok,Sem.run_ite,if_neg hsz,Sem.run_pure,dU]
   rw[Nat.add_assoc]
  ·rename_i off ft cs hf
   simp only[Option.some.injEq,Prod.mk.injEq] at h;obtain⟨rfl,rfl⟩:=h
   obtain⟨hok,hsz⟩:=hC
   obtain⟨b,o,vs,rfl,hc,hr⟩:=r1.nH
   simp only[List.getElem?_map,Array.getElem?_toList,Option.map_eq_some_iff] at hf
   obtain⟨fd,hfd,he⟩:=hf
   obtain⟨rfl,rfl⟩:=Prod.mk.injEq .. ▸ he
   refine⟨.pointer (some ⟨b,o+fd.offset,none⟩),fun w=>?_,.cptr (fun q=>vs (fd.offset+q)) (fun q m hm=>?_) (fun q m hm=>hr _ m (by simpa using hm))⟩
   ·simp only[Instr.fieldAt,Sem.run_bind,aK hu,Result.andThen_ok,hfd,dT,fieldPlace,aO hok,Sem.run_ite,if_neg hsz,Sem.run_pure,dU]
   ·have:=hc (fd.offset+q) m (by simpa using hm)
    rw[Nat.add_assoc]
    exact this
  ·cases h
 ·cases h
theorem fH(k:IntKind)(n:Int)(w:World):(asIntOf (.int k n)).run P w=.ok (k,n) w:=rfl
theorem vU{t:TypeId}{x i:MV}{C:Prop}{mv:MV}(h:lX P t x i=some (C,mv))(hC:C){v1 v2:Value}(r1:Rel Φ v1 x)(r2:Rel Φ v2 i) :
  ∃v,(∀w,(Instr.indexAt t v1 v2).run P w=.ok v w)∧Rel Φ v mv:=by
 unfold lX at h
 split at h
 ·rename_i el e xs tt k n hk
  simp only[Option.some.injEq,Prod.mk.injEq] at h;obtain⟨rfl,rfl⟩:=h
  obtain⟨hok,hsz,h0,h1⟩:=hC
  cases r2.aS
  obtain⟨a,cap,rfl,_,_,_,_,hat⟩:=r1.lB
  obtain⟨b,off,rfl,hx,vs,hv⟩:=hat oM
  have hi:xs[n.toNat]?=some (xs.getD n.toNat []):=j6 oM
  refine⟨.pointer (some ⟨b,off+n.toNat * e,none⟩),fun w=>?_,.cptr (vs n.toNat) (fun j m hm=>?_) (fun j m hm=>(hv n.toNat _ j m hi hm).2.2)⟩
  ·simp only[Instr.indexAt,Sem.run_bind,fH,Result.andThen_ok,aK (aW hk),Sem.run_pure,Sem.run_ite,if_pos (show 0≤n∧n<(xs.length:Int) from⟨h0,h1⟩),aO hok,hsz,dU]
  ·have:=hv n.toNat _ j m hi hm
   rw[Nat.add_assoc]
   exact⟨this.1,this.2.1⟩
 ·rename_i el e l lo kk k n hk
  simp only[Option.some.injEq,Prod.mk.injEq] at h;obtain⟨rfl,rfl⟩:=h
  obtain⟨hok,hsz,h0,h1⟩:=hC
  cases r2.aS
  obtain⟨a,cap,p,rfl,ho,rfl,hcap,hn,hR⟩:=r1.dR
  rcases hR with⟨R,hb,rfl⟩|hR
  ·refine⟨.pointer (some ⟨R,p.bo+(lo+n.toNat) * p.e+0,none⟩),fun w=>?_,.ptr ho hb⟩
   simp only[Instr.indexAt,Sem.run_bind,fH,Result.andThen_ok,aK (aW hk),Sem.run_pure,Sem.run_ite,if_pos (show 0≤n∧n<(kk:Int) from⟨h0,h1⟩),aO hok,hsz,dU]
   rw[Nat.add_mul,Nat.add_zero,Nat.add_assoc]
  ·omega
 ·rename_i len el l j o k n hk
  simp only[Option.some.injEq,Prod.mk.injEq] at h;obtain⟨rfl,rfl⟩:=h
  obtain⟨hok,h0,h1⟩:=hC
  cases r2.aS
  obtain⟨p,R,ho,hb,rfl⟩:=r1.iZ
  refine⟨.pointer (some ⟨R,p.bo+j * p.e+(o+n.toNat * (td P el).size),none⟩),fun w=>?_,.ptr ho hb⟩
  simp only[Instr.indexAt,Sem.run_bind,fH,Result.andThen_ok,aK (gR hk),dT,Sem.run_pure,Sem.run_ite,if_pos (show 0≤n∧n<(len:Int) from⟨h0,h1⟩),aO hok,dU]
  rw[Nat.add_assoc]
 ·rename_i len el cs k n hk
  simp only[Option.some.injEq,Prod.mk.injEq] at h;obtain⟨rfl,rfl⟩:=h
  obtain⟨hok,h0,h1⟩:=hC
  cases r2.aS
  obtain⟨b,off,vs,rfl,hc,hr⟩:=r1.nH
  refine⟨.pointer (some ⟨b,off+n.toNat * (td P el).size,none⟩),fun w=>?_,.cptr (fun q=>vs (n.toNat * (td P el).size+q)) (fun q m hm=>?_) (fun q m hm=>hr _ m (by simpa using hm))⟩
  ·simp only[Instr.indexAt,Sem.run_bind,fH,Result.andThen_ok,aK (gR hk),dT,Sem.run_pure,Sem.run_ite,if_pos (show 0≤n∧n<(len:Int) from⟨h0,h1⟩),aO hok,dU]
  ·have:=hc (n.toNat * (td P el).size+q) m (by simpa using hm)
   rw[Nat.add_assoc]
   exact this
 ·cases h
theorem DX{t:TypeId}{x:MV}{i:Nat}{C:Prop}{mv:MV}(h:DW P t x i=some (C,mv))(hC:C){v1:Value}(r1:Rel Φ v1 x) :
  ∃v,(∀w,(Instr.field t v1 i).run P w=.ok v w)∧Rel Φ v mv:=by
 unfold DW at h
 split at h
 ·rename_i fs hk
  obtain⟨fa,hu,rfl⟩:=jW hk
  split at h
  ·rename_i off ft cs hf
   simp only[Option.some.injEq,Prod.mk.injEq] at h;obtain⟨rfl,rfl⟩:=h
   obtain⟨hok,h1,h2⟩:=hC
   obtain⟨cv,rfl,hs,hc,hr⟩:=r1.j8
   simp only[List.getElem?_map,Array.getElem?_toList,Option.map_eq_some_iff] at hf
   obtain⟨fd,hfd,he⟩:=hf
   obtain⟨rfl,rfl⟩:=Prod.mk.injEq .. ▸ he
   obtain⟨v,hv,hrel⟩:=jT hok hs hc hr h1 h2
   exact⟨v,fun w=>by simp only[Instr.field,Sem.run_bind,aK hu,Result.andThen_ok,hfd,asAgg,Sem.run_pure,hv w],hrel⟩
  ·cases h
 ·cases h
theorem sW(s:ByteArray)(n:Nat):s[n]?=s.toList[n]?:=by
 rw[ByteArray.toList_eq]
 obtain⟨⟨l⟩⟩:=s
 simp[getElem?_def]
 rfl
theorem DY{t:TypeId}{x i:MV}{C:Prop}{mv:MV}(h:An P t x i=some (C,mv))(hC:C){v1 v2:Value}(r1:Rel Φ v1 x)(r2:Rel Φ v2 i) :
  ∃v,(∀w,(Instr.index t v1 v2).run P w=.ok v w)∧Rel Φ v mv:=by
 unfold An at h
 split at h
 ·rename_i s k n hk
  simp only[Option.some.injEq,Prod.mk.injEq] at h;obtain⟨rfl,rfl⟩:=h
  cases r1.fZ;cases r2.aS
  obtain⟨h0,h1⟩:=hC
  have hb:s[n.toNat]?=some (s.toList.getD n.toNat 0):=by
   rw[sW]
   refine j6 ?_
   rw[ByteArray.toList_eq]
   have:s.data.toList.length=s.size:=by rw[Array.length_toList];rfl
   omega
  refine⟨_,fun w=>?_,.int _ _⟩
  simp only[Instr.index,Sem.run_bind,fH,Result.andThen_ok,aK (gY hk),if_pos h0,hb,Sem.run_pure]
 ·rename_i len el cs k n hk
  simp only[Option.some.injEq,Prod.mk.injEq] at h;obtain⟨rfl,rfl⟩:=h
  obtain⟨hok,h0,h1,h2,h3⟩:=hC
  cases r2.aS
  obtain⟨cv,rfl,hs,hc,hr⟩:=r1.j8
  obtain⟨v,hv,hrel⟩:=jT (off:=n.toNat * (td P el).size) hok hs hc hr (by
   have:n.toNat+1≤len:=by omega
   have:=Nat.mul_le_mul_right (td P el).size this
   rw[Nat.add_mul,Nat.one_mul,Nat.mul_comm len] at this
   omega) h3
  exact⟨v,fun w=>by simp only[Instr.index,Sem.run_bind,fH,Result.andThen_ok,aK (gR hk),Sem.run_ite,if_pos (show 0≤n∧n<(len:Int) from⟨h0,h1⟩),aO hok,hv w],hrel⟩
 ·cases h
theorem Js{t:TypeId}{x:MV}{C:Prop}{mv:MV}(h:Qy P t x=some (C,mv))(hC:C){v1:Value}(r1:Rel Φ v1 x)(ts:Array TypeId)(hts:ts.size=1)(ht:ts.getD 0 0=t)(ty:TypeId) :
  ∃v,(∀w,(Builtin.len_ ts ty #[v1]).run P w=.ok v w)∧Rel Φ v mv:=by
 have hts0:ts[0]?=some t:=by
  rw[←ht,Array.getD_eq_getD_getElem?,Array.getElem?_eq_getElem oM];simp
 unfold Qy at h
 split at h
 ·simp only[Option.some.injEq,Prod.mk.injEq] at h;obtain⟨rfl,rfl⟩:=h;cases r1.fZ
  exact⟨_,fun w=>by simp[Builtin.len_,hts0,aK (gY hC),goInt],.int _ _⟩
 ·split at h<;>simp only[Option.some.injEq,Prod.mk.injEq,reduceCtorEq] at h
  obtain⟨rfl,rfl⟩:=h
  obtain⟨a,cap,rfl,_⟩:=r1.lB
  exact⟨_,fun w=>by simp[Builtin.len_,hts0,aK (aW (by assumption)),goInt],.int _ _⟩
 ·split at h<;>simp only[Option.some.injEq,Prod.mk.injEq,reduceCtorEq] at h
  obtain⟨rfl,rfl⟩:=h
  obtain⟨a,cap,p,rfl,_⟩:=r1.dR
  exact⟨_,fun w=>by simp[Builtin.len_,hts0,aK (aW (by assumption)),goInt],.int _ _⟩
 ·split at h<;>simp only[Option.some.injEq,Prod.mk.injEq,reduceCtorEq] at h
  obtain⟨rfl,rfl⟩:=h
  cases r1.fP
  exact⟨_,fun w=>by simp[Builtin.len_,hts0,aK (aW (by assumption)),goInt],.int _ _⟩
 ·split at h<;>simp only[Option.some.injEq,Prod.mk.injEq,reduceCtorEq] at h
  obtain⟨rfl,rfl⟩:=h
  cases r1.PM
  exact⟨_,fun w=>by simp[Builtin.len_,hts0,aK (rE (by assumption)),goInt],.int _ _⟩
 ·cases h
theorem Jc{t:TypeId}{x:MV}{C:Prop}{mv:MV}(h:TH P t x=some (C,mv)){v1:Value}(r1:Rel Φ v1 x)(ts:Array TypeId)(hts:ts.size=1)(ht:ts.getD 0 0=t)(ty:TypeId) :
  ∃v,(∀w,(Builtin.cap_ ts ty #[v1]).run P w=.ok v w)∧Rel Φ v mv:=by
 have hts0:ts[0]?=some t:=by
  rw[←ht,Array.getD_eq_getD_getElem?,Array.getElem?_eq_getElem oM];simp
 unfold TH at h
 split at h
 ·split at h<;>simp only[Option.some.injEq,Prod.mk.injEq,reduceCtorEq] at h
  obtain⟨rfl,rfl⟩:=h
  cases r1.fP
  exact⟨_,fun w=>by simp[Builtin.cap_,hts0,aK (aW (by assumption)),goInt],.int _ _⟩
 ·cases h
end
end

section
section
variable {P:Program} {Φ:Phi}
def kE(Φ:Phi)(cs:Array Value)(ms:List MV):Prop :=
 cs.size=ms.length∧(∀(i:Nat) m,ms[i]?=some m→m.aL=true)∧∀(i:Nat) m,ms[i]?=some m→Rel Φ (cs.getD i undef) m
theorem kE.agg{cs:Array Value}{ms:List MV}(h:kE Φ cs ms):Rel Φ (.agg cs) (.agg ms):=.agg h.1 h.2.1 h.2.2
theorem BE{v:Value}(h:v.oneCell'=true):v.cells=#[v]:=by cases v<;>first|rfl|simp[Value.oneCell'] at h
theorem Il{m:MV}(h:m.aL=true):m.cells=[m]:=by cases m<;>first|rfl|simp[MV.aL] at h
theorem rB{v:Value}{m:MV}(r:Rel Φ v m)(hc:∀c,c∈m.cells→c.aL=true):kE Φ v.cells m.cells:=by
 by_cases hm:m.aL=true
 ·rw[BE (r.Lx hm),Il hm]
  exact⟨rfl,fun i x hx=>by cases i<;>simp at hx;exact hx ▸ hm,fun i x hx=>by cases i<;>simp at hx;subst hx;exact r⟩
 ·cases m<;>simp[MV.aL] at hm
  ·have:=hc .junk (by simp[MV.cells]);simp[MV.aL] at this
  ·obtain⟨cs,rfl,h1,h2,h3⟩:=r.j8
   exact⟨h1,h2,h3⟩
  ·rename_i vs;have:=hc (.tup vs) (by simp[MV.cells]);simp[MV.aL] at this
theorem mem_of_getElem?{α:Type}{l:List α}{i:Nat}{a:α}(h:l[i]?=some a):a∈l:=List.mem_of_getElem? h
def b7(cs:Array Value)(off:Nat):List Value→Array Value
 | []=>cs
 | c::r=>b7 (cs.setIfInBounds off c) (off+1) r
theorem cM(l:List Value):∀(cs:Array Value) (off:Nat),(b7 cs off l).size=cs.size:=by
 induction l with
 | nil=>intro cs off;rfl
 | cons c r ih=>intro cs off;simp[b7,ih]
theorem x9(l:List Value):∀(cs:Array Value) (off i:Nat) (d:Value),off+l.length≤cs.size →
  (b7 cs off l).getD i d=if off≤i∧i<off+l.length then l.getD (i - off) d else cs.getD i d:=by
 induction l with
 | nil=>intro cs off i d _;simp[b7];omega
 | cons c r ih =>
  intro cs off i d h
  simp only[List.length_cons] at h
  rw[b7,ih _ _ _ _ (by simp;omega)]
  by_cases h1:off+1≤i∧i<off+1+r.length
  ·rw[if_pos h1,if_pos (by simp;omega)]
   obtain⟨k,rfl⟩:∃k,i=off+1+k:=⟨i - (off+1),by omega⟩
   rw[show off+1+k - (off+1)=k from by omega,show off+1+k - off=k+1 from by omega]
   rfl
  ·rw[if_neg h1]
   by_cases h2:i=off
   ·subst h2
    rw[if_pos (by simp)]
    simp[Array.getD_eq_getD_getElem?,Array.getElem?_setIfInBounds,show i<cs.size by omega]
   ·rw[if_neg (by simp;omega)]
    simp[Array.getD_eq_getD_getElem?,Array.getElem?_setIfInBounds,Ne.symm h2]
theorem tI(l:List Value):∀(k:Nat) (cs:Array Value) (off:Nat),
  (l.zipIdx k).foldl (fun cs (p:Value × Nat)=>cs.setIfInBounds (off+p.2) p.1) cs=b7 cs (off+k) l:=by
 induction l with
 | nil=>intro k cs off;rfl
 | cons c r ih=>intro k cs off;simp only[List.zipIdx_cons,List.foldl_cons,b7];rw[ih];rfl
theorem kE.b7{cs new:Array Value}{ms nms:List MV}{off:Nat}(h:kE Φ cs ms)(hn:kE Φ new nms)(hfit:off+nms.length≤ms.length) :
  kE Φ (b7 cs off new.toList) (laid ms off nms):=by
 have hlen:(laid ms off nms).length=ms.length:=by simp[laid];omega
 have hnl:new.toList.length=nms.length:=by simpa using hn.1
 have hget:∀i,(laid ms off nms)[i]?=if off≤i∧i<off+nms.length then nms[i - off]? else ms[i]?:=by
  intro i
  unfold laid
  by_cases h1:i<off
  ·rw[if_neg oM,List.append_assoc,List.getElem?_append_left (by simp;omega),List.getElem?_take,if_pos h1]
  ·by_cases h2:i<off+nms.length
   ·rw[if_pos oM,List.append_assoc,List.getElem?_append_right (by simp;omega),List.getElem?_append_left (by simp;omega)]
    simp[show min off ms.length=off by omega]
   ·rw[if_neg oM,List.getElem?_append_right (by simp;omega),List.getElem?_drop]
    congr 1
    simp
    omega
 refine⟨by rw[cM,h.1,hlen],fun i m hm=>?_,fun i m hm=>?_⟩
 ·rw[hget] at hm
  split at hm
  ·exact hn.2.1 _ m hm
  ·exact h.2.1 _ m hm
 ·rw[hget] at hm
  rw[x9 _ _ _ _ _ (by rw[hnl,h.1];exact hfit),hnl]
  split at hm
  ·rename_i hc
   rw[if_pos hc]
   have:=hn.2.2 _ m hm
   simpa[Array.getD_eq_getD_getElem?,List.getD] using this
  ·rename_i hc
   rw[if_neg hc]
   exact h.2.2 _ m hm
theorem zW{f:FR}{a:Act}(hr:dD Φ a.tmps f)(place:Nat→Option (Nat × TypeId))(pl:Nat→Option (Nat × Nat))
 (hpl:∀i off t,place i=some (off,t)→(td P t).ok=true→pl i=some (off,(td P t).size)) :
  ∀(parts:List (Nat × Operand)) (cs:Array Value) (ms:List MV) (C:Prop) (r:List MV),kE Φ cs ms→eZ P f place parts ms=some (C,r)→C →
   ∃cs',Instr.fill pl cs (parts.map fun p=>(p.1,a.eval p.2))=some cs'∧kE Φ cs' r:=by
 intro parts
 induction parts with
 | nil =>
  intro cs ms C r h hb hC
  simp only[eZ,Option.some.injEq,Prod.mk.injEq] at hb
  obtain⟨_,rfl⟩:=hb
  exact⟨cs,rfl,h⟩
 | cons p rest ih =>
  obtain⟨i,x⟩:=p
  intro cs ms C r h hb hC
  simp only[eZ] at hb
  cases hp:place i with
  | none=>simp[hp] at hb
  | some q =>
   obtain⟨off,ft⟩:=q
   simp only[hp] at hb
   cases hb2:eZ P f place rest (laid ms off (aE f x).cells) with
   | none=>simp[hb2] at hb
   | some q =>
    obtain⟨C2,r2⟩:=q
    simp only[hb2,Option.some.injEq,Prod.mk.injEq] at hb
    obtain⟨rfl,rfl⟩:=hb
    obtain⟨⟨hok,hlen,hcell,hfit⟩,hC2⟩:=hC
    have rc:=rB (aI hr x) hcell
    obtain⟨cs',h1,h2⟩:=ih _ _ C2 r2 (h.b7 rc hfit) hb2 hC2
    refine⟨cs',?_,h2⟩
    simp only[List.map_cons,Instr.fill,hpl i off ft hp hok]
    have e1:(a.eval x).cells.size=(td P ft).size:=rc.1.trans hlen
    rw[if_neg (by
     have e2:=rc.1
     have e3:=h.1
     simp only[e1,ne_eq,not_true_eq_false,decide_false,Bool.false_or,decide_eq_true_eq]
     omega)]
    rw[←h1]
    congr 1
    rw[←Array.foldl_toList,Array.toList_zipIdx]
    exact tI _ 0 _ _
theorem jY{t:TypeId}{z:Value}(h1:z.cells.toList.map ofV=(td P t).zero)(h2:∀v,v∈z.cells.toList→(ofV v).aL=true):kE Φ z.cells (td P t).zero:=by
 refine⟨by rw[←h1];simp,fun i m hm=>?_,fun i m hm=>?_⟩
 ·rw[←h1,List.getElem?_map] at hm
  simp only[Option.map_eq_some_iff] at hm
  obtain⟨v,hv,rfl⟩:=hm
  exact h2 v (List.mem_of_getElem? hv)
 ·rw[←h1,List.getElem?_map] at hm
  simp only[Option.map_eq_some_iff] at hm
  obtain⟨v,hv,rfl⟩:=hm
  have:z.cells.getD i undef=v:=by
   rw[Array.getElem?_toList] at hv
   simp[Array.getD_eq_getD_getElem?,hv]
  rw[this]
  exact uE Φ v
theorem run_places(fs:List Field)(h:(fs.all fun x=>(td P x.type).ok)=true)(w:World) :
  (fs.mapM (m:=Sem) fun f=>do pure (f.offset,←sizeOf f.type)).run P w=.ok (fs.map fun f=>(f.offset,(td P f.type).size)) w:=by
 induction fs with
 | nil=>simp
 | cons f fs ih =>
  simp only[List.all_cons,Bool.and_eq_true] at h
  simp only[List.mapM_cons,Sem.run_bind,aO h.1,Result.andThen_ok,Sem.run_pure,ih h.2,List.map_cons]
theorem DS{f:FR}{a:Act}(hr:dD Φ a.tmps f){t:TypeId}{parts:Array (Nat × Operand)}{C:Prop}{mv:MV}(h:pS P f t parts=some (C,mv))(hC:C) :
  ∃v,(∀w,(Instr.build t (parts.map fun p=>(p.1,a.eval p.2))).run P w=.ok v w)∧Rel Φ v mv:=by
 unfold pS at h
 split at h
 ·rename_i fs hk
  obtain⟨fa,hu,rfl⟩:=jW hk
  split at h
  ·rename_i C2 cs hb
   simp only[Option.some.injEq,Prod.mk.injEq] at h;obtain⟨rfl,rfl⟩:=h
   obtain⟨hz,hall,hC2⟩:=hC
   obtain⟨z,hzr,hz1,hz2,hok,hz3,_⟩:=dH (P:=P) hz default
   have hz':∀w,(zeroValue t).run P w=.ok z w:=fun w=>by
    obtain⟨z',h',_⟩:=dH (P:=P) hz w
    have:z'=z:=by
     simp only[zeroValue,typeInfo,Sem.run_bind,run_program,Result.andThen_ok] at hzr h'
     obtain⟨i,d,hi,_⟩:=cY hok
     simp only[hi,Sem.run_pure,Result.andThen_ok] at hzr h'
     cases hzz:i.zero with
     | none=>simp[hzz] at hzr
     | some y=>simp[hzz] at hzr h';rw[←hzr,←h']
    rw[h',this]
   obtain⟨cs',hf,hrel⟩:=zW (P:=P) hr _ (fun i=>(fa.toList.map fun f=>(f.offset,(td P f.type).size))[i]?) (fun i off ft hp hokf=>by
    simp only[List.getElem?_map,Array.getElem?_toList,Option.map_eq_some_iff] at hp ⊢
    obtain⟨fd,hfd,he⟩:=hp
    obtain⟨rfl,rfl⟩:=Prod.mk.injEq .. ▸ he
    exact⟨fd,hfd,rfl⟩) parts.toList z.cells _ _ _ (jY hz1 hz3) hb hC2
   refine⟨.agg cs',fun w=>?_,hrel.agg⟩
   simp only[Instr.build,Sem.run_bind,hz',Result.andThen_ok,aK hu]
   have hm:=run_places (P:=P) fa.toList (by simpa using hall) w
   rw[←Array.toList_mapM] at hm
   simp only[Sem.run_map] at hm
   generalize hg:(Array.mapM (m:=Sem) (fun f=>do pure (f.offset,←sizeOf f.type)) fa).run P w=res at hm ⊢
   cases res with
   | halt x w'=>simp at hm
   | ok places w' =>
    simp only[Result.andThen_ok,Result.ok.injEq] at hm ⊢
    obtain⟨hm,rfl⟩:=hm
    have e:(fun(x:Nat)=>places[x]?)=fun(i:Nat)=>(fa.toList.map fun f=>(f.offset,(td P f.type).size))[i]?:=by
     funext i
     rw[←hm,Array.getElem?_toList]
    rw[Array.toList_map,e,hf]
    rfl
  ·cases h
 ·rename_i n el hk
  split at h
  ·rename_i C2 cs hb
   simp only[Option.some.injEq,Prod.mk.injEq] at h;obtain⟨rfl,rfl⟩:=h
   obtain⟨hz,hokel,hC2⟩:=hC
   obtain⟨z,hzr,hz1,hz2,hok,hz3,_⟩:=dH (P:=P) hz default
   have hz':∀w,(zeroValue t).run P w=.ok z w:=fun w=>by
    obtain⟨z',h',_⟩:=dH (P:=P) hz w
    have:z'=z:=by
     simp only[zeroValue,typeInfo,Sem.run_bind,run_program,Result.andThen_ok] at hzr h'
     obtain⟨i,d,hi,_⟩:=cY hok
     simp only[hi,Sem.run_pure,Result.andThen_ok] at hzr h'
     cases hzz:i.zero with
     | none=>simp[hzz] at hzr
     | some y=>simp[hzz] at hzr h';rw[←hzr,←h']
    rw[h',this]
   obtain⟨cs',hf,hrel⟩:=zW (P:=P) hr _ (fun i=>some (i * (td P el).size,(td P el).size)) (fun i off ft hp hokf=>by
    simp only[Option.some.injEq,Prod.mk.injEq] at hp
    obtain⟨rfl,rfl⟩:=hp
    rfl) parts.toList z.cells _ _ _ (jY hz1 hz3) hb hC2
   refine⟨.agg cs',fun w=>?_,hrel.agg⟩
   simp only[Instr.build,Sem.run_bind,hz',Result.andThen_ok,aK (gR hk),aO hokel]
   rw[Array.toList_map,hf]
   rfl
  ·cases h
 ·cases h
theorem lW{a:Option Addr}{len cap e:Nat}{xs:List (List MV)}{t:Bool}(r:Rel Φ (.slice a len cap) (.lst e xs t))(l h m:Nat)(t':Bool)(hl:l≤h)(hh:h≤xs.length)(hm:h≤m)(hmc:m≤cap)(ht:t'=true→m=h) :
  Rel Φ (.slice (if m=l then a else a.map (·.add (l * e))) (h - l) (m - l)) (.lst e ((xs.take h).drop l) t'):=by
 obtain⟨a',cap',he,h1,h2,h3,h4,h5⟩:=r.lB
 simp only[Value.slice.injEq] at he
 obtain⟨rfl,rfl,rfl⟩:=he
 refine Rel.DZ (by simp;omega) oM oM (fun q=>by rw[ht q]) (fun q=>?_) (fun q=>?_)
 ·have:a=none:=by
   split at q
   ·exact q
   ·cases a<;>simp at q ⊢
  have:=h4 this
  omega
 ·obtain⟨b,off,rfl,hat⟩:=h5 oM
  rw[if_neg oM]
  exact⟨b,off+l * e,by simp[dU],hat.take.drop⟩
theorem l9{a:Option Addr}{n cap e lo l0:Nat}(r:Rel Φ (.slice a n cap) (.vec e l0 lo n))(l h:Nat)(hl:l≤h)(hh:h≤cap) :
  Rel Φ (.slice (if cap=l then a else a.map (·.add (l * e))) (h - l) (cap - l)) (.vec e l0 (lo+l) (h - l)):=by
 obtain⟨a',cap',p,he,ho,rfl,hcap,hn,hR⟩:=r.dR
 simp only[Value.slice.injEq] at he
 obtain⟨rfl,_,rfl⟩:=he
 by_cases hc:cap=l
 ·rw[if_pos hc]
  have e1:h - l=0:=by omega
  have e2:cap - l=0:=by omega
  rw[e1,e2]
  cases a with
  | none =>
   have hcap0:cap=0:=by
    rcases hR with⟨R,_,q⟩|q
    ·cases q
    ·exact q
   subst hcap0
   subst hc
   obtain rfl:n=0:=by omega
   simpa using r
  | some a=>exact .vec0 a ho oM
 ·rw[if_neg hc]
  rcases hR with⟨R,hb,rfl⟩|q
  ·have:=Rel.vec (Φ:=Φ) (l:=l0) (lo:=lo+l) (n:=h - l) (cap:=cap - l) ho hb oM oM
   simpa[dU,Nat.add_mul,Nat.add_assoc] using this
  ·omega
theorem run_sliceBound{i:Int}{k:IntKind}{y:Nat}{code:BoundsCode}(h:0≤i∧i≤y)(w:World):(Instr.sliceBound (.int k i) y code).run P w=.ok i.toNat w:=by
 simp only[Instr.sliceBound,Sem.run_bind,fH,Result.andThen_ok,Sem.run_ite,if_pos h,Sem.run_pure]
theorem zK(e:Nat):∀(n:Nat) (cs:List MV) (i:Nat) (x:List MV),(chunks e n cs)[i]?=some x→i<n∧x=(cs.drop (i * e)).take e:=by
 intro n
 induction n with
 | zero=>intro cs i x h;simp[chunks] at h
 | succ n ih =>
  intro cs i x h
  cases i with
  | zero=>simp[chunks] at h;exact⟨by omega,by simp[h]⟩
  | succ i =>
   simp only[chunks,List.getElem?_cons_succ] at h
   obtain⟨h1,h2⟩:=ih _ _ _ h
   refine⟨by omega,?_⟩
   rw[h2,List.drop_drop,Nat.add_mul,Nat.one_mul,Nat.add_comm]
theorem Bl(e:Nat):∀(n:Nat) (cs:List MV),(chunks e n cs).length=n:=by
 intro n
 induction n with
 | zero=>intro cs;rfl
 | succ n ih=>intro cs;simp[chunks,ih]
theorem D9{t:TypeId}{x:MV}{lo hi mx:Option MV}{C:Prop}{mv:MV}(h:pY P t x lo hi mx=some (C,mv))(hC:C){v1:Value}{lo' hi' mx':Option Value}(r1:Rel Φ v1 x)
 (rl:∀m,lo=some m→∃v,lo'=some v∧Rel Φ v m)(rl0:lo=none→lo'=none)(rh:∀m,hi=some m→∃v,hi'=some v∧Rel Φ v m)(rh0:hi=none→hi'=none)
 (rm:∀m,mx=some m→∃v,mx'=some v∧Rel Φ v m)(rm0:mx=none→mx'=none) :
  ∃v,(∀w,(Instr.sliceAt t v1 lo' hi' mx').run P w=.ok v w)∧Rel Φ v mv:=by
 unfold pY at h
 split at h
 ·-- string,both
  rename_i s k1 l k2 hh
  simp only[Option.some.injEq,Prod.mk.injEq] at h;obtain⟨rfl,rfl⟩:=h
  obtain⟨hk,h0,h1,h2⟩:=hC
  obtain⟨_,rfl,q1⟩:=rl _ rfl;obtain⟨_,rfl,q2⟩:=rh _ rfl;cases rm0 rfl
  cases q1.aS;cases q2.aS;cases r1.fZ
  refine⟨_,fun w=>?_,.str _⟩
  simp only[Instr.sliceAt,Sem.run_bind,aK (gY hk),Result.andThen_ok,Instr.slice,Option.isSome_none,Bool.false_eq_true,if_false,Instr.sliceBounds,Sem.run_pure]
  rw[run_sliceBound ⟨by omega,by omega⟩]
  simp only[Result.andThen_ok]
  rw[run_sliceBound ⟨by omega,by omega⟩]
  rfl
 ·rename_i s k2 hh
  simp only[Option.some.injEq,Prod.mk.injEq] at h;obtain⟨rfl,rfl⟩:=h
  obtain⟨hk,h0,h1⟩:=hC
  cases rl0 rfl;obtain⟨_,rfl,q2⟩:=rh _ rfl;cases rm0 rfl
  cases q2.aS;cases r1.fZ
  refine⟨_,fun w=>?_,.str _⟩
  simp only[Instr.sliceAt,Sem.run_bind,aK (gY hk),Result.andThen_ok,Instr.slice,Option.isSome_none,Bool.false_eq_true,if_false,Instr.sliceBounds,Sem.run_pure]
  rw[run_sliceBound ⟨by omega,by omega⟩]
  rfl
 ·rename_i s k1 l
  simp only[Option.some.injEq,Prod.mk.injEq] at h;obtain⟨rfl,rfl⟩:=h
  obtain⟨hk,h0,h1⟩:=hC
  obtain⟨_,rfl,q1⟩:=rl _ rfl;cases rh0 rfl;cases rm0 rfl
  cases q1.aS;cases r1.fZ
  refine⟨_,fun w=>?_,.str _⟩
  simp only[Instr.sliceAt,Sem.run_bind,aK (gY hk),Result.andThen_ok,Instr.slice,Option.isSome_none,Bool.false_eq_true,if_false,Instr.sliceBounds,Sem.run_pure]
  rw[run_sliceBound ⟨by omega,by omega⟩]
  rfl
 ·rename_i lo hi mx e xs tt
  split at h
  ·rename_i el hk
   obtain⟨a,cap,rfl,c1,c2,c3,c4,_⟩:=r1.lB
   split at h
   ·rename_i k1 l k2 hh
    simp only[Option.some.injEq,Prod.mk.injEq] at h;obtain⟨rfl,rfl⟩:=h
    obtain⟨hok,hsz,h0,h1,h2⟩:=hC
    obtain⟨_,rfl,q1⟩:=rl _ rfl;obtain⟨_,rfl,q2⟩:=rh _ rfl;cases rm0 rfl
    cases q1.aS;cases q2.aS
    refine⟨_,fun w=>?_,lW r1 l.toNat hh.toNat cap _ oM oM oM (Nat.le_refl _) (fun q=>by simp at q;rw[c3 q.1,q.2])⟩
    simp only[Instr.sliceAt,Sem.run_bind,aK (aW hk),Result.andThen_ok,Instr.slice,Instr.sliceBounds,Sem.run_pure]
    rw[run_sliceBound ⟨by omega,by omega⟩]
    simp only[Result.andThen_ok,Option.isSome_none,Bool.false_eq_true,if_false]
    rw[run_sliceBound ⟨by omega,by omega⟩]
    simp only[Result.andThen_ok,aO hok,hsz,Sem.run_pure]
   ·rename_i k2 hh
    simp only[Option.some.injEq,Prod.mk.injEq] at h;obtain⟨rfl,rfl⟩:=h
    obtain⟨hok,hsz,h0,h1⟩:=hC
    cases rl0 rfl;obtain⟨_,rfl,q2⟩:=rh _ rfl;cases rm0 rfl
    cases q2.aS
    have:=lW r1 0 hh.toNat cap (tt&&decide (hh.toNat=xs.length)) oM oM oM (Nat.le_refl _) (fun q=>by simp at q;rw[c3 q.1,q.2])
    refine⟨_,fun w=>?_,by simpa only[List.drop_zero,Nat.sub_zero,Nat.zero_mul,List.take_length,Nat.add_zero] using this⟩
    simp only[Instr.sliceAt,Sem.run_bind,aK (aW hk),Result.andThen_ok,Instr.slice,Instr.sliceBounds,Sem.run_pure]
    rw[run_sliceBound ⟨by omega,by omega⟩]
    simp only[Result.andThen_ok,aO hok,hsz,Sem.run_pure,Nat.zero_mul,Nat.sub_zero]
   ·rename_i k1 l
    simp only[Option.some.injEq,Prod.mk.injEq] at h;obtain⟨rfl,rfl⟩:=h
    obtain⟨hok,hsz,h0,h1⟩:=hC
    obtain⟨_,rfl,q1⟩:=rl _ rfl;cases rh0 rfl;cases rm0 rfl
    cases q1.aS
    have:=lW r1 l.toNat xs.length cap tt oM oM oM (Nat.le_refl _) (fun q=>c3 q)
    refine⟨_,fun w=>?_,by simpa only[List.drop_zero,Nat.sub_zero,Nat.zero_mul,List.take_length,Nat.add_zero] using this⟩
    simp only[Instr.sliceAt,Sem.run_bind,aK (aW hk),Result.andThen_ok,Instr.slice,Instr.sliceBounds,Sem.run_pure,Option.isSome_none,Bool.false_eq_true,if_false]
    rw[run_sliceBound ⟨by omega,by omega⟩]
    simp only[Result.andThen_ok,aO hok,hsz,Sem.run_pure]
   ·rename_i k2 hh k3 m
    simp only[Option.some.injEq,Prod.mk.injEq] at h;obtain⟨rfl,rfl⟩:=h
    obtain⟨hok,hsz,h0,h1,h2⟩:=hC
    cases rl0 rfl;obtain⟨_,rfl,q2⟩:=rh _ rfl;obtain⟨_,rfl,q3⟩:=rm _ rfl
    cases q2.aS;cases q3.aS
    have:=lW r1 0 hh.toNat m.toNat (decide (hh=m)) oM oM oM oM (fun q=>by simp at q;rw[q])
    refine⟨_,fun w=>?_,by simpa only[List.drop_zero,Nat.sub_zero,Nat.zero_mul,List.take_length,Nat.add_zero] using this⟩
    simp only[Instr.sliceAt,Sem.run_bind,aK (aW hk),Result.andThen_ok,Instr.slice,Instr.sliceBounds,Sem.run_pure,if_true]
    rw[run_sliceBound ⟨by omega,by omega⟩]
    simp only[Result.andThen_ok]
    rw[run_sliceBound ⟨by omega,by omega⟩]
    simp only[Result.andThen_ok,aO hok,hsz,Sem.run_pure,Nat.zero_mul,Nat.sub_zero]
   ·rename_i k1 l k2 hh k3 m
    simp only[Option.some.injEq,Prod.mk.injEq] at h;obtain⟨rfl,rfl⟩:=h
    obtain⟨hok,hsz,h0,h1,h2,h3⟩:=hC
    obtain⟨_,rfl,q1⟩:=rl _ rfl;obtain⟨_,rfl,q2⟩:=rh _ rfl;obtain⟨_,rfl,q3⟩:=rm _ rfl
    cases q1.aS;cases q2.aS;cases q3.aS
    refine⟨_,fun w=>?_,lW r1 l.toNat hh.toNat m.toNat (decide (hh=m)) oM oM oM oM (fun q=>by simp at q;rw[q])⟩
    simp only[Instr.sliceAt,Sem.run_bind,aK (aW hk),Result.andThen_ok,Instr.slice,Instr.sliceBounds,Sem.run_pure,if_true,Option.isSome_some]
    rw[run_sliceBound ⟨by omega,by omega⟩]
    simp only[Result.andThen_ok]
    rw[run_sliceBound ⟨by omega,by omega⟩]
    simp only[Result.andThen_ok]
    rw[run_sliceBound ⟨by omega,by omega⟩]
    simp only[Result.andThen_ok,aO hok,hsz,Sem.run_pure]
   ·cases h
  ·cases h
 ·rename_i lo hi mx e l0 lo0 n
  split at h
  ·rename_i el hk
   obtain⟨a,cap,p,rfl,ho,hpe,c1,c2,_⟩:=r1.dR
   split at h
   ·rename_i k1 l k2 hh
    simp only[Option.some.injEq,Prod.mk.injEq] at h;obtain⟨rfl,rfl⟩:=h
    obtain⟨hok,hsz,h0,h1,h2⟩:=hC
    obtain⟨_,rfl,q1⟩:=rl _ rfl;obtain⟨_,rfl,q2⟩:=rh _ rfl;cases rm0 rfl
    cases q1.aS;cases q2.aS
    refine⟨_,fun w=>?_,l9 r1 l.toNat hh.toNat oM oM⟩
    simp only[Instr.sliceAt,Sem.run_bind,aK (aW hk),Result.andThen_ok,Instr.slice,Instr.sliceBounds,Sem.run_pure]
    rw[run_sliceBound ⟨by omega,by omega⟩]
    simp only[Result.andThen_ok,Option.isSome_none,Bool.false_eq_true,if_false]
    rw[run_sliceBound ⟨by omega,by omega⟩]
    simp only[Result.andThen_ok,aO hok,hsz,Sem.run_pure]
   ·rename_i k2 hh
    simp only[Option.some.injEq,Prod.mk.injEq] at h;obtain⟨rfl,rfl⟩:=h
    obtain⟨hok,hsz,h0,h1⟩:=hC
    cases rl0 rfl;obtain⟨_,rfl,q2⟩:=rh _ rfl;cases rm0 rfl
    cases q2.aS
    have:=l9 r1 0 hh.toNat oM oM
    refine⟨_,fun w=>?_,by simpa only[List.drop_zero,Nat.sub_zero,Nat.zero_mul,List.take_length,Nat.add_zero] using this⟩
    simp only[Instr.sliceAt,Sem.run_bind,aK (aW hk),Result.andThen_ok,Instr.slice,Instr.sliceBounds,Sem.run_pure]
    rw[run_sliceBound ⟨by omega,by omega⟩]
    simp only[Result.andThen_ok,aO hok,hsz,Sem.run_pure,Nat.zero_mul,Nat.sub_zero]
   ·rename_i k1 l
    simp only[Option.some.injEq,Prod.mk.injEq] at h;obtain⟨rfl,rfl⟩:=h
    obtain⟨hok,hsz,h0,h1⟩:=hC
    obtain⟨_,rfl,q1⟩:=rl _ rfl;cases rh0 rfl;cases rm0 rfl
    cases q1.aS
    refine⟨_,fun w=>?_,l9 r1 l.toNat n oM oM⟩
    simp only[Instr.sliceAt,Sem.run_bind,aK (aW hk),Result.andThen_ok,Instr.slice,Instr.sliceBounds,Sem.run_pure,Option.isSome_none,Bool.false_eq_true,if_false]
    rw[run_sliceBound ⟨by omega,by omega⟩]
    simp only[Result.andThen_ok,aO hok,hsz,Sem.run_pure]
   ·rename_i k1 l k2 hh k3 m
    simp only[Option.some.injEq,Prod.mk.injEq] at h;obtain⟨rfl,rfl⟩:=h
    obtain⟨hok,hsz,h0,h1,h2,h3⟩:=hC
    obtain⟨_,rfl,q1⟩:=rl _ rfl;obtain⟨_,rfl,q2⟩:=rh _ rfl;obtain⟨_,rfl,q3⟩:=rm _ rfl
    cases q1.aS;cases q2.aS;cases q3.aS
    refine⟨.slice (if m.toNat=l.toNat then a else a.map (·.add (l.toNat * e))) (hh.toNat - l.toNat) (m.toNat - l.toNat),fun w=>?_,.junk _⟩
    simp only[Instr.sliceAt,Sem.run_bind,aK (aW hk),Result.andThen_ok,Instr.slice,Instr.sliceBounds,Sem.run_pure,if_true,Option.isSome_some]
    rw[run_sliceBound ⟨by omega,by omega⟩]
    simp only[Result.andThen_ok]
    rw[run_sliceBound ⟨by omega,by omega⟩]
    simp only[Result.andThen_ok]
    rw[run_sliceBound ⟨by omega,by omega⟩]
    simp only[Result.andThen_ok,aO hok,hsz,Sem.run_pure]
   ·cases h
  ·cases h
 ·rename_i cs
  split at h
  ·rename_i n el hk
   simp only[Option.some.injEq,Prod.mk.injEq] at h;obtain⟨rfl,rfl⟩:=h
   obtain⟨hok,h0,h1,h2⟩:=hC
   cases rl0 rfl;cases rh0 rfl;cases rm0 rfl
   obtain⟨b,off,vs,rfl,hc,hr⟩:=r1.nH
   refine⟨.slice (some ⟨b,off,none⟩) n n,fun w=>?_,Rel.DZ (Bl _ _ _) (Nat.le_refl _) (by simpa[maxLen] using h2) (fun _=>rfl) (by simp) (fun _=>⟨b,off,rfl,fun i x hx=>?_,fun i j=>vs (i * (td P el).size+j),fun i x j m hx hm=>?_⟩)⟩
   ·simp only[Instr.sliceAt,Sem.run_bind,aK (gR hk),Result.andThen_ok,dT,Instr.sliceBounds,Sem.run_pure,aO hok,Nat.zero_mul,dU,Nat.sub_zero,Nat.add_zero,if_neg (show ¬n=0 by omega)]
   ·obtain⟨hi,rfl⟩:=zK _ _ _ _ _ hx
    have:(i+1) * (td P el).size≤n * (td P el).size:=Nat.mul_le_mul_right _ hi
    rw[Nat.add_mul,Nat.one_mul,Nat.mul_comm n] at this
    simp
    omega
   ·obtain⟨hi,rfl⟩:=zK _ _ _ _ _ hx
    rw[List.getElem?_take] at hm
    split at hm
    ·rw[List.getElem?_drop] at hm
     have:=hc _ m hm
     exact⟨this.1,this.2,hr _ m hm⟩
    ·cases hm
  ·cases h
 ·split at h
  ·rename_i el hk
   simp only[Option.some.injEq,Prod.mk.injEq] at h;obtain⟨rfl,rfl⟩:=h
   obtain⟨hok,h0⟩:=hC
   subst h0
   cases rl0 rfl;obtain⟨_,rfl,q2⟩:=rh _ rfl;cases rm0 rfl
   cases q2.aS
   cases r1.fP
   refine⟨_,fun w=>?_,.aM⟩
   simp only[Instr.sliceAt,Sem.run_bind,aK (aW hk),Result.andThen_ok,Instr.slice,Instr.sliceBounds,Sem.run_pure,Option.isSome_none,Bool.false_eq_true,if_false]
   rw[run_sliceBound ⟨by omega,by omega⟩]
   simp only[Result.andThen_ok,aO hok,Sem.run_pure,Int.toNat_zero,Nat.sub_zero,if_true]
  ·cases h
 ·cases h
end
end

section
section
variable {P:Program} {Φ:Phi}
theorem Ak{b:Builtin}{ts:Array TypeId}{xs:List MV}{C:Prop}{mv:MV}(h:eK P b ts xs=some (C,mv))(hC:C)(vs:Array Value)(hr:iS Φ vs xs)(hts:ts.size=xs.length)(ty:TypeId)(cs:Array Bool) :
  ∃v,(∀w,(builtin b ts ty cs vs).run P w=.ok (.value v) w)∧Rel Φ v mv:=by
 obtain⟨vl⟩:=vs
 have hlen:vl.length=xs.length:=hr.1
 unfold eK at h
 split at h
 ·rename_i x
  match vl,hlen with
  | [v1],_ =>
  have r1:Rel Φ v1 x:=hr.2 0 x rfl
  obtain⟨v,hv,hrel⟩:=Js h hC r1 ts hts rfl ty
  exact⟨v,fun w=>by simp[builtin,hv],hrel⟩
 ·rename_i x y
  match vl,hlen with
  | [v1,v2],_ =>
  have r1:Rel Φ v1 x:=hr.2 0 x rfl
  have r2:Rel Φ v2 y:=hr.2 1 y rfl
  unfold Lt at h
  split at h
  ·simp only[Option.some.injEq,Prod.mk.injEq] at h;obtain⟨rfl,rfl⟩:=h
   cases r1.aS;cases r2.aS
   exact⟨_,fun w=>by simp[builtin,Builtin.min_,Builtin.min2],.int _ _⟩
  ·cases h
 ·rename_i x y
  match vl,hlen with
  | [v1,v2],_ =>
  have r1:Rel Φ v1 x:=hr.2 0 x rfl
  have r2:Rel Φ v2 y:=hr.2 1 y rfl
  unfold Ls at h
  split at h
  ·simp only[Option.some.injEq,Prod.mk.injEq] at h;obtain⟨rfl,rfl⟩:=h
   cases r1.aS;cases r2.aS
   exact⟨_,fun w=>by simp[builtin,Builtin.max_,Builtin.max2],.int _ _⟩
  ·cases h
 ·rename_i x
  match vl,hlen with
  | [v1],_ =>
  have r1:Rel Φ v1 x:=hr.2 0 x rfl
  obtain⟨v,hv,hrel⟩:=Jc h r1 ts hts rfl ty
  exact⟨v,fun w=>by simp[builtin,hv],hrel⟩
 ·cases h
theorem nQ{f:FR}{a:Act}(hr:dD Φ a.tmps f)(xs:Array Operand):iS Φ (xs.map a.eval) (xs.toList.map (aE f)):=by
 refine⟨by simp,fun i m hm=>?_⟩
 rw[List.getElem?_map,Array.getElem?_toList] at hm
 simp only[Option.map_eq_some_iff] at hm
 obtain⟨x,hx,rfl⟩:=hm
 have:(xs.map a.eval).getD i undef=a.eval x:=by simp[Array.getD_eq_getD_getElem?,hx]
 rw[this]
 exact aI hr x
def tX:Op→Bool
 | .call { callee:=.builtin _,args,argTypes }=>argTypes.size==args.size
 | _=>true
theorem IK{t:TypeId}{g:Nat}{i:MV}{C:Prop}{mv:MV}(hG:∀g i v,GT g i=some v→Φ.snap ⟨g,i,none⟩=some v)(h:IJ P t g i=some (C,mv))(hC:C){v2:Value}(r2:Rel Φ v2 i) :
  ∃v,(∀w,(Instr.indexAt t (.pointer (some ⟨g,0,none⟩)) v2).run P w=.ok v w)∧Rel Φ v mv:=by
 unfold IJ at h
 split at h
 ·rename_i len el k n hk
  obtain⟨v,hv,h⟩:=Option.bind_eq_some_iff.1 h
  simp only[Option.some.injEq,Prod.mk.injEq] at h;obtain⟨rfl,rfl⟩:=h
  obtain⟨hok,hsz,h0,h1,hc⟩:=hC
  cases r2.aS
  refine⟨.pointer (some ⟨g,0+n.toNat * (td P el).size,none⟩),fun w=>?_,.cptr (fun _=>v) (fun q m hm=>?_) (fun q m hm=>?_)⟩
  ·simp only[Instr.indexAt,Sem.run_bind,fH,Result.andThen_ok,aK (gR hk),dT,Sem.run_pure,Sem.run_ite,if_pos (show 0≤n∧n<(len:Int) from⟨h0,h1⟩),aO hok,dU]
  ·rw[hsz,Nat.mul_one,Nat.zero_add]
   cases q with
   | zero =>
    simp only[List.getElem?_cons_zero,Option.some.injEq] at hm
    subst hm
    exact⟨hc,hG _ _ _ hv⟩
   | succ q=>simp at hm
  ·cases q with
   | zero =>
    simp only[List.getElem?_cons_zero,Option.some.injEq] at hm
    subst hm
    exact uE Φ v
   | succ q=>simp at hm
 ·cases h
theorem On{o:Oper}{f:FR}{a:Act}(hG:∀g i v,GT g i=some v→Φ.snap ⟨g,i,none⟩=some v)(hr:dD Φ a.tmps f){C:Prop}{mv:MV}(h:qop P f o.op=some (C,mv))(hC:C)(hot:tX o.op=true) :
  ∃v,(∀w,(execOp a.eval o).run P w=.ok (.value v) w)∧Rel Φ v mv:=by
 unfold execOp
 generalize o.op=op at h hot
 unfold qop at h
 split at h
 ·simp only[Option.some.injEq,Prod.mk.injEq] at h;obtain⟨rfl,rfl⟩:=h
  exact⟨_,fun w=>rfl,aI hr _⟩
 ·simp only[Option.some.injEq,Prod.mk.injEq] at h;obtain⟨rfl,rfl⟩:=h
  exact⟨_,fun w=>rfl,aI hr _⟩
 ·rename_i c x y
  split at h
  ·rename_i t hc
   simp only[Option.some.injEq,Prod.mk.injEq] at h;obtain⟨rfl,rfl⟩:=h
   have rc:=aI hr c
   rw[hc] at rc
   refine⟨if t=true then a.eval x else a.eval y,fun w=>?_,?_⟩
   ·simp only[rc.lU,asBool,Sem.run_bind,Sem.run_pure,Result.andThen_ok]
   ·split
    ·exact aI hr x
    ·exact aI hr y
  ·cases h
 ·rename_i x
  split at h
  ·rename_i l i o' hx
   simp only[Option.some.injEq,Prod.mk.injEq] at h;obtain⟨rfl,rfl⟩:=h
   have rc:=aI hr x
   rw[hx] at rc
   obtain⟨ad,he⟩:=rc.v8
   rw[he] at rc
   exact⟨_,fun w=>by simp only[he];rfl,rc⟩
  ·rename_i cs hx
   simp only[Option.some.injEq,Prod.mk.injEq] at h;obtain⟨rfl,rfl⟩:=h
   have rc:=aI hr x
   rw[hx] at rc
   obtain⟨ad,he⟩:=rc.r6
   rw[he] at rc
   exact⟨_,fun w=>by simp only[he];rfl,rc⟩
  ·cases h
 ·rename_i op t x y yt
  obtain⟨v,hv,hrel⟩:=Ja h hC (aI hr x) (aI hr y) x y
  exact⟨v,fun w=>by simp only[Sem.run_bind,(hv w).1,(hv w).2,Result.andThen_ok,Sem.run_pure],hrel⟩
 ·rename_i op t x
  obtain⟨v,hv,hrel⟩:=NS (P:=P) h (aI hr x)
  exact⟨v,fun w=>by simp only[Sem.run_bind,hv w,Result.andThen_ok,Sem.run_pure],hrel⟩
 ·rename_i s d x
  obtain⟨v,hv,hrel⟩:=Gg h (aI hr x)
  exact⟨v,fun w=>by simp only[Sem.run_bind,hv w,Result.andThen_ok,Sem.run_pure],hrel⟩
 ·rename_i t x
  split at h
  ·cases h
  ·rename_i hok hni
   simp only[Option.some.injEq,Prod.mk.injEq] at h;obtain⟨rfl,rfl⟩:=h
   obtain⟨i,d,hi,hd,_,_,hk⟩:=cY hok
   refine⟨.iface t (a.eval x),fun w=>?_,.iface t (aI hr x)⟩
   simp only[Instr.makeInterface,Sem.run_bind,aK hd,Result.andThen_ok]
   cases d<;>first|rfl|(exact absurd hk (by simpa[uR] using hni))
  ·cases h
 ·rename_i fn first cap
  simp only[Option.some.injEq,Prod.mk.injEq] at h;obtain⟨rfl,rfl⟩:=h
  have h1:=nQ hr first
  have h2:=nQ hr cap
  exact⟨_,fun w=>rfl,.fn fn h1.1 h2.1 h1.2 h2.2⟩
 ·rename_i t x lo hi mx
  obtain⟨v,hv,hrel⟩:=D9 (P:=P) (lo':=lo.map a.eval) (hi':=hi.map a.eval) (mx':=mx.map a.eval) h hC (aI hr x)
   (fun m hm=>by cases lo<;>simp at hm ⊢;subst hm;exact aI hr _) (fun hn=>by cases lo<;>simp at hn ⊢)
   (fun m hm=>by cases hi<;>simp at hm ⊢;subst hm;exact aI hr _) (fun hn=>by cases hi<;>simp at hn ⊢)
   (fun m hm=>by cases mx<;>simp at hm ⊢;subst hm;exact aI hr _) (fun hn=>by cases mx<;>simp at hn ⊢)
  exact⟨v,fun w=>by simp only[Sem.run_bind,hv w,Result.andThen_ok,Sem.run_pure],hrel⟩
 ·rename_i t x i
  obtain⟨v,hv,hrel⟩:=vT h hC (aI hr x)
  exact⟨v,fun w=>by simp only[Sem.run_bind,hv w,Result.andThen_ok,Sem.run_pure],hrel⟩
 ·rename_i t x i
  obtain⟨v,hv,hrel⟩:=DX h hC (aI hr x)
  exact⟨v,fun w=>by simp only[Sem.run_bind,hv w,Result.andThen_ok,Sem.run_pure],hrel⟩
 ·rename_i t g i
  obtain⟨v,hv,hrel⟩:=IK hG h hC (aI hr i)
  have he:a.eval (.global g)=.pointer (some ⟨g,0,none⟩):=rfl
  exact⟨v,fun w=>by simp only[he,Sem.run_bind,hv w,Result.andThen_ok,Sem.run_pure],hrel⟩
 ·rename_i t x i hng
  obtain⟨v,hv,hrel⟩:=vU h hC (aI hr x) (aI hr i)
  exact⟨v,fun w=>by simp only[Sem.run_bind,hv w,Result.andThen_ok,Sem.run_pure],hrel⟩
 ·rename_i t x i
  obtain⟨v,hv,hrel⟩:=DY h hC (aI hr x) (aI hr i)
  exact⟨v,fun w=>by simp only[Sem.run_bind,hv w,Result.andThen_ok,Sem.run_pure],hrel⟩
 ·rename_i x i
  split at h
  ·rename_i vs hx
   split at h
   ·rename_i v hv
    simp only[Option.some.injEq,Prod.mk.injEq] at h;obtain⟨rfl,rfl⟩:=h
    have rc:=aI hr x
    rw[hx] at rc
    obtain⟨cs,he,hs,hrr⟩:=rc.DI
    have hlt:i<cs.size:=by have:=(List.getElem?_eq_some_iff.1 hv).1;omega
    refine⟨cs.getD i undef,fun w=>?_,hrr i v hv⟩
    have:cs[i]?=some (cs.getD i undef):=by simp[Array.getD_eq_getD_getElem?,Array.getElem?_eq_getElem hlt]
    simp only[he,Instr.extract,Sem.run_bind,this,Sem.run_pure,Result.andThen_ok]
   ·cases h
  ·cases h
 ·rename_i t parts
  obtain⟨v,hv,hrel⟩:=DS hr h hC
  exact⟨v,fun w=>by simp only[Sem.run_bind,hv w,Result.andThen_ok,Sem.run_pure],hrel⟩
 ·rename_i b args ts
  have hs:ts.size=(args.toList.map (aE f)).length:=by simpa[tX] using hot
  obtain⟨v,hv,hrel⟩:=Ak h hC (args.map a.eval) (nQ hr args) hs o.type (args.map fun|.const _=>true|_=>false)
  refine⟨v,fun w=>?_,hrel⟩
  simp only[resolve,Sem.run_bind,Sem.run_pure,Result.andThen_ok,invoke]
  exact hv w
 ·cases h
end
theorem Inv.fT{Φ:Phi}{w:World}{σ:St}(hi:Inv Φ w σ){l:Nat}(h:Φ.obj l=none):σ l=none:=by
 cases hs:σ l with
 | none=>rfl
 | some o =>
  have:=hi.own l o hs
  cases o with
  | row t e xs=>obtain⟨p,hp,_⟩:=this;rw[h] at hp;cases hp
  | mp es=>obtain⟨p,R,hp,_⟩:=this;rw[h] at hp;cases hp
  | mk es st ck=>obtain⟨p,R,hp,_⟩:=this;rw[h] at hp;cases hp
  | it m ck seen=>obtain⟨p,R,pm,Rm,hp,_⟩:=this;rw[h] at hp;cases hp
theorem eY.mono{Φ Φ':Phi}{w w':World}{l:Nat}{o:aT}(h:eY Φ w l o)(hle:Φ.le Φ')(hb:∀p R,Φ.obj l=some p→p.blk=some R→w'.heap[R]?=w.heap[R]?):eY Φ' w' l o:=by
 cases o with
 | row t e xs =>
  obtain⟨p,hp,he,h1,h2,h3,h4⟩:=h
  refine⟨p,hle.obj _ _ hp,he,h1,h2,h3,?_⟩
  cases hbk:p.blk with
  | none=>rw[hbk] at h4;exact h4
  | some R =>
   rw[hbk] at h4
   obtain⟨c,fz,k1,k2,k3,k4⟩:=h4
   exact⟨c,fz,(hb p R hp hbk).trans k1,k2,k3,fun i x j m a b=>let ⟨q1,v,q2,q3⟩:=k4 i x j m a b;⟨q1,v,q2,q3.mono hle⟩⟩
 | mp es =>
  obtain⟨p,R,hp,hbk,c,clock,h1,h2,h3⟩:=h
  exact⟨p,R,hle.obj _ _ hp,hbk,c,clock,(hb p R hp hbk).trans h1,h2,fun i x q=>⟨(h3 i x q).1.mono hle,(h3 i x q).2.mono hle⟩⟩
 | mk es st ck =>
  obtain⟨p,R,hp,hbk,c,h1,h2,h3⟩:=h
  exact⟨p,R,hle.obj _ _ hp,hbk,c,(hb p R hp hbk).trans h1,h2,fun i x q=>⟨(h3 i x q).1.mono hle,(h3 i x q).2.mono hle⟩⟩
 | it m ck seen =>
  obtain⟨p,R,pm,Rm,hp,hbk,h0,h1,h2,h3⟩:=h
  exact⟨p,R,pm,Rm,hle.obj _ _ hp,hbk,h0,hle.obj _ _ h1,h2,(hb p R hp hbk).trans h3⟩
theorem eY.place{Φ:Phi}{w:World}{l:Nat}{o:aT}(h:eY Φ w l o):∃p,Φ.obj l=some p∧∀R,p.blk=some R→R<w.heap.size:=by
 cases o with
 | row t e xs =>
  obtain⟨p,hp,he,h1,h2,h3,h4⟩:=h
  refine⟨p,hp,fun R hR=>?_⟩
  rw[hR] at h4
  obtain⟨c,fz,k1,_⟩:=h4
  exact(Array.getElem?_eq_some_iff.1 k1).1
 | mp es =>
  obtain⟨p,R,hp,hbk,c,clock,h1,_⟩:=h
  exact⟨p,hp,fun R' hR'=>by rw[hbk] at hR';cases hR';exact(Array.getElem?_eq_some_iff.1 h1).1⟩
 | mk es st ck =>
  obtain⟨p,R,hp,hbk,c,h1,_⟩:=h
  exact⟨p,hp,fun R' hR'=>by rw[hbk] at hR';cases hR';exact(Array.getElem?_eq_some_iff.1 h1).1⟩
 | it m ck seen =>
  obtain⟨p,R,pm,Rm,hp,hbk,_,_,_,h1⟩:=h
  exact⟨p,hp,fun R' hR'=>by rw[hbk] at hR';cases hR';exact(Array.getElem?_eq_some_iff.1 h1).1⟩
theorem World.gC{w w':World}{a:Addr}(h:w'.heap[a.block]?=w.heap[a.block]?):w'.cell? a=w.cell? a:=by simp[World.cell?,h]
theorem Inv.upd{Φ Φ':Phi}{w w':World}{σ σ':St}(hi:Inv Φ w σ)(hle:Φ.le Φ')(hsnap:∀a,Φ'.snap a=Φ.snap a)(l':Nat)(o':aT)(p':Place)(hp':Φ'.obj l'=some p')
 (hσ:∀m o,σ' m=some o→(m≠l'∧σ m=some o)∨(m=l'∧o=o'))
 (hblk:∀m o p R,m≠l'→σ' m=some o→Φ.obj m=some p→p.blk=some R→w'.heap[R]?=w.heap[R]?∧p'.blk≠some R)
 (hsn:∀a v,Φ.snap a=some v→w'.heap[a.block]?=w.heap[a.block]?∧p'.blk≠some a.block)
 (hown:eY Φ' w' l' o')(hfresh:Φ'.fin):Inv Φ' w' σ':=by
 have hobj:∀m o,m≠l'→σ' m=some o→∃p,Φ.obj m=some p∧Φ'.obj m=some p:=fun m o hm hs=>by
  rcases hσ m o hs with⟨_,q⟩|⟨q,_⟩
  ·obtain⟨p,hp,_⟩:=(hi.own m o q).place
   exact⟨p,hp,hle.obj _ _ hp⟩
  ·exact absurd q hm
 constructor
 ·intro m o hs
  rcases hσ m o hs with⟨hm,q⟩|⟨rfl,rfl⟩
  ·exact(hi.own m o q).mono hle fun p R hp hR=>(hblk m o p R hm hs hp hR).1
  ·exact hown
 ·intro m m' o o' p p1 R hs hs' hp hp1 hR hR1
  by_cases h1:m=l'
  ·subst h1
   by_cases h2:m'=m
   ·exact h2.symm
   ·obtain⟨q,hq,hq'⟩:=hobj m' o' h2 hs'
    obtain rfl:q=p1:=Option.some.inj (hq'.symm.trans hp1)
    rw[hp'] at hp;cases hp
    exact absurd hR (hblk m' o' q R h2 hs' hq hR1).2
  ·obtain⟨q,hq,hq'⟩:=hobj m o h1 hs
   obtain rfl:q=p:=Option.some.inj (hq'.symm.trans hp)
   by_cases h2:m'=l'
   ·subst h2
    rw[hp'] at hp1;cases hp1
    exact absurd hR1 (hblk m o q R h1 hs hq hR).2
   ·obtain⟨q1,hq1,hq1'⟩:=hobj m' o' h2 hs'
    obtain rfl:q1=p1:=Option.some.inj (hq1'.symm.trans hp1)
    rcases hσ m o hs with⟨_,s1⟩|⟨s1,_⟩
    ·rcases hσ m' o' hs' with⟨_,s2⟩|⟨s2,_⟩
     ·exact hi.inj m m' o o' q q1 R s1 s2 hq hq1 hR hR1
     ·exact absurd s2 h2
    ·exact absurd s1 h1
 ·intro a v h
  rw[hsnap] at h
  exact(World.gC (hsn a v h).1).trans (hi.snap a v h)
 ·intro m o p R a v hs hp hR h he
  rw[hsnap] at h
  by_cases h1:m=l'
  ·subst h1
   rw[hp'] at hp;cases hp
   exact(hsn a v h).2 (he ▸ hR)
  ·obtain⟨q,hq,hq'⟩:=hobj m o h1 hs
   obtain rfl:q=p:=Option.some.inj (hq'.symm.trans hp)
   rcases hσ m o hs with⟨_,s1⟩|⟨s1,_⟩
   ·exact hi.apart m o q R a v s1 hq hR h he
   ·exact absurd s1 h1
 ·exact⟨hfresh,fun g i v q=>by rw[hsnap];exact hi.fresh.2.1 g i v q,fun g hg=>by rw[hsnap];exact hi.fresh.2.2 g hg⟩
def Phi.put(Φ:Phi)(l:Nat)(p:Place):Phi:={ Φ with obj:=fun k=>if k=l then some p else Φ.obj k }
theorem Phi.sM{Φ:Phi}{l:Nat}(p:Place)(h:Φ.obj l=none):Φ.le (Φ.put l p) :=
 ⟨fun _ _ q=>q,fun k q hq=>by
  simp only[Phi.put]
  split
  ·rename_i hk;subst hk;rw[h] at hq;cases hq
  ·exact hq,rfl⟩
theorem Phi.cO(Φ:Phi)(l:Nat)(p:Place):(Φ.put l p).obj l=some p:=by simp[Phi.put]
theorem Inv.vK{Φ:Phi}{w:World}{σ:St}(hi:Inv Φ w σ)(l:Nat)(p:Place)(hbo:p.bo=0:=by rfl):(Φ.put l p).fin:=by
 obtain⟨n,hn⟩:=hi.fresh.1.1
 refine⟨⟨max n (l+1),fun k hk=>?_⟩,fun k q hk=>?_⟩
 ·simp only[Phi.put]
  rw[if_neg oM]
  exact hn k oM
 ·simp only[Phi.put] at hk
  split at hk
  ·cases hk;exact hbo
  ·exact hi.fresh.1.2 k q hk
theorem St.bX{σ:St}{l m:Nat}{o o':aT}(h:(σ.set l o') m=some o):(m≠l∧σ m=some o)∨(m=l∧o=o'):=by
 simp only[St.set] at h
 split at h
 ·rename_i hm;exact .inr ⟨hm,by cases h;rfl⟩
 ·rename_i hm;exact .inl ⟨hm,h⟩
theorem Inv.alloc{Φ:Phi}{w w':World}{σ:St}(hi:Inv Φ w σ)(l:Nat)(hl:Φ.obj l=none)(o:aT)(ob:Obj)(p:Place)(hp:p.blk=some w.heap.size)(hh:w'.heap=w.heap.push ob)
 (h1:w'.os=w.os)(h2:w'.tape=w.tape)(h3:w'.output=w.output)(h4:drw w≤drw w')(hown:eY (Φ.put l p) w' l o)(hbo:p.bo=0:=by rfl):Inv (Φ.put l p) w' (σ.set l o)∧Step Φ σ w (Φ.put l p) (σ.set l o) w':=by
 have hold:∀k,k<w.heap.size→w'.heap[k]?=w.heap[k]?:=fun k hk=>by rw[hh,Array.getElem?_push,if_neg oM]
 have hle:=Phi.sM p hl
 refine⟨hi.upd hle (fun _=>rfl) l o p (Phi.cO _ _ _) (fun m o q=>St.bX q) (fun m o' q R hm hs hq hR=>?_) (fun a v h=>?_) hown (hi.vK l p hbo),hle,h1,h2,h3,h4,by rw[hh];simp,fun k hk _=>hold k hk,fun a v h=>.inl h,fun m o q=>?_,fun R hR=>?_⟩
 ·rcases St.bX hs with⟨_,q1⟩|⟨q1,_⟩
  ·obtain⟨p1,hp1,hlt⟩:=(hi.own m o' q1).place
   rw[hp1] at hq;cases hq
   have:=hlt R hR
   exact⟨hold R this,by rw[hp];simp;omega⟩
  ·exact absurd q1 hm
 ·have:=World.block_lt_of_cell? w a (hi.snap a v h)
  exact⟨hold _ this,by rw[hp];simp;omega⟩
 ·rcases St.bX q with⟨_,q1⟩|⟨rfl,_⟩
  ·exact .inl ⟨_,q1⟩
  ·exact .inr hl
 ·obtain⟨m,o1,p1,s1,s2,s3⟩:=hR
  rcases St.bX s1 with⟨hm,q1⟩|⟨rfl,_⟩
  ·have:(Φ.put l p).obj m=Φ.obj m:=by simp[Phi.put,hm]
   rw[this] at s2
   exact .inl ⟨m,o1,p1,q1,s2,s3⟩
  ·rw[Phi.cO] at s2;cases s2
   rw[hp] at s3;cases s3
   exact .inr (Nat.le_refl _)
theorem Inv.EX{Φ:Phi}{w w':World}{σ:St}(hi:Inv Φ w σ)(l:Nat){o0:aT}(hs:σ l=some o0)(o:aT){p:Place}{R:Nat}(hp:Φ.obj l=some p)(hR:p.blk=some R)
 (hsz:w'.heap.size=w.heap.size)(hh:∀k,k≠R→w'.heap[k]?=w.heap[k]?)(h1:w'.os=w.os)(h2:w'.tape=w.tape)(h3:w'.output=w.output)(h4:drw w≤drw w')(hown:eY Φ w' l o) :
  Inv Φ w' (σ.set l o)∧Step Φ σ w Φ (σ.set l o) w':=by
 refine⟨hi.upd (.refl Φ) (fun _=>rfl) l o p hp (fun m o q=>St.bX q) (fun m o' q R' hm hs' hq hR'=>?_) (fun a v h=>?_) hown hi.fresh.1,.refl Φ,h1,h2,h3,h4,Nat.le_of_eq hsz.symm,fun k hk hn=>hh k ?_,fun a v h=>.inl h,fun m o q=>?_,fun R' hR'=>?_⟩
 ·rcases St.bX hs' with⟨_,q1⟩|⟨q1,_⟩
  ·have hne:R'≠R:=fun e=>hm (hi.inj m l o' o0 q p R' q1 hs hq hp hR' (e ▸ hR))
   exact⟨hh R' hne,by rw[hR];simpa using Ne.symm hne⟩
  ·exact absurd q1 hm
 ·have hne:=hi.apart l o0 p R a v hs hp hR h
  exact⟨hh _ hne,by rw[hR];simpa using Ne.symm hne⟩
 ·intro e
  subst e
  exact hn ⟨l,o0,p,hs,hp,hR⟩
 ·rcases St.bX q with⟨_,q1⟩|⟨rfl,_⟩
  ·exact .inl ⟨_,q1⟩
  ·exact .inl ⟨_,hs⟩
 ·obtain⟨m,o1,p1,s1,s2,s3⟩:=hR'
  rcases St.bX s1 with⟨hm,q1⟩|⟨rfl,_⟩
  ·exact .inl ⟨m,o1,p1,q1,s2,s3⟩
  ·exact .inl ⟨m,o0,p1,hs,s2,s3⟩
def sop(P:Program)(o:Oper)(f:FR)(σ:St)(k:MV→St→Prop):Prop :=
 ∀Φ w a K Q',Inv Φ w σ→dD Φ a.tmps f→(∀v mv σ' Φ' w',Rel Φ' v mv→Inv Φ' w' σ'→Step Φ σ w Φ' σ' w'→k mv σ'→K (a.put o.dst v) w')→o.wp P a w K Q'
theorem bJ{P:Program}{o:Oper}{a:Act}{w w':World}{K:Act→World→Prop}{Q:Exit→Act→World→Prop}{v:Value}(h:(execOp a.eval o).run P w=.ok (.value v) w')(hK:K (a.put o.dst v) w'):o.wp P a w K Q:=by
 unfold Oper.wp Oper.upon
 rw[h]
 exact hK
theorem E3{P:Program}{o:Oper}{a:Act}{w w':World}{K:Act→World→Prop}{Q:Exit→Act→World→Prop}(h:(execOp a.eval o).run P w=.ok .skip w')(hK:K (a.put o.dst undef) w'):o.wp P a w K Q:=by
 unfold Oper.wp Oper.upon
 rw[h]
 exact hK
theorem R4{P:Program}{o:Oper}{f:FR}{σ:St}{k:MV→St→Prop}{C:Prop}{mv:MV}(h:qop P f o.op=some (C,mv))(hot:tX o.op=true)(hC:C)(hk:k mv σ):sop P o f σ k:=by
 intro Φ w a K Q' hi hr hK
 obtain⟨v,hv,hrel⟩:=On hi.fresh.2.1 hr h hC hot
 exact bJ (hv w) (hK v mv σ Φ w hrel hi (.refl _ _ _) hk)
theorem Ly{Φ:Phi}{w:World}{l:Nat}{t:TypeId}{cs:Array Value}{ms:List MV}{R:Nat}(hp:Φ.obj l=some ⟨some R,0,ms.length,1⟩)(hh:w.heap[R]?=some (.cells cs t (0,0)))(hc:kE Φ cs ms):eY Φ w l (.row t ms.length [ms]):=by
 refine⟨_,hp,rfl,by simp,by simp[maxLen],fun i x hx=>?_,cs,(0,0),hh,.inl (Nat.le_refl _),by have:=hc.1;simp;omega,fun i x j m hx hm=>?_⟩
 ·cases i<;>simp at hx
  subst hx
  rfl
 ·cases i<;>simp at hx
  subst hx
  refine⟨hc.2.1 j m hm,cs.getD j undef,?_,hc.2.2 j m hm⟩
  have hlt:j<cs.size:=by have:=(List.getElem?_eq_some_iff.1 hm).1;rw[hc.1];exact this
  simp[Array.getD_eq_getD_getElem?,Array.getElem?_eq_getElem hlt]
theorem kE.mono{Φ Φ':Phi}(hle:Φ.le Φ'){cs:Array Value}{ms:List MV}(h:kE Φ cs ms):kE Φ' cs ms:=⟨h.1,h.2.1,fun i m hm=>(h.2.2 i m hm).mono hle⟩
theorem OA{P:Program}{o:Oper}{f:FR}{σ:St}{k:MV→St→Prop}{t:TypeId}(ho:o.op=.alloc t)(hz:(td P t).zok=true)
 (hk:∀l,σ l=none→k (.ptr l 0 0) (σ.set l (.row t (td P t).size [(td P t).zero]))):sop P o f σ k:=by
 intro Φ w a K Q' hi hr hK
 obtain⟨n,hn⟩:=hi.fresh.1.1
 have hl:=hn n (Nat.le_refl _)
 obtain⟨z,hz0,hz1,hz2,hok,hz3,_⟩:=dH hz w
 have hlen:(td P t).zero.length=(td P t).size:=by rw[←hz1,←hz2];simp
 have hrun:(execOp a.eval o).run P w=.ok (.value (.pointer (some ⟨w.heap.size,0,none⟩))) (w.alloc (.cells z.cells t)):=by
  unfold execOp
  simp only[ho,Instr.alloc,Sem.run_bind,hz0,Result.andThen_ok,newVar,newRow,run_newObj,Sem.run_pure]
  rfl
 obtain⟨i1,s1⟩:=hi.alloc (w':=w.alloc (.cells z.cells t)) n hl (.row t (td P t).zero.length [(td P t).zero]) (.cells z.cells t) ⟨some w.heap.size,0,(td P t).zero.length,1⟩ rfl rfl rfl rfl rfl (by first|exact Nat.le_refl _|exact kS (Nat.le_succ _))
  (Ly (R:=w.heap.size) (Phi.cO _ _ _) (heap_alloc_new w _) (jY hz1 hz3))
 rw[hlen] at i1 s1
 refine bJ hrun (hK _ (.ptr n 0 0) _ _ _ ?_ i1 s1 (hk n (hi.fT hl)))
 have:=Rel.ptr (Φ:=Φ.put n ⟨some w.heap.size,0,(td P t).size,1⟩) (l:=n) (i:=0) (o:=0) (R:=w.heap.size) (Phi.cO _ _ _) rfl
 simpa using this
theorem Ui{P:Program}{o:Oper}{f:FR}{σ:St}{k:MV→St→Prop}{t:TypeId}{x:Operand}(ho:o.op=.box t x)(hc:∀c,c∈(aE f x).cells→c.aL=true)
 (hk:∀l,σ l=none→k (.ptr l 0 0) (σ.set l (.row t (aE f x).cells.length [(aE f x).cells]))):sop P o f σ k:=by
 intro Φ w a K Q' hi hr hK
 obtain⟨n,hn⟩:=hi.fresh.1.1
 have hl:=hn n (Nat.le_refl _)
 have rc:=rB (aI hr x) hc
 have hrun:(execOp a.eval o).run P w=.ok (.value (.pointer (some ⟨w.heap.size,0,none⟩))) (w.alloc (.cells (a.eval x).cells t)):=by
  unfold execOp
  simp only[ho,Instr.box,Sem.run_bind,newVar,newRow,run_newObj,Result.andThen_ok,Sem.run_pure]
  rfl
 obtain⟨i1,s1⟩:=hi.alloc (w':=w.alloc (.cells (a.eval x).cells t)) n hl (.row t (aE f x).cells.length [(aE f x).cells]) (.cells (a.eval x).cells t) ⟨some w.heap.size,0,(aE f x).cells.length,1⟩ rfl rfl rfl rfl rfl (by first|exact Nat.le_refl _|exact kS (Nat.le_succ _))
  (Ly (R:=w.heap.size) (Phi.cO _ _ _) (heap_alloc_new w _) (rc.mono (Phi.sM _ hl)))
 refine bJ hrun (hK _ (.ptr n 0 0) _ _ _ ?_ i1 s1 (hk n (hi.fT hl)))
 have:=Rel.ptr (Φ:=Φ.put n ⟨some w.heap.size,0,(aE f x).cells.length,1⟩) (l:=n) (i:=0) (o:=0) (R:=w.heap.size) (Phi.cO _ _ _) rfl
 simpa using this
theorem lK{P:Program}{Φ:Phi}{w:World}{t:TypeId}{b off:Nat}{ms:List MV}(hok:(td P t).ok=true)(h1:(td P t).size≤ms.length)(h0:0<(td P t).size)
 (hc:∀(j:Nat) m,ms[j]?=some m→m.aL=true∧∃v,w.cell? ⟨b,off+j,none⟩=some v∧Rel Φ v m) :
  ∃v,(loadVar t ⟨b,off,none⟩).run P w=.ok v w∧Rel Φ v (eA (td P t) ms 0):=by
 have hch:∀j,j<ms.length→∃v,w.cell? ⟨b,off+j,none⟩=some v∧Rel Φ v (ms.getD j .junk):=fun j hj=>(hc j _ (j6 hj)).2
 let g:Nat→Value:=fun j=>if hj:j<ms.length then(hch j hj).choose else undef
 have hg:∀j,j<ms.length→w.cell? ⟨b,off+j,none⟩=some (g j)∧Rel Φ (g j) (ms.getD j .junk):=fun j hj=>by
  have:=(hch j hj).choose_spec
  simp only[g,dif_pos hj]
  exact this
 unfold eA
 simp only[loadVar,Sem.run_bind,sQ hok,Result.andThen_ok]
 cases hk:(td P t).k.isAgg with
 | true =>
  simp only[if_true,aO hok,Sem.run_bind,Result.andThen_ok]
  rw[run_loadCells w ⟨b,off,none⟩ (td P t).size g (fun j hj=>by rw[dU];exact(hg j oM).1)]
  refine⟨_,rfl,.agg ?_ (fun i m hm=>?_) (fun i m hm=>?_)⟩
  ·simp;omega
  ·rw[List.getElem?_take] at hm
   split at hm
   ·exact(hc i m (by simpa using hm)).1
   ·cases hm
  ·rw[List.getElem?_take] at hm
   split at hm
   ·rename_i hi
    have hm':ms[i]?=some m:=by simpa using hm
    have e:ms.getD i .junk=m:=by simp[List.getD,hm']
    have:=(hg i oM).2
    rw[e] at this
    simpa[Array.getD_eq_getD_getElem?,hi] using this
   ·cases hm
 | false =>
  have:=hg 0 oM
  rw[Nat.add_zero] at this
  refine⟨g 0,?_,this.2⟩
  simp only[Bool.false_eq_true,if_false,run_load,this.1]
theorem eY.elem{Φ:Phi}{w:World}{l:Nat}{t:TypeId}{e:Nat}{xs:List (List MV)}(h:eY Φ w l (.row t e xs)){i:Nat}{x:List MV}(hx:xs[i]?=some x) :
  ∃p,Φ.obj l=some p∧p.e=e∧x.length=e∧((∃R,p.blk=some R∧∀(j:Nat) m,x[j]?=some m→m.aL=true∧∃v,w.cell? ⟨R,p.bo+i * e+j,none⟩=some v∧Rel Φ v m)):=by
 obtain⟨p,hp,he,h1,h2,h3,h4⟩:=h
 refine⟨p,hp,he,h3 i x hx,?_⟩
 cases hb:p.blk with
 | none =>
  rw[hb] at h4
  have:=(List.getElem?_eq_some_iff.1 hx).1
  have h4':p.C=0:=h4
  omega
 | some R =>
  rw[hb] at h4
  obtain⟨c,fz,k1,k2,k3,k4⟩:=h4
  refine⟨R,rfl,fun j m hm=>?_⟩
  obtain⟨q1,v,q2,q3⟩:=k4 i x j m hx hm
  refine⟨q1,v,?_,q3⟩
  simp only[World.cell?,k1,Option.isSome_none,Bool.false_eq_true,if_false]
  rw[←q2,Nat.add_assoc]
theorem R0{P:Program}{o:Oper}{f:FR}{σ:St}{k:MV→St→Prop}{t:TypeId}{x:Operand}(ho:o.op=.load t x){l i of:Nat}(hx:aE f x=.ptr l i of)
 {tt:TypeId}{e:Nat}{xs:List (List MV)}(hs:σ l=some (.row tt e xs))(hok:(td P t).ok=true)(hi':i<xs.length)(h1:of+(td P t).size≤(xs.getD i []).length)(h0:0<(td P t).size)
 (hk:k (eA (td P t) (xs.getD i []) of) σ):sop P o f σ k:=by
 intro Φ w a K Q' hi hr hK
 have rx:=aI hr x
 rw[hx] at rx
 obtain⟨p,R,hp,hR,he⟩:=rx.iZ
 obtain⟨p',hp',hpe,hlen,R',hR',hcells⟩:=(hi.own l _ hs).elem (j6 hi' (d:=[]))
 rw[hp] at hp';cases hp'
 rw[hR] at hR';cases hR'
 obtain⟨v,hv,hrel⟩:=lK (P:=P) (Φ:=Φ) (w:=w) (t:=t) (b:=R) (off:=p.bo+i * p.e+of) (ms:=(xs.getD i []).drop of) hok (by rw[List.length_drop];omega) h0 (fun j m hm=>by
  rw[List.getElem?_drop] at hm
  have:=hcells _ m hm
  rw[Nat.add_assoc (p.bo+i * p.e),hpe]
  exact this)
 have e2:eA (td P t) ((xs.getD i []).drop of) 0=eA (td P t) (xs.getD i []) of:=by
  unfold eA
  simp[List.getD,List.getElem?_drop]
 rw[e2] at hrel
 refine bJ (v:=v) (w':=w) ?_ (hK _ _ _ _ _ hrel hi (.refl _ _ _) hk)
 unfold execOp
 simp only[ho,he,Instr.loadAt,Sem.run_bind,dT,Result.andThen_ok,hv,Sem.run_pure]
theorem OC{P:Program}{o:Oper}{f:FR}{σ:St}{k:MV→St→Prop}{t:TypeId}{x:Operand}(ho:o.op=.load t x){cs:List MV}(hx:aE f x=.cptr cs)
 (hok:(td P t).ok=true)(h1:(td P t).size≤cs.length)(h0:0<(td P t).size)(hk:k (eA (td P t) cs 0) σ):sop P o f σ k:=by
 intro Φ w a K Q' hi hr hK
 have rx:=aI hr x
 rw[hx] at rx
 obtain⟨b,off,vs,he,hc,hrr⟩:=rx.nH
 obtain⟨v,hv,hrel⟩:=lK (P:=P) (Φ:=Φ) (w:=w) (t:=t) (b:=b) (off:=off) (ms:=cs) hok h1 h0 (fun j m hm=>⟨(hc j m hm).1,vs j,hi.snap _ _ (hc j m hm).2,hrr j m hm⟩)
 refine bJ (v:=v) (w':=w) ?_ (hK _ _ _ _ _ hrel hi (.refl _ _ _) hk)
 unfold execOp
 simp only[ho,he,Instr.loadAt,Sem.run_bind,dT,Result.andThen_ok,hv,Sem.run_pure]
end

section
def fU(w:World)(R:Nat)(o:Obj):World:={ w with heap:=w.heap.setIfInBounds R o }
theorem gS{w:World}{R:Nat}{o:Obj}(h:R<w.heap.size):(fU w R o).heap[R]?=some o:=by simp[fU,h]
theorem eT{w:World}{R k:Nat}{o:Obj}(h:k≠R):(fU w R o).heap[k]?=w.heap[k]?:=by simp[fU,Array.getElem?_setIfInBounds,Ne.symm h]
theorem iQ{w:World}{R:Nat}{o:Obj}:(fU w R o).heap.size=w.heap.size:=by simp[fU]
theorem OS{w:World}{R:Nat}{o o':Obj}:fU (fU w R o) R o'=fU w R o':=by
 simp only[fU,Array.setIfInBounds_setIfInBounds]
theorem C9{w:World}{R:Nat}{o:Obj}(h:w.heap[R]?=some o):fU w R o=w:=by
 have:w.heap.setIfInBounds R o=w.heap:=by
  apply Array.ext_getElem?
  intro i
  rw[Array.getElem?_setIfInBounds]
  split
  ·rename_i hi
   subst hi
   have:=(Array.getElem?_eq_some_iff.1 h).1
   simp[this,←h]
  ·rfl
 unfold fU
 rw[this]
theorem uK{w:World}{R k:Nat}{c:Array Value}{t:TypeId}{fz:Nat × Nat}{v:Value}(h:w.heap[R]?=some (.cells c t fz)) :
  w.setCell ⟨R,k,none⟩ v=fU w R (.cells (c.setIfInBounds k v) t fz):=by
 unfold World.setCell fU
 congr 1
 apply Array.ext_getElem?
 intro i
 rw[Array.getElem?_modify,Array.getElem?_setIfInBounds]
 have hlt:=(Array.getElem?_eq_some_iff.1 h).1
 split
 ·rename_i hi
  subst hi
  have h2:w.heap[R]=.cells c t fz:=(Array.getElem?_eq_some_iff.1 h).2
  simp[hlt,h2]
 ·rfl
def zC(t:TypeId)(c:Array Value)(fz:Nat × Nat):Prop:=fz.2≤fz.1∨FZ t=true∧c.size≤fz.1
section
variable {P:Program} {Φ:Phi}
theorem gX{R:Nat}{t:TypeId}{fz:Nat × Nat}{off:Nat}:∀(vs:List Value) (i:Nat) (c:Array Value) (w:World),w.heap[R]?=some (.cells c t fz)→zC t c fz→off+i+vs.length≤c.size→(∀v,v∈vs→v.oneCell'=true) →
  (storeCells ⟨R,off,none⟩ vs i).run P w=.ok () (fU w R (.cells (b7 c (off+i) vs) t fz)):=by
 intro vs
 induction vs with
 | nil=>intro i c w h _ _ _;simp only[storeCells,b7,Sem.run_pure];rw[C9 h]
 | cons v vs ih =>
  intro i c w h hf hl h1
  simp only[List.length_cons] at hl
  have hlt:R<w.heap.size:=(Array.getElem?_eq_some_iff.1 h).1
  have hc:w.cell? ⟨R,off+i,none⟩=some (c.getD (off+i) undef):=by
   simp only[World.cell?,h,Option.isSome_none,Bool.false_eq_true,if_false]
   simp[Array.getD_eq_getD_getElem?,Array.getElem?_eq_getElem (show off+i<c.size by omega)]
  have hz:w.frozen? ⟨R,off+i,none⟩=false:=by
   simp only[World.frozen?,h]
   rcases hf with hf|hf
   ·simp;omega
   ·simp;omega
  simp only[storeCells,Sem.run_bind]
  rw[dU,run_store P w _ v _ (h1 v (by simp)),hc]
  simp only[hz,Bool.false_eq_true,if_false,Result.andThen_ok]
  rw[uK h,ih (i+1) (c.setIfInBounds (off+i) v) _ (gS hlt) (by simpa[zC] using hf) (by simp;omega) (fun x hx=>h1 x (by simp[hx])),OS]
  rfl
theorem kE.tW{cs:Array Value}{ms:List MV}(h:kE Φ cs ms):∀v,v∈cs.toList→v.oneCell'=true:=by
 intro v hv
 obtain⟨i,hi⟩:=List.mem_iff_getElem?.1 hv
 have hlt:i<ms.length:=by have:=(List.getElem?_eq_some_iff.1 hi).1;have:=h.1;simp at *;omega
 have hm:ms[i]?=some (ms.getD i .junk):=j6 hlt
 have:=(h.2.2 i _ hm).Lx (h.2.1 i _ hm)
 rw[Array.getElem?_toList] at hi
 simpa[Array.getD_eq_getD_getElem?,hi] using this
theorem mJ{e:Nat}:∀(xs:List (List MV)) (i j:Nat) (x:List MV) (m:MV),(∀(i:Nat) (x:List MV),xs[i]?=some x→x.length=e)→xs[i]?=some x→x[j]?=some m→xs.flatten[i * e+j]?=some m:=by
 intro xs
 induction xs with
 | nil=>intro i j x m _ hx;simp at hx
 | cons y ys ih =>
  intro i j x m hall hx hm
  have hy:y.length=e:=hall 0 y rfl
  cases i with
  | zero =>
   simp at hx
   subst hx
   have:=(List.getElem?_eq_some_iff.1 hm).1
   rw[List.flatten_cons,List.getElem?_append_left oM]
   simpa using hm
  | succ i =>
   have:=ih i j x m (fun k z hz=>hall (k+1) z (by simpa using hz)) (by simpa using hx) hm
   rw[List.flatten_cons,List.getElem?_append_right (by rw[hy,Nat.add_mul];omega)]
   rw[←this]
   congr 1
   rw[hy,Nat.add_mul]
   omega
theorem dW{e:Nat}:∀(xs:List (List MV)),(∀(i:Nat) (x:List MV),xs[i]?=some x→x.length=e)→xs.flatten.length=xs.length * e:=by
 intro xs
 induction xs with
 | nil=>intro _;simp
 | cons y ys ih =>
  intro h
  rw[List.flatten_cons,List.length_append,ih (fun k z hz=>h (k+1) z (by simpa using hz)),h 0 y rfl,List.length_cons,Nat.add_mul]
  omega
theorem LA{w:World}{l:Nat}{t:TypeId}{e:Nat}{xs:List (List MV)}{p:Place}{R:Nat}{c:Array Value}{fz:Nat × Nat}(hp:Φ.obj l=some p)(hR:p.blk=some R)(he:p.e=e)(hC:xs.length≤p.C)(hm:p.C≤maxLen)
 (hx:∀(i:Nat) (x:List MV),xs[i]?=some x→x.length=e)(hh:w.heap[R]?=some (.cells c t fz))(hf:zC t c fz)(hsz:p.bo+p.C * e≤c.size)
 (hc:∀(i:Nat) m,xs.flatten[i]?=some m→m.aL=true∧∃v,c[p.bo+i]?=some v∧Rel Φ v m):eY Φ w l (.row t e xs):=by
 refine⟨p,hp,he,hC,hm,hx,?_⟩
 rw[hR]
 exact⟨c,fz,hh,hf,hsz,fun i x j m a b=>hc _ m (mJ xs i j x m hx a b)⟩
theorem Q6{w:World}{l:Nat}{t:TypeId}{e:Nat}{p:Place}(hp:Φ.obj l=some p)(hR:p.blk=none)(he:p.e=e)(hC:p.C=0):eY Φ w l (.row t e []):=by
 refine⟨p,hp,he,Nat.zero_le _,by simp[hC,maxLen],by simp,?_⟩
 rw[hR]
 exact hC
theorem qG{w:World}{b off:Nat}{ms:List MV}(hc:∀(j:Nat) m,ms[j]?=some m→m.aL=true∧∃v,w.cell? ⟨b,off+j,none⟩=some v∧Rel Φ v m) :
  ∃arr,(∀w':World,w'.heap=w.heap→(loadCells ⟨b,off,none⟩ ms.length).run P w'=.ok arr w')∧kE Φ arr ms:=by
 have hch:∀j,j<ms.length→∃v,w.cell? ⟨b,off+j,none⟩=some v∧Rel Φ v (ms.getD j .junk):=fun j hj=>(hc j _ (j6 hj)).2
 let g:Nat→Value:=fun j=>if hj:j<ms.length then(hch j hj).choose else undef
 have hg:∀j,j<ms.length→w.cell? ⟨b,off+j,none⟩=some (g j)∧Rel Φ (g j) (ms.getD j .junk):=fun j hj=>by
  have:=(hch j hj).choose_spec
  simp only[g,dif_pos hj]
  exact this
 refine⟨((List.range ms.length).map g).toArray,fun w' hw'=>?_,by simp,fun i m hm=>(hc i m hm).1,fun i m hm=>?_⟩
 ·exact run_loadCells w' ⟨b,off,none⟩ ms.length g (fun j hj=>by
   rw[dU]
   have:=(hg j hj).1
   simpa[World.cell?,hw'] using this)
 ·have hlt:=(List.getElem?_eq_some_iff.1 hm).1
  have e:ms.getD i .junk=m:=by simp[List.getD,hm]
  have:=(hg i hlt).2
  rw[e] at this
  simpa[Array.getD_eq_getD_getElem?,hlt] using this
theorem iX{α β:Type}(g:α→β):∀l:List α,(l.map fun b=>[g b]).flatten=l.map g
 | []=>rfl
 | a::l=>by simp[iX g l]
def fG(σ:St)(e:Nat):MV→Option (List (List MV))
 | .aM=>some []
 | .lst e' xs _=>if e'=e then some xs else none
 | .vec e' l lo n=>if e'=e then(match σ l with
  | some (.row _ _ ys)=>if lo+n≤ys.length then some ((ys.drop lo).take n) else none
  | _=>none) else none
 | .str s=>if e=1 then some (s.toList.map fun b=>[.int .u8 (b.toNat:Int)]) else none
 | _=>none
theorem eY.U7{w:World}{l:Nat}{t:TypeId}{e:Nat}{xs:List (List MV)}(h:eY Φ w l (.row t e xs)):∀(i:Nat) (x:List MV),xs[i]?=some x→x.length=e:=h.choose_spec.2.2.2.2.1
theorem rL{w:World}{b off e:Nat}{xs:List (List MV)}(hx:∀(i:Nat) (x:List MV),xs[i]?=some x→x.length=e)
 (h:∀(i:Nat) (x:List MV) (j:Nat) (m:MV),xs[i]?=some x→x[j]?=some m→m.aL=true∧∃v,w.cell? ⟨b,off+(i * e+j),none⟩=some v∧Rel Φ v m) :
  ∀(k:Nat) m,xs.flatten[k]?=some m→m.aL=true∧∃v,w.cell? ⟨b,off+k,none⟩=some v∧Rel Φ v m:=by
 induction xs generalizing off with
 | nil=>intro k m hm;simp at hm
 | cons y ys ih =>
  intro k m hm
  have hy:y.length=e:=hx 0 y rfl
  rw[List.flatten_cons] at hm
  by_cases hk:k<y.length
  ·rw[List.getElem?_append_left hk] at hm
   have:=h 0 y k m rfl hm
   simpa using this
  ·rw[List.getElem?_append_right oM] at hm
   have:=ih (off:=off+e) (fun i x q=>hx (i+1) x (by simpa using q)) (fun i x j m q r=>by
    have:=h (i+1) x j m (by simpa using q) r
    rw[Nat.add_mul,Nat.one_mul] at this
    rw[show off+e+(i * e+j)=off+(i * e+e+j) from by omega]
    exact this) _ m hm
   rw[hy] at this
   rw[show off+e+(k - e)=off+k from by omega] at this
   exact this
theorem iC{w:World}{σ:St}{e:Nat}{x:MV}{ys:List (List MV)}(h:fG σ e x=some ys)(hi:Inv Φ w σ){v:Value}(r:Rel Φ v x) :
  ∃arr,(∀w':World,w'.heap=w.heap→(Builtin.lenOf v).run P w'=.ok ys.length w'∧(Builtin.firstCells e ys.length v).run P w'=.ok arr w')∧kE Φ arr ys.flatten∧∀(i:Nat) (y:List MV),ys[i]?=some y→y.length=e:=by
 unfold fG at h
 split at h
 ·cases h;cases r.fP
  exact⟨#[],fun w' _=>⟨rfl,rfl⟩,⟨rfl,by simp,by simp⟩,by simp⟩
 ·rename_i e' xs t
  split at h<;>simp only[Option.some.injEq,reduceCtorEq] at h
  rename_i he
  subst he;subst h
  obtain⟨a,cap,rfl,_,_,_,ha,hat⟩:=r.lB
  rcases Nat.eq_zero_or_pos xs.length with h0|h0
  ·have hx:=List.eq_nil_of_length_eq_zero h0
   subst hx
   refine⟨#[],fun w' _=>⟨rfl,?_⟩,⟨rfl,by simp,by simp⟩,by simp⟩
   cases a with
   | none=>rfl
   | some a=>simp[Builtin.firstCells,loadCells,loadCellsFrom]
  ·obtain⟨b,off,rfl,hx,vs,hv⟩:=hat h0
   obtain⟨arr,h1,h2⟩:=qG (P:=P) (Φ:=Φ) (w:=w) (b:=b) (off:=off) (ms:=xs.flatten) (rL hx (fun i x j m a b=>⟨(hv i x j m a b).1,_,hi.snap _ _ (hv i x j m a b).2.1,(hv i x j m a b).2.2⟩))
   refine⟨arr,fun w' hw=>⟨rfl,?_⟩,h2,hx⟩
   have e3:=dW _ hx
   show(loadCells _ (xs.length * e')).run P w'=_
   rw[←e3]
   exact h1 w' hw
 ·rename_i e' l lo n
  split at h
  rotate_left
  ·cases h
  rename_i he
  subst he
  split at h
  ·rename_i t e2 zs hs
   split at h<;>simp only[Option.some.injEq,reduceCtorEq] at h
   rename_i hlen
   subst h
   have hown:=hi.own l _ hs
   obtain⟨a,cap,p,rfl,hp,rfl,hcap,hn,hR⟩:=r.dR
   have hl:((zs.drop lo).take n).length=n:=by simp;omega
   have hxx:∀(i:Nat) (y:List MV),((zs.drop lo).take n)[i]?=some y→zs[lo+i]?=some y:=fun i y q=>by
    rw[List.getElem?_take] at q
    split at q
    ·simpa using q
    ·cases q
   have hpe:p.e=e2:=by
    obtain⟨p',hp',he',_⟩:=hown
    rw[hp] at hp';cases hp'
    exact he'
   have hx:∀(i:Nat) (y:List MV),((zs.drop lo).take n)[i]?=some y→y.length=p.e:=fun i y q=>by rw[hpe];exact hown.U7 (lo+i) y (hxx i y q)
   rcases Nat.eq_zero_or_pos n with h0|h0
   ·subst h0
    refine⟨#[],fun w' _=>⟨by simp[Builtin.lenOf],?_⟩,⟨by simp,by simp,by simp⟩,by simp⟩
    cases a with
    | none=>simp[Builtin.firstCells]
    | some a=>simp[Builtin.firstCells,loadCells,loadCellsFrom]
   ·rcases hR with⟨R,hb,rfl⟩|hR
    ·obtain⟨arr,h1,h2⟩:=qG (P:=P) (Φ:=Φ) (w:=w) (b:=R) (off:=p.bo+lo * p.e) (ms:=((zs.drop lo).take n).flatten) (rL hx (fun i x j m q1 q2=>by
      obtain⟨p',hp',he',_,R',hR',hc⟩:=hown.elem (hxx i x q1)
      rw[hp] at hp';cases hp'
      rw[hb] at hR';cases hR'
      have:=hc j m q2
      rw[←hpe,show p.bo+(lo+i) * p.e+j=p.bo+lo * p.e+(i * p.e+j) from by rw[Nat.add_mul];omega] at this
      exact this))
     refine⟨arr,fun w' hw=>⟨by simp only[Builtin.lenOf,hl];rfl,?_⟩,h2,hx⟩
     have e3:=dW _ hx
     show(loadCells _ (((zs.drop lo).take n).length * p.e)).run P w'=_
     rw[←e3]
     exact h1 w' hw
    ·omega
  ·cases h
 ·rename_i s
  split at h<;>simp only[Option.some.injEq,reduceCtorEq] at h
  rename_i he
  subst he;subst h
  cases r.fZ
  have hsl:s.toList.length=s.size:=by rw[ByteArray.toList_eq,Array.length_toList];rfl
  refine⟨s.data.map fun b=>.int .u8 b.toNat,fun w' _=>⟨by simp only[Builtin.lenOf,List.length_map,hsl];rfl,?_⟩,?_,fun i y hy=>?_⟩
  ·simp only[Builtin.firstCells,List.length_map,hsl,Sem.run_pure,ByteArray.extract_zero_size]
  ·rw[iX]
   refine⟨by rw[List.length_map,hsl,Array.size_map];rfl,fun i m hm=>?_,fun i m hm=>?_⟩
   ·rw[List.getElem?_map,Option.map_eq_some_iff] at hm
    obtain⟨b,_,rfl⟩:=hm
    rfl
   ·rw[List.getElem?_map,Option.map_eq_some_iff] at hm
    obtain⟨b,hb,rfl⟩:=hm
    rw[ByteArray.toList_eq,Array.getElem?_toList] at hb
    have:(s.data.map fun b=>Value.int .u8 (b.toNat:Int)).getD i undef=.int .u8 b.toNat:=by
     rw[Array.getD_eq_getD_getElem?,Array.getElem?_map,hb];rfl
    rw[this]
    exact .int _ _
  ·simp at hy
   obtain⟨b,_,rfl⟩:=hy
   rfl
 ·cases h
end
end

section
section
variable {P:Program}
theorem iN(l:List Value)(cs:Array Value)(off i:Nat)(h:off+l.length≤cs.size):(b7 cs off l)[i]?=if off≤i∧i<off+l.length then l[i - off]? else cs[i]?:=by
 by_cases hi:i<cs.size
 ·have e1:(b7 cs off l)[i]?=some ((b7 cs off l).getD i undef):=by
   simp[Array.getD_eq_getD_getElem?,Array.getElem?_eq_getElem (show i<(b7 cs off l).size by rw[cM];exact hi)]
  rw[e1,x9 _ _ _ _ _ h]
  split
  ·rename_i hc
   exact(j6 oM).symm
  ·simp[Array.getD_eq_getD_getElem?,Array.getElem?_eq_getElem hi]
 ·rw[if_neg oM,Array.getElem?_eq_none (by rw[cM];omega),Array.getElem?_eq_none oM]
theorem kJ{cs new:List MV}{off:Nat}(h:off+new.length≤cs.length):(laid cs off new).length=cs.length:=by simp[laid];omega
theorem nL{cs new:List MV}{off:Nat}(h:off+new.length≤cs.length)(i:Nat):(laid cs off new)[i]?=if off≤i∧i<off+new.length then new[i - off]? else cs[i]?:=by
 unfold laid
 by_cases h1:i<off
 ·rw[if_neg oM,List.append_assoc,List.getElem?_append_left (by simp;omega),List.getElem?_take,if_pos h1]
 ·by_cases h2:i<off+new.length
  ·rw[if_pos oM,List.append_assoc,List.getElem?_append_right (by simp;omega),List.getElem?_append_left (by simp;omega)]
   simp[show min off cs.length=off by omega]
  ·rw[if_neg oM,List.getElem?_append_right (by simp;omega),List.getElem?_drop]
   congr 1
   simp
   omega
theorem OG{o:Oper}{f:FR}{σ:St}{k:MV→St→Prop}{t:TypeId}{x y:Operand}(ho:o.op=.store t x y){l i of:Nat}(hx:aE f x=.ptr l i of)
 {tt:TypeId}{e:Nat}{xs:List (List MV)}(hs:σ l=some (.row tt e xs))(hok:(td P t).ok=true)(hi':i<xs.length)(hc:∀c,c∈(aE f y).cells→c.aL=true)(hlen:(aE f y).cells.length=(td P t).size)
 (h1:of+(aE f y).cells.length≤(xs.getD i []).length)(hk:k .junk (σ.set l (.row tt e (xs.set i (laid (xs.getD i []) of (aE f y).cells))))):sop P o f σ k:=by
 intro Φ w a K Q' hi hr hK
 have rx:=aI hr x
 rw[hx] at rx
 obtain⟨p,R,hp,hR,he⟩:=rx.iZ
 have rc:=rB (aI hr y) hc
 have hown:=hi.own l _ hs
 have hown':=hown
 obtain⟨p',hp',hpe,q1,q2,q3,q4⟩:=hown
 rw[hp] at hp';cases hp'
 rw[hR] at q4
 obtain⟨c,fz,k1,k2,k3,k4⟩:=q4
 have hxi:xs[i]?=some (xs.getD i []):=j6 hi'
 have hxl:=q3 i _ hxi
 have hvl:(a.eval y).cells.toList.length=(aE f y).cells.length:=by simpa using rc.1
 have hfit:p.bo+i * p.e+of+(a.eval y).cells.toList.length≤c.size:=by
  have:(i+1) * e≤p.C * e:=Nat.mul_le_mul_right _ oM
  rw[Nat.add_mul,Nat.one_mul] at this
  rw[hpe]
  omega
 have hrun:(execOp a.eval o).run P w=.ok .skip (fU w R (.cells (b7 c (p.bo+i * p.e+of) (a.eval y).cells.toList) tt fz)):=by
  unfold execOp
  simp only[ho,he,Instr.storeAt,Sem.run_bind,dT,Result.andThen_ok,storeVar,aO hok]
  rw[if_neg (by have:=rc.1;omega)]
  rw[gX (P:=P) _ 0 c w k1 k2 (by simpa using hfit) rc.tW]
  rfl
 have hlt:R<w.heap.size:=(Array.getElem?_eq_some_iff.1 k1).1
 obtain⟨i1,s1⟩:=hi.EX (w':=fU w R (.cells (b7 c (p.bo+i * p.e+of) (a.eval y).cells.toList) tt fz)) l hs (.row tt e (xs.set i (laid (xs.getD i []) of (aE f y).cells))) hp hR iQ (fun k hk=>eT hk) rfl rfl rfl (Nat.le_refl _) (by
  refine⟨p,hp,hpe,by simpa using q1,q2,fun i' x' hx'=>?_,?_⟩
  ·rw[List.getElem?_set] at hx'
   split at hx'
   ·simp only[Option.some.injEq] at hx'
    subst hx'
    rw[kJ h1,hxl]
   ·exact q3 i' x' hx'
  ·rw[hR]
   refine⟨_,fz,gS hlt,by simpa[zC,cM] using k2,by rw[cM];exact k3,fun i' x' j m hx' hm=>?_⟩
   rw[iN _ _ _ _ hfit,hvl,hpe]
   rw[List.getElem?_set] at hx'
   split at hx'
   ·rename_i hii
    subst hii
    simp only[Option.some.injEq] at hx'
    subst hx'
    rw[nL h1] at hm
    split at hm
    ·rename_i hin
     rw[if_pos oM]
     refine⟨rc.2.1 _ m hm,(a.eval y).cells.getD (j - of) undef,?_,rc.2.2 _ m hm⟩
     rw[show p.bo+(i * e+j) - (p.bo+i * e+of)=j - of from by omega,Array.getElem?_toList]
     have:j - of<(a.eval y).cells.size:=by have:=rc.1;omega
     simp[Array.getD_eq_getD_getElem?,Array.getElem?_eq_getElem this]
    ·rename_i hin
     rw[if_neg oM]
     exact k4 i _ j m hxi hm
   ·rename_i hii
    have hjl:j<e:=by
     have:=(List.getElem?_eq_some_iff.1 hm).1
     have:=q3 i' x' hx'
     omega
    rw[if_neg (by
     intro hcon
     have hle:of+(aE f y).cells.length≤e:=by omega
     rcases Nat.lt_or_gt_of_ne hii with hlt'|hgt
     ·have:(i+1) * e≤i' * e:=Nat.mul_le_mul_right _ hlt'
      rw[Nat.add_mul,Nat.one_mul] at this
      omega
     ·have:(i'+1) * e≤i * e:=Nat.mul_le_mul_right _ hgt
      rw[Nat.add_mul,Nat.one_mul] at this
      omega)]
    exact k4 i' x' j m hx' hm)
 exact E3 hrun (hK undef .junk _ _ _ (.junk _) i1 s1 hk)
def TK.gA:TK→Bool
 | .slice _|.str=>true
 | _=>false
theorem LR{t:TypeId}(h:(td P t).k.gA=true):(∃e,P.underlying t=some (.slice e))∨P.underlying t=some .string:=by
 cases hk:(td P t).k<;>simp[hk,TK.gA] at h
 ·exact .inr (gY hk)
 ·exact .inl ⟨_,aW hk⟩
theorem run_append_room{t xt ty el:TypeId}{w:World}{a:Option Addr}{n cap m:Nat}{v:Value}{arr:Array Value}(ht:(td P t).k=.slice el)(hxt:(td P xt).k.gA=true)(hok:(td P el).ok=true)
 (hl:(Builtin.lenOf v).run P w=.ok m w)(hf:(Builtin.firstCells (td P el).size m v).run P w=.ok arr w)(hroom:n+m≤cap) :
  (Builtin.append_ #[t,xt] ty #[.slice a n cap,v]).run P w=((match a with|some ad=>storeCells (ad.add (n * (td P el).size)) arr.toList|none=>pure ()).run P w).andThen fun _ w'=>.ok (.slice a (n+m) cap) w':=by
 unfold Builtin.append_
 rcases LR hxt with⟨e,hd⟩|hd <;>
 ·simp only[List.getElem?_toArray,List.getElem?_cons_zero,List.getElem?_cons_succ,Sem.run_bind,aK (aW ht),Result.andThen_ok,aO hok,aK hd,Sem.run_pure,Bool.false_eq_true,if_false,hl,if_pos hroom,Bool.not_false,if_true,hf]
  cases a<;>simp only[Sem.run_bind,Sem.run_pure,Result.andThen_ok]
theorem nS{t xt ty el:TypeId}{w:World}{a:Option Addr}{n cap m:Nat}{v:Value}{arr old:Array Value}(ht:(td P t).k=.slice el)(hxt:(td P xt).k.gA=true)(hz:(td P el).zok=true)
 (hl:(Builtin.lenOf v).run P w=.ok m w)(hf:∀w':World,w'.heap=w.heap→(Builtin.firstCells (td P el).size m v).run P w'=.ok arr w')(ho:∀w':World,w'.heap=w.heap→(Builtin.firstCells (td P el).size n (.slice a n cap)).run P w'=.ok old w')
 (hroom:cap<n+m)(hm:n+m≤maxLen)(hb:(n+m) * (td P el).bytes≤140737488355328) :
  ∃rest:Array Value,rest.size=(grownCap w (n+m) cap el - (n+m)) * (td P el).size∧(Builtin.append_ #[t,xt] ty #[.slice a n cap,v]).run P w=.ok (.slice (some ⟨w.heap.size,0,none⟩) (n+m) (grownCap w (n+m) cap el)) (w.drew.alloc (.cells (old++arr++rest) el)):=by
 obtain⟨z,hz0,hz1,hz2,hok,hz3,_⟩:=dH hz w.drew
 obtain⟨i,d,hinf,hd,hsz,hby,hk⟩:=cY hok
 refine⟨Builtin.zeroCells z.cells (grownCap w (n+m) cap el - (n+m)),by rw[size_zeroCells,hz2],?_⟩
 have hn:¬(n+m≤cap):=by omega
 have h48':¬(Builtin.nextslicecap (n+m) cap * i.bytes > 2 ^ 48):=by
  rw[←hby]
  have:=growslice_fits (show cap<n+m from hroom) hb
  omega
 have h63:¬(((n+m:Nat):Int) > IntKind.i64.max):=by
  simp only[IntKind.max,IntKind.signed,IntKind.bits,maxLen] at hm ⊢
  simp
  omega
 unfold Builtin.append_
 have e1:=ho w.drew rfl
 have e2:=hf w.drew rfl
 simp only[World.drew] at e1 e2 hz0
 rcases LR hxt with⟨e,hd2⟩|hd2 <;>
 ·simp only[List.getElem?_toArray,List.getElem?_cons_zero,List.getElem?_cons_succ,Sem.run_bind,aK (aW ht),Result.andThen_ok,aO hok,aK hd2,Sem.run_pure,Bool.false_eq_true,if_false,hl,if_neg hn,Bool.not_false,if_true,
   h63,false_and,typeInfo,run_program,hinf,if_neg h48',run_choose,Question.forced,run_askRoom]
  simp only[e1,e2,hz0,Result.andThen_ok,newRow,Sem.run_bind,run_newObj,Sem.run_pure]
  rfl
theorem qT{Φ:Phi}{w:World}{σ σ1:St}(hi:Inv Φ w σ)(hless:∀l o,σ1 l=some o→σ l=some o){l':Nat}(hl':Φ.obj l'=none){el:TypeId}{e n m cap':Nat}{xs ys:List (List MV)}{old arr rest:Array Value}
 (hx:∀(i:Nat) (x:List MV),xs[i]?=some x→x.length=e)(hy:∀(i:Nat) (x:List MV),ys[i]?=some x→x.length=e)(hn:xs.length=n)(hm:ys.length=m)(ho:kE Φ old xs.flatten)(ha:kE Φ arr ys.flatten)
 (hr:rest.size=(cap' - (n+m)) * e)(hc:n+m≤cap')(hmax:cap'≤maxLen) :
  Inv (Φ.put l' ⟨some w.heap.size,0,e,cap'⟩) (w.drew.alloc (.cells (old++arr++rest) el)) (σ1.set l' (.row el e (xs++ys))) ∧
  Step Φ σ w (Φ.put l' ⟨some w.heap.size,0,e,cap'⟩) (σ1.set l' (.row el e (xs++ys))) (w.drew.alloc (.cells (old++arr++rest) el)) ∧
  Rel (Φ.put l' ⟨some w.heap.size,0,e,cap'⟩) (.slice (some ⟨w.heap.size,0,none⟩) (n+m) cap') (.vec e l' 0 (n+m)):=by
 have hle:=Phi.sM (Φ:=Φ) ⟨some w.heap.size,0,e,cap'⟩ hl'
 have hxy:∀(i:Nat) (x:List MV),(xs++ys)[i]?=some x→x.length=e:=fun i x q=>by
  by_cases h:i<xs.length
  ·rw[List.getElem?_append_left h] at q;exact hx i x q
  ·rw[List.getElem?_append_right oM] at q;exact hy _ x q
 have hox:old.size=n * e:=by rw[ho.1,dW xs hx,hn]
 have hay:arr.size=m * e:=by rw[ha.1,dW ys hy,hm]
 have i0:=hi.less hless
 have s0:=Step.less w hless (Φ:=Φ)
 obtain⟨i1,s1⟩:=i0.alloc (w':=w.drew.alloc (.cells (old++arr++rest) el)) l' hl' (.row el e (xs++ys)) (.cells (old++arr++rest) el) ⟨some w.heap.size,0,e,cap'⟩ rfl rfl rfl rfl rfl (by first|exact Nat.le_refl _|exact kS (Nat.le_succ _))
  (LA (c:=old++arr++rest) (fz:=(0,0)) (R:=w.heap.size) (Phi.cO _ _ _) rfl rfl (by simp;omega) hmax hxy (heap_alloc_new w.drew _) (.inl (Nat.le_refl _)) (by
   simp only[Array.size_append,hox,hay,hr,Nat.zero_add]
   rw[←Nat.add_mul,←Nat.add_mul]
   exact Nat.mul_le_mul_right _ oM) (fun i m' q=>by
   rw[List.flatten_append] at q
   simp only[Nat.zero_add]
   by_cases h:i<xs.flatten.length
   ·rw[List.getElem?_append_left h] at q
    have h':i<old.size:=by have:=ho.1;omega
    refine⟨ho.2.1 i m' q,old.getD i undef,?_,(ho.2.2 i m' q).mono hle⟩
    rw[Array.append_assoc,Array.getElem?_append_left h']
    simp[Array.getD_eq_getD_getElem?,Array.getElem?_eq_getElem h']
   ·rw[List.getElem?_append_right oM] at q
    have hlt:=(List.getElem?_eq_some_iff.1 q).1
    have e1:=ho.1
    have e2:=ha.1
    refine⟨ha.2.1 _ m' q,arr.getD (i - xs.flatten.length) undef,?_,(ha.2.2 _ m' q).mono hle⟩
    have h3:i - xs.flatten.length<arr.size:=by omega
    have e3:arr.getD (i - xs.flatten.length) undef=arr[i - xs.flatten.length]:=by simp only[Array.getD_eq_getD_getElem?,Array.getElem?_eq_getElem h3,Option.getD_some]
    rw[Array.append_assoc,Array.getElem?_append_right oM,Array.getElem?_append_left oM,e1,e3,Array.getElem?_eq_getElem h3]))
 refine⟨i1,s0.trans s1,?_⟩
 have:=Rel.vec (Φ:=Φ.put l' ⟨some w.heap.size,0,e,cap'⟩) (l:=l') (lo:=0) (n:=n+m) (cap:=cap') (R:=w.heap.size) (Phi.cO _ _ _) rfl (by simp) hc
 simpa using this
theorem nW{Φ:Phi}{w:World}{σ σ1:St}(hi:Inv Φ w σ)(hless:∀l o,σ1 l=some o→σ l=some o){l':Nat}(hl':Φ.obj l'=none)(el:TypeId)(e:Nat)(a:Option Addr) :
  Inv (Φ.put l' ⟨none,0,e,0⟩) w (σ1.set l' (.row el e []))∧Step Φ σ w (Φ.put l' ⟨none,0,e,0⟩) (σ1.set l' (.row el e [])) w∧Rel (Φ.put l' ⟨none,0,e,0⟩) (.slice a 0 0) (.vec e l' 0 0):=by
 have hle:=Phi.sM (Φ:=Φ) ⟨none,0,e,0⟩ hl'
 refine⟨(hi.less hless).upd hle (fun _=>rfl) l' _ ⟨none,0,e,0⟩ (Phi.cO _ _ _) (fun m o q=>St.bX q) (fun _ _ _ _ _ _ _ _=>⟨rfl,by simp⟩) (fun _ _ _=>⟨rfl,by simp⟩) (Q6 (Phi.cO _ _ _) rfl rfl rfl) (hi.vK l' _),
  ⟨hle,rfl,rfl,rfl,Nat.le_refl _,Nat.le_refl _,fun _ _ _=>rfl,fun _ _ h=>.inl h,fun m o q=>?_,fun R hR=>?_⟩,?_⟩
 ·rcases St.bX q with⟨_,q1⟩|⟨rfl,_⟩
  ·exact .inl ⟨_,hless _ _ q1⟩
  ·exact .inr hl'
 ·obtain⟨m,o1,p1,s1,s2,s3⟩:=hR
  rcases St.bX s1 with⟨hm,q1⟩|⟨rfl,_⟩
  ·have:(Φ.put l' ⟨none,0,e,0⟩).obj m=Φ.obj m:=by simp[Phi.put,hm]
   rw[this] at s2
   exact .inl ⟨m,o1,p1,hless _ _ q1,s2,s3⟩
  ·rw[Phi.cO] at s2;cases s2
   cases s3
 ·cases a with
  | none=>exact .vecn (p:=⟨none,0,e,0⟩) (Phi.cO _ _ _) rfl rfl
  | some a=>exact .vec0 (p:=⟨none,0,e,0⟩) a (Phi.cO _ _ _) rfl
theorem eQ{o:Oper}{a:Act}{s x:Operand}{t xt:TypeId}(ho:o.op=.call { callee:=.builtin .append,args:=#[s,x],argTypes:=#[t,xt] })(w:World) :
  (execOp a.eval o).run P w=((Builtin.append_ #[t,xt] o.type #[a.eval s,a.eval x]).run P w).andThen fun v w'=>.ok (.value v) w':=by
 unfold execOp
 simp only[ho,resolve,invoke,builtin,Sem.run_bind,Sem.run_pure,Result.andThen_ok,List.map_toArray,List.map_cons,List.map_nil]
theorem inv_eq{Φ:Phi}{w:World}{σ:St}(hi:Inv Φ w σ):∃l,Φ.obj l=none∧σ l=none:=by
 obtain⟨n,hn⟩:=hi.fresh.1.1
 exact⟨n,hn n (Nat.le_refl _),hi.fT (hn n (Nat.le_refl _))⟩
theorem qH{o:Oper}{f:FR}{σ:St}{k:MV→St→Prop}{s x:Operand}{t xt el:TypeId}(ho:o.op=.call { callee:=.builtin .append,args:=#[s,x],argTypes:=#[t,xt] })
 (ht:(td P t).k=.slice el)(hxt:(td P xt).k.gA=true)(hz:(td P el).zok=true){xs ys:List (List MV)}(hs:aE f s=.aM∧xs=[]∨aE f s=.lst (td P el).size xs true)(hy:fG σ (td P el).size (aE f x)=some ys)
 (hne:xs=[]∨0<ys.length)(hm:xs.length+ys.length≤maxLen)(hb:(xs.length+ys.length) * (td P el).bytes≤140737488355328)
 (hk:∀l,σ l=none→k (.vec (td P el).size l 0 (xs.length+ys.length)) (σ.set l (.row el (td P el).size (xs++ys)))):sop P o f σ k:=by
 intro Φ w a K Q' hi hr hK
 obtain⟨l',hl',hsl⟩:=inv_eq hi
 obtain⟨arr,harr,hrel,hyl⟩:=iC (P:=P) hy hi (aI hr x)
 have hsx:fG σ (td P el).size (aE f s)=some xs:=by
  rcases hs with⟨h,rfl⟩|h
  ·rw[h];rfl
  ·rw[h];simp[fG]
 obtain⟨old,hold,horel,hxl⟩:=iC (P:=P) hsx hi (aI hr s)
 obtain⟨ad,cap,hv,hcap⟩:∃ad cap,a.eval s=.slice ad xs.length cap∧cap=xs.length:=by
  have rs:=aI hr s
  rcases hs with⟨h,rfl⟩|h
  ·rw[h] at rs;exact⟨none,0,rs.fP,rfl⟩
  ·rw[h] at rs
   obtain⟨ad,cap,he,_,_,ht',_⟩:=rs.lB
   exact⟨ad,cap,he,ht' rfl⟩
 subst hcap
 by_cases hpos:0<ys.length
 ·obtain⟨rest,hrest,hrun⟩:=nS (P:=P) (ty:=o.type) (a:=ad) ht hxt hz (harr w rfl).1 (fun w' h=>(harr w' h).2) (fun w' h=>by have:=(hold w' h).2;rw[hv] at this;exact this) oM hm hb
  obtain⟨i1,s1,r1⟩:=qT (σ1:=σ) (el:=el) hi (fun _ _ q=>q) hl' hxl hyl rfl rfl horel hrel hrest (grownCap_ge w _ _ el) (grownCap_le_maxLen w _ _ el hm)
  refine bJ (v:=_) (w':=_) ?_ (hK _ _ _ _ _ r1 i1 s1 (hk l' hsl))
  rw[eQ ho,hv,hrun]
  rfl
 ·have hx0:xs=[]:=hne.resolve_right hpos
  subst hx0
  have hy0:ys=[]:=List.eq_nil_of_length_eq_zero oM
  subst hy0
  obtain⟨i1,s1,r1⟩:=nW (σ1:=σ) hi (fun _ _ q=>q) hl' el (td P el).size ad
  have harr0:arr=#[]:=by have:=hrel.1;simp at this;exact this
  subst harr0
  refine bJ (v:=.slice ad 0 0) (w':=w) ?_ (hK _ _ _ _ _ r1 i1 s1 (hk l' hsl))
  rw[eQ ho,hv,run_append_room (P:=P) ht hxt (by obtain⟨z,_,_,_,hok,_⟩:=dH hz w;exact hok) (harr w rfl).1 (harr w rfl).2 (by simp)]
  cases ad<;>rfl
def fW(xs:List (List MV))(lo n:Nat)(ys:List (List MV)):List (List MV):=((xs.drop lo).take n++ys)++(xs.drop lo).drop (n+ys.length)
theorem Ib{xs ys:List (List MV)}{lo n:Nat}(h:lo+n=xs.length):fW xs lo n ys=xs.drop lo++ys:=by
 have h1:(xs.drop lo).take n=xs.drop lo:=List.take_of_length_le (by rw[List.length_drop];omega)
 have h2:(xs.drop lo).drop (n+ys.length)=[]:=List.drop_eq_nil_of_le (by rw[List.length_drop];omega)
 unfold fW
 rw[h1,h2,List.append_nil]
theorem A3{o:Oper}{f:FR}{σ:St}{k:MV→St→Prop}{s x:Operand}{t xt el:TypeId}(ho:o.op=.call { callee:=.builtin .append,args:=#[s,x],argTypes:=#[t,xt] })
 (ht:(td P t).k=.slice el)(hxt:(td P xt).k.gA=true)(hz:(td P el).zok=true){l lo n:Nat}{tt:TypeId}{xs ys:List (List MV)}(hs:aE f s=.vec (td P el).size l lo n)(hsl:σ l=some (.row tt (td P el).size xs))(htt:tt=el)(hlo:lo=0)
 (hend:lo+n≤xs.length)(hy:fG σ (td P el).size (aE f x)=some ys)(hm:n+ys.length≤maxLen)(hb:(n+ys.length) * (td P el).bytes≤140737488355328)
 (hk:∀l',σ l'=none→k (.vec (td P el).size l' 0 (n+ys.length)) ((σ.del l).set l' (.row el (td P el).size (fW xs lo n ys)))):sop P o f σ k:=by
 subst htt
 intro Φ w a K Q' hi hr hK
 obtain⟨l',hl',hsl'⟩:=inv_eq hi
 obtain⟨z,_,_,_,hok,_⟩:=dH hz w
 obtain⟨arr,harr,hrel,hyl⟩:=iC (P:=P) hy hi (aI hr x)
 have hsx:fG σ (td P tt).size (aE f s)=some ((xs.drop lo).take n):=by
  rw[hs]
  simp only[fG,if_true,hsl]
  rw[if_pos oM]
 obtain⟨old,hold,horel,hxl⟩:=iC (P:=P) hsx hi (aI hr s)
 have hn:((xs.drop lo).take n).length=n:=by simp;omega
 have hsz:=(hi.own l _ hsl).U7
 have rs:=aI hr s
 rw[hs] at rs
 obtain⟨ad,cap,p,hv,hp,hpe,hcap,hncap,hR⟩:=rs.dR
 have hless:∀m o,(σ.del l) m=some o→σ m=some o:=fun m o q=>by
  simp only[St.del] at q
  split at q
  ·cases q
  ·exact q
 by_cases hroom:n+ys.length≤cap
 ·rcases hR with⟨R,hb',rfl⟩|hcap0
  ·have hown:=hi.own l _ hsl
   obtain⟨p',hp',hpe',q1,q2,q3,q4⟩:=hown
   rw[hp] at hp';cases hp'
   rw[hb'] at q4
   obtain⟨c,fz,k1,k2,k3,k4⟩:=q4
   have hlt:R<w.heap.size:=(Array.getElem?_eq_some_iff.1 k1).1
   have harrl:arr.toList.length=ys.length * (td P tt).size:=by
    have:=hrel.1
    rw[dW ys hyl] at this
    simpa using this
   have hfit:p.bo+lo * p.e+n * (td P tt).size+arr.toList.length≤c.size:=by
    rw[harrl,hpe]
    have:(lo+(n+ys.length)) * (td P tt).size≤p.C * (td P tt).size:=Nat.mul_le_mul_right _ oM
    rw[Nat.add_mul,Nat.add_mul] at this
    omega
   have hrun:(execOp a.eval o).run P w=.ok (.value (.slice (some ⟨R,p.bo+lo * p.e,none⟩) (n+ys.length) cap)) (fU w R (.cells (b7 c (p.bo+lo * p.e+n * (td P tt).size) arr.toList) tt fz)):=by
    rw[eQ ho,hv,run_append_room (P:=P) ht hxt hok (harr w rfl).1 (harr w rfl).2 hroom]
    simp only[dU]
    rw[gX (P:=P) _ 0 c w k1 k2 (by simpa using hfit) hrel.tW]
    rfl
   rw[hpe] at hfit hrun
   let p2:Place:=⟨some R,p.bo+lo * (td P tt).size,(td P tt).size,cap⟩
   have hle:=Phi.sM (Φ:=Φ) p2 hl'
   have hne:∀m o q,(σ.del l) m=some o→Φ.obj m=some q→∀R',q.blk=some R'→R'≠R:=fun m o q hm hq R' hR' e=>by
    have hml:m=l:=hi.inj m l o _ q p R (hless m o hm) hsl hq hp (e ▸ hR') hb'
    subst hml
    simp[St.del] at hm
   -- an element that stays
   have stays:∀(i:Nat) (y:List MV) (j:Nat) (m:MV),(xs.drop lo)[i]?=some y→y[j]?=some m→((i+1) * (td P tt).size≤n * (td P tt).size∨(n+ys.length) * (td P tt).size≤i * (td P tt).size) →
     m.aL=true∧∃v,(b7 c (p.bo+lo * (td P tt).size+n * (td P tt).size) arr.toList)[p.bo+lo * (td P tt).size+(i * (td P tt).size+j)]?=some v∧Rel (Φ.put l' p2) v m:=by
    intro i y j m q hm hij
    rw[List.getElem?_drop] at q
    have hjl:j<(td P tt).size:=by have:=(List.getElem?_eq_some_iff.1 hm).1;have:=hsz (lo+i) y q;omega
    rw[iN _ _ _ _ hfit,harrl,if_neg (by
     rcases hij with h|h
     ·rw[Nat.add_mul,Nat.one_mul] at h;omega
     ·rw[Nat.add_mul] at h;omega)]
    have:=k4 (lo+i) y j m q hm
    rw[show p.bo+lo * (td P tt).size+(i * (td P tt).size+j)=p.bo+((lo+i) * (td P tt).size+j) from by rw[Nat.add_mul];omega]
    obtain⟨t1,v,t2,t3⟩:=this
    exact⟨t1,v,t2,t3.mono hle⟩
   have i1:Inv (Φ.put l' p2) (fU w R (.cells (b7 c (p.bo+lo * (td P tt).size+n * (td P tt).size) arr.toList) tt fz)) ((σ.del l).set l' (.row tt (td P tt).size (fW xs lo n ys))):=by
    refine(hi.less hless).upd hle (fun _=>rfl) l' _ p2 (Phi.cO _ _ _) (fun m o q=>St.bX q) (fun m o' q R' hm hs' hq hR'=>?_) (fun b v h=>?_) ?_ (hi.vK l' _ (by show p.bo+lo * _=0;rw[hi.fresh.1.2 l p hp,hlo];simp))
    ·rcases St.bX hs' with⟨_,q1⟩|⟨q1,_⟩
     ·have:=hne m o' q q1 hq R' hR'
      exact⟨eT this,by simp only[p2];simpa using Ne.symm this⟩
     ·exact absurd q1 hm
    ·have:=hi.apart l _ p R b v hsl hp hb' h
     exact⟨eT this,by simp only[p2];simpa using Ne.symm this⟩
    ·have hsplit:∀(i:Nat) (y:List MV),(fW xs lo n ys)[i]?=some y→(i<n∧(xs.drop lo)[i]?=some y)∨(n≤i∧i<n+ys.length∧ys[i - n]?=some y)∨(n+ys.length≤i∧(xs.drop lo)[i]?=some y):=by
      intro i y q
      unfold fW at q
      have hl2:((xs.drop lo).take n++ys).length=n+ys.length:=by rw[List.length_append,hn]
      by_cases h1:i<n
      ·rw[List.getElem?_append_left oM,List.getElem?_append_left oM,List.getElem?_take,if_pos h1] at q
       exact .inl ⟨h1,q⟩
      ·by_cases h2:i<n+ys.length
       ·rw[List.getElem?_append_left oM,List.getElem?_append_right oM,hn] at q
        exact .inr (.inl ⟨by omega,h2,q⟩)
       ·rw[List.getElem?_append_right oM,hl2,List.getElem?_drop] at q
        rw[show n+ys.length+(i - (n+ys.length))=i from by omega] at q
        exact .inr (.inr ⟨by omega,q⟩)
     refine⟨p2,Phi.cO _ _ _,rfl,?_,by simp only[p2];omega,fun i y q=>?_,?_⟩
     ·simp only[p2,fW,List.length_append,hn,List.length_drop];omega
     ·rcases hsplit i y q with⟨_,q⟩|⟨_,_,q⟩|⟨_,q⟩
      ·rw[List.getElem?_drop] at q;exact hsz _ y q
      ·exact hyl _ y q
      ·rw[List.getElem?_drop] at q;exact hsz _ y q
     ·refine⟨_,fz,gS hlt,by simpa[zC,cM] using k2,by
       rw[cM]
       simp only[p2]
       have:(lo+cap) * (td P tt).size≤p.C * (td P tt).size:=Nat.mul_le_mul_right _ oM
       rw[Nat.add_mul] at this
       omega,fun i y j m q hm=>?_⟩
      simp only[p2]
      rcases hsplit i y q with⟨h,q⟩|⟨h0,h,q⟩|⟨h,q⟩
      ·exact stays i y j m q hm (.inl (Nat.mul_le_mul_right _ oM))
      ·have hjl:j<(td P tt).size:=by have:=(List.getElem?_eq_some_iff.1 hm).1;have:=hyl _ y q;omega
       have hil:=(List.getElem?_eq_some_iff.1 q).1
       have hfl:=mJ ys (i - n) j y m hyl q hm
       have hlt2:=(List.getElem?_eq_some_iff.1 hfl).1
       have harr1:=hrel.1
       have e3:(i - n) * (td P tt).size+j+n * (td P tt).size=i * (td P tt).size+j:=by
        have:i * (td P tt).size=(i - n+n) * (td P tt).size:=by congr 1;omega
        rw[this,Nat.add_mul]
        omega
       have e4:(i - n) * (td P tt).size+j<ys.length * (td P tt).size:=by
        have:(i - n+1) * (td P tt).size≤ys.length * (td P tt).size:=Nat.mul_le_mul_right _ oM
        rw[Nat.add_mul,Nat.one_mul] at this
        omega
       rw[iN _ _ _ _ hfit,harrl,if_pos oM,show p.bo+lo * (td P tt).size+(i * (td P tt).size+j) - (p.bo+lo * (td P tt).size+n * (td P tt).size)=(i - n) * (td P tt).size+j from by omega,Array.getElem?_toList]
       refine⟨hrel.2.1 _ m hfl,arr.getD ((i - n) * (td P tt).size+j) undef,?_,(hrel.2.2 _ m hfl).mono hle⟩
       simp[Array.getD_eq_getD_getElem?,Array.getElem?_eq_getElem (show(i - n) * (td P tt).size+j<arr.size by omega)]
      ·exact stays i y j m q hm (.inr (Nat.mul_le_mul_right _ oM))
   have s1:Step Φ σ w (Φ.put l' p2) ((σ.del l).set l' (.row tt (td P tt).size (fW xs lo n ys))) (fU w R (.cells (b7 c (p.bo+lo * (td P tt).size+n * (td P tt).size) arr.toList) tt fz)):=by
    refine⟨hle,rfl,rfl,rfl,Nat.le_refl _,Nat.le_of_eq iQ.symm,fun k hk hno=>eT (fun e=>hno (e ▸ ⟨l,_,p,hsl,hp,hb'⟩)),fun b v h=>.inl h,fun m o q=>?_,fun R' hR'=>?_⟩
    ·rcases St.bX q with⟨_,q1⟩|⟨rfl,_⟩
     ·exact .inl ⟨_,hless _ _ q1⟩
     ·exact .inr hl'
    ·obtain⟨m,o1,p1,t1,t2,t3⟩:=hR'
     rcases St.bX t1 with⟨hm',q1⟩|⟨rfl,_⟩
     ·have:(Φ.put l' p2).obj m=Φ.obj m:=by simp[Phi.put,hm']
      rw[this] at t2
      exact .inl ⟨m,o1,p1,hless _ _ q1,t2,t3⟩
     ·rw[Phi.cO] at t2;cases t2
      cases t3
      exact .inl ⟨l,_,p,hsl,hp,hb'⟩
   refine bJ hrun (hK _ _ _ _ _ ?_ i1 s1 (hk l' hsl'))
   have:=Rel.vec (Φ:=Φ.put l' p2) (l:=l') (lo:=0) (n:=n+ys.length) (cap:=cap) (R:=R) (p:=p2) (Phi.cO _ _ _) rfl (by simp[p2]) hroom
   simp only[p2,Nat.zero_mul,Nat.add_zero] at this ⊢
   exact this
  ·subst hcap0
   have hn0:n=0:=by omega
   have hy0:ys=[]:=List.eq_nil_of_length_eq_zero oM
   subst hy0
   obtain⟨p',hp',hpe',q1,q2,q3,q4⟩:=hi.own l _ hsl
   rw[hp] at hp';cases hp'
   obtain⟨i1,s1,r1⟩:=nW (σ1:=σ.del l) hi hless hl' tt (td P tt).size ad
   have harr0:arr=#[]:=by have:=hrel.1;simp at this;exact this
   subst harr0
   have hx0:xs.drop lo=[]:=List.eq_nil_of_length_eq_zero (by simp;omega)
   have hk':=hk l' hsl'
   simp only[fW,hx0,hn0,List.length_nil,List.append_nil,Nat.add_zero,List.take_nil,List.drop_nil] at hk'
   refine bJ (v:=.slice ad 0 0) (w':=w) ?_ (hK _ _ _ _ _ r1 i1 s1 hk')
   rw[eQ ho,hv,run_append_room (P:=P) ht hxt hok (harr w rfl).1 (harr w rfl).2 hroom,hn0]
   cases ad<;>rfl
 ·obtain⟨p',hp',hpe',q1,q2,q3,q4⟩:=hi.own l _ hsl
  rw[hp] at hp';cases hp'
  have htail:fW xs lo n ys=(xs.drop lo).take n++ys:=by
   have h2:(xs.drop lo).drop (n+ys.length)=[]:=List.drop_eq_nil_of_le (by rw[List.length_drop];omega)
   unfold fW
   rw[h2,List.append_nil]
  rw[htail] at hk
  obtain⟨rest,hrest,hrun⟩:=nS (P:=P) (ty:=o.type) (a:=ad) (n:=n) (cap:=cap) ht hxt hz (harr w rfl).1 (fun w' h=>(harr w' h).2) (fun w' h=>by have:=(hold w' h).2;rw[hv,hn] at this;exact this) oM hm hb
  obtain⟨i1,s1,r1⟩:=qT (σ1:=σ.del l) (el:=tt) hi hless hl' hxl hyl hn rfl horel hrel hrest (grownCap_ge w _ _ tt) (grownCap_le_maxLen w _ _ tt hm)
  refine bJ (v:=_) (w':=_) ?_ (hK _ _ _ _ _ r1 i1 s1 (hk l' hsl'))
  rw[eQ ho,hv,hrun]
  rfl
theorem RZ{o:Oper}{f:FR}{σ:St}{k:MV→St→Prop}{x:Operand}{args:Array Operand}{ts:Array TypeId}(ho:o.op=.call { callee:=.value x,args:=args,argTypes:=ts }){g:FuncId}{ms ns:List MV}
 (hx:aE f x=.fn (.func g) ms ns)(hk:aA P g (ms++args.toList.map (aE f)++ns) σ k):sop P o f σ k:=by
 intro Φ w a K Q' hi hr hK
 have rx:=aI hr x
 rw[hx] at rx
 obtain⟨first,cap,he,r1,r2⟩:=rx.sC
 obtain⟨fn,hfn,hbody,hname⟩:=hk.1
 have hrels:iS Φ (first++args.map a.eval++cap) (ms++args.toList.map (aE f)++ns):=by
  have r3:=nQ hr args
  have app:∀{x y:Array Value} {m n:List MV},iS Φ x m→iS Φ y n→iS Φ (x++y) (m++n):=fun {x y m n} h1 h2=>by
   refine⟨by simp[h1.1,h2.1],fun i q hq=>?_⟩
   have e1:=h1.1
   by_cases h:i<m.length
   ·rw[List.getElem?_append_left h] at hq
    have:=h1.2 i q hq
    simpa[Array.getD_eq_getD_getElem?,Array.getElem?_append_left (show i<x.size by omega)] using this
   ·rw[List.getElem?_append_right oM] at hq
    have:=h2.2 _ q hq
    simpa[Array.getD_eq_getD_getElem?,Array.getElem?_append_right (show x.size≤i by omega),e1] using this
  exact app (app r1 r3) r2
 have hrun:(execOp a.eval o).run P w=.ok (.enter g (first++args.map a.eval++cap)) w:=by
  unfold execOp
  simp only[ho,resolve,he,Deferred.ofValue,Sem.run_bind,Sem.run_pure,Result.andThen_ok,invoke,callFunc,run_program,hfn,hname,hbody,Bool.false_eq_true,if_false]
 unfold Oper.wp Oper.upon
 rw[hrun]
 refine(hk.2 Φ w _ hi hrels).mono ?_
 rintro e w' ⟨v,mv,σ',Φ',rfl,q1,q2,q3,q4⟩
 exact hK v mv σ' Φ' w' q1 q2 q3 q4
end
end

section
section
variable {P:Program}
theorem Ed{Φ:Phi}{w w':World}{σ:St}(hi:Inv Φ w σ){l':Nat}(hl':Φ.obj l'=none){el:TypeId}{e n C:Nat}{xs:List (List MV)}{c:Array Value}{fz:Nat × Nat}
 (hx:∀(i:Nat) (x:List MV),xs[i]?=some x→x.length=e)(hn:xs.length=n)(hC:n≤C)(hmax:C≤maxLen)(hh:w'.heap=w.heap.push (.cells c el fz))(h1:w'.os=w.os)(h2:w'.tape=w.tape)(h3:w'.output=w.output)(h4:drw w≤drw w')
 (hf:zC el c fz)(hsz:C * e≤c.size)(hc:∀(i:Nat) m,xs.flatten[i]?=some m→m.aL=true∧∃v,c[i]?=some v∧Rel Φ v m) :
  Inv (Φ.put l' ⟨some w.heap.size,0,e,C⟩) w' (σ.set l' (.row el e xs))∧Step Φ σ w (Φ.put l' ⟨some w.heap.size,0,e,C⟩) (σ.set l' (.row el e xs)) w' ∧
  Rel (Φ.put l' ⟨some w.heap.size,0,e,C⟩) (.slice (some ⟨w.heap.size,0,none⟩) n C) (.vec e l' 0 n):=by
 have hle:=Phi.sM (Φ:=Φ) ⟨some w.heap.size,0,e,C⟩ hl'
 have hnew:w'.heap[w.heap.size]?=some (.cells c el fz):=by rw[hh];simp
 obtain⟨i1,s1⟩:=hi.alloc (w':=w') l' hl' (.row el e xs) (.cells c el fz) ⟨some w.heap.size,0,e,C⟩ rfl hh h1 h2 h3 h4
  (LA (c:=c) (fz:=fz) (R:=w.heap.size) (Phi.cO _ _ _) rfl rfl (by simp;omega) hmax hx hnew hf (by simpa using hsz) (fun i m q=>by
   obtain⟨q1,v,q2,q3⟩:=hc i m q
   exact⟨q1,v,by simpa using q2,q3.mono hle⟩))
 refine⟨i1,s1,?_⟩
 have:=Rel.vec (Φ:=Φ.put l' ⟨some w.heap.size,0,e,C⟩) (l:=l') (lo:=0) (n:=n) (cap:=C) (R:=w.heap.size) (Phi.cO _ _ _) rfl (by simp) hC
 simpa using this
theorem BX(l1 l2:List Value):∀(cs:Array Value) (off:Nat),b7 cs off (l1++l2)=b7 (b7 cs off l1) (off+l1.length) l2:=by
 induction l1 with
 | nil=>intro cs off;rfl
 | cons c r ih =>
  intro cs off
  simp only[List.cons_append,b7,ih,List.length_cons]
  congr 1
  omega
theorem FB{e:Nat}:∀(vs:List Value) (i0:Nat) (cs:Array Value),(∀v,v∈vs→v.cells.size=e)→i0 * e+vs.length * e≤cs.size →
  Instr.fill (fun i=>some (i * e,e)) cs ((vs.zipIdx i0).map fun p=>(p.2,p.1))=some (b7 cs (i0 * e) (vs.flatMap fun v=>v.cells.toList)):=by
 intro vs
 induction vs with
 | nil=>intro i0 cs _ _;rfl
 | cons v vs ih =>
  intro i0 cs h hl
  have hv:=h v (by simp)
  simp only[List.length_cons,Nat.add_mul,Nat.one_mul] at hl
  simp only[List.zipIdx_cons,List.map_cons,Instr.fill]
  rw[if_neg (by simp only[hv,ne_eq,not_true_eq_false,decide_false,Bool.false_or,decide_eq_true_eq];omega)]
  rw[←Array.foldl_toList,Array.toList_zipIdx]
  have e1:=tI v.cells.toList 0 cs (i0 * e)
  simp only[Nat.add_zero] at e1
  rw[e1,ih (i0+1) _ (fun x hx=>h x (by simp[hx])) (by rw[cM,Nat.add_mul,Nat.one_mul];omega)]
  rw[List.flatMap_cons,BX]
  congr 2
  rw[Nat.add_mul,Nat.one_mul,Array.length_toList,hv]
theorem AX{t el:TypeId}(ht:(td P t).k=.slice el)(hz:(td P el).zok=true)(vs:List Value)(hv:∀v,v∈vs→v.cells.size=(td P el).size)(hsmall:vs.length * (td P el).size≤16777216)(w:World) :
  ∃c:Array Value,c.size=vs.length * (td P el).size∧(∀i:Nat,c[i]?=(vs.flatMap fun v=>v.cells.toList)[i]?) ∧
   (Instr.buildSlice t vs.length ((vs.zipIdx 0).map fun p=>(p.2,p.1)).toArray).run P w=.ok (.slice (some ⟨w.heap.size,0,none⟩) vs.length vs.length) (w.alloc (.cells c el)):=by
 obtain⟨z,hz0,hz1,hz2,hok,hz3,_⟩:=dH hz w
 have hlen:(vs.flatMap fun v=>v.cells.toList).length=vs.length * (td P el).size:=by
  clear hsmall
  induction vs with
  | nil=>simp
  | cons v vs ih =>
   rw[List.flatMap_cons,List.length_append,ih (fun x hx=>hv x (by simp[hx])),Array.length_toList,hv v (by simp),List.length_cons,Nat.add_mul,Nat.one_mul]
   omega
 have key:∀cs:Array Value,cs.size=vs.length * (td P el).size→(b7 cs 0 (vs.flatMap fun v=>v.cells.toList)).size=vs.length * (td P el).size∧∀i:Nat,(b7 cs 0 (vs.flatMap fun v=>v.cells.toList))[i]?=(vs.flatMap fun v=>v.cells.toList)[i]?:=fun cs hcs=>by
  refine⟨by rw[cM,hcs],fun i=>?_⟩
  rw[iN _ _ _ _ oM]
  split
  ·simp
  ·rename_i hn
   rw[Array.getElem?_eq_none oM,List.getElem?_eq_none oM]
 have hns:¬(vs.length * (td P el).size > 2 ^ 24):=by omega
 by_cases h0:vs.length * (td P el).size=0
 ·let cs:Array Value:=(Array.range (vs.length * (td P el).size)).map fun x=>(#[]:Array Value)[x % (#[]:Array Value).size]!
  have hcs:cs.size=vs.length * (td P el).size:=by simp[cs]
  obtain⟨k1,k2⟩:=key cs hcs
  refine⟨_,k1,k2,?_⟩
  have hf:=FB (e:=(td P el).size) vs 0 cs hv oM
  simp only[Nat.zero_mul] at hf
  simp only[Instr.buildSlice,Sem.run_bind,aK (aW ht),Result.andThen_ok,aO hok,if_neg hns,Sem.run_pure,if_pos h0]
  simp only[cs] at hf
  rw[hf]
  simp only[newRow,Sem.run_bind,run_newObj,Result.andThen_ok,Sem.run_pure]
  rfl
 ·let cs:Array Value:=(Array.range (vs.length * (td P el).size)).map fun x=>z.cells[x % z.cells.size]!
  have hcs:cs.size=vs.length * (td P el).size:=by simp[cs]
  obtain⟨k1,k2⟩:=key cs hcs
  refine⟨_,k1,k2,?_⟩
  have hf:=FB (e:=(td P el).size) vs 0 cs hv oM
  simp only[Nat.zero_mul] at hf
  simp only[Instr.buildSlice,Sem.run_bind,aK (aW ht),Result.andThen_ok,aO hok,if_neg hns,Sem.run_pure,if_neg h0,hz0]
  simp only[cs] at hf
  rw[hf]
  simp only[newRow,Sem.run_bind,run_newObj,Result.andThen_ok,Sem.run_pure]
  rfl
theorem A4{o:Oper}{f:FR}{σ:St}{k:MV→St→Prop}{t el:TypeId}{len:Nat}{parts:Array (Nat × Operand)}(ho:o.op=.buildSlice t len parts)(ht:(td P t).k=.slice el)(hz:(td P el).zok=true)
 (hidx:parts.toList.map (·.1)=List.range len)(hc:∀p,p∈parts.toList→(∀c,c∈(aE f p.2).cells→c.aL=true)∧(aE f p.2).cells.length=(td P el).size)(hsmall:len * (td P el).size≤16777216)(hmax:len≤maxLen)
 (hk:∀l,σ l=none→k (.vec (td P el).size l 0 len) (σ.set l (.row el (td P el).size (parts.toList.map fun p=>(aE f p.2).cells)))):sop P o f σ k:=by
 intro Φ w a K Q' hi hr hK
 obtain⟨l',hl',hsl⟩:=inv_eq hi
 have hlen:parts.toList.length=len:=by have:=congrArg List.length hidx;simpa using this
 have hcell:∀p,p∈parts.toList→kE Φ (a.eval p.2).cells (aE f p.2).cells:=fun p hp=>rB (aI hr p.2) (hc p hp).1
 let vs:=parts.toList.map fun p=>a.eval p.2
 have hvl:vs.length=len:=by simp[vs];simpa using hlen
 have hvs:∀v,v∈vs→v.cells.size=(td P el).size:=fun v hv=>by
  simp only[vs,List.mem_map] at hv
  obtain⟨p,hp,rfl⟩:=hv
  exact(hcell p hp).1.trans (hc p hp).2
 obtain⟨c,hc1,hc2,hrun⟩:=AX ht hz vs hvs (by rw[hvl];exact hsmall) w
 have hargs:(parts.map fun p=>(p.1,a.eval p.2))=((vs.zipIdx 0).map fun p=>(p.2,p.1)).toArray:=by
  apply Array.ext'
  simp only[Array.toList_map]
  apply List.ext_getElem?
  intro i
  simp only[List.getElem?_map,List.getElem?_zipIdx,vs,Option.map_map]
  have h1:(parts.toList.map (·.1))[i]?=(List.range len)[i]?:=by rw[hidx]
  rw[List.getElem?_map] at h1
  cases hp:parts.toList[i]? with
  | none=>simp
  | some p =>
   rw[hp] at h1
   have hil:i<len:=by have:=(List.getElem?_eq_some_iff.1 hp).1;omega
   rw[List.getElem?_range hil] at h1
   simp at h1 ⊢
   exact h1
 have hxs:(parts.toList.map fun p=>(aE f p.2).cells).length=len:=by rw[List.length_map,hlen]
 have hflat:∀(l:List (Nat × Operand)),(∀p,p∈l→kE Φ (a.eval p.2).cells (aE f p.2).cells)→∀(i:Nat) m,(l.map fun p=>(aE f p.2).cells).flatten[i]?=some m→m.aL=true∧∃v,((l.map fun p=>a.eval p.2).flatMap fun v=>v.cells.toList)[i]?=some v∧Rel Φ v m:=by
  intro l
  induction l with
  | nil=>intro _ i m h;simp at h
  | cons p l ih =>
   intro h i m hm
   have rc:=h p (by simp)
   have rl:(a.eval p.2).cells.toList.length=(aE f p.2).cells.length:=by simpa using rc.1
   simp only[List.map_cons,List.flatten_cons,List.flatMap_cons] at hm ⊢
   by_cases hi:i<(aE f p.2).cells.length
   ·rw[List.getElem?_append_left hi] at hm
    refine⟨rc.2.1 i m hm,(a.eval p.2).cells.getD i undef,?_,rc.2.2 i m hm⟩
    rw[List.getElem?_append_left oM,Array.getElem?_toList]
    have:i<(a.eval p.2).cells.size:=by have:=rc.1;omega
    simp[Array.getD_eq_getD_getElem?,Array.getElem?_eq_getElem this]
   ·rw[List.getElem?_append_right oM] at hm
    rw[List.getElem?_append_right oM,rl]
    exact ih (fun q hq=>h q (by simp[hq])) _ m hm
 obtain⟨i1,s1,r1⟩:=Ed (w':=w.alloc (.cells c el)) (el:=el) (e:=(td P el).size) (n:=len) (C:=len) (xs:=parts.toList.map fun p=>(aE f p.2).cells) (c:=c) (fz:=(0,0)) hi hl'
  (fun i x hx=>by
   rw[List.getElem?_map,Option.map_eq_some_iff] at hx
   obtain⟨p,hp,rfl⟩:=hx
   exact(hc p (List.mem_of_getElem? hp)).2) hxs (Nat.le_refl _) hmax rfl rfl rfl rfl (by first|exact Nat.le_refl _|exact kS (Nat.le_succ _)) (.inl (Nat.le_refl _)) (by rw[hc1,hvl];exact Nat.le_refl _) (fun i m q=>by
   obtain⟨q1,v,q2,q3⟩:=hflat parts.toList hcell i m q
   exact⟨q1,v,by rw[hc2];exact q2,q3⟩)
 refine bJ (v:=_) (w':=_) ?_ (hK _ _ _ _ _ r1 i1 s1 (hk l' hsl))
 unfold execOp
 rw[hvl] at hrun
 simp only[ho,hargs,Sem.run_bind,hrun,Result.andThen_ok,Sem.run_pure]
theorem oR(k:IntKind)(n:Int)(w:World):(asInt (.int k n)).run P w=.ok n w:=rfl
theorem BY{o:Oper}{f:FR}{σ:St}{k:MV→St→Prop}{t el:TypeId}{x y:Operand}(ho:o.op=.makeSlice t x y)(ht:(td P t).k=.slice el)(hz:(td P el).zok=true){n c:Int}(hx:aE f x=.int .i64 n)(hy:aE f y=.int .i64 c)
 (h0:0≤n)(h1:n≤c)(h2:c≤140737488355328)(h3:(td P el).bytes * c≤140737488355328)
 (hk:∀l,σ l=none→k (.vec (td P el).size l 0 n.toNat) (σ.set l (.row el (td P el).size (List.replicate n.toNat (td P el).zero)))):sop P o f σ k:=by
 intro Φ w a K Q' hi hr hK
 obtain⟨l',hl',hsl⟩:=inv_eq hi
 obtain⟨z,hz0,hz1,hz2,hok,hz3,_⟩:=dH hz w
 have hzlen:(td P el).zero.length=(td P el).size:=by rw[←hz1,←hz2];simp
 obtain⟨inf,d,hinf,hd,hsz,hby,_⟩:=cY hok
 have e1:a.eval x=.int .i64 n:=by have:=aI hr x;rw[hx] at this;exact this.aS
 have e2:a.eval y=.int .i64 c:=by have:=aI hr y;rw[hy] at this;exact this.aS
 have w1:IntKind.i64.wrap n=n:=IntWalk.i64_in n oM
 have w2:IntKind.i64.wrap c=c:=IntWalk.i64_in c oM
 have rz:=jY (P:=P) (Φ:=Φ) hz1 hz3
 obtain⟨cells,hcs,hcells,hrun⟩:∃cells:Array Value,cells.size=c.toNat * (td P el).size∧(∀i:Nat,i<c.toNat * (td P el).size→cells[i]?=some (z.cells.getD (i % (td P el).size) undef)) ∧
   (Instr.makeSlice t (a.eval x) (a.eval y)).run P w=.ok (.slice (some ⟨w.heap.size,0,none⟩) n.toNat c.toNat) (w.alloc (.cells cells el)):=by
  have hneg:¬(inf.bytes * c > 2 ^ 48):=by rw[←hby];omega
  have hc0:¬(c<0):=by omega
  have hn0:¬(n<0):=by omega
  have hnc:¬(n > c):=by omega
  by_cases hz':c.toNat * (td P el).size=0
  ·refine⟨(Array.range (c.toNat * (td P el).size)).map fun x=>(#[]:Array Value)[x % (#[]:Array Value).size]!,by simp,fun i hi=>by omega,?_⟩
   simp only[Instr.makeSlice,e1,e2,oR,Sem.run_bind,aK (aW ht),Result.andThen_ok,Sem.run_pure,typeInfo,run_program,hinf,w1,w2,hneg,hc0,hn0,hnc,decide_false,Bool.or_false,Bool.false_eq_true,if_false,or_self,run_askRoom,aO hok,if_pos hz',newRow,run_newObj]
   rfl
  ·refine⟨(Array.range (c.toNat * (td P el).size)).map fun x=>z.cells[x % z.cells.size]!,by simp,fun i hi=>?_,?_⟩
   ·have:i % (td P el).size<z.cells.size:=by rw[hz2];exact Nat.mod_lt _ (Nat.pos_of_ne_zero (fun h=>by rw[h] at hi;omega))
    simp[hi,hz2,Array.getD_eq_getD_getElem?,getElem!_def]
    rw[Array.getElem?_eq_getElem this]
    simp
   ·simp only[Instr.makeSlice,e1,e2,oR,Sem.run_bind,aK (aW ht),Result.andThen_ok,Sem.run_pure,typeInfo,run_program,hinf,w1,w2,hneg,hc0,hn0,hnc,decide_false,Bool.or_false,Bool.false_eq_true,if_false,or_self,run_askRoom,aO hok,if_neg hz',hz0,newRow,run_newObj]
    rfl
 have hfl:∀(m i:Nat) (q:MV),(List.replicate m (td P el).zero).flatten[i]?=some q→i<m * (td P el).size∧(td P el).zero[i % (td P el).size]?=some q:=by
  intro m
  induction m with
  | zero=>intro i q h;simp at h
  | succ m ih =>
   intro i q h
   rw[List.replicate_succ,List.flatten_cons] at h
   by_cases hi:i<(td P el).zero.length
   ·rw[List.getElem?_append_left hi] at h
    rw[Nat.mod_eq_of_lt oM,Nat.add_mul,Nat.one_mul]
    exact⟨by omega,h⟩
   ·rw[List.getElem?_append_right oM] at h
    obtain⟨q1,q2⟩:=ih _ q h
    rw[hzlen] at q1 q2
    rw[Nat.add_mul,Nat.one_mul]
    refine⟨by omega,?_⟩
    rw[←q2]
    congr 1
    rw[Nat.mod_eq_sub_mod oM]
 obtain⟨i1,s1,r1⟩:=Ed (w':=w.alloc (.cells cells el)) (el:=el) (e:=(td P el).size) (n:=n.toNat) (C:=c.toNat) (xs:=List.replicate n.toNat (td P el).zero) (c:=cells) (fz:=(0,0)) hi hl'
  (fun i x hx=>by rw[List.getElem?_replicate] at hx;split at hx<;>simp at hx;rw[←hx,hzlen]) (by simp) oM (by simp only[maxLen];omega) rfl rfl rfl rfl (by first|exact Nat.le_refl _|exact kS (Nat.le_succ _)) (.inl (Nat.le_refl _)) (by rw[hcs];exact Nat.le_refl _) (fun i m q=>by
   obtain⟨q1,q2⟩:=hfl _ i m q
   refine⟨rz.2.1 _ m q2,_,hcells i (Nat.lt_of_lt_of_le q1 (Nat.mul_le_mul_right _ oM)),rz.2.2 _ m q2⟩)
 refine bJ (v:=_) (w':=_) ?_ (hK _ _ _ _ _ r1 i1 s1 (hk l' hsl))
 unfold execOp
 simp only[ho,Sem.run_bind,hrun,Result.andThen_ok,Sem.run_pure]
def bytesOf(ys:List (List MV)):ByteArray:=⟨(ys.map fun y=>match y with|[.int .u8 n]=>UInt8.ofNat n.toNat|_=>0).toArray⟩
def isByte:List MV→Bool
 | [.int .u8 _]=>true
 | _=>false
theorem OH{o:Oper}{f:FR}{σ:St}{k:MV→St→Prop}{s d el:TypeId}{x:Operand}(ho:o.op=.convert s d x)(hs:(td P s).k=.slice el)(he:(td P el).k=.int .u8)(hd:(td P d).k=.str){ys:List (List MV)}
 (hx:fG σ 1 (aE f x)=some ys)(hsl:∀b,aE f x≠.str b)(hb:ys.all isByte=true)(hk:k (.str (bytesOf ys)) σ):sop P o f σ k:=by
 intro Φ w a K Q' hi hr hK
 obtain⟨arr,harr,hrel,hyl⟩:=iC (P:=P) hx hi (aI hr x)
 obtain⟨ns,hns⟩:∃ns:List Int,ys=ns.map fun n=>[.int .u8 n]:=by
  clear hx harr hrel hyl hk
  induction ys with
  | nil=>exact⟨[],rfl⟩
  | cons y ys ih =>
   simp only[List.all_cons,Bool.and_eq_true] at hb
   obtain⟨ns,h⟩:=ih hb.2
   match y,hb.1 with
   | [.int .u8 n],_=>exact⟨n::ns,by rw[h];rfl⟩
 subst hns
 rw[iX] at hrel
 have harr2:arr=(ns.map (Value.int .u8)).toArray:=by
  apply Array.ext_getElem?
  intro i
  by_cases hi':i<ns.length
  ·have h1:=hrel.2.2 i (.int .u8 ns[i]) (by simp[hi'])
   have h2:i<arr.size:=by have:=hrel.1;rw[List.length_map] at this;omega
   have h3:=h1.aS
   rw[Array.getD_eq_getD_getElem?,Array.getElem?_eq_getElem h2] at h3
   rw[Array.getElem?_eq_getElem h2]
   simp at h3 ⊢
   simp[hi',h3]
  ·have h2:arr.size≤i:=by have:=hrel.1;rw[List.length_map] at this;omega
   rw[Array.getElem?_eq_none h2,Array.getElem?_eq_none (by rw[List.size_toArray,List.length_map];omega)]
 have hbytes:bytesOf (ns.map fun n=>[.int .u8 n])=ns.foldl (fun r n=>r.push (UInt8.ofNat n.toNat)) ByteArray.empty:=by
  rw[foldl_push_bytes]
  simp[bytesOf,ByteArray.empty,ByteArray.emptyWithCapacity,List.map_map]
  rfl
 obtain⟨ad,len,cap,hv⟩:∃ad len cap,a.eval x=.slice ad len cap:=by
  have rx:=aI hr x
  cases hm:aE f x<;>rw[hm] at rx hx<;>simp[fG] at hx
  ·exact absurd hm (hsl _)
  ·exact⟨_,_,_,rx.fP⟩
  ·obtain⟨ad,cap,h,_⟩:=rx.lB;exact⟨_,_,_,h⟩
  ·obtain⟨ad,cap,p,h,_⟩:=rx.dR;exact⟨_,_,_,h⟩
 have hw:=harr w rfl
 rw[hv] at hw
 have hlen:len=ns.length:=by
  have:=hw.1
  simp[Builtin.lenOf] at this
  exact this
 have hrun:(execOp a.eval o).run P w=.ok (.value (.string (bytesOf (ns.map fun n=>[.int .u8 n])))) w:=by
  unfold execOp
  simp only[ho,hv,Sem.run_bind]
  rw[run_convert_bytes_string w s d el ad len cap (aW hs) (kC he) (gY hd)]
  cases ad with
  | none =>
   have hz:arr=#[]:=by simpa[Builtin.firstCells,eq_comm] using hw.2
   rw[hz] at harr2
   have hns0:ns=[]:=by
    have:=congrArg Array.size harr2
    simp at this
    exact List.eq_nil_of_length_eq_zero this.symm
   subst hns0
   rfl
  | some ad =>
   have hld:=hw.2
   simp only[Builtin.firstCells,List.length_map,Nat.mul_one] at hld
   rw[run_bytesToString w ad len cap ns (by rw[hlen,hld,harr2]),hbytes]
   rfl
 exact bJ hrun (hK _ _ _ _ _ (.str _) hi (.refl _ _ _) hk)
theorem OE{o:Oper}{f:FR}{σ:St}{k:MV→St→Prop}{s d el:TypeId}{x:Operand}(ho:o.op=.convert s d x)(hs:(td P s).k=.str)(hd:(td P d).k=.slice el)(he:(td P el).k=.int .u8)(hZ:FZ el=true){b:ByteArray}
 (hx:aE f x=.str b)(hmax:b.size≤maxLen)(hk:∀l,σ l=none→k (.vec 1 l 0 b.size) (σ.set l (.row el 1 (b.toList.map fun c=>[.int .u8 (c.toNat:Int)])))):sop P o f σ k:=by
 intro Φ w a K Q' hi hr hK
 obtain⟨l',hl',hsl⟩:=inv_eq hi
 have e1:a.eval x=.string b:=by have:=aI hr x;rw[hx] at this;exact this.fZ
 have hbl:b.toList.length=b.size:=by rw[ByteArray.toList_eq,Array.length_toList];rfl
 have hrun:=run_bytes_of_string (P:=P) w s d el b (gY hs) (aW hd) (kC he)
 have hcap:=grownCap_ge w b.size 0 el
 have hcm:=grownCap_le_maxLen w b.size 0 el hmax
 obtain⟨i1,s1,r1⟩:=Ed (w':=w.drew.alloc (.cells (bytesRow b (grownCap w b.size 0 el)) el ((bytesRow b (grownCap w b.size 0 el)).size,(bytesRow b (grownCap w b.size 0 el)).size+1))) (el:=el) (e:=1) (n:=b.size) (C:=grownCap w b.size 0 el)
  (xs:=b.toList.map fun c=>[.int .u8 (c.toNat:Int)]) hi hl' (fun i x hx=>by rw[List.getElem?_map,Option.map_eq_some_iff] at hx;obtain⟨c,_,rfl⟩:=hx;rfl) (by rw[List.length_map,hbl]) hcap hcm rfl rfl rfl rfl (by first|exact Nat.le_refl _|exact kS (Nat.le_succ _)) (.inr ⟨hZ,Nat.le_refl _⟩)
  (by
   simp only[bytesRow,Array.size_append,Array.size_map,Array.size_replicate]
   have:b.data.size=b.size:=rfl
   omega)
  (fun i m q=>by
   rw[iX,List.getElem?_map,Option.map_eq_some_iff] at q
   obtain⟨c,hc,rfl⟩:=q
   refine⟨rfl,.int .u8 c.toNat,?_,.int _ _⟩
   rw[ByteArray.toList_eq,Array.getElem?_toList] at hc
   have hlt:=(Array.getElem?_eq_some_iff.1 hc).1
   simp only[bytesRow]
   rw[Array.getElem?_append_left (by simpa using hlt),Array.getElem?_map,hc]
   rfl)
 refine bJ (v:=_) (w':=_) ?_ (hK _ _ _ _ _ r1 i1 s1 (hk l' hsl))
 unfold execOp
 simp only[ho,e1,Sem.run_bind,hrun,Result.andThen_ok,Sem.run_pure]
theorem Kx{o:Oper}{f:FR}{σ:St}{k:MV→St→Prop}{t el:TypeId}{x y z:Operand}(ho:o.op=.slice t x (some y) (some z) none)(ht:(td P t).k=.slice el)(hok:(td P el).ok=true){l l0 n:Nat}{tt:TypeId}{xs:List (List MV)}
 (hx:aE f x=.vec (td P el).size l l0 n)(hsl:σ l=some (.row tt (td P el).size xs)){k1 k2:IntKind}{a h:Int}(hy:aE f y=.int k1 a)(hz:aE f z=.int k2 h)(h0:0≤a)(h1:a≤h)(h2:l0+h.toNat≤xs.length)
 (hk:k (.vec (td P el).size l (l0+a.toNat) (h.toNat - a.toNat)) σ):sop P o f σ k:=by
 intro Φ w ac K Q' hi hr hK
 have rx:=aI hr x
 have ry:=aI hr y
 have rz:=aI hr z
 rw[hx] at rx
 rw[hy] at ry
 rw[hz] at rz
 obtain⟨p0,hp0,hpe0,q1,q2,q3,q4⟩:=hi.own l _ hsl
 have rx':=rx
 generalize hv:ac.eval x=vx at rx rx'
 obtain⟨ad,cap,p,rfl,hp,hpe,hcap,hncap,hR⟩:=rx'.dR
 rw[hp0] at hp;cases hp
 have e1:=ry.aS
 have e2:=rz.aS
 refine bJ (v:=_) (w':=w) ?_ (hK _ _ _ Φ w (l9 rx a.toNat h.toNat oM oM) hi (.refl _ _ _) hk)
 unfold execOp
 simp only[ho,hv,Option.map_some,Option.map_none,e1,e2,Sem.run_bind,Instr.sliceAt,aK (aW ht),Result.andThen_ok,Instr.slice,Instr.sliceBounds,Sem.run_pure]
 rw[run_sliceBound ⟨by omega,by omega⟩]
 simp only[Result.andThen_ok,Option.isSome_none,Bool.false_eq_true,if_false]
 rw[run_sliceBound ⟨by omega,by omega⟩]
 simp only[Result.andThen_ok,aO hok,Sem.run_pure]
def bC(xs:List (List MV))(i0:Nat)(ys:List (List MV)):List (List MV):=(xs.take i0++ys)++xs.drop (i0+ys.length)
theorem x6{xs ys:List (List MV)}{i0:Nat}(h:i0+ys.length≤xs.length)(i:Nat):(bC xs i0 ys)[i]?=if i0≤i∧i<i0+ys.length then ys[i - i0]? else xs[i]?:=by
 unfold bC
 have hl1:(xs.take i0).length=i0:=by simp;omega
 have hl2:(xs.take i0++ys).length=i0+ys.length:=by rw[List.length_append,hl1]
 by_cases h1:i<i0
 ·rw[List.getElem?_append_left oM,List.getElem?_append_left oM,List.getElem?_take,if_pos h1,if_neg oM]
 ·by_cases h2:i<i0+ys.length
  ·rw[List.getElem?_append_left oM,List.getElem?_append_right oM,hl1,if_pos ⟨by omega,h2⟩]
  ·rw[List.getElem?_append_right oM,hl2,List.getElem?_drop,show i0+ys.length+(i - (i0+ys.length))=i from by omega,if_neg oM]
theorem l6{xs ys:List (List MV)}{i0:Nat}(h:i0+ys.length≤xs.length):(bC xs i0 ys).length=xs.length:=by
 simp[bC];omega
theorem RJ{Φ:Phi}{w:World}{σ:St}(hi:Inv Φ w σ){l:Nat}{t:TypeId}{e:Nat}{xs ys:List (List MV)}(hsl:σ l=some (.row t e xs)){i0:Nat}(hfit:i0+ys.length≤xs.length)
 (hyl:∀(i:Nat) (y:List MV),ys[i]?=some y→y.length=e){arr:Array Value}(hrel:kE Φ arr ys.flatten){p:Place}(hp:Φ.obj l=some p){R:Nat}(hR:p.blk=some R){c:Array Value}{fz:Nat × Nat}(hc:w.heap[R]?=some (.cells c t fz)) :
  zC t c fz∧p.bo+i0 * e+arr.toList.length≤c.size∧Inv Φ (fU w R (.cells (b7 c (p.bo+i0 * e) arr.toList) t fz)) (σ.set l (.row t e (bC xs i0 ys))) ∧
   Step Φ σ w Φ (σ.set l (.row t e (bC xs i0 ys))) (fU w R (.cells (b7 c (p.bo+i0 * e) arr.toList) t fz)):=by
 obtain⟨p',hp',hpe,q1,q2,q3,q4⟩:=hi.own l _ hsl
 rw[hp] at hp';cases hp'
 rw[hR] at q4
 obtain⟨c',fz',k1,k2,k3,k4⟩:=q4
 rw[hc] at k1;cases k1
 have hlt:R<w.heap.size:=(Array.getElem?_eq_some_iff.1 hc).1
 have harrl:arr.toList.length=ys.length * e:=by
  have:=hrel.1
  rw[dW ys hyl] at this
  simpa using this
 have hfit2:p.bo+i0 * e+arr.toList.length≤c.size:=by
  rw[harrl]
  have:(i0+ys.length) * e≤p.C * e:=Nat.mul_le_mul_right _ oM
  rw[Nat.add_mul] at this
  omega
 refine⟨k2,hfit2,hi.EX (w':=fU w R (.cells (b7 c (p.bo+i0 * e) arr.toList) t fz)) l hsl _ hp hR iQ (fun k hk=>eT hk) rfl rfl rfl (Nat.le_refl _) ?_⟩
 refine⟨p,hp,hpe,by rw[l6 hfit];exact q1,q2,fun i y q=>?_,?_⟩
 ·rw[x6 hfit] at q
  split at q
  ·exact hyl _ y q
  ·exact q3 i y q
 ·rw[hR]
  refine⟨_,fz,gS hlt,by simpa[zC,cM] using k2,by rw[cM];exact k3,fun i y j m q hm=>?_⟩
  rw[iN _ _ _ _ hfit2,harrl]
  rw[x6 hfit] at q
  split at q
  ·rename_i hin
   have hjl:j<e:=by have:=(List.getElem?_eq_some_iff.1 hm).1;have:=hyl _ y q;omega
   have hil:=(List.getElem?_eq_some_iff.1 q).1
   have hfl:=mJ ys (i - i0) j y m hyl q hm
   have hlt2:=(List.getElem?_eq_some_iff.1 hfl).1
   have harr1:=hrel.1
   have e3:(i - i0) * e+j+i0 * e=i * e+j:=by
    have:i * e=(i - i0+i0) * e:=by congr 1;omega
    rw[this,Nat.add_mul]
    omega
   have e4:(i - i0) * e+j<ys.length * e:=by
    have:(i - i0+1) * e≤ys.length * e:=Nat.mul_le_mul_right _ oM
    rw[Nat.add_mul,Nat.one_mul] at this
    omega
   rw[if_pos oM,show p.bo+(i * e+j) - (p.bo+i0 * e)=(i - i0) * e+j from by omega,Array.getElem?_toList]
   refine⟨hrel.2.1 _ m hfl,arr.getD ((i - i0) * e+j) undef,?_,hrel.2.2 _ m hfl⟩
   simp[Array.getD_eq_getD_getElem?,Array.getElem?_eq_getElem (show(i - i0) * e+j<arr.size by omega)]
  ·rename_i hout
   have hjl:j<e:=by have:=(List.getElem?_eq_some_iff.1 hm).1;have:=q3 i y q;omega
   rw[if_neg (by
    intro hcon
    rcases Nat.lt_or_ge i i0 with h|h
    ·have:(i+1) * e≤i0 * e:=Nat.mul_le_mul_right _ h
     rw[Nat.add_mul,Nat.one_mul] at this
     omega
    ·have:(i0+ys.length) * e≤i * e:=Nat.mul_le_mul_right _ oM
     rw[Nat.add_mul] at this
     omega)]
   exact k4 i y j m q hm
theorem sZ{Φ:Phi}{el:TypeId}{z:Value}(hz1:z.cells.toList.map ofV=(td P el).zero)(hz2:z.cells.size=(td P el).size)(hz3:∀v,v∈z.cells.toList→(ofV v).aL=true)(h0:0<(td P el).size):∀n,kE Φ (Builtin.zeroCells z.cells n) (List.replicate n (td P el).zero).flatten:=by
 have rz:=jY (P:=P) (Φ:=Φ) hz1 hz3
 have hzlen:(td P el).zero.length=(td P el).size:=by rw[←hz1,←hz2];simp
 intro n
 have hget:∀i:Nat,i<n * (td P el).size→(Builtin.zeroCells z.cells n)[i]?=some (z.cells.getD (i % (td P el).size) undef):=by
  intro i hi
  have:i % (td P el).size<z.cells.size:=by rw[hz2];exact Nat.mod_lt _ h0
  simp only[Builtin.zeroCells]
  simp[hi,hz2,Array.getD_eq_getD_getElem?,getElem!_def]
  rw[Array.getElem?_eq_getElem this]
  simp
 have hfl:∀(m i:Nat) (q:MV),(List.replicate m (td P el).zero).flatten[i]?=some q→i<m * (td P el).size∧(td P el).zero[i % (td P el).size]?=some q:=by
  intro m
  induction m with
  | zero=>intro i q h;simp at h
  | succ m ih =>
   intro i q h
   rw[List.replicate_succ,List.flatten_cons] at h
   by_cases hi:i<(td P el).zero.length
   ·rw[List.getElem?_append_left hi] at h
    rw[Nat.mod_eq_of_lt oM,Nat.add_mul,Nat.one_mul]
    exact⟨by omega,h⟩
   ·rw[List.getElem?_append_right oM] at h
    obtain⟨q1,q2⟩:=ih _ q h
    rw[hzlen] at q1 q2
    rw[Nat.add_mul,Nat.one_mul]
    refine⟨by omega,?_⟩
    rw[←q2]
    congr 1
    rw[Nat.mod_eq_sub_mod oM]
 refine⟨?_,fun i m h=>?_,fun i m h=>?_⟩
 ·simp[Builtin.zeroCells,hz2,hzlen,List.length_flatten]
 ·exact rz.2.1 _ m (hfl n i m h).2
 ·obtain⟨q1,q2⟩:=hfl n i m h
  have:=hget i q1
  rw[Array.getD_eq_getD_getElem?,this]
  exact rz.2.2 _ m q2
def TK.isInt:TK→Bool
 | .int _=>true
 | _=>false
theorem C5{t:TypeId}(h:(td P t).k.isInt=true):∃k,P.underlying t=some (.int k):=by
 cases hk:(td P t).k<;>rw[hk] at h<;>simp[TK.isInt] at h
 exact⟨_,kC hk⟩
theorem wP{o:Oper}{f:FR}{σ:St}{k:MV→St→Prop}{s x:Operand}{t xt el:TypeId}(ho:o.op=.call { callee:=.builtin .append,args:=#[s,x],argTypes:=#[t,xt] })
 (ht:(td P t).k=.slice el)(hxt:(td P xt).k.isInt=true)(hz:(td P el).zok=true)(h0:0<(td P el).size){n:Int}(hs:aE f s=.aM)(hx:aE f x=.int .i64 n)(hn:0<n)
 (hm:n.toNat≤140737488355328)(hb:n.toNat * (td P el).bytes≤140737488355328)
 (hk:∀l,σ l=none→k (.vec (td P el).size l 0 n.toNat) (σ.set l (.row el (td P el).size (List.replicate n.toNat (td P el).zero)))):sop P o f σ k:=by
 intro Φ w a K Q' hi hr hK
 obtain⟨l',hl',hsl⟩:=inv_eq hi
 have e1:a.eval s=.slice none 0 0:=by have:=aI hr s;rw[hs] at this;exact this.fP
 have e2:a.eval x=.int .i64 n:=by have:=aI hr x;rw[hx] at this;exact this.aS
 obtain⟨z,hz0,hz1,hz2,hok,hz3,_⟩:=dH hz w.drew
 have hzlen:(td P el).zero.length=(td P el).size:=by rw[←hz1,←hz2];simp
 obtain⟨i,d,hinf,hd,hsz,hby,_⟩:=cY hok
 obtain⟨ik,hxu⟩:=C5 hxt
 have w1:IntKind.i64.wrap n=n:=IntWalk.i64_in n oM
 have hrun:(Builtin.append_ #[t,xt] o.type #[.slice none 0 0,.int .i64 n]).run P w=.ok (.slice (some ⟨w.heap.size,0,none⟩) (0+n.toNat) (grownCap w (0+n.toNat) 0 el)) (w.drew.alloc (.cells (#[]++Builtin.zeroCells z.cells n.toNat++Builtin.zeroCells z.cells (grownCap w (0+n.toNat) 0 el - (0+n.toNat))) el)):=by
  have hroom:¬(0+n.toNat≤0):=by omega
  have h48':¬(Builtin.nextslicecap (0+n.toNat) 0 * i.bytes > 2 ^ 48):=by
   rw[←hby]
   have:=growslice_fits (show 0<0+n.toNat by omega) (show(0+n.toNat) * (td P el).bytes≤140737488355328 by rw[Nat.zero_add];exact hb)
   omega
  have h63:¬(((0+n.toNat:Nat):Int) > IntKind.i64.max):=by
   simp only[IntKind.max,IntKind.signed,IntKind.bits]
   simp
   omega
  have hneg:¬(n<0):=by omega
  have hbig:¬(n * i.bytes > 2 ^ 48):=by
   rw[←hby]
   have:n * ((td P el).bytes:Int)=((n.toNat * (td P el).bytes:Nat):Int):=by
    rw[Int.natCast_mul,Int.toNat_of_nonneg oM]
   omega
  have hns:¬(n.toNat * (td P el).size=0):=by
   have:0<n.toNat * (td P el).size:=Nat.mul_pos oM h0
   omega
  unfold Builtin.append_
  simp only[World.drew] at hz0
  simp only[List.getElem?_toArray,List.getElem?_cons_zero,List.getElem?_cons_succ,Sem.run_bind,aK (aW ht),Result.andThen_ok,aO hok,aK hxu,Sem.run_pure,if_true,oR,w1,if_neg hneg,typeInfo,run_program,hinf,if_neg hbig,
   if_neg hroom,Bool.not_true,Bool.false_eq_true,if_false,h63,false_and,if_neg h48',run_choose,Question.forced,run_askRoom,if_neg hns]
  simp only[hz0,Builtin.firstCells,Result.andThen_ok,newRow,Sem.run_bind,run_newObj,Sem.run_pure]
  rfl
 obtain⟨i1,s1,r1⟩:=qT (σ1:=σ) (el:=el) (n:=0) (m:=n.toNat) (cap':=grownCap w (0+n.toNat) 0 el) (xs:=[]) (ys:=List.replicate n.toNat (td P el).zero) (old:=#[]) (arr:=Builtin.zeroCells z.cells n.toNat)
  (rest:=Builtin.zeroCells z.cells (grownCap w (0+n.toNat) 0 el - (0+n.toNat))) hi (fun _ _ q=>q) hl' (fun i x hx=>by simp at hx) (fun i x hx=>by rw[List.getElem?_replicate] at hx;split at hx<;>simp at hx;rw[←hx,hzlen]) rfl (by simp)
  ⟨rfl,fun i m h=>by simp at h,fun i m h=>by simp at h⟩ (sZ (P:=P) (Φ:=Φ) hz1 hz2 hz3 h0 n.toNat) (by rw[size_zeroCells,hz2]) (grownCap_ge w _ _ el) (grownCap_le_maxLen w _ _ el (by simp only[maxLen];omega))
 simp only[Nat.zero_add,List.nil_append] at i1 s1 r1 hrun
 refine bJ (v:=_) (w':=_) ?_ (hK _ _ _ _ _ r1 i1 s1 (hk l' hsl))
 rw[eQ ho,e1,e2,hrun]
 rfl
theorem OB{o:Oper}{f:FR}{σ:St}{k:MV→St→Prop}{t el:TypeId}{x:Operand}(ho:o.op=.call { callee:=.builtin .clear,args:=#[x],argTypes:=#[t] })(ht:(td P t).k=.slice el)(hz:(td P el).zok=true)(h0:0<(td P el).size)
 {l l0 n:Nat}{tt:TypeId}{xs:List (List MV)}(hx:aE f x=.vec (td P el).size l l0 n)(hsl:σ l=some (.row tt (td P el).size xs))(hfit:l0+n≤xs.length)
 (hk:k .junk (σ.set l (.row tt (td P el).size (bC xs l0 (List.replicate n (td P el).zero))))):sop P o f σ k:=by
 intro Φ w ac K Q' hi hr hK
 obtain⟨z,hz0,hz1,hz2,hok,hz3,_⟩:=dH hz w
 have hzlen:(td P el).zero.length=(td P el).size:=by rw[←hz1,←hz2];simp
 have rx:=aI hr x
 rw[hx] at rx
 generalize hv:ac.eval x=vx at rx
 obtain⟨ad,cap,p,rfl,hp,hpe,hcap,hncap,hR⟩:=rx.dR
 have hop:∀r w',(Builtin.clear_ #[t] o.type #[.slice ad n cap]).run P w=.ok r w'→(execOp ac.eval o).run P w=.ok (.value r) w':=fun r w' h=>by
  unfold execOp
  simp only[ho,resolve,List.map_toArray,List.map_cons,List.map_nil,hv,Sem.run_bind,Sem.run_pure,Result.andThen_ok,invoke]
  show Sem.run P (do pure (Next.value (←Builtin.clear_ #[t] o.type #[.slice ad n cap]))) w=_
  simp only[Sem.run_bind,h,Result.andThen_ok,Sem.run_pure]
 by_cases hn:n=0
 ·subst hn
  have hrow:bC xs l0 (List.replicate 0 (td P el).zero)=xs:=by simp[bC]
  have hst:σ.set l (.row tt (td P el).size xs)=σ:=by
   funext j
   simp only[St.set]
   split
   ·rename_i e;rw[e,hsl]
   ·rfl
  rw[hrow,hst] at hk
  refine bJ (hop (.tuple #[]) w ?_) (hK _ _ _ Φ w (.junk _) hi (.refl _ _ _) hk)
  unfold Builtin.clear_
  cases ad<;>simp[aK (aW ht)]
 ·rcases hR with⟨R,hb,rfl⟩|hcap0
  ·obtain⟨p',hp',hpe',q1,q2,q3,q4⟩:=hi.own l _ hsl
   rw[hp] at hp';cases hp'
   rw[hb] at q4
   obtain⟨c,fz,k1,-⟩:=q4
   have hzc:=sZ (P:=P) (Φ:=Φ) hz1 hz2 hz3 h0 n
   obtain⟨r1,r2,i1,s1⟩:=RJ hi hsl (i0:=l0) (ys:=List.replicate n (td P el).zero) (by simpa using hfit) (fun i y h=>by
    rw[List.getElem?_replicate] at h
    split at h<;>simp at h
    rw[←h,hzlen]) hzc hp hb k1
   refine bJ (hop (.tuple #[]) _ ?_) (hK _ _ _ Φ _ (.junk _) i1 s1 hk)
   unfold Builtin.clear_
   have hn':¬n=0:=hn
   simp only[List.getElem?_toArray,List.getElem?_cons_zero,Sem.run_bind,aK (aW ht),Result.andThen_ok]
   cases n with
   | zero=>exact absurd rfl hn
   | succ n =>
    simp only[Sem.run_bind,hz0,Result.andThen_ok]
    rw[hpe]
    rw[gX (P:=P) _ 0 c w k1 r1 (by simpa using r2) (kE.tW hzc)]
    rfl
  ·omega
end
end
end Go.Proofs.YtppdgejjmhdjhaaGreatDoor
