/- Parts of the proof, joined; conditions: those that its theorems name. -/
import Derived.Test.YtojmhmejdihaaaaGreatDoorSta
import Derived.MapKept
import Derived.Maps.RangeRun
import Derived.RangeFuncLeaves
import Derived.RangeFuncRecord
set_option linter.unusedVariables false
set_option linter.unusedSimpArgs false
set_option maxHeartbeats 4000000
namespace Go.Proofs.YtojmhmejdihaaaaGreatDoor
section
open Go.MapKept
def isK(k:IntKind):MV→Bool
 | .int k' _=>decide (k'=k)
 | _=>false
def cJ(n:Int):List (MV × MV)→Option MV
 | []=>none
 | (.int _ m,v)::r=>if m=n then some v else cJ n r
 | _::r=>cJ n r
def dJ(k:IntKind)(n:Int)(v:MV):List (MV × MV)→List (MV × MV)
 | []=>[(.int k n,v)]
 | (.int k' m,u)::r=>if m=n then(.int k' m,v)::r else(.int k' m,u)::dJ k n v r
 | x::r=>x::dJ k n v r
theorem jH{k:IntKind}{m:MV}(h:isK k m=true):∃n,m=.int k n:=by
 cases m<;>simp[isK] at h
 subst h;exact⟨_,rfl⟩
theorem rH{k:IntKind}{n:Int}{Φ:Phi}(v':MV):∀(l:List MapEntry) (es:List (MV × MV)) (i0:Nat),l.length=es.length→(es.all fun x=>isK k x.1)=true→(∀(i:Nat) (x:MV × MV),es[i]?=some x→∃e:MapEntry,l[i]?=some e∧Rel Φ e.key x.1) →
  (∀x:MapEntry,x∈l→IsKey (.int k) x.key)∧((cJ n es=none∧Instr.findNow (.int k) (.int k n) l i0=some none∧dJ k n v' es=es++[(.int k n,v')]) ∨
   ∃(j:Nat) (e:MapEntry) (v:MV),cJ n es=some v∧Instr.findNow (.int k) (.int k n) l i0=some (some (i0+j,e.val))∧l[j]?=some e∧e.key=.int k n∧es[j]?=some (.int k n,v)∧dJ k n v' es=es.set j (.int k n,v'))
 | [],[],_,_,_,_=>⟨by simp,.inl ⟨rfl,rfl,rfl⟩⟩
 | [],_::_,_,h,_,_=>by simp at h
 | _::_,[],_,h,_,_=>by simp at h
 | e::l,(x,u)::es,i0,hl,hk,hr=>by
  simp only[List.all_cons,Bool.and_eq_true] at hk
  obtain⟨m,rfl⟩:=jH hk.1
  obtain⟨e',he',hrel⟩:=hr 0 _ rfl
  simp only[List.getElem?_cons_zero,Option.some.injEq] at he'
  subst he'
  have hkey:=hrel.aX
  obtain⟨q1,q2⟩:=rH (n:=n) v' l es (i0+1) (by simpa using hl) hk.2 fun i x hx=>hr (i+1) x (by simpa using hx)
  refine⟨?_,?_⟩
  ·intro y hy
   rcases List.mem_cons.1 hy with rfl|hy
   ·rw[hkey];exact rfl
   ·exact q1 y hy
  ·by_cases hmn:m=n
   ·subst hmn
    right
    refine⟨0,e,u,by simp[cJ],?_,rfl,hkey,rfl,by simp[dJ]⟩
    simp[Instr.findNow,Instr.sameNow,hkey]
   ·have hf:Instr.findNow (.int k) (.int k n) (e::l) i0=Instr.findNow (.int k) (.int k n) l (i0+1):=by
     have:(n==m)=false:=by simpa using Ne.symm hmn
     simp[Instr.findNow,Instr.sameNow,hkey,this]
    rw[hf]
    rcases q2 with⟨a,b,c⟩|⟨j,e2,v,a,b,c,d,e3,f⟩
    ·exact .inl ⟨by simp[cJ,hmn,a],b,by simp[dJ,hmn,c]⟩
    ·refine .inr ⟨j+1,e2,v,by simp[cJ,hmn,a],?_,by simpa using c,d,by simpa using e3,by simp[dJ,hmn,f]⟩
     rw[b];simp;omega
theorem B2{Φ:Phi}{k:IntKind}{n:Int}:∀{es:List (MV × MV)} {x:MV × MV} {v:Value},cJ n es=none→(es.all fun p=>isK k p.1)=true→x∈es→Rel Φ v x.1→v≠.int k n
 | [],_,_,_,_,hx,_=>by cases hx
 | (y,u)::es,x,v,h0,hk,hx,hr=>by
  simp only[List.all_cons,Bool.and_eq_true] at hk
  obtain⟨m,rfl⟩:=jH hk.1
  by_cases hm:m=n
  ·simp[cJ,hm] at h0
  ·simp only[cJ,if_neg hm] at h0
   rcases List.mem_cons.1 hx with rfl|hx
   ·rw[hr.aX]
    intro e;cases e;exact hm rfl
   ·exact B2 h0 hk.2 hx hr
theorem dX.Ku{Φ:Phi}{w:World}{l:Nat}{es:List (MV × MV)}(h:dX Φ w l (.mp es)):∃(p:Place) (R:Nat) (c:Array MapEntry) (clock:Nat),Φ.obj l=some p∧p.blk=some R∧w.heap[R]?=some (.map c clock)∧c.size=es.length∧Stamped c clock ∧
  ∀(i:Nat) (x:MV × MV),es[i]?=some x→∃e,c.toList[i]?=some e∧Rel Φ e.key x.1∧Rel Φ e.val x.2:=by
 obtain⟨p,R,hp,hR,c,clock,hh,⟨hs,hst⟩,hr⟩:=h
 refine⟨p,R,c,clock,hp,hR,hh,hs,hst,fun i x hx=>?_⟩
 have hi:=(List.getElem?_eq_some_iff.1 hx).1
 have hic:i<c.size:=by omega
 have:=hr i x hx
 rw[show c.getD i default=c[i] by simp[Array.getD,hic]] at this
 exact⟨c[i],by simp[hic],this⟩
theorem Dq{P:Program}{o:Oper}{f:FR}{σ:St}{k:MV→St→Prop}{t:TypeId}(ho:o.op=.makeMap t none)(hk:∀l,σ l=none→k (.mapv l) (σ.set l (.mp []))):sop P o f σ k:=by
 intro Φ w a K Q' hi hr hK
 obtain⟨n,hn⟩:=hi.fresh.1.1
 have hl:=hn n (Nat.le_refl _)
 have hrun:(execOp a.eval o).run P w=.ok (.value (.map (some w.heap.size))) (w.alloc (.map #[] 0)):=by
  unfold execOp
  simp only[ho,Instr.makeMap,Option.map_none,Sem.run_bind,run_newObj,Result.andThen_ok,Sem.run_pure]
  rfl
 obtain⟨i1,s1⟩:=hi.alloc (w':=w.alloc (.map #[] 0)) n hl (.mp []) (.map #[] 0) ⟨some w.heap.size,0,1,1⟩ rfl rfl rfl rfl rfl (by first|exact Nat.le_refl _|exact iZ (Nat.le_succ _))
  ⟨_,w.heap.size,Phi.cF _ _ _,rfl,#[],0,heap_alloc_new w _,⟨rfl,stamped_empty 0⟩,fun i x hx=>by simp at hx⟩
 exact bT hrun (hK _ (.mapv n) _ _ _ (Rel.mapv (Phi.cF _ _ _) rfl) i1 s1 (hk n (hi.eQ hl)))
theorem FG{P:Program}{o:Oper}{f:FR}{σ:St}{k:MV→St→Prop}{t kt et:TypeId}{m x y:Operand}(ho:o.op=.insert t m x y∨o.op=.mapUpdate t m x y)(ht:(td P t).k=.map kt et){kd:IntKind}(hkt:(td P kt).k=.int kd)
 {l:Nat}{es:List (MV × MV)}(hm:aK f m=.mapv l)(hl:σ l=some (.mp es)){n:Int}(hx:aK f x=.int kd n)(he:(es.all fun p=>isK kd p.1)=true)
 (hk:k .junk (σ.set l (.mp (dJ kd n (aK f y) es)))):sop P o f σ k:=by
 intro Φ w a K Q' hi hr hK
 have hum:=tX ht
 have huk:=jM hkt
 have rm:=aQ hr m
 have rx:=aQ hr x
 have ry:=aQ hr y
 rw[hm] at rm
 rw[hx] at rx
 obtain⟨p,R,hp,hR,hmv⟩:=rm.qC
 have hxv:=rx.aX
 obtain⟨p',R',c,clock,hp',hR',hh,hs,hst,hrel⟩:=(hi.own l _ hl).Ku
 rw[hp] at hp';cases hp'
 rw[hR] at hR';cases hR'
 obtain⟨hkeys,hfind⟩:=rH (n:=n) (aK f y) c.toList es 0 (by simpa using hs) he fun i z hz=>by
  obtain⟨e,h1,h2,_⟩:=hrel i z hz
  exact⟨e,h1,h2⟩
 have hrt:=(Array.getElem?_eq_some_iff.1 hh).1
 rcases hfind with⟨h0,h1,h2⟩|⟨j,e,v,_,h1,hj,hek,hes,h2⟩
 ·obtain⟨c',hc'⟩:∃c',c'=c.push { key:=a.eval x,val:=a.eval y,born:=clock }:=⟨_,rfl⟩
  have hrun:(execOp a.eval o).run P w=.ok .skip (hE w R (.map c' (clock+1))):=by
   unfold execOp
   rcases ho with ho|ho<;>simp only[ho] <;>
    simp[hmv,hxv,Instr.mapUpdate,run_underlying hum,Go.MapKept.run_getObj_map hh,run_checkKey (d:=.int kd) (k:=.int kd n) huk rfl,run_findKey (d:=.int kd) huk h1,run_setObj_map _ hh,Result.andThen,hE,hc']
  obtain⟨i1,s1⟩:=hi.FO (w':=hE w R (.map c' (clock+1))) l hl (.mp (es++[(.int kd n,aK f y)])) hp hR jP (fun q hq=>fE hq) rfl rfl rfl (Nat.le_refl _)
   ⟨p,R,hp,hR,c',clock+1,iH hrt,⟨by rw[hc'];simp[hs],by
    rw[hc']
    refine stamped_push hst fun e1 he1=>?_
    obtain⟨i,hi1,rfl⟩:=List.mem_iff_getElem.1 he1
    have hi':i<es.length:=by rw[←hs];simpa using hi1
    obtain⟨e',q1,q2,_⟩:=hrel i es[i] (List.getElem?_eq_getElem hi')
    rw[List.getElem?_eq_getElem hi1] at q1
    cases q1
    rw[hxv]
    exact B2 h0 he (List.getElem_mem hi') q2⟩,fun i z hz=>by
    rw[hc']
    by_cases hlt:i<es.length
    ·rw[List.getElem?_append_left hlt] at hz
     obtain⟨e,q1,q2,q3⟩:=hrel i z hz
     have:(c.push { key:=a.eval x,val:=a.eval y,born:=clock }).getD i default=e:=by
      have hic:i<c.size:=by omega
      have q1':c[i]?=some e:=by simpa using q1
      rw[Array.getD_eq_getD_getElem?,Array.getElem?_push,if_neg (by omega),q1'];rfl
     rw[this];exact⟨q2,q3⟩
    ·have hie:i=es.length:=by
      have:=(List.getElem?_eq_some_iff.1 hz).1
      simp at this;omega
     subst hie
     rw[List.getElem?_append_right (Nat.le_refl _)] at hz
     simp only[Nat.sub_self,List.getElem?_cons_zero,Option.some.injEq] at hz
     subst hz
     have:(c.push { key:=a.eval x,val:=a.eval y,born:=clock }).getD es.length default={ key:=a.eval x,val:=a.eval y,born:=clock }:=by
      rw[Array.getD_eq_getD_getElem?,Array.getElem?_push,if_pos (by omega)];rfl
     rw[this]
     exact⟨by simp only;rw[hxv];exact .int _ _,ry⟩⟩
  rw[←h2] at i1 s1
  exact Bv hrun (hK _ .junk _ _ _ (.junk _) i1 s1 hk)
 ·have hjc:c[j]?=some e:=by simpa using hj
  obtain⟨c',hc'⟩:∃c',c'=c.modify j fun e=>{ e with key:=a.eval x,val:=a.eval y }:=⟨_,rfl⟩
  have hrun:(execOp a.eval o).run P w=.ok .skip (hE w R (.map c' clock)):=by
   unfold execOp
   rcases ho with ho|ho<;>simp only[ho] <;>
    simp[hmv,hxv,Instr.mapUpdate,run_underlying hum,Go.MapKept.run_getObj_map hh,run_checkKey (d:=.int kd) (k:=.int kd n) huk rfl,run_findKey (d:=.int kd) huk h1,hjc,hek,run_keyThatStays (d:=.int kd) (k:=.int kd n) rfl,run_setObj_map _ hh,Result.andThen,hE,hc']
  have hjlt:=(Array.getElem?_eq_some_iff.1 hjc).1
  obtain⟨i1,s1⟩:=hi.FO (w':=hE w R (.map c' clock)) l hl (.mp (es.set j (.int kd n,aK f y))) hp hR jP (fun q hq=>fE hq) rfl rfl rfl (Nat.le_refl _)
   ⟨p,R,hp,hR,c',clock,iH hrt,⟨by rw[hc'];simp[hs],by
    rw[hc']
    exact stamped_modify hst j _ (fun _ _=>rfl) fun e' _ he'=>by rw[hjc] at he';cases he';exact hxv.trans hek.symm⟩,fun i z hz=>by
    rw[hc',Array.getD_eq_getD_getElem?,Array.getElem?_modify]
    by_cases hij:j=i
    ·subst hij
     rw[List.getElem?_set_self (by omega)] at hz
     cases hz
     rw[if_pos rfl,hjc]
     exact⟨by simp only[Option.map_some,Option.getD_some];rw[hxv];exact .int _ _,ry⟩
    ·rw[List.getElem?_set_ne hij] at hz
     obtain⟨e,q1,q2,q3⟩:=hrel i z hz
     have q1':c[i]?=some e:=by simpa using q1
     rw[if_neg hij,q1'];exact⟨q2,q3⟩⟩
  rw[←h2] at i1 s1
  exact Bv hrun (hK _ .junk _ _ _ (.junk _) i1 s1 hk)
def sG(d:TD):MV:=if d.k.isAgg=true then .agg d.zero else d.zero.headD .junk
theorem FH{P:Program}{o:Oper}{f:FR}{σ:St}{k:MV→St→Prop}{t kt et:TypeId}{m x:Operand}{ok:Bool}(ho:o.op=.lookup t m x ok)(ht:(td P t).k=.map kt et){kd:IntKind}(hkt:(td P kt).k=.int kd)(hz:(td P et).zok=true)
 {l:Nat}{es:List (MV × MV)}(hm:aK f m=.mapv l)(hl:σ l=some (.mp es)){n:Int}(hx:aK f x=.int kd n)(he:(es.all fun p=>isK kd p.1)=true)
 (hk:k (if ok=true then .tup [(cJ n es).getD (sG (td P et)),.bool (cJ n es).isSome] else(cJ n es).getD (sG (td P et))) σ):sop P o f σ k:=by
 intro Φ w a K Q' hi hr hK
 have hum:=tX ht
 have huk:=jM hkt
 have rm:=aQ hr m
 have rx:=aQ hr x
 rw[hm] at rm
 rw[hx] at rx
 obtain⟨p,R,hp,hR,hmv⟩:=rm.qC
 have hxv:=rx.aX
 obtain⟨p',R',c,clock,hp',hR',hh,hs,hst,hrel⟩:=(hi.own l _ hl).Ku
 rw[hp] at hp';cases hp'
 rw[hR] at hR';cases hR'
 obtain⟨hkeys,hfind⟩:=rH (n:=n) .junk c.toList es 0 (by simpa using hs) he fun i z hz=>by
  obtain⟨e,h1,h2,_⟩:=hrel i z hz
  exact⟨e,h1,h2⟩
 obtain⟨z,hz0,hz1,hz2,hok,hz3,hz4,hz5⟩:=dD hz w
 have fin:∀(v:Value) (u:MV) (b:Bool),Rel Φ v u→(Instr.lookup t (a.eval m) (a.eval x) ok).run P w=.ok (if ok=true then .tuple #[v,.bool b] else v) w→k (if ok=true then .tup [u,.bool b] else u) σ→o.wp P a w K Q':=fun v u b hv hrun hk=>by
  have hrun2:(execOp a.eval o).run P w=.ok (.value (if ok=true then .tuple #[v,.bool b] else v)) w:=by
   unfold execOp
   simp only[ho,Sem.run_bind,hrun,Result.andThen_ok,Sem.run_pure]
  refine bT hrun2 (hK _ _ _ _ _ ?_ hi (.refl _ _ _) hk)
  cases ok
  ·exact hv
  ·refine .tup rfl fun i q hq=>?_
   match i with
   | 0=>simp at hq;subst hq;exact hv
   | 1=>simp at hq;subst hq;exact .bool _
   | i+2=>simp at hq
 rcases hfind with⟨h0,h1,h2⟩|⟨j,e,v,h0,h1,hj,hek,hes,h2⟩
 ·rw[h0] at hk
  refine fin z (sG (td P et)) false ?_ ?_ hk
  ·unfold sG
   by_cases hag:(td P et).k.isAgg=true
   ·rw[if_pos hag]
    obtain⟨cs,rfl⟩:=hz4 hag
    exact(iI (Φ:=Φ) hz1 hz3).agg
   ·rw[if_neg hag]
    have h5:=hz5 (by simpa using hag)
    have rc:=iI (Φ:=Φ) hz1 hz3
    rw[h5] at rc
    have hlen:=rc.1
    match hzz:(td P et).zero with
    | []=>rw[hzz] at hlen;simp at hlen
    | q::_ =>
     rw[hzz] at rc
     have:=rc.2.2 0 q rfl
     simpa using this
  ·simp[hmv,hxv,Instr.lookup,run_underlying hum,Go.MapKept.run_getObj_map hh,run_checkKey (d:=.int kd) (k:=.int kd n) huk rfl,run_findKey (d:=.int kd) huk h1,hz0,Result.andThen]
 ·rw[h0] at hk
  obtain⟨e',q1,q2,q3⟩:=hrel j _ hes
  rw[hj] at q1;cases q1
  refine fin e.val v true q3 ?_ hk
  simp[hmv,hxv,Instr.lookup,run_underlying hum,Go.MapKept.run_getObj_map hh,run_checkKey (d:=.int kd) (k:=.int kd n) huk rfl,run_findKey (d:=.int kd) huk h1,Result.andThen]
end

section
open Go.MapKept
theorem Jo{P:Program}{o:Oper}{f:FR}{σ:St}{k:MV→St→Prop}{t kt et:TypeId}{m:Operand}(ho:o.op=.range t m)(ht:(td P t).k=.map kt et)
 {l:Nat}{es:List (MV × MV)}(hm:aK f m=.mapv l)(hl:σ l=some (.mp es))
 (hk:∀q st ck,σ q=none→st.length=es.length→st.Nodup→(∀s,s∈st→s<ck)→k (.ptr q 0 0) ((σ.set l (.mk es st ck)).set q (.it l ck []))):sop P o f σ k:=by
 intro Φ w a K Q' hi hr hK
 have hum:=tX ht
 have rm:=aQ hr m
 rw[hm] at rm
 obtain⟨p,R,hp,hR,hmv⟩:=rm.qC
 obtain⟨p',R',hp',hR',c,clock,hh,⟨hs,hst⟩,hrel⟩:=hi.own l _ hl
 rw[hp] at hp';cases hp'
 rw[hR] at hR';cases hR'
 have hst':=(stamped_iff c clock).1 hst
 obtain⟨i1,s1⟩:=hi.FO (w':=w) l hl (.mk es (c.toList.map (·.born)) clock) hp hR rfl (fun _ _=>rfl) rfl rfl rfl (Nat.le_refl _) ⟨p,R,hp,hR,c,hh,⟨hs,hst,rfl⟩,hrel⟩
 obtain⟨n,hn⟩:=i1.fresh.1.1
 have hfr:=hn n (Nat.le_refl _)
 have hrun:(execOp a.eval o).run P w=.ok (.value (.pointer (some ⟨w.heap.size,0,none⟩))) (w.alloc (.mapIter (some R) clock #[] clock)):=by
  unfold execOp
  simp only[ho,hmv,Sem.run_bind,run_range_map w t kt et R c clock hum hh,Result.andThen_ok,Sem.run_pure]
 have hln:l≠n:=fun e=>by subst e;rw[hp] at hfr;cases hfr
 obtain⟨i2,s2⟩:=i1.alloc (w':=w.alloc (.mapIter (some R) clock #[] clock)) n hfr (.it l clock []) (.mapIter (some R) clock #[] clock) ⟨some w.heap.size,0,1,1⟩ rfl rfl rfl rfl rfl (by first|exact Nat.le_refl _|exact iZ (Nat.le_succ _))
  ⟨_,w.heap.size,p,R,Phi.cF _ _ _,rfl,rfl,(Phi.pE _ hfr).obj _ _ hp,hR,heap_alloc_new w _⟩
 refine bT hrun (hK _ (.ptr n 0 0) _ _ _ ?_ i2 (s1.trans s2) (hk n _ clock (hi.eQ hfr) (by simp[hs]) ?_ fun s h=>?_))
 ·have:=Rel.ptr (Φ:=Φ.put n ⟨some w.heap.size,0,1,1⟩) (l:=n) (i:=0) (o:=0) (Phi.cF _ _ _) rfl
  simpa using this
 ·exact hst'.2.1
 ·obtain⟨x,hx,rfl⟩:=List.mem_map.1 h
  exact hst'.1 x hx
theorem L2{P:Program}{o:Oper}{f:FR}{σ:St}{k:MV→St→Prop}{x:Operand}(ho:o.op=.next x false){q l ck:Nat}{seen st:List Nat}{es:List (MV × MV)}(hx:aK f x=.ptr q 0 0)
 (hq:σ q=some (.it l ck seen))(hl:σ l=some (.mk es st ck))(h0:(∀s,s∈st→s∈seen)→k (.tup [.bool false]) σ)
 (h1:∀(i:Nat) (z:MV × MV) (s:Nat),es[i]?=some z→st[i]?=some s→s∉seen→k (.tup [.bool true,z.1,z.2]) (σ.set q (.it l ck (seen++[s])))):sop P o f σ k:=by
 intro Φ w a K Q' hi hr hK
 have rx:=aQ hr x
 rw[hx] at rx
 obtain⟨p,R,hp,hR,hv⟩:=rx.gQ
 obtain⟨p',R',pm,Rm,hp',hR',hbo,hpm,hRm,hit⟩:=hi.own q _ hq
 rw[hp] at hp';cases hp'
 rw[hR] at hR';cases hR'
 obtain⟨pl,Rl,hpl,hRl,c,hh,⟨hs,hst,hbn⟩,hrel⟩:=hi.own l _ hl
 rw[hpm] at hpl;cases hpl
 rw[hRm] at hRl;cases hRl
 have hst':=(stamped_iff c ck).1 hst
 rw[hbo,Nat.zero_mul] at hv
 have hv:a.eval x=.pointer (some ⟨R,0,none⟩):=by simpa using hv
 rcases run_next_at (P:=P) w o.type R Rm ck ck seen.toArray c ck hit hh hst'.1 (Nat.le_refl _) with⟨h2,hrun⟩|⟨e,he,w1,hw1,hrun⟩
 ·have hrun':(execOp a.eval o).run P w=.ok (.value (.tuple #[.bool false])) w:=by
   unfold execOp
   simp only[ho,hv,Sem.run_bind,hrun,Result.andThen_ok,Sem.run_pure]
  refine bT hrun' (hK _ (.tup [.bool false]) _ _ _ ?_ hi (.refl _ _ _) (h0 fun s h=>?_))
  ·refine .tup rfl fun i z hz=>?_
   match i with
   | 0=>simp at hz;subst hz;exact .bool _
   | i+1=>simp at hz
  ·rw[←hbn] at h
   obtain⟨y,hy,rfl⟩:=List.mem_map.1 h
   have:=all_seen c seen.toArray h2 y hy
   simpa using this
 ·obtain⟨hem,hes⟩:=mem_left he
  obtain⟨i,hi1,hie⟩:=List.mem_iff_getElem.1 hem
  have hic:i<c.size:=by simpa using hi1
  have hie':c.toList[i]?=some e:=by rw[List.getElem?_eq_getElem hi1,hie]
  have hz:es[i]?=some (es[i]'(by omega)):=List.getElem?_eq_getElem (by omega)
  obtain⟨z,hzz⟩:∃z,es[i]'(by omega)=z:=⟨_,rfl⟩
  rw[hzz] at hz
  have hrz:=hrel i z hz
  rw[show c.getD i default=e by
   have:c[i]=e:=by rw[←hie];simp
   simp[Array.getD,hic,this]] at hrz
  have hsi:st[i]?=some e.born:=by rw[←hbn,List.getElem?_map,hie'];rfl
  have hns:e.born∉seen:=by simpa using hes
  have hrun':(execOp a.eval o).run P w=.ok (.value (.tuple #[.bool true,e.key,e.val])) (Go.ChangeMaps.setBlock w1 R (.mapIter (some Rm) ck (seen.toArray.push e.born) ck)):=by
   unfold execOp
   simp only[ho,hv,Sem.run_bind,hrun,Result.andThen_ok,Sem.run_pure]
  have hRlt:=(Array.getElem?_eq_some_iff.1 hit).1
  have hheap:(Go.ChangeMaps.setBlock w1 R (.mapIter (some Rm) ck (seen.toArray.push e.born) ck)).heap=w.heap.setIfInBounds R (.mapIter (some Rm) ck (seen.toArray.push e.born) ck):=by
   rcases hw1 with rfl|rfl<;>rfl
  have hdr:drw w≤drw (Go.ChangeMaps.setBlock w1 R (.mapIter (some Rm) ck (seen.toArray.push e.born) ck)):=by
   rcases hw1 with rfl|rfl
   ·exact Nat.le_refl _
   ·exact iZ (Nat.le_succ _)
  obtain⟨i1,s1⟩:=hi.FO (w':=Go.ChangeMaps.setBlock w1 R (.mapIter (some Rm) ck (seen.toArray.push e.born) ck)) q hq (.it l ck (seen++[e.born])) hp hR (by rw[hheap];simp) (fun j hj=>by
    rw[hheap,Array.getElem?_setIfInBounds,if_neg (Ne.symm hj)]) (by rcases hw1 with rfl|rfl<;>rfl) (by rcases hw1 with rfl|rfl<;>rfl) (by rcases hw1 with rfl|rfl<;>rfl) hdr
   ⟨p,R,pm,Rm,hp,hR,hbo,hpm,hRm,by
    rw[hheap,Array.getElem?_setIfInBounds,if_pos rfl,if_pos hRlt]
    simp⟩
  refine bT hrun' (hK _ (.tup [.bool true,z.1,z.2]) _ _ _ ?_ i1 s1 (h1 i z e.born hz hsi hns))
  refine .tup rfl fun j m hm=>?_
  match j with
  | 0=>simp at hm;subst hm;exact .bool _
  | 1=>simp at hm;subst hm;exact hrz.1
  | 2=>simp at hm;subst hm;exact hrz.2
  | j+3=>simp at hm
theorem Jm{P:Program}{o:Oper}{f:FR}{σ:St}{k:MV→St→Prop}{x:Operand}(ho:o.op=.entry x){q l ck:Nat}{seen st:List Nat}{es:List (MV × MV)}(hx:aK f x=.ptr q 0 0)
 {i s:Nat}{z:MV × MV}(hq:σ q=some (.it l ck (seen++[s])))(hl:σ l=some (.mk es st ck))(hz:es[i]?=some z)(hsi:st[i]?=some s)(hk:k (.tup [z.1,z.2]) σ):sop P o f σ k:=by
 intro Φ w a K Q' hi hr hK
 have rx:=aQ hr x
 rw[hx] at rx
 obtain⟨p,R,hp,hR,hv⟩:=rx.gQ
 obtain⟨p',R',pm,Rm,hp',hR',hbo,hpm,hRm,hit⟩:=hi.own q _ hq
 rw[hp] at hp';cases hp'
 rw[hR] at hR';cases hR'
 obtain⟨pl,Rl,hpl,hRl,c,hh,⟨hs,hst,hbn⟩,hrel⟩:=hi.own l _ hl
 rw[hpm] at hpl;cases hpl
 rw[hRm] at hRl;cases hRl
 have hst':=(stamped_iff c ck).1 hst
 rw[hbo,Nat.zero_mul] at hv
 have hv:a.eval x=.pointer (some ⟨R,0,none⟩):=by simpa using hv
 have hil:i<es.length:=(List.getElem?_eq_some_iff.1 hz).1
 have hic:i<c.size:=by omega
 have hci:c.toList[i]?=some c[i]:=by simp[hic]
 have hbi:c[i].born=s:=by
  rw[←hbn,List.getElem?_map,hci] at hsi
  simpa using hsi
 have hrz:=hrel i z hz
 rw[show c.getD i default=c[i] by simp[Array.getD,hic]] at hrz
 have hrun:(execOp a.eval o).run P w=.ok (.value (.tuple #[c[i].key,c[i].val])) w:=by
  unfold execOp
  simp only[ho,hv,Sem.run_bind,run_entry_at (P:=P) w R Rm ck seen.toArray c ck c[i] (by rw[hbi];simpa using hit) hh (List.mem_of_getElem? hci) (hst'.2.1),Result.andThen_ok,Sem.run_pure]
 refine bT hrun (hK _ (.tup [z.1,z.2]) _ _ _ ?_ hi (.refl _ _ _) hk)
 refine .tup rfl fun j m hm=>?_
 match j with
 | 0=>simp at hm;subst hm;exact hrz.1
 | 1=>simp at hm;subst hm;exact hrz.2
 | j+2=>simp at hm
end

section
def Fits(n b:Nat):Prop:=n≤140737488355328∧n * b≤140737488355328
def mpure(σ:St)(k:MV→St→Prop):PV→Prop
  | some (C,v)=>C∧k v σ
  | none=>False
def kM(P:Program)(t:TypeId)(x:MV)(σ:St)(k:MV→St→Prop):Prop :=
  match x with
  | .ptr l i o=>match σ l with
    | some (.row _ _ xs)=>((td P t).ok=true∧i<xs.length∧o+(td P t).size≤(xs.getD i []).length∧0<(td P t).size)∧k (dH (td P t) (xs.getD i []) o) σ
    | _=>False
  | .cptr cs=>((td P t).ok=true∧(td P t).size≤cs.length∧0<(td P t).size)∧k (dH (td P t) cs 0) σ
  | _=>False
def mY(P:Program)(t:TypeId)(x y:MV)(σ:St)(k:MV→St→Prop):Prop :=
  match x with
  | .ptr l i o=>match σ l with
    | some (.row tt e xs)=>((td P t).ok=true∧i<xs.length∧y.cells.all MV.aP=true∧y.cells.length=(td P t).size∧o+y.cells.length≤(xs.getD i []).length)∧k .junk (σ.set l (.row tt e (xs.set i (laid (xs.getD i []) o y.cells))))
    | _=>False
  | _=>False
def jK(P:Program)(t xt:TypeId)(s x:MV)(σ:St)(k:MV→St→Prop):Prop :=
  match (td P t).k with
  | .slice el=>match gS σ (td P el).size x with
    | some ys=>match s with
      | .aT=>((td P xt).k.fB=true∧(td P el).zok=true∧Fits ys.length (td P el).bytes)∧∀l,σ l=none→k (.vec (td P el).size l 0 ys.length) (σ.set l (.row el (td P el).size ys))
      | .lst e xs true=>((td P xt).k.fB=true∧(td P el).zok=true∧e=(td P el).size∧(xs=[]∨0<ys.length)∧Fits (xs.length+ys.length) (td P el).bytes) ∧
          ∀l,σ l=none→k (.vec (td P el).size l 0 (xs.length+ys.length)) (σ.set l (.row el (td P el).size (xs++ys)))
      | .vec e l lo n=>match σ l with
        | some (.row tt e' xs)=>((td P xt).k.fB=true∧(td P el).zok=true∧e=(td P el).size∧e'=(td P el).size∧tt=el∧lo=0∧lo+n≤xs.length∧Fits (n+ys.length) (td P el).bytes) ∧
            ∀l',σ l'=none→k (.vec (td P el).size l' 0 (n+ys.length)) ((σ.del l).set l' (.row el (td P el).size (eU xs lo n ys)))
        | _=>False
      | _=>False
    | none=>False
  | _=>False
def dR(P:Program)(f:FR)(t:TypeId)(len:Nat)(parts:Array (Nat × Operand))(σ:St)(k:MV→St→Prop):Prop :=
  match (td P t).k with
  | .slice el=>((td P el).zok=true∧parts.toList.map (·.1)=List.range len∧(parts.toList.all fun p=>(aK f p.2).cells.all MV.aP&&(aK f p.2).cells.length==(td P el).size)=true∧len * (td P el).size≤16777216∧len≤16777216) ∧
      ∀l,σ l=none→k (.vec (td P el).size l 0 len) (σ.set l (.row el (td P el).size (parts.toList.map fun p=>(aK f p.2).cells)))
  | _=>False
def iD(P:Program)(t:TypeId)(x y:MV)(σ:St)(k:MV→St→Prop):Prop :=
  match (td P t).k,x,y with
  | .slice el,.int .i64 n,.int .i64 c=>((td P el).zok=true∧0≤n∧n≤c∧Fits c.toNat (td P el).bytes)∧∀l,σ l=none→k (.vec (td P el).size l 0 n.toNat) (σ.set l (.row el (td P el).size (List.replicate n.toNat (td P el).zero)))
  | _,_,_=>False
def gR(P:Program)(s d:TypeId)(x:MV)(σ:St)(k:MV→St→Prop):Prop :=
  match (td P s).k,(td P d).k,x with
  | .str,.slice el,.str b=>((td P el).k=.int .u8∧b.size≤140737488355328)∧∀l,σ l=none→k (.vec 1 l 0 b.size) (σ.set l (.row el 1 (b.toList.map fun c=>[.int .u8 (c.toNat:Int)])))
  | .slice el,.str,.str _=>False
  | .slice el,.str,x=>match gS σ 1 x with
    | some ys=>((td P el).k=.int .u8∧ys.all isByte=true)∧k (.str (bytesOf ys)) σ
    | none=>False
  | _,_,x=>mpure σ k (qH P s d x)
def fD(P:Program)(f:FR)(b:Builtin)(args:List Operand)(ts:List TypeId)(σ:St)(k:MV→St→Prop):Prop :=
  match b with
  | .append=>match args,ts with
    | [s,x],[t,xt]=>jK P t xt (aK f s) (aK f x) σ k
    | _,_=>False
  | b=>ts.length=args.length∧mpure σ k (dS P b ts.toArray (args.map (aK f)))
def Gx(P:Program)(f:FR)(c:Call)(σ:St)(k:MV→St→Prop):Prop :=
  match c.callee with
  | .builtin b=>fD P f b c.args.toList c.argTypes.toList σ k
  | .value x=>match aK f x with
    | .fn (.func g) ms ns=>aA P g (ms++c.args.toList.map (aK f)++ns) σ k
    | _=>False
  | .invoke _ _=>False
def mapOf(σ:St):MV→Option bE
  | .mapv l=>σ l
  | _=>none
def fG(P:Program)(t:TypeId)(m x y:MV)(o:Option bE)(σ:St)(k:MV→St→Prop):Prop :=
  match (td P t).k,m,x,o with
  | .map kt _,.mapv l,.int kd n,some (.mp es)=>((td P kt).k=.int kd∧(es.all fun p=>isK kd p.1)=true)∧k .junk (σ.set l (.mp (dJ kd n y es)))
  | _,_,_,_=>False
def fU(P:Program)(t:TypeId)(m x:MV)(ok:Bool)(o:Option bE)(σ:St)(k:MV→St→Prop):Prop :=
  match (td P t).k,m,x,o with
  | .map kt et,.mapv _,.int kd n,some (.mp es)=>((td P kt).k=.int kd∧(td P et).zok=true∧(es.all fun p=>isK kd p.1)=true)∧k (if ok=true then .tup [(cJ n es).getD (sG (td P et)),.bool (cJ n es).isSome] else(cJ n es).getD (sG (td P et))) σ
  | _,_,_,_=>False
def rU(P:Program)(t:TypeId)(m:MV)(o:Option bE)(σ:St)(k:MV→St→Prop):Prop :=
  match (td P t).k,m,o with
  | .map _ _,.mapv l,some (.mp es)=>∀q st ck,σ q=none→st.length=es.length→st.Nodup→(∀s,s∈st→s<ck)→k (.ptr q 0 0) ((σ.set l (.mk es st ck)).set q (.it l ck []))
  | _,_,_=>False
def zK(x:MV)(σ:St)(k:MV→St→Prop):Prop :=
  match x with
  | .ptr q 0 0=>∃l ck seen es st,σ q=some (.it l ck seen)∧σ l=some (.mk es st ck)∧((∀s,s∈st→s∈seen)→k (.tup [.bool false]) σ) ∧
      ∀(i:Nat) (z:MV × MV) (s:Nat),es[i]?=some z→st[i]?=some s→s∉seen→k (.tup [.bool true,z.1,z.2]) (σ.set q (.it l ck (seen++[s])))
  | _=>False
def u7(x:MV)(σ:St)(k:MV→St→Prop):Prop :=
  match x with
  | .ptr q 0 0=>∃l ck seen es st,∃(i:Nat) (z:MV × MV) (s:Nat),σ q=some (.it l ck (seen++[s]))∧σ l=some (.mk es st ck)∧es[i]?=some z∧st[i]?=some s∧k (.tup [z.1,z.2]) σ
  | _=>False
def mop(P:Program)(f:FR)(σ:St)(k:MV→St→Prop):Op→Prop
  | .alloc t=>(td P t).zok=true∧∀l,σ l=none→k (.ptr l 0 0) (σ.set l (.row t (td P t).size [(td P t).zero]))
  | .box t x=>(aK f x).cells.all MV.aP=true∧∀l,σ l=none→k (.ptr l 0 0) (σ.set l (.row t (aK f x).cells.length [(aK f x).cells]))
  | .load t x=>kM P t (aK f x) σ k
  | .store t x y=>mY P t (aK f x) (aK f y) σ k
  | .buildSlice t len parts=>dR P f t len parts σ k
  | .makeSlice t x y=>iD P t (aK f x) (aK f y) σ k
  | .convert s d x=>gR P s d (aK f x) σ k
  | .call c=>Gx P f c σ k
  | .lookup t m x ok=>fU P t (aK f m) (aK f x) ok (mapOf σ (aK f m)) σ k
  | .mapUpdate t m x y=>fG P t (aK f m) (aK f x) (aK f y) (mapOf σ (aK f m)) σ k
  | op=>mpure σ k (qop P f op)
theorem mV{P:Program}{o:Oper}{f:FR}{σ:St}{k:MV→St→Prop}(h:mpure σ k (qop P f o.op))(hot:qM o.op=true):sop P o f σ k:=by
  cases hq:qop P f o.op with
  | none=>rw[hq] at h;exact h.elim
  | some q=>obtain⟨C,v⟩:=q;rw[hq] at h;exact L3 hq hot h.1 h.2
theorem k0{n:Nat}(h:n≤140737488355328):n≤maxLen:=Nat.le_trans h (by unfold maxLen;omega)
theorem Ae{l:List MV}(h:l.all MV.aP=true):∀c,c∈l→c.aP=true:=by simpa using h
theorem Cv{P:Program}{o:Oper}{f:FR}{σ:St}{k:MV→St→Prop}{t:TypeId}{x:Operand}(ho:o.op=.load t x)(h:kM P t (aK f x) σ k):sop P o f σ k:=by
  unfold kM at h
  split at h
  · rename_i l i of hx
    split at h
    · rename_i tt e xs hs
      exact L1 ho hx hs h.1.1 h.1.2.1 h.1.2.2.1 h.1.2.2.2 h.2
    · exact h.elim
  · rename_i cs hx
    exact Jl ho hx h.1.1 h.1.2.1 h.1.2.2 h.2
  · exact h.elim
theorem kU{P:Program}{o:Oper}{f:FR}{σ:St}{k:MV→St→Prop}{t:TypeId}{m x y:Operand}(ho:o.op=.insert t m x y∨o.op=.mapUpdate t m x y)(h:fG P t (aK f m) (aK f x) (aK f y) (mapOf σ (aK f m)) σ k):sop P o f σ k:=by
  unfold fG at h
  split at h
  · rename_i kt et l kd n es h1 h2 h3 h4
    rw[h2] at h4
    exact FG ho h1 h.1.1 h2 h4 h3 h.1.2 h.2
  · exact h.elim
theorem oP{P:Program}{o:Oper}{f:FR}{σ:St}{k:MV→St→Prop}{t:TypeId}{m x:Operand}{ok:Bool}(ho:o.op=.lookup t m x ok)(h:fU P t (aK f m) (aK f x) ok (mapOf σ (aK f m)) σ k):sop P o f σ k:=by
  unfold fU at h
  split at h
  · rename_i kt et l kd n es h1 h2 h3 h4
    rw[h2] at h4
    exact FH ho h1 h.1.1 h.1.2.1 h2 h4 h3 h.1.2.2 h.2
  · exact h.elim
theorem AS{P:Program}{o:Oper}{f:FR}{σ:St}{k:MV→St→Prop}{t:TypeId}{m:Operand}(ho:o.op=.range t m)(h:rU P t (aK f m) (mapOf σ (aK f m)) σ k):sop P o f σ k:=by
  unfold rU at h
  split at h
  · rename_i kt et l es h1 h2 h3
    rw[h2] at h3
    exact Jo ho h1 h2 h3 h
  · exact h.elim
theorem Cx{P:Program}{o:Oper}{f:FR}{σ:St}{k:MV→St→Prop}{x:Operand}(ho:o.op=.next x false)(h:zK (aK f x) σ k):sop P o f σ k:=by
  unfold zK at h
  split at h
  · rename_i q hx
    obtain⟨l,ck,seen,es,st,h1,h2,h3,h4⟩:=h
    exact L2 ho hx h1 h2 h3 h4
  · exact h.elim
theorem AL{P:Program}{o:Oper}{f:FR}{σ:St}{k:MV→St→Prop}{x:Operand}(ho:o.op=.entry x)(h:u7 (aK f x) σ k):sop P o f σ k:=by
  unfold u7 at h
  split at h
  · rename_i q hx
    obtain⟨l,ck,seen,es,st,i,z,s,h1,h2,h3,h4,h5⟩:=h
    exact Jm ho hx h1 h2 h3 h4 h5
  · exact h.elim
theorem lA{P:Program}{o:Oper}{f:FR}{σ:St}{k:MV→St→Prop}(h:mop P f σ k o.op):sop P o f σ k:=by
  cases ho:o.op<;>rw[ho] at h<;>simp only[mop] at h
  case alloc t=>exact Jj ho h.1 h.2
  case box t x=>exact NU ho (Ae h.1) h.2
  case load t x=>exact Cv ho h
  case lookup t m x ok=>exact oP ho h
  case mapUpdate t m x y=>exact kU (.inr ho) h
  case store t x y =>
    unfold mY at h
    split at h
    · rename_i l i of hx
      split at h
      · rename_i tt e xs hs
        obtain⟨⟨h1,h2,h3,h4,h5⟩,h6⟩:=h
        exact Jp ho hx hs h1 h2 (Ae h3) h4 h5 h6
      · exact h.elim
    · exact h.elim
  case buildSlice t len parts =>
    unfold dR at h
    split at h
    · rename_i el hk
      obtain⟨⟨h1,h2,h3,h4,h5⟩,h6⟩:=h
      refine wU ho hk h1 h2 (fun p hp=>?_) h4 (k0 (by omega)) h6
      have:=List.all_eq_true.1 h3 p hp
      simp only[Bool.and_eq_true,beq_iff_eq] at this
      exact⟨Ae this.1,this.2⟩
    · exact h.elim
  case makeSlice t x y =>
    unfold iD at h
    split at h
    · rename_i el n c hk hx hy
      obtain⟨⟨h1,h2,h3,h4⟩,h6⟩:=h
      obtain⟨h7,h8⟩:=h4
      refine yM ho hk h1 hx hy h2 h3 (by omega) ?_ h6
      have:c=(c.toNat:Int):=by omega
      rw[this,Int.mul_comm,←Int.natCast_mul]
      exact Int.ofNat_le.2 h8
    · exact h.elim
  case convert s d x =>
    unfold gR at h
    split at h
    · rename_i el b hs hd hx
      exact Jn ho hs hd h.1.1 hx (k0 h.1.2) h.2
    · exact h.elim
    · rename_i el hs hd hne
      split at h
      · rename_i ys hy
        exact Jq ho hs h.1.1 hd hy (fun b hb=>hne b hb) h.1.2 h.2
      · exact h.elim
    · refine mV ?_ (by rw[ho];rfl)
      rw[ho]
      exact h
  case call c =>
    obtain⟨callee,args,ts⟩:=c
    unfold Gx at h
    cases callee with
    | builtin b =>
      simp only[fD] at h
      split at h
      · split at h
        · rename_i s x t xt ha hts
          have ha':args=#[s,x]:=by rw[←Array.toArray_toList (xs:=args),ha]
          have hts':ts=#[t,xt]:=by rw[←Array.toArray_toList (xs:=ts),hts]
          subst ha';subst hts'
          unfold jK at h
          split at h
          · rename_i el hk
            split at h
            · rename_i ys hy
              split at h
              · rename_i hs
                obtain⟨⟨h1,h2,h3⟩,h4⟩:=h
                have:=nH (P:=P) (f:=f) (σ:=σ) (k:=k) ho hk h1 h2 (xs:=[]) (ys:=ys) (.inl ⟨hs,rfl⟩) hy (.inl rfl) (k0 (by simpa using h3.1)) (by simpa using h3.2) (by simpa using h4)
                exact this
              · rename_i e xs hs
                obtain⟨⟨h1,h2,rfl,h3,h4⟩,h5⟩:=h
                exact nH (P:=P) (f:=f) (σ:=σ) (k:=k) ho hk h1 h2 (.inr hs) hy h3 (k0 h4.1) h4.2 h5
              · rename_i e l lo n hs
                split at h
                · rename_i tt e' xs hsl
                  obtain⟨⟨h1,h2,rfl,rfl,h3,hlo,h4,h5⟩,h6⟩:=h
                  exact wR (P:=P) (f:=f) (σ:=σ) (k:=k) ho hk h1 h2 hs hsl h3 hlo h4 hy (k0 h5.1) h5.2 h6
                · exact h.elim
              · exact h.elim
            · exact h.elim
          · exact h.elim
        · exact h.elim
      · rename_i b' hne
        refine mV (P:=P) (f:=f) ?_ (by rw[ho];simp only[qM,beq_iff_eq];simpa using h.1)
        rw[ho]
        simpa[qop] using h.2
    | value x =>
      simp only at h
      split at h
      · rename_i g ms ns hx
        exact L0 ho hx h
      · exact h.elim
    | invoke r m=>exact h.elim
  all_goals first
    | exact mV (by rw[ho];exact h) (by rw[ho];rfl)
    | exact h.elim
def bI(f:FR)(dst:Option Tmp)(v:MV):FR :=
  match dst with
  | some d=>if d<f.n then⟨f.n,(d,v)::f.l,f.d⟩ else f
  | none=>f
theorem eF{Φ:Phi}{a:Act}{f:FR}(hr:dC Φ a.tmps f)(dst:Option Tmp){v:Value}{m:MV}(h:Rel Φ v m):dC Φ (a.put dst v).tmps (bI f dst m):=by
  cases dst with
  | none=>exact hr
  | some d =>
    have e1:=hr.1
    simp only[bI]
    split
    · rename_i hd
      refine⟨by simp[Act.put,e1],fun t=>?_⟩
      simp only[Act.put,Array.getD_eq_getD_getElem?,Array.getElem?_setIfInBounds,FR.get,cH]
      by_cases ht:t=d
      · subst ht
        rw[if_pos rfl,if_pos rfl,if_pos (show t<a.tmps.size by rw[e1];exact hd)]
        exact h
      · rw[if_neg (Ne.symm ht),if_neg ht]
        have:=hr.2 t
        rwa [Array.getD_eq_getD_getElem?] at this
    · rename_i hd
      refine⟨by simp[Act.put,e1],fun t=>?_⟩
      have hd':¬d<a.tmps.size:=by rw[e1];exact hd
      have:(a.put (some d) v).tmps=a.tmps:=by simp only[Act.put,Array.setIfInBounds,dif_neg hd']
      rw[this]
      exact hr.2 t
theorem cI{a:Act}(dst:Option Tmp)(v:Value):(a.put dst v).defers=a.defers:=by cases dst<;>rfl
theorem gJ{Φ:Phi}:Rel Φ undef (.tup []):=.tup rfl (fun i m h=>by simp at h)
def gB(ops:Array Oper)(f:FR)(o:Oper)(yes no:Prop):Prop :=
  match o.guard with
  | none=>yes
  | some (j,want)=>match (ops[j]?).bind (·.dst) with
    | some t=>match f.get t with
      | .bool b=>(b=want→yes)∧(b=(!want)→no)
      | .tup []=>no
      | _=>False
    | none=>False
theorem dT{Φ:Phi}{ops:Array Oper}{f:FR}{o:Oper}{yes no:Prop}(h:gB ops f o yes no){a:Act}(hr:dC Φ a.tmps f) :
    (Region.wanted o (yielded ops a.tmps)=true∧yes)∨(Region.wanted o (yielded ops a.tmps)=false∧no):=by
  unfold gB at h
  unfold Region.wanted
  split at h
  · rename_i hg;rw[hg];exact .inl ⟨rfl,h⟩
  · rename_i j want hg
    rw[hg]
    simp only
    split at h
    · rename_i t ht
      split at h
      · rename_i b hb
        have hy:yielded ops a.tmps j=some b:=by
          unfold yielded
          rw[ht]
          have hrel:=hr.2 t
          rw[hb] at hrel
          have hrel:=hrel.jV
          have hlt2:t<a.tmps.size:=by
            rcases Nat.lt_or_ge t a.tmps.size with q|q
            · exact q
            · simp[Array.getD_eq_getD_getElem?,Array.getElem?_eq_none q,undef] at hrel
          rw[Array.getD_eq_getD_getElem?,Array.getElem?_eq_getElem hlt2] at hrel
          simp only[Option.getD_some] at hrel
          simp[Array.getElem?_eq_getElem hlt2,hrel]
        rw[hy]
        by_cases hw:b=want
        · left;subst hw;exact⟨by simp,h.1 rfl⟩
        · right
          have hb':b=!want:=by cases b<;>cases want<;>simp at hw ⊢
          exact⟨by simp[hw],h.2 hb'⟩
      · rename_i hb
        right
        have hrel:=hr.2 t
        rw[hb] at hrel
        obtain⟨cs,e,hs,_⟩:=hrel.AA
        have hy:yielded ops a.tmps j=none:=by
          unfold yielded
          rw[ht]
          rcases Nat.lt_or_ge t a.tmps.size with q|q
          · rw[Array.getD_eq_getD_getElem?,Array.getElem?_eq_getElem q] at e
            simp only[Option.getD_some] at e
            simp[Array.getElem?_eq_getElem q,e]
          · simp[Array.getElem?_eq_none q]
        rw[hy]
        exact⟨by simp,h⟩
      · exact h.elim
    · exact h.elim
def AJ(f:FR)(c:Call)(K:FR→Prop):Prop:=match c.callee with
  | .value x=>match aK f x with
    | .fn (.func g) ms ns=>K ⟨f.n,f.l,(g,ms++c.args.toList.map (aK f)++ns)::f.d⟩
    | _=>False
  | _=>False
def A2(P:Program)(t:TypeId)(x lo hi:MV)(o:Option bE)(σ:St)(k:MV→St→Prop):Prop :=
  match x,lo,hi,o,(td P t).k with
  | .vec e l l0 _,.int _ a,.int _ h,some (.row _ e' xs),.slice el=>((td P el).ok=true∧e=(td P el).size∧e'=(td P el).size∧0≤a∧a≤h∧l0+h.toNat≤xs.length)∧k (.vec e l (l0+a.toNat) (h.toNat - a.toNat)) σ
  | _,_,_,_,_=>False
def Ks(σ:St):MV→Option bE
  | .vec _ l _ _=>σ l
  | _=>none
def beyond:MV→MV→Prop
  | .vec _ _ _ n,.int _ h=>(n:Int)<h
  | _,_=>False
instance (x y:MV):Decidable (beyond x y):=by unfold beyond;split<;>infer_instance
def mclear(P:Program)(t:TypeId)(x:MV)(o:Option bE)(σ:St)(k:MV→St→Prop):Prop :=
  match x,o,(td P t).k with
  | .vec e l l0 n,some (.row tt e' xs),.slice el=>((td P el).zok=true∧0<(td P el).size∧e=(td P el).size∧e'=(td P el).size∧l0+n≤xs.length)∧k .junk (σ.set l (.row tt e' (iN xs l0 (List.replicate n (td P el).zero))))
  | _,_,_=>False
def Lf(P:Program)(t:TypeId)(s x:MV)(σ:St)(k:MV→St→Prop):Prop :=
  match (td P t).k,s,x with
  | .slice el,.aT,.int .i64 n=>((td P el).zok=true∧0<(td P el).size∧0<n∧Fits n.toNat (td P el).bytes)∧∀l,σ l=none→k (.vec (td P el).size l 0 n.toNat) (σ.set l (.row el (td P el).size (List.replicate n.toNat (td P el).zero)))
  | _,_,_=>False
def Ns(b:Bool)(A B:Prop):Prop:=if b=true then A else B
def fQ(P:Program)(f:FR)(σ:St)(dst:Option Tmp)(K:FR→St→Prop):Op→Prop
  | .defer c=>AJ f c fun f'=>K (bI f' dst .junk) σ
  | .makeMap _ none=>∀l,σ l=none→K (bI f dst (.mapv l)) (σ.set l (.mp []))
  | .insert t m x y=>fG P t (aK f m) (aK f x) (aK f y) (mapOf σ (aK f m)) σ (fun v σ'=>K (bI f dst v) σ')
  | .mapUpdate t m x y=>fG P t (aK f m) (aK f x) (aK f y) (mapOf σ (aK f m)) σ (fun v σ'=>K (bI f dst v) σ')
  | .lookup t m x ok=>fU P t (aK f m) (aK f x) ok (mapOf σ (aK f m)) σ (fun v σ'=>K (bI f dst v) σ')
  | .range t m=>rU P t (aK f m) (mapOf σ (aK f m)) σ (fun v σ'=>K (bI f dst v) σ')
  | .next x false=>zK (aK f x) σ (fun v σ'=>K (bI f dst v) σ')
  | .entry x=>u7 (aK f x) σ (fun v σ'=>K (bI f dst v) σ')
  | .slice t x (some y) (some z) none=>if beyond (aK f x) (aK f z) then A2 P t (aK f x) (aK f y) (aK f z) (Ks σ (aK f x)) σ (fun v σ'=>K (bI f dst v) σ')
      else mop P f σ (fun v σ'=>K (bI f dst v) σ') (.slice t x (some y) (some z) none)
  | .call ⟨.builtin .clear,args,ts⟩=>match args.toList,ts.toList with
    | [x],[t]=>mclear P t (aK f x) (Ks σ (aK f x)) σ (fun v σ'=>K (bI f dst v) σ')
    | _,_=>False
  | .call ⟨.builtin .append,args,ts⟩=>match args.toList,ts.toList with
    | [s,x],[t,xt]=>Ns (td P xt).k.isInt (Lf P t (aK f s) (aK f x) σ (fun v σ'=>K (bI f dst v) σ')) (mop P f σ (fun v σ'=>K (bI f dst v) σ') (.call ⟨.builtin .append,args,ts⟩))
    | _,_=>False
  | op=>mop P f σ (fun v σ'=>K (bI f dst v) σ') op
def gL(P:Program)(ops:Array Oper)(K:FR→St→Prop):List Oper→FR→St→Prop
  | [],f,σ=>K f σ
  | o::rest,f,σ=>gB ops f o (fQ P f σ o.dst (gL P ops K rest) o.op) (gL P ops K rest (bI f o.dst (.tup [])) σ)
theorem fN(f:FR)(dst:Option Tmp)(v:MV):(bI f dst v).d=f.d:=by
  unfold bI
  split<;>(try split)<;>rfl
def dU:Op→Bool
  | .defer _|.makeMap _ none|.insert ..|.mapUpdate ..|.lookup ..|.range ..|.next _ false|.entry ..|.slice _ _ (some _) (some _) none|.call ⟨.builtin .clear,_,_⟩|.call ⟨.builtin .append,_,_⟩=>false
  | _=>true
theorem CJ{P:Program}{f:FR}{σ:St}{dst:Option Tmp}{K:FR→St→Prop}{op:Op}(h:dU op=true):fQ P f σ dst K op=mop P f σ (fun v σ'=>K (bI f dst v) σ') op:=by
  cases op<;>first|rfl|skip
  case slice t x lo hi mx=>cases lo<;>cases hi<;>cases mx<;>first|rfl|(simp[dU] at h;done)
  case defer c=>simp[dU] at h
  case makeMap t r=>cases r<;>first|rfl|(simp[dU] at h;done)
  case insert=>simp[dU] at h
  case range=>simp[dU] at h
  case entry=>simp[dU] at h
  case next x b=>cases b<;>first|rfl|(simp[dU] at h;done)
  case call c =>
    obtain⟨callee,args,ts⟩:=c
    cases callee<;>first|rfl|skip
    rename_i b
    cases b<;>first|rfl|(simp[dU] at h;done)
theorem mX{P:Program}{o:Oper}{f:FR}{σ:St}{K:FR→St→Prop}(hd:∀c,o.op≠.defer c)(h:fQ P f σ o.dst K o.op):sop P o f σ fun v σ'=>K (bI f o.dst v) σ':=by
  by_cases hp:dU o.op=true
  · rw[CJ hp] at h
    exact lA h
  · cases ho:o.op<;>rw[ho] at h hp<;>(try simp[dU] at hp)
    case slice t x lo hi mx =>
      cases lo<;>cases hi<;>cases mx<;>(try simp[dU] at hp)
      rename_i y z
      simp only[fQ] at h
      split at h
      · unfold A2 at h
        split at h
        · rename_i e l l0 n k1 a k2 hh tt e' xs el hx hy hz hl hk
          obtain⟨⟨h1,rfl,rfl,h3,h4,h5⟩,h6⟩:=h
          rw[hx] at hl
          exact FI ho hk h1 hx hl hy hz h3 h4 h5 h6
        · exact h.elim
      · rw[←ho] at h
        exact lA h
    case defer c=>exact absurd ho (hd c)
    case makeMap t r =>
      cases r<;>(try simp[dU] at hp)
      exact Dq ho h
    case insert t m x y=>exact kU (.inl ho) h
    case mapUpdate t m x y=>exact kU (.inr ho) h
    case lookup t m x ok=>exact oP ho h
    case range t m=>exact AS ho h
    case next x b =>
      cases b<;>(try simp[dU] at hp)
      exact Cx ho h
    case entry x=>exact AL ho h
    case call c =>
      obtain⟨callee,args,ts⟩:=c
      cases callee<;>(try simp[dU] at hp)
      rename_i b
      cases b<;>(try simp[dU] at hp)
      case append =>
        simp only[fQ] at h
        split at h
        · rename_i s x t xt ha ht
          have ha':args=#[s,x]:=by rw[←Array.toArray_toList (xs:=args),ha]
          have ht':ts=#[t,xt]:=by rw[←Array.toArray_toList (xs:=ts),ht]
          subst ha';subst ht'
          unfold Ns at h
          split at h
          · rename_i hxt
            unfold Lf at h
            split at h
            · rename_i el n hk hs hx
              obtain⟨⟨h1,h2,h3,h4,h5⟩,h6⟩:=h
              exact sA ho hk hxt h1 h2 hs hx h3 h4 h5 h6
            · exact h.elim
          · rw[←ho] at h
            exact lA h
        · exact h.elim
      case clear =>
        simp only[fQ] at h
        split at h
        · rename_i x t ha ht
          have ha':args=#[x]:=by rw[←Array.toArray_toList (xs:=args),ha]
          have ht':ts=#[t]:=by rw[←Array.toArray_toList (xs:=ts),ht]
          subst ha';subst ht'
          unfold mclear at h
          split at h
          · rename_i e l l0 n tt e' xs el hx hl hk
            obtain⟨⟨h1,h2,rfl,rfl,h3⟩,h4⟩:=h
            rw[hx] at hl
            exact Jk ho hk h1 h2 hx hl h3 h4
          · exact h.elim
        · exact h.elim
theorem C8{Φ:Phi}{x y:Array Value}{m n:List MV}(h1:hO Φ x m)(h2:hO Φ y n):hO Φ (x++y) (m++n):=by
  refine⟨by simp[h1.1,h2.1],fun i q hq=>?_⟩
  have e1:=h1.1
  by_cases h:i<m.length
  · rw[List.getElem?_append_left h] at hq
    have:=h1.2 i q hq
    simpa[Array.getD_eq_getD_getElem?,Array.getElem?_append_left (show i<x.size by omega)] using this
  · rw[List.getElem?_append_right (by omega)] at hq
    have:=h2.2 _ q hq
    simpa[Array.getD_eq_getD_getElem?,Array.getElem?_append_right (show x.size≤i by omega),e1] using this
theorem AK{P:Program}{o:Oper}{c:Call}(ho:o.op=.defer c){f:FR}{K:FR→Prop}(h:AJ f c K){Φ:Phi}{a:Act}{w:World}(hr:dC Φ a.tmps f)(hd:eG Φ w a.defers f.d) :
    ∃d f',(execOp a.eval o).run P w=.ok (.defer d) w∧dC Φ a.tmps f'∧eG Φ w (d::a.defers) f'.d∧K f':=by
  unfold AJ at h
  obtain⟨callee,args,ts⟩:=c
  simp only at h
  split at h
  · rename_i x
    split at h
    · rename_i g ms ns hx
      have rx:=aQ hr x
      rw[hx] at rx
      obtain⟨first,cap,he,r1,r2⟩:=rx.mP
      refine⟨⟨.fn (.func g) cap,first++args.map a.eval⟩,_,?_,?_,?_,h⟩
      · unfold execOp
        simp only[ho,resolve,he,Deferred.ofValue,Sem.run_bind,Sem.run_pure,Result.andThen_ok]
      · exact hr
      · exact .inr ⟨_,_,_,cap,rfl,rfl,C8 (C8 r1 (j5 hr args)) r2,hd⟩
    · exact h.elim
  · exact h.elim
theorem Be{F:Fence}(hF:F=Fence.wide∨∃l,F=Fence.wide.inRound l){n:Nat}{P:Program}{row:String}{args:Array Value}{w:World}{R:Value→World→Prop}(h:Rows P row args w R):RowsIn F n P row args w R:=by
  intro c cs _
  obtain⟨v,w',r,s⟩:=h c cs
  refine⟨v,w',r,?_⟩
  rcases hF with rfl|⟨l,rfl⟩
  · exact stepsIn_wide.2 s
  · rw[fenced_inRound];exact stepsIn_wide.2 s
theorem xK{F:Fence}(hF:F=Fence.wide∨∃l,F=Fence.wide.inRound l){n:Nat}{P:Program}{f:FuncId}{args:Array Value}{w:World}{R:Ending→World→Prop}(h:Calls P f args w R):CallsIn F n P f args w R:=by
  rcases hF with rfl|⟨l,rfl⟩
  · exact callsIn_wide.2 h
  · exact CallsIn.inRound l (callsIn_wide.2 h)
theorem kA{F:Fence}{n:Nat}{P:Program}{o:Oper}{a:Act}{w:World}{K:Act→World→Prop}{Q:Exit→Act→World→Prop}
   (hF:F=Fence.wide∨∃l,F=Fence.wide.inRound l∧∀c,o.op≠.defer c)(h:o.wp P a w K Q):o.wpIn F n P a w K Q:=by
  have hF':F=Fence.wide∨∃l,F=Fence.wide.inRound l:=hF.imp id fun⟨l,e,_⟩=>⟨l,e⟩
  have hfn:∀g,F.fn g:=fun g=>by rcases hF' with rfl|⟨l,rfl⟩<;>trivial
  have hd:F.depth.isSome=true→1≤n:=fun q=>by rcases hF' with rfl|⟨l,rfl⟩<;>cases q
  have hs:o.semAt F.round a.eval=execOp a.eval o:=by
    rcases hF with rfl|⟨l,rfl,hc⟩
    · exact Oper.semAt_none _ _
    · exact Oper.semAt_eq _ _ _ hc
  refine⟨fun f _=>hfn f,?_⟩
  rw[hs]
  unfold Oper.wp at h
  generalize (execOp a.eval o).run P w=r at h ⊢
  cases r with
  | ok x w' =>
    cases x with
    | value v=>exact h
    | skip=>exact h
    | defer d=>exact h
    | enter f args=>exact⟨hd,(xK hF' h).mono fun e w'' q=>by cases e<;>exact q⟩
    | row row args=>exact⟨hd,Be hF' h⟩
    | _=>exact h.elim
  | halt x w' =>
    cases x with
    | panic v=>exact h
    | _=>exact h.elim
theorem E5{P:Program}{ops:Array Oper}{Q:MQ}{Φ0:Phi}{σ0:St}{w0:World}{F:Fence}:∀(l:List Oper),(F=Fence.wide∨∃l0,F=Fence.wide.inRound l0∧∀o,o∈l→∀c,o.op≠.defer c)→∀(f:FR) (σ:St) (Φ:Phi) (w:World) (a:Act),gL P ops (Q .normal) l f σ→Inv Φ w σ→dC Φ a.tmps f→eG Φ w a.defers f.d →
    Step Φ0 σ0 w0 Φ σ w→wpListIn F 0 P ops (lift Φ0 σ0 w0 Q) l a w:=by
  intro l
  induction l with
  | nil=>intro _ f σ Φ w a h hi hr hd hs;exact⟨f,σ,Φ,hd,hr,hi,hs,h⟩
  | cons o rest ih =>
    intro hF f σ Φ w a h hi hr hd hs
    have hFr:F=Fence.wide∨∃l0,F=Fence.wide.inRound l0∧∀o,o∈rest→∀c,o.op≠.defer c:=hF.imp id fun⟨l0,e,q⟩=>⟨l0,e,fun o ho=>q o (by simp[ho])⟩
    have hFo:F=Fence.wide∨∃l0,F=Fence.wide.inRound l0∧∀c,o.op≠.defer c:=hF.imp id fun⟨l0,e,q⟩=>⟨l0,e,q o (by simp)⟩
    have hfn:∀g,F.fn g:=fun g=>by rcases hF with rfl|⟨l,rfl,_⟩<;>trivial
    simp only[gL] at h
    unfold wpListIn
    rcases dT h hr with⟨hw,hy⟩|⟨hw,hn⟩
    · rw[if_pos hw]
      refine kA hFo ?_
      by_cases hdef:∃c,o.op=.defer c
      · obtain⟨c,hc⟩:=hdef
        rw[hc] at hy
        have hy:AJ f c fun f'=>gL P ops (Q .normal) rest (bI f' o.dst .junk) σ:=hy
        obtain⟨d,f',h1,h2,h3,h4⟩:=AK (P:=P) (w:=w) hc hy hr hd
        unfold Oper.wp
        rw[h1]
        refine ih hFr _ _ Φ w _ h4 hi (eF (a:={ a with defers:=d::a.defers }) h2 o.dst (.junk _)) ?_ hs
        rw[cI,fN]
        exact h3
      · exact mX (fun c hc=>hdef ⟨c,hc⟩) hy Φ w a _ _ hi hr (fun v mv σ' Φ' w' r1 i1 s1 hk=>ih hFr _ _ Φ' w' (a.put o.dst v) hk i1 (eF (hr.mono s1.le) o.dst r1) (by rw[cI,fN];exact hd.step hi s1) (hs.trans s1))
    · rw[if_neg (by simp[hw])]
      exact⟨fun f _=>hfn f,ih hFr _ _ Φ w (a.put o.dst undef) hn hi (eF hr o.dst gJ) (by rw[cI,fN];exact hd) hs⟩
theorem FOk.ops{F:Fence}{id:Nat}{ops:Array Oper}{dr:Bool}(h:FOk F (.region id ops dr)):F=Fence.wide∨∃l0,F=Fence.wide.inRound l0∧∀o,o∈ops.toList→∀c,o.op≠.defer c :=
  Or.imp (fun q=>q) (fun⟨l0,e,q⟩=>⟨l0,e,fun o ho c hc=>by
    have:=List.all_eq_true.1 q o ho
    rw[hc] at this
    cases this⟩) h
theorem Fa{P:Program}{id:Nat}{ops:Array Oper}{f:FR}{σ:St}{Q:MQ}(h:gL P ops (Q .normal) ops.toList f σ):mwp P (.region id ops false) f σ Q :=
  fun F hF Φ w a hi hr hd=>wpIn_region_list (E5 ops.toList hF.ops f σ Φ w a h hi hr hd (.refl _ _ _))
def CG(P:Program)(f:FR)(σ:St):ResultVar→(MV→Prop)→Prop
  | .tmp t,k=>k (f.get t)
  | .cell a t,k=>kM P t (f.get a) σ (fun v _=>k v)
def eE(P:Program)(f:FR)(σ:St):List ResultVar→(List MV→Prop)→Prop
  | [],k=>k []
  | r::rs,k=>CG P f σ r fun v=>eE P f σ rs fun vs=>k (v::vs)
def oneOf:List MV→MV
  | [v]=>v
  | vs=>.tup vs
def Ac(P:Program)(g:FuncId)(ms:List MV)(σ:St)(Q:St→Prop):Prop :=
  ∃fn,P.funcs[g]?=some fn∧fn.body.isNone=false∧(fn.name == "runtime.NumGoroutine")=false ∧
    ∀Φ w vs,Inv Φ w σ→hO Φ vs ms→CallsD P g vs .returning w fun e u' w'=>u'=.returning∧∃v σ' Φ',e=.returned v∧Inv Φ' w' σ'∧Step Φ σ w Φ' σ' w'∧Q σ'
def mleave(P:Program)(n:Nat)(l:List (Nat × MV))(rs:List ResultVar)(Q:MV→St→Prop):List (FuncId × List MV)→St→Prop
  | [],σ=>eE P ⟨n,l,[]⟩ σ rs fun vs=>Q (oneOf vs) σ
  | (g,ms)::d,σ=>Ac P g ms σ fun σ'=>mleave P n l rs Q d σ'
def LG(P:Program)(rs:List ResultVar)(Q:MV→St→Prop):MQ
  | .normal,f,σ|.ret,f,σ=>mleave P f.n f.l rs Q f.d σ
  | _,_,_=>False
theorem Ij{P:Program}{t:TypeId}{x:MV}{σ:St}{k:MV→St→Prop}(h:kM P t x σ k){Φ:Phi}{w:World}(hi:Inv Φ w σ){v:Value}(r:Rel Φ v x):∃ad u m,v=.pointer (some ad)∧(loadVar t ad).run P w=.ok u w∧Rel Φ u m∧k m σ:=by
  unfold kM at h
  split at h
  · rename_i l i of
    split at h
    · rename_i tt e xs hs
      obtain⟨⟨hok,hi',h1,h0⟩,hk⟩:=h
      obtain⟨p,R,hp,hR,he⟩:=r.gQ
      obtain⟨p',hp',hpe,hlen,R',hR',hcells⟩:=(hi.own l _ hs).elem (iJ hi' (d:=[]))
      rw[hp] at hp';cases hp'
      rw[hR] at hR';cases hR'
      obtain⟨v2,hv,hrel⟩:=jL (P:=P) (Φ:=Φ) (w:=w) (t:=t) (b:=R) (off:=p.bo+i * p.e+of) (ms:=(xs.getD i []).drop of) hok (by rw[List.length_drop];omega) h0 (fun j m hm=>by
        rw[List.getElem?_drop] at hm
        have:=hcells _ m hm
        rw[Nat.add_assoc (p.bo+i * p.e),hpe]
        exact this)
      have e2:dH (td P t) ((xs.getD i []).drop of) 0=dH (td P t) (xs.getD i []) of:=by
        unfold dH
        simp[List.getD,List.getElem?_drop]
      rw[e2] at hrel
      exact⟨_,v2,_,he,hv,hrel,hk⟩
    · exact h.elim
  · rename_i cs
    obtain⟨⟨hok,h1,h0⟩,hk⟩:=h
    obtain⟨b,off,vs,he,hc,hrr⟩:=r.kY
    obtain⟨v2,hv,hrel⟩:=jL (P:=P) (Φ:=Φ) (w:=w) (t:=t) (b:=b) (off:=off) (ms:=cs) hok h1 h0 (fun j m hm=>⟨(hc j m hm).1,vs j,hi.snap _ _ (hc j m hm).2,hrr j m hm⟩)
    exact⟨_,v2,_,he,hv,hrel,hk⟩
  · exact h.elim
theorem C7{Φ:Phi}{tmps:Array Value}{f:FR}(hr:dC Φ tmps f)(t:Nat):Rel Φ (tmps.getD t undef) (f.get t):=hr.2 t
def zX(tmps:Array Value):ResultVar→Sem Value
  | .tmp t=>pure (tmps.getD t undef)
  | .cell a t=>do loadVar t (←asAddr (tmps.getD a undef))
theorem pF(fn:Func)(tmps:Array Value):results fn tmps=(do
    let vs ←fn.results.mapM (zX tmps)
    pure (if h:vs.size=1 then vs[0] else .tuple vs)):=rfl
theorem AV{P:Program}{f:FR}{σ:St}{Φ:Phi}{w:World}(hi:Inv Φ w σ){tmps:Array Value}(hr:dC Φ tmps f):∀(rs:List ResultVar) (k:List MV→Prop),eE P f σ rs k →
    ∃vs ms,(rs.mapM (m:=Sem) (zX tmps)).run P w=.ok vs w∧vs.length=ms.length∧(∀(i:Nat) v m,vs[i]?=some v→ms[i]?=some m→Rel Φ v m)∧k ms:=by
  intro rs
  induction rs with
  | nil=>intro k h;exact⟨[],[],by simp,rfl,by simp,h⟩
  | cons r rs ih =>
    intro k h
    simp only[eE] at h
    cases r with
    | tmp t =>
      obtain⟨vs,ms,h1,h2,h3,h4⟩:=ih _ h
      refine⟨tmps.getD t undef::vs,f.get t::ms,?_,by simp[h2],fun i v m hv hm=>?_,h4⟩
      · rw[List.mapM_cons]
        simp only[zX,Sem.run_bind,Sem.run_pure,Result.andThen_ok]
        rw[h1]
        rfl
      · cases i with
        | zero=>simp only[List.getElem?_cons_zero,Option.some.injEq] at hv hm;subst hv;subst hm;exact C7 hr t
        | succ i=>exact h3 i v m (by simpa using hv) (by simpa using hm)
    | cell a t =>
      simp only[CG] at h
      obtain⟨ad,u,m1,he,hl,hrel,hk⟩:=Ij h hi (C7 hr a)
      obtain⟨vs,ms,h1,h2,h3,h4⟩:=ih _ hk
      refine⟨u::vs,m1::ms,?_,by simp[h2],fun i v m hv hm=>?_,h4⟩
      · rw[List.mapM_cons]
        simp only[zX,Sem.run_bind,he,asAddr,Sem.run_pure,Result.andThen_ok,hl]
        rw[h1]
        rfl
      · cases i with
        | zero=>simp only[List.getElem?_cons_zero,Option.some.injEq] at hv hm;subst hv;subst hm;exact hrel
        | succ i=>exact h3 i v m (by simpa using hv) (by simpa using hm)
theorem C9{P:Program}{fn:Func}{f:FR}{σ:St}{Φ:Phi}{w:World}(hi:Inv Φ w σ){tmps:Array Value}(hr:dC Φ tmps f){Q:MV→St→Prop}(h:eE P f σ fn.results.toList fun vs=>Q (oneOf vs) σ) :
    ∃v m,(results fn tmps).run P w=.ok v w∧Rel Φ v m∧Q m σ:=by
  obtain⟨vs,ms,h1,h2,h3,h4⟩:=AV (P:=P) hi hr fn.results.toList _ h
  have hm:∃va:Array Value,(fn.results.mapM (m:=Sem) (zX tmps)).run P w=.ok va w∧va.toList=vs:=by
    rw[←Array.toList_mapM] at h1
    simp only[Sem.run_map] at h1
    generalize hg:(fn.results.mapM (m:=Sem) (zX tmps)).run P w=res at h1 ⊢
    cases res with
    | halt x w'=>simp at h1
    | ok va w' =>
      simp only[Result.andThen_ok,Result.ok.injEq] at h1
      obtain⟨h1,rfl⟩:=h1
      exact⟨va,rfl,h1⟩
  obtain⟨va,hva,rfl⟩:=hm
  by_cases hs:va.size=1
  · match ms,h2 with
    | [m],h2 =>
      refine⟨va[0],m,?_,h3 0 _ m (by simp[hs]) rfl,h4⟩
      rw[pF]
      simp only[Sem.run_bind,hva,Result.andThen_ok,Sem.run_pure,dif_pos hs]
    | [],h2=>simp[hs] at h2
    | _::_::_,h2=>simp[hs] at h2
  · refine⟨.tuple va,oneOf ms,?_,?_,h4⟩
    · rw[pF]
      simp only[Sem.run_bind,hva,Result.andThen_ok,Sem.run_pure,dif_neg hs]
    · have:oneOf ms=.tup ms:=by
        match ms,h2 with
        | [],_=>rfl
        | [m],h2=>exact absurd (by simpa using h2) hs
        | _::_::_,_=>rfl
      rw[this]
      refine .tup (by simpa using h2) (fun i m hm'=>?_)
      have hlt:i<va.size:=by have:=(List.getElem?_eq_some_iff.1 hm').1;simp at h2;omega
      have hv:va.toList[i]?=some (va.getD i undef):=by
        rw[Array.getElem?_toList]
        simp[Array.getD_eq_getD_getElem?,Array.getElem?_eq_getElem hlt]
      exact h3 i _ m hv hm'
def kF:Nat→List MV→List (Nat × MV)
  | _,[]=>[]
  | i,m::ms=>(i,m)::kF (i+1) ms
theorem nQ:∀(ms:List MV) (i t:Nat),cH (kF i ms) t=if i≤t then(ms[t - i]?).getD .junk else .junk:=by
  intro ms
  induction ms with
  | nil=>intro i t;simp[kF,cH]
  | cons m ms ih =>
    intro i t
    simp only[kF,cH,ih]
    by_cases h:t=i
    · subst h;simp
    · rw[if_neg h]
      by_cases h2:i≤t
      · obtain⟨k,rfl⟩:∃k,t=i+1+k:=⟨t - (i+1),by omega⟩
        rw[if_pos (by omega),if_pos h2,show i+1+k - (i+1)=k from by omega,show i+1+k - i=k+1 from by omega]
        rfl
      · rw[if_neg (by omega),if_neg h2]
def kC(P:Program)(fn:Func)(tmps:Array Value)(R:Ending→World→Prop):List Deferred→World→Prop
  | [],w=>∃v,(results fn tmps).run P w=.ok v w∧R (.returned v) w
  | d::ds,w=>(∃r w',d.target=.collected r∧(Instr.takeDeferred r).run P w=.ok [] w'∧kC P fn tmps R ds w') ∨
      ∃fv cap f args,d.target=.fn fv cap∧(invoke d.target d.args).run P w=.ok (.enter f args) w∧CallsD P f args .returning w fun e u' w'=>(∃v,e=.returned v)∧u'=.returning∧kC P fn tmps R ds w'
theorem oN{P:Program}{fn:Func}{tmps:Array Value}{R:Ending→World→Prop}:∀(ds:List Deferred) (w:World) (fr:Frame) (cs:List Frame),fr.mode=.returning→fr.defers=ds→fr.tmps=tmps→P.funcs[fr.fn]?=some fn→fr.kind=.normal →
    kC P fn tmps R ds w→∃e w' fr',R e w'∧Comes P (lone fr cs w) (lone fr' cs w') e∧fr'.fn=fr.fn∧fr'.leaving P w' e:=by
  intro ds
  induction ds with
  | nil =>
    intro w fr cs hu hd ht hf hk h
    obtain⟨v,hr,hR⟩:=h
    exact⟨.returned v,w,fr,hR,Steps.refl P _,rfl,hu,hd,hk,fn,hf,ht ▸ hr⟩
  | cons d ds ih =>
    intro w fr cs hu hd ht hf hk h
    have hrun:fr.mode≠.run:=by rw[hu];simp
    rcases h with⟨r,w',h1,h2,h3⟩|⟨fv,cap,f,args,h1,h2,h3⟩
    · have s1:=step_collected (cs:=cs) hrun hd h1 h2
      obtain⟨e,w2,fr',q1,q2,q3,q4⟩:=ih w' { fr with defers:=[]++ds } cs hu rfl ht hf hk h3
      exact⟨e,w2,fr',q1,Comes.of_steps (.one s1) q2,q3,q4⟩
    · have s1:=step_defer (cs:=cs) hrun hd h1 h2
      obtain⟨e,u',w',frX,hR,hsteps,hkX,hgo⟩:=h3 { fr with defers:=ds } cs hu
      obtain⟨⟨v,rfl⟩,rfl,hR⟩:=hR
      have s2:=step_going_returned (c:={ { fr with defers:=ds } with mode:=.returning }) (cs:=cs) hkX hgo
      obtain⟨e,w2,fr',q1,q2,q3,q4⟩:=ih w' { { { fr with defers:=ds } with mode:=.returning } with mode:=settle .returning } cs rfl rfl ht hf hk hR
      exact⟨e,w2,fr',q1,Comes.of_steps (.head s1 (Steps.trans hsteps (.one s2))) q2,q3,q4⟩
theorem p6{P:Program}{f:FuncId}{fn:Func}{c:Code}{args:Array Value}{w:World}{R:Ending→World→Prop}(hf:P.funcs[f]?=some fn)(hb:fn.body=some c)
   (h:c.wp P (fun e a w=>(e=.normal∨e=.ret)∧kC P fn a.tmps R a.defers w) { tmps:=args++Array.replicate (fn.ntmps - args.size) undef,defers:=[] } w):Calls P f args w R:=by
  intro cs
  let b:Frame:={ (default:Frame) with fn:=f,kind:=.normal }
  have henter:Frame.enter P f args .normal=b.at { tmps:=args++Array.replicate (fn.ntmps - args.size) undef,defers:=[] } [.code c]:=by
    simp[Frame.enter,Frame.at,hf,hb,b]
  obtain⟨e,a',w',⟨he,hq⟩,harr⟩:=h b [] cs
  rw[←henter] at harr
  rcases he with rfl|rfl
  · obtain⟨e',w'',fr',hR,hs,hfn,hl⟩:=oN a'.defers w' { b.at a' [] with mode:=.returning } cs rfl rfl rfl hf rfl hq
    exact⟨e',w'',fr',hR,Comes.of_steps (Steps.trans harr (.one step_end)) hs,hfn,hl⟩
  · obtain⟨todo,hs₀⟩:=harr
    obtain⟨e',w'',fr',hR,hs,hfn,hl⟩:=oN a'.defers w' { b.at a' todo with mode:=.returning } cs rfl rfl rfl hf rfl hq
    exact⟨e',w'',fr',hR,Comes.of_steps hs₀ hs,hfn,hl⟩
theorem Inv.putObj{Φ:Phi}{w:World}{σ:St}(hi:Inv Φ w σ){D:Nat}{o:Obj}(o':Obj)(hD:w.heap[D]?=some o)(h:∀c t fz,o≠.cells c t fz)(h':∀c k,o≠.map c k)(h2':∀m a b c,o≠.mapIter m a b c:=by intro _ _ _ _ e;cases e):Inv Φ (w.putObj D o') σ:=by
  have hno:¬bA Φ σ D:=hi.vK (fun c t fz e=>h c t fz (by rw[hD] at e;exact Option.some.inj e)) (fun c k e=>h' c k (by rw[hD] at e;exact Option.some.inj e)) (fun m a b c e=>h2' m a b c (by rw[hD] at e;exact Option.some.inj e))
  refine⟨fun l ob hl=>(hi.own l ob hl).mono (.refl _) fun p R h1 h2=>World.putObj_heap_other fun e=>hno ⟨l,ob,p,hl,h1,e ▸ h2⟩,hi.inj,fun a v hv=>?_,hi.apart,hi.fresh⟩
  have hc:=hi.snap a v hv
  rw[←hc]
  refine World.eK (World.putObj_heap_other fun e=>?_)
  rw[World.cell?,e,hD] at hc
  cases o with
  | cells c t fz=>exact h _ _ _ rfl
  | map c k=>exact h' _ _ rfl
  | _=>simp at hc
theorem zE{P:Program}{fn:Func}{tmps:Array Value}{n:Nat}{l:List (Nat × MV)}{Q:MV→St→Prop}{Φ0:Phi}{σ0:St}{w0:World}(h0:Φ0.base=w0.heap.size) :
    ∀(ds:List Deferred) (d:List (FuncId × List MV)) (Φ:Phi) (w:World) (σ:St),eG Φ w ds d→dC Φ tmps ⟨n,l,[]⟩→Inv Φ w σ→Step Φ0 σ0 w0 Φ σ w→mleave P n l fn.results.toList Q d σ →
    kC P fn tmps (fun e w'=>∃v mv σ' Φ',e=.returned v∧Rel Φ' v mv∧Inv Φ' w' σ'∧Step Φ0 σ0 w0 Φ' σ' w'∧Q mv σ') ds w:=by
  intro ds
  induction ds with
  | nil =>
    intro d Φ w σ hd hr hi hs h
    obtain⟨rfl,-⟩:=hd
    obtain⟨v,m,h1,h2,h3⟩:=C9 (P:=P) (fn:=fn) hi hr h
    exact⟨v,h1,v,m,σ,Φ,rfl,h2,hi,hs,h3⟩
  | cons x ds ih =>
    intro d Φ w σ hd hr hi hs h
    rcases hd with⟨D,h1,h2,h3,h4,h5⟩|⟨g,ms,r,cap,rfl,h1,h2,h3⟩
    · refine .inl ⟨D,_,h1,run_takeDeferred h3,?_⟩
      have hi':=hi.putObj (.deferred none) h3 (fun _ _ _ e=>by cases e) (fun _ _ e=>by cases e)
      have hDb:w0.heap.size≤D:=by rw[←h0,←hs.le.base];exact h2
      have hs':Step Φ0 σ0 w0 Φ σ (w.putObj D (.deferred none)) :=
        ⟨hs.le,hs.os,hs.tape,hs.output,hs.drawn,by rw[World.putObj_size];exact hs.size,fun k hk hn=>(World.putObj_heap_other (by omega)).trans (hs.block k hk hn),hs.snapn,hs.locs,hs.ownd⟩
      refine ih d Φ _ σ ?_ hr hi' hs' h
      have:∀(xs:List Deferred) (d:List (FuncId × List MV)),(∀y,y∈xs→y.target≠.collected D)→eG Φ w xs d→eG Φ (w.putObj D (.deferred none)) xs d:=by
        intro xs
        induction xs with
        | nil=>intro d _ h;exact⟨h.1,by rw[World.putObj_size];exact h.2⟩
        | cons y xs ihx =>
          intro d hy h
          rcases h with⟨D',k1,k2,k3,k4,k5⟩|⟨g,ms,r,cap,k1,k2,k3,k4⟩
          · refine .inl ⟨D',k1,k2,?_,k4,ihx d (fun z hz=>hy z (by simp[hz])) k5⟩
            rw[World.putObj_heap_other]
            · exact k3
            · intro e;exact hy y (by simp) (by rw[k1,e])
          · exact .inr ⟨g,ms,r,cap,k1,k2,k3,ihx r (fun z hz=>hy z (by simp[hz])) k4⟩
      exact this ds d h4 h5
    · obtain⟨fn',hf,hb,hn,hc⟩:=h
      obtain⟨t,ags⟩:=x
      simp only at h1 h2
      subst h1
      refine .inr ⟨.func g,cap,g,ags++cap,rfl,?_,?_⟩
      · simp only[invoke,callFunc,Sem.run_bind,run_program,hf,hn,hb,Result.andThen_ok,Bool.false_eq_true,if_false,Sem.run_pure]
      · intro c cs hcu
        obtain⟨e,u',w',fr,⟨rfl,v,σ',Φ',rfl,i1,s1,q⟩,q2,q3,q4⟩:=hc Φ w _ hi h2 c cs hcu
        exact⟨_,_,w',fr,⟨⟨v,rfl⟩,rfl,ih r Φ' w' σ' (h3.step hi s1) (hr.mono s1.le) i1 (hs.trans s1) q⟩,q2,q3,q4⟩
theorem G8{P:Program}{fn:Func}{Q:MV→St→Prop}{Φ0:Phi}{σ0:St}{w0:World}{e:Exit}{a':Act}{w':World}(h0:Φ0.base=w0.heap.size)
   (h:lift Φ0 σ0 w0 (LG P fn.results.toList Q) e a' w'):(e=.normal∨e=.ret)∧kC P fn a'.tmps (fun e w'=>∃v mv σ' Φ',e=.returned v∧Rel Φ' v mv∧Inv Φ' w' σ'∧Step Φ0 σ0 w0 Φ' σ' w'∧Q mv σ') a'.defers w':=by
  obtain⟨f',σ',Φ',x1,x2,x3,x4,q⟩:=h
  obtain⟨n,l,d⟩:=f'
  cases e with
  | normal=>exact⟨.inl rfl,zE h0 _ d Φ' w' σ' x1 x2 x3 x4 q⟩
  | ret=>exact⟨.inr rfl,zE h0 _ d Φ' w' σ' x1 x2 x3 x4 q⟩
  | _=>exact q.elim
theorem y0{Φ:Phi}{fn:Func}{vs:Array Value}{ms:List MV}(hr:hO Φ vs ms):dC Φ (vs++Array.replicate (fn.ntmps - vs.size) undef) ⟨max fn.ntmps ms.length,kF 0 ms,[]⟩:=by
  refine⟨by simp[hr.1];omega,fun t=>?_⟩
  simp only[FR.get,nQ,Nat.sub_zero,Nat.zero_le,if_true]
  cases hm:ms[t]? with
  | none=>exact .junk _
  | some m =>
    have hlt:=(List.getElem?_eq_some_iff.1 hm).1
    have e1:=hr.1
    have:=hr.2 t m hm
    simpa[Array.getD_eq_getD_getElem?,Array.getElem?_append_left (show t<vs.size by omega)] using this
def Phi.bG(Φ:Phi)(n:Nat):Phi:={ Φ with base:=n }
theorem Rel.bG{Φ:Phi}{v:Value}{m:MV}(h:Rel Φ v m)(n:Nat):Rel (Φ.bG n) v m:=Rel.GC (Φ:=Φ) (Φ':=Φ.bG n) (fun _ _ q=>q) (fun _ _ q=>q) h
theorem Inv.bG{Φ:Phi}{w:World}{σ:St}(hi:Inv Φ w σ)(n:Nat):Inv (Φ.bG n) w σ:=by
  refine⟨fun l o hl=>?_,hi.inj,hi.snap,hi.apart,hi.fresh⟩
  have:=hi.own l o hl
  cases o with
  | row t e xs =>
    obtain⟨p,h1,h2,h3,h4,h5,h6⟩:=this
    refine⟨p,h1,h2,h3,h4,h5,?_⟩
    split
    · rename_i hb;rw[hb] at h6;exact h6
    · rename_i R hb
      rw[hb] at h6
      obtain⟨c,fz,k1,k2,k3,k4⟩:=h6
      exact⟨c,fz,k1,k2,k3,fun i x j m hx hm=>⟨(k4 i x j m hx hm).1,(k4 i x j m hx hm).2.imp fun v hv=>⟨hv.1,hv.2.bG n⟩⟩⟩
  | mp es =>
    obtain⟨p,R,h1,h2,c,k,h3,h4,h5⟩:=this
    exact⟨p,R,h1,h2,c,k,h3,h4,fun i x hx=>⟨(h5 i x hx).1.bG n,(h5 i x hx).2.bG n⟩⟩
  | mk es st ck =>
    obtain⟨p,R,h1,h2,c,h3,h4,h5⟩:=this
    exact⟨p,R,h1,h2,c,h3,h4,fun i x hx=>⟨(h5 i x hx).1.bG n,(h5 i x hx).2.bG n⟩⟩
  | it m ck seen=>exact this
theorem Step.bG{Φ Φ':Phi}{σ σ':St}{w w':World}{n:Nat}(h:Step (Φ.bG n) σ w Φ' σ' w'):Step Φ σ w (Φ'.bG Φ.base) σ' w' :=
  ⟨⟨h.le.snap,h.le.obj,rfl⟩,h.os,h.tape,h.output,h.drawn,h.size,h.block,h.snapn,h.locs,h.ownd⟩
theorem aA.qL{P:Program}{g:FuncId}{fn:Func}{c:Code}{ms:List MV}{σ:St}{Q:MV→St→Prop}(n:Nat)(rs:List ResultVar)(hf:P.funcs[g]?=some fn)(hb:fn.body=some c)(hn:(fn.name == "runtime.NumGoroutine")=false)
   (hn':max fn.ntmps ms.length=n)(hrs:fn.results.toList=rs)(h:mwp P c ⟨n,kF 0 ms,[]⟩ σ (LG P rs Q)):aA P g ms σ Q:=by
  subst hn';subst hrs
  refine⟨⟨fn,hf,by simp[hb],hn⟩,fun Φ w vs hi hr=>?_⟩
  have hr':hO (Φ.bG w.heap.size) vs ms:=⟨hr.1,fun i m hm=>(hr.2 i m hm).bG _⟩
  refine(p6 hf hb (wp_mono (wpIn_wide.1 (h _ .wide (Φ.bG w.heap.size) w { tmps:=vs++Array.replicate (fn.ntmps - vs.size) undef,defers:=[] } (hi.bG _) (y0 hr') ⟨rfl,Nat.le_refl _⟩)) fun e a' w' hq=>G8 rfl hq)).mono ?_
  rintro e w' ⟨v,mv,σ',Φ',q1,q2,q3,q4,q5⟩
  exact⟨v,mv,σ',Φ'.bG Φ.base,q1,q2.bG _,q3.bG _,q4.bG,q5⟩
theorem aA.ghost{P:Program}{g:FuncId}{ms:List MV}{σ:St}{Q:MV→St→Prop}(h:aA P g ms σ fun v σ'=>∃v1 σ1,bV ⟨1,[(0,v)],[]⟩ σ' ⟨1,[(0,v1)],[]⟩ σ1∧Q v1 σ1):aA P g ms σ Q:=by
  refine⟨h.1,fun Φ w vs hi hr=>(h.2 Φ w vs hi hr).mono ?_⟩
  rintro e w' ⟨v,mv,σ',Φ',rfl,q1,q2,q3,v1,σ1,g,hq⟩
  obtain⟨Φ1,i1,r1,s1⟩:=g.2 Φ' w' #[v] q2 ⟨rfl,fun t=>by
    simp only[FR.get,cH]
    split
    · rename_i ht;subst ht;exact q1
    · exact .junk _⟩
  exact⟨v,v1,σ1,Φ1,rfl,by simpa[FR.get,cH] using r1.2 0,i1,q3.trans s1,hq⟩
end

section
def E{α:Sort _}(x:α):α:=x
theorem QG{α:Sort _}(x:α):E x=x:=rfl
def R(p:Prop):Prop:=p
theorem Ot:R True=True:=rfl
theorem QH{α:Sort _}{a b:α}:R (a=b)=(a=b):=rfl
theorem Pw{a b:Prop}:R (a∧b)=(R a∧R b):=rfl
theorem QI{α:Sort _}{p:α→Prop}:R (∃x,p x)=∃x,R (p x):=rfl
theorem Px{p:Prop}:R (¬p)=¬p:=rfl
theorem QK{a b:Prop}:R (a∨b)=(R a∨R b):=rfl
theorem jR{p:Prop}(h:p):R p:=h
def mA(σ:St)(K:Nat→Prop):Prop:=∀l,σ l=none→K l
def iV(x:MV)(A B:Prop):Prop:=match x with
 | .bool b=>(b=true→A)∧(b=false→B)
 | _=>False
def fR(C:Prop)(A:Prop):Prop:=C∧A
theorem EP(A B:Prop):R (iV (.bool true) A B)=R A:=by simp[iV]
theorem Cp(A B:Prop):R (iV (.bool false) A B)=R B:=by simp[iV]
theorem H7{p:Prop}[Decidable p]{A B:Prop}(h:p):R (iV (.bool (decide p)) A B)=R A:=by simp[iV,h]
theorem KS{p:Prop}[Decidable p]{A B:Prop}(h:¬p):R (iV (.bool (decide p)) A B)=R B:=by simp[iV,h]
theorem H6{p:Prop}[Decidable p]{A B:Prop}(h1:p→R A)(h2:¬p→R B):R (iV (.bool (decide p)) A B):=by
 simp only[R,iV,decide_eq_true_eq,decide_eq_false_iff_not];exact⟨h1,h2⟩
theorem aG{b:Bool}{A B:Prop}(h1:b=true→R A)(h2:b=false→R B):R (iV (.bool b) A B):=⟨h1,h2⟩
def sN(P:Program)(id:Nat)(ops:List Oper)(f:FR)(σ:St)(Q:MQ):Prop:=mwp P (.region id ops.toArray true) f σ Q
def KU(P:Program)(c:Code)(f:FR)(σ:St)(Q:MQ):Prop:=mwp P (.loop c) f σ Q
def P0(P:Program)(c:Code)(f:FR)(σ:St)(Q:MQ):Prop:=mwp P c f σ Q
def dB(P:Program):Code→FR→St→MQ→Prop
 | .skip,f,σ,Q=>Q .normal f σ
 | .seq a b,f,σ,Q=>dB P a f σ (tC (fun f' σ'=>dB P b f' σ' Q) Q)
 | .cond c a b,f,σ,Q=>iV (aK f c) (dB P a f σ Q) (dB P b f σ Q)
 | .block id b,f,σ,Q=>dB P b f σ (kR id Q)
 | .scope b,f,σ,Q=>dB P b f σ (LR Q)
 | .label _,f,σ,Q=>Q .normal f σ
 | .ret,f,σ,Q=>Q .ret f σ
 | .exit id,f,σ,Q=>Q (.exit id) f σ
 | .region id ops true,f,σ,Q=>sN P id ops.toList f σ Q
 | .region _ ops false,f,σ,Q=>gL P ops (Q .normal) ops.toList f σ
 | .loop b,f,σ,Q=>KU P b f σ Q
 | c,f,σ,Q=>P0 P c f σ Q
theorem kK{P:Program}:∀(c:Code) (f:FR) (σ:St) (Q:MQ),dB P c f σ Q→mwp P c f σ Q:=by
 intro c
 induction c with
 | skip=>intro f σ Q h;exact Le h
 | region id ops draw=>intro f σ Q h;cases draw with
  | true=>exact h
  | false=>exact Fa h
 | seq a b iha ihb =>
  intro f σ Q h
  refine qK (Ld (iha f σ _ h) fun e f' σ' hq=>?_)
  cases e with
  | normal=>exact ihb f' σ' Q hq
  | _=>exact hq
 | cond c a b iha ihb =>
  intro f σ Q h
  simp only[dB,iV] at h
  split at h
  ·rename_i t ht
   exact K9 ht (fun hh=>iha f σ Q (h.1 hh)) (fun hh=>ihb f σ Q (h.2 hh))
  ·exact h.elim
 | block id b ih=>intro f σ Q h;exact IB (ih f σ _ h)
 | scope b ih=>intro f σ Q h;exact IF (ih f σ _ h)
 | label l=>intro f σ Q h;exact IE h
 | loop b _=>intro f σ Q h;exact h
 | ret=>intro f σ Q h;exact Ny h
 | exit id=>intro f σ Q h;exact La h
 | _=>intro f σ Q h;exact h
theorem aA.body{P:Program}{g:FuncId}{fn:Func}{c:Code}{ms:List MV}{σ:St}{Q:MV→St→Prop}(n:Nat)(rs:List ResultVar)(hf:P.funcs[g]?=some fn)(hb:fn.body=some c)(hn:(fn.name == "runtime.NumGoroutine")=false)
 (hn':max fn.ntmps ms.length=n)(hrs:fn.results.toList=rs)(h:R (dB P (@OfNat.ofNat Code (nat_lit 0) (@_root_.id (OfNat Code (nat_lit 0)) (OfNat.mk c))) ⟨n,kF 0 ms,[]⟩ σ (LG P rs Q))):aA P g ms σ Q :=
 aA.qL n rs hf hb hn hn' hrs (kK c _ σ _ h)
theorem aD{P:Program}{c:Code}{f:FR}{σ:St}{Q:MQ}{α:Type}(F:α→FR)(S:α→St)(p:α→Prop)(μ:α→Nat)(h0:Gh f σ fun f1 σ1=>∃a,f1=F a∧σ1=S a∧p a)
 (round:∀a,p a→R (dB P c (F a) (S a) (tC (fun f' σ'=>Gh f' σ' fun f1 σ1=>∃b,f1=F b∧σ1=S b∧p b∧μ b<μ a) Q))):R (KU P c f σ Q) :=
 Lc F S p μ h0 fun a ha=>kK c _ _ _ (round a ha)
section
variable {P:Program} {f:FR} {σ:St} {Q:MQ} {k:MV→St→Prop} {K:FR→St→Prop} {ops:Array Oper} {rest:List Oper}
theorem EM:R (dB P .skip f σ Q)=R (Q .normal f σ):=rfl
theorem EL{c:Code}:R (dB P (@OfNat.ofNat Code (nat_lit 0) (@_root_.id (OfNat Code (nat_lit 0)) (OfNat.mk c))) f σ Q)=R (dB P c f σ Q):=congrArg R rfl
theorem H3{a b:Code}:R (dB P (.seq a b) f σ Q)=R (dB P (@OfNat.ofNat Code (nat_lit 0) (@_root_.id (OfNat Code (nat_lit 0)) (OfNat.mk a))) f σ (tC (fun f' σ'=>dB P (@OfNat.ofNat Code (nat_lit 0) (@_root_.id (OfNat Code (nat_lit 0)) (OfNat.mk b))) f' σ' Q) Q)):=congrArg R rfl
theorem EH{c:Operand}{a b:Code}:R (dB P (.cond c a b) f σ Q)=R (iV (E (aK f c)) (dB P (@OfNat.ofNat Code (nat_lit 0) (@_root_.id (OfNat Code (nat_lit 0)) (OfNat.mk a))) f σ Q) (dB P (@OfNat.ofNat Code (nat_lit 0) (@_root_.id (OfNat Code (nat_lit 0)) (OfNat.mk b))) f σ Q)):=congrArg R rfl
theorem Ck{id:Nat}{b:Code}:R (dB P (.block id b) f σ Q)=R (dB P (@OfNat.ofNat Code (nat_lit 0) (@_root_.id (OfNat Code (nat_lit 0)) (OfNat.mk b))) f σ (kR id Q)):=congrArg R rfl
theorem H2:R (dB P .ret f σ Q)=R (Q .ret f σ):=rfl
theorem EJ{id:Nat}:R (dB P (.exit id) f σ Q)=R (Q (.exit id) f σ):=congrArg R rfl
theorem EI{id:Nat}{l:List Oper}:R (dB P (.region id l.toArray true) f σ Q)=R (sN P id (@OfNat.ofNat (List Oper) (nat_lit 0) (@_root_.id (OfNat (List Oper) (nat_lit 0)) (OfNat.mk l))) (E f) σ Q):=congrArg R rfl
theorem AI{id:Nat}{l:List Oper}:R (dB P (.region id l.toArray false) f σ Q)=R (gL P (@OfNat.ofNat (Array Oper) (nat_lit 0) (@_root_.id (OfNat (Array Oper) (nat_lit 0)) (OfNat.mk (l.toArray)))) (Q .normal) (@OfNat.ofNat (List Oper) (nat_lit 0) (@_root_.id (OfNat (List Oper) (nat_lit 0)) (OfNat.mk l))) f σ):=congrArg R rfl
theorem Iw{l:List Oper}:R (gL P ops K (@OfNat.ofNat (List Oper) (nat_lit 0) (@_root_.id (OfNat (List Oper) (nat_lit 0)) (OfNat.mk l))) f σ)=R (gL P ops K l f σ):=congrArg R rfl
theorem EK{b:Code}:R (dB P (.loop b) f σ Q)=R (KU P (@OfNat.ofNat Code (nat_lit 0) (@_root_.id (OfNat Code (nat_lit 0)) (OfNat.mk b))) (E f) σ Q):=congrArg R rfl
theorem Bq{next:FR→St→Prop}:R (tC next Q .normal f σ)=R (next f σ):=congrArg R rfl
theorem Jt{next:FR→St→Prop}:R (tC next Q .ret f σ)=R (Q .ret f σ):=congrArg R rfl
theorem FM{next:FR→St→Prop}{id:Nat}:R (tC next Q (.exit id) f σ)=R (Q (.exit id) f σ):=congrArg R rfl
theorem xI{id:Nat}:R (kR id Q .normal f σ)=R (Q .normal f σ):=congrArg R rfl
theorem DU{id:Nat}:R (kR id Q .ret f σ)=R (Q .ret f σ):=congrArg R rfl
theorem DT{id:Nat}:R (kR id Q (.exit id) f σ)=R (Q .normal f σ):=by simp[kR]
theorem By{id id':Nat}(h:id'≠id):R (kR id Q (.exit id') f σ)=R (Q (.exit id') f σ):=by simp[kR,h]
theorem K0:R (gL P ops K [] f σ)=R (K f σ):=rfl
theorem Iv{dst:Option Tmp}{op:Op}{ty:TypeId}{pos:String}{after:Array Edge}:R (gL P ops K (⟨dst,op,ty,pos,after,none⟩::rest) f σ)=R (fQ P f σ dst (gL P ops K (@OfNat.ofNat (List Oper) (nat_lit 0) (@_root_.id (OfNat (List Oper) (nat_lit 0)) (OfNat.mk rest)))) op):=congrArg R rfl
theorem K5{dst:Option Tmp}{op:Op}(h:dU op=true):R (fQ P f σ dst K op)=R (mop P f σ (fun v σ'=>K (bI f dst v) σ') op):=by
 rw[CJ h]
def Ob(f:FR)(x:MV)(args:List MV)(K:FR→Prop):Prop:=match x with
 | .fn (.func g) ms ns=>K ⟨f.n,f.l,(g,ms++args++ns)::f.d⟩
 | _=>False
theorem CH{dst:Option Tmp}{x:Operand}{args:Array Operand}{ts:Array TypeId}:R (fQ P f σ dst K (.defer ⟨.value x,args,ts⟩))=R (Ob f (E (aK f x)) (E (args.toList.map (aK f))) fun f'=>K (bI f' dst .junk) σ):=congrArg R rfl
theorem KN{n:Nat}{l:List (Nat × MV)}{d:List (FuncId × List MV)}{g:FuncId}{ms ns args:List MV}{H:FR→Prop}:R (Ob ⟨n,l,d⟩ (.fn (.func g) ms ns) args H)=R (H ⟨n,l,(g,ms++args++ns)::d⟩):=congrArg R rfl
def lP:List Oper→Nat→Option Tmp
 | [],_=>none
 | o::_,0=>o.dst
 | _::r,n+1=>lP r n
theorem Au:∀(l:List Oper) (j:Nat),(l.toArray[j]?).bind (·.dst)=lP l j:=by
 intro l
 induction l with
 | nil=>intro j;simp[lP]
 | cons o r ih =>
  intro j
  cases j with
  | zero=>simp[lP]
  | succ j=>simpa[lP] using ih j
def bX(x:MV)(want:Bool)(yes no:Prop):Prop:=match x with
 | .bool b=>(b=want→yes)∧(b=(!want)→no)
 | .tup []=>no
 | _=>False
theorem Cr(want:Bool)(A B:Prop):R (bX (.tup []) want A B)=R (B):=congrArg R (by simp[bX])
theorem Ih(A B:Prop):R (bX (.bool true) true A B)=R (A):=congrArg R (by simp[bX])
theorem Ig(A B:Prop):R (bX (.bool true) false A B)=R (B):=congrArg R (by simp[bX])
theorem Ie(A B:Prop):R (bX (.bool false) true A B)=R (B):=congrArg R (by simp[bX])
theorem Ic(A B:Prop):R (bX (.bool false) false A B)=R (A):=congrArg R (by simp[bX])
theorem aE{b want:Bool}{A B:Prop}(h1:b=want→R A)(h2:b=(!want)→R B):R (bX (.bool b) want A B):=⟨h1,h2⟩
theorem ER{p:Prop}[Decidable p]{A B:Prop}(h1:p→R A)(h2:¬p→R B):R (bX (.bool (decide p)) true A B):=by
 simp only[R,bX,decide_eq_true_eq,Bool.not_true,decide_eq_false_iff_not];exact⟨h1,h2⟩
theorem Cq{p:Prop}[Decidable p]{A B:Prop}(h1:¬p→R A)(h2:p→R B):R (bX (.bool (decide p)) false A B):=by
 simp only[R,bX,decide_eq_true_eq,Bool.not_false,decide_eq_false_iff_not];exact⟨h1,h2⟩
theorem H9{p:Prop}[Decidable p]{A B:Prop}(h:p):R (bX (.bool (decide p)) true A B)=R A:=by simp[bX,h]
theorem H8{p:Prop}[Decidable p]{A B:Prop}(h:¬p):R (bX (.bool (decide p)) true A B)=R B:=by simp[bX,h]
theorem Ib{p:Prop}[Decidable p]{A B:Prop}(h:¬p):R (bX (.bool (decide p)) false A B)=R A:=by simp[bX,h]
theorem Ia{p:Prop}[Decidable p]{A B:Prop}(h:p):R (bX (.bool (decide p)) false A B)=R B:=by simp[bX,h]
def Em(f:FR):Option Tmp→MV
 | some t=>f.get t
 | none=>.junk
theorem E4{l:List Oper}{dst:Option Tmp}{op:Op}{ty:TypeId}{pos:String}{after:Array Edge}{j:Nat}{want:Bool}:R (gL P (@OfNat.ofNat (Array Oper) (nat_lit 0) (@_root_.id (OfNat (Array Oper) (nat_lit 0)) (OfNat.mk (l.toArray)))) K (⟨dst,op,ty,pos,after,some (j,want)⟩::rest) f σ)=R (bX (E (Em f (lP (@OfNat.ofNat (List Oper) (nat_lit 0) (@_root_.id (OfNat (List Oper) (nat_lit 0)) (OfNat.mk l))) j))) want (fQ P f σ dst (gL P (@OfNat.ofNat (Array Oper) (nat_lit 0) (@_root_.id (OfNat (Array Oper) (nat_lit 0)) (OfNat.mk (l.toArray)))) K (@OfNat.ofNat (List Oper) (nat_lit 0) (@_root_.id (OfNat (List Oper) (nat_lit 0)) (OfNat.mk rest)))) op) (gL P (@OfNat.ofNat (Array Oper) (nat_lit 0) (@_root_.id (OfNat (Array Oper) (nat_lit 0)) (OfNat.mk (l.toArray)))) K (@OfNat.ofNat (List Oper) (nat_lit 0) (@_root_.id (OfNat (List Oper) (nat_lit 0)) (OfNat.mk rest))) (bI f dst (.tup [])) σ)):=congrArg R (by
 show gL P l.toArray K (⟨dst,op,ty,pos,after,some (j,want)⟩::rest) f σ=bX (Em f (lP l j)) want (fQ P f σ dst (gL P l.toArray K rest) op) (gL P l.toArray K rest (bI f dst (.tup [])) σ)
 simp only[gL,gB,Au]
 cases lP l j<;>rfl)
theorem HD{t:Tmp}:Em f (some t)=f.get t:=rfl
theorem Hw{l:List Oper}{j:Nat}:lP (@OfNat.ofNat (List Oper) (nat_lit 0) (@_root_.id (OfNat (List Oper) (nat_lit 0)) (OfNat.mk l))) j=lP l j:=rfl
theorem Hy{o:Oper}{r:List Oper}:lP (o::r) 0=o.dst:=rfl
theorem Hx{o:Oper}{r:List Oper}{n:Nat}:lP (o::r) (n+1)=lP r n:=rfl
theorem Iy{n:Nat}{l:List (Nat × MV)}{d:Nat}{v:MV}{ds:List (FuncId × List MV)}(h:d<n):bI ⟨n,l,ds⟩ (some d) v=⟨n,(d,v)::l,ds⟩:=by simp[bI,h]
theorem Ix{v:MV}:bI f none v=f:=rfl
theorem OH{n:Nat}{l:List (Nat × MV)}{t:Nat}{ds:List (FuncId × List MV)}:FR.get ⟨n,l,ds⟩ t=cH l t:=rfl
theorem Kp{t:Nat}:cH [] t=.junk:=rfl
theorem Ko{k:Nat}{v:MV}{r:List (Nat × MV)}:cH ((k,v)::r) k=v:=by simp[cH]
theorem HL{k:Nat}{v:MV}{r:List (Nat × MV)}{t:Nat}(h:t≠k):cH ((k,v)::r) t=cH r t:=by simp[cH,h]
theorem K8{n:Nat}{l:List (Nat × MV)}{t:Nat}{ds:List (FuncId × List MV)}:aK ⟨n,l,ds⟩ (.tmp t)=cH l t:=rfl
theorem E9{v:Value}:aK f (.const v)=ofV v:=rfl
theorem IA{g:FuncId}:aK f (.func g)=.fn (.func g) [] []:=rfl
theorem Lk{b:Bool}:ofV (.bool b)=.bool b:=rfl
theorem NC{i:IntKind}{n:Int}:ofV (.int i n)=.int i n:=rfl
theorem NF{s:ByteArray}:ofV (.string s)=.str s:=rfl
theorem Ln:ofV (.pointer none)=.nilp:=rfl
theorem Lo:ofV (.slice none 0 0)=.aT:=rfl
theorem Lm:ofV (.map none)=.nilm:=rfl
theorem IH:ofV .nilFunc=.nilfn:=rfl
theorem Ll:ofV .nilIface=.nili:=rfl
def dN(P:Program)(g:FuncId)(ms:List MV)(σ:St)(Q:MV→St→Prop):Prop:=aA P g ms σ Q
def KM(P:Program)(x:MV)(args:List MV)(σ:St)(k:MV→St→Prop):Prop :=
 match x with
 | .fn (.func g) ms ns=>aA P g (ms++args++ns) σ k
 | _=>False
theorem HZ{g:FuncId}{ms ns args:List MV}:R (KM P (.fn (.func g) ms ns) args σ k)=R (dN P g (E (ms++args++ns)) σ k):=congrArg R rfl
def cD(v:MV)(σ:St)(k:MV→St→Prop):Prop:=k v σ
theorem Nr{v:MV}:R (cD v σ k)=R (k v σ):=congrArg R rfl
theorem NJ{C A:Prop}(h:C):R (fR C A)=R A:=by simp[fR,h]
theorem E6{C:Prop}{v:MV}:R (mpure σ k (some (C,v)))=R (fR (E C) (cD (E v) σ k)):=congrArg R rfl
def Gz(P:Program)(t:TypeId)(o:Option bE)(i of:Nat)(σ:St)(k:MV→St→Prop):Prop :=
 match o with
 | some (.row _ _ xs)=>fR ((td P t).ok=true∧i<xs.length∧of+(td P t).size≤(xs.getD i []).length∧0<(td P t).size) (cD (dH (td P t) (xs.getD i []) of) σ k)
 | _=>False
theorem Ii{t:TypeId}{l i o:Nat}:R (kM P t (.ptr l i o) σ k)=R (Gz P t (E (σ l)) i o σ k):=congrArg R rfl
theorem EW{t:TypeId}{cs:List MV}:R (kM P t (.cptr cs) σ k)=R (fR (E ((td P t).ok=true∧(td P t).size≤cs.length∧0<(td P t).size)) (cD (E (dH (td P t) cs 0)) σ k)):=congrArg R rfl
theorem Cu{t tt:TypeId}{e i o:Nat}{xs:List (List MV)}:R (Gz P t (some (.row tt e xs)) i o σ k)=R (fR (E ((td P t).ok=true∧i<xs.length∧o+(td P t).size≤(xs.getD i []).length∧0<(td P t).size)) (cD (E (dH (td P t) (xs.getD i []) o)) σ k)):=congrArg R rfl
def CN(P:Program)(t:TypeId)(o:Option bE)(l i of:Nat)(y:MV)(σ:St)(k:MV→St→Prop):Prop :=
 match o with
 | some (.row tt e xs)=>fR ((td P t).ok=true∧i<xs.length∧y.cells.all MV.aP=true∧y.cells.length=(td P t).size∧of+y.cells.length≤(xs.getD i []).length) (cD .junk (σ.set l (.row tt e (xs.set i (laid (xs.getD i []) of y.cells)))) k)
 | _=>False
theorem E8{t:TypeId}{l i o:Nat}{y:MV}:R (mY P t (.ptr l i o) y σ k)=R (CN P t (E (σ l)) l i o y σ k):=congrArg R rfl
theorem A1{t tt:TypeId}{e l i o:Nat}{y:MV}{xs:List (List MV)}:R (CN P t (some (.row tt e xs)) l i o y σ k)=R (fR (E ((td P t).ok=true∧i<xs.length∧y.cells.all MV.aP=true∧y.cells.length=(td P t).size∧o+y.cells.length≤(xs.getD i []).length)) (cD (E .junk) (σ.set l (.row tt e (xs.set i (laid (xs.getD i []) o y.cells)))) k)):=congrArg R rfl
theorem Ff(k:Nat):St.none k=Option.none:=rfl
theorem set_set(σ:St)(l:Nat)(o o':bE):(σ.set l o).set l o'=σ.set l o':=by
 funext k;simp only[St.set];split<;>rfl
theorem set_comm(σ:St){l k:Nat}(o o':bE)(h:l≠k):(σ.set l o).set k o'=(σ.set k o').set l o:=by
 funext j;simp only[St.set]
 by_cases h1:j=k
 ·subst h1;simp[Ne.symm h]
 ·simp[h1]
theorem xP(σ:St){l k:Nat}(o:bE)(h:k≠l):(σ.set k o).del l=(σ.del l).set k o:=by
 funext j;simp only[St.set,St.del]
 by_cases h1:j=l
 ·subst h1;simp[Ne.symm h]
 ·simp[h1]
theorem aM(σ:St)(l:Nat)(o:bE):(σ.set l o) l=some o:=by simp[St.set]
theorem aH(σ:St)(l k:Nat)(o:bE)(h:k≠l):(σ.set l o) k=σ k:=by simp[St.set,h]
theorem LX(σ:St)(l k:Nat)(o:bE):(σ.set l o) k=none↔k≠l∧σ k=none:=by
 simp only[St.set];split<;>simp_all
theorem KX{x:Operand}:R (mop P f σ k (.move x))=R (cD (E (aK f x)) σ k):=congrArg R (by simp[mop,qop,mpure,cD,E])
theorem E0{x:Operand}:R (mop P f σ k (.assign x))=R (cD (E (aK f x)) σ k):=congrArg R (by simp[mop,qop,mpure,cD,E])
def vV(c a b:MV):PV:=match c with
 | .bool t=>some (True,if t=true then a else b)
 | _=>none
theorem KY{c a b:Operand}:R (mop P f σ k (.pick c a b))=R (mpure σ k (E (vV (aK f c) (aK f a) (aK f b)))):=congrArg R rfl
theorem NR{p:Prop}[Decidable p]{a b:MV}(h:p):vV (.bool (decide p)) a b=some (True,a):=by simp[vV,h]
theorem NP{p:Prop}[Decidable p]{a b:MV}(h:¬p):vV (.bool (decide p)) a b=some (True,b):=by simp[vV,h]
theorem NQ{a b:MV}:vV (.bool true) a b=some (True,a):=rfl
theorem NO{a b:MV}:vV (.bool false) a b=some (True,b):=rfl
theorem NB{p:Prop}[Decidable p]:(!decide p)=decide (¬p):=by simp
def O3(x:MV):PV:=match x with
 | .ptr l i o=>some (True,.ptr l i o)
 | .cptr cs=>some (True,.cptr cs)
 | _=>none
theorem AR{x:Operand}:R (mop P f σ k (.nilCheck x))=R (mpure σ k (E (O3 (aK f x)))):=congrArg R rfl
theorem LC{l i o:Nat}:O3 (.ptr l i o)=some (True,.ptr l i o):=rfl
theorem I6{cs:List MV}:O3 (.cptr cs)=some (True,.cptr cs):=rfl
theorem Io{op:BinOp}{t yt:TypeId}{x y:Operand}:R (mop P f σ k (.binOp op t x y yt))=R (mpure σ k (E (cC P t op (aK f x) (aK f y)))):=congrArg R rfl
theorem KZ{op:UnOp}{t:TypeId}{x:Operand}:R (mop P f σ k (.unOp op t x))=R (mpure σ k (E (mun op (aK f x)))):=congrArg R rfl
theorem Cz{s d:TypeId}{x:Operand}:R (mop P f σ k (.convert s d x))=R (gR P s d (E (aK f x)) σ k):=congrArg R rfl
theorem AQ{fn:Fn}{a b:Array Operand}:R (mop P f σ k (.makeFunc fn a b))=R (cD (E (.fn fn (a.toList.map (aK f)) (b.toList.map (aK f)))) σ k):=congrArg R (by simp[mop,qop,mpure,cD,E])
theorem Ir{t:TypeId}{x:Operand}{lo hi mx:Option Operand}:R (mop P f σ k (.slice t x lo hi mx))=R (mpure σ k (E (mW P t (aK f x) (lo.map (aK f)) (hi.map (aK f)) (mx.map (aK f))))):=congrArg R rfl
theorem xX{t:TypeId}{x:Operand}{i:Nat}:R (mop P f σ k (.fieldAddr t x i))=R (mpure σ k (E (iC P t (aK f x) i))):=congrArg R rfl
theorem xY{t:TypeId}{x:Tmp}{i:Operand}:R (mop P f σ k (.indexAddr t (.tmp x) i))=R (mpure σ k (E (jY P t (aK f (.tmp x)) (aK f i)))):=congrArg R rfl
theorem vF{t:TypeId}{g:Nat}{i:Operand}:R (mop P f σ k (.indexAddr t (.global g) i))=R (mpure σ k (Eh P t g (E (aK f i)))):=congrArg R rfl
theorem Iq{t:TypeId}{x i:Operand}:R (mop P f σ k (.index t x i))=R (mpure σ k (E (vB P t (aK f x) (aK f i)))):=congrArg R rfl
def vU(x:MV)(i:Nat):PV:=match x with
 | .tup vs=>match vs[i]? with|some v=>some (True,v)|none=>none
 | _=>none
theorem CB{x:Operand}{i:Nat}:R (mop P f σ k (.extract x i))=R (mpure σ k (E (vU (aK f x) i))):=congrArg R rfl
theorem Bb{vs:List MV}{i:Nat}:vU (.tup vs) i=(vs[i]?).map fun v=>(True,v):=by simp only[vU];cases vs[i]?<;>rfl
theorem Ip{t:TypeId}{parts:Array (Nat × Operand)}:R (mop P f σ k (.build t parts))=R (mpure σ k (E (mS P f t parts))):=congrArg R rfl
theorem E1{t:TypeId}{m x:Operand}{ok:Bool}:R (mop P f σ k (.lookup t m x ok))=R (fU P t (E (aK f m)) (E (aK f x)) ok (E (mapOf σ (aK f m))) σ k):=congrArg R rfl
theorem xZ{t:TypeId}{m x y:Operand}:R (mop P f σ k (.mapUpdate t m x y))=R (fG P t (E (aK f m)) (E (aK f x)) (E (aK f y)) (E (mapOf σ (aK f m))) σ k):=congrArg R rfl
theorem KW{t:TypeId}{x:Operand}:R (mop P f σ k (.load t x))=R (kM P t (E (aK f x)) σ k):=congrArg R rfl
theorem Is{t:TypeId}{x y:Operand}:R (mop P f σ k (.store t x y))=R (mY P t (E (aK f x)) (E (aK f y)) σ k):=congrArg R rfl
theorem Im{t:TypeId}:R (mop P f σ k (.alloc t))=R (fR (E ((td P t).zok=true)) (mA (E σ) (fun l=>cD (E (.ptr l 0 0)) (σ.set l (.row t (td P t).size [(td P t).zero])) k))):=congrArg R rfl
def PZ(t:TypeId)(x:MV)(σ:St)(k:MV→St→Prop):Prop:=x.cells.all MV.aP=true∧∀l,σ l=none→k (.ptr l 0 0) (σ.set l (.row t x.cells.length [x.cells]))
theorem Nu{t:TypeId}{x:Operand}:R (mop P f σ k (.box t x))=R (PZ t (E (aK f x)) σ k):=congrArg R rfl
theorem Nl{t:TypeId}{x:MV}:R (PZ t x σ k)=R (fR (E (x.cells.all MV.aP=true)) (mA (E σ) (fun l=>cD (E (.ptr l 0 0)) (σ.set l (.row t x.cells.length [x.cells])) k))):=congrArg R rfl
theorem vE{t:TypeId}{n:Nat}{parts:Array (Nat × Operand)}:R (mop P f σ k (.buildSlice t n parts))=R (dR P f t n parts σ k):=congrArg R rfl
def mbs(P:Program)(d:TK)(len:Nat)(parts:List (Nat × MV))(σ:St)(k:MV→St→Prop):Prop :=
 match d with
 | .slice el=>fR ((td P el).zok=true∧parts.map (·.1)=List.range len∧(parts.all fun p=>p.2.cells.all MV.aP&&p.2.cells.length==(td P el).size)=true∧len * (td P el).size≤16777216∧len≤16777216)
   (mA σ fun l=>cD (.vec (td P el).size l 0 len) (σ.set l (.row el (td P el).size (parts.map fun p=>p.2.cells))) k)
 | _=>False
theorem u5{t:TypeId}{n:Nat}{parts:Array (Nat × Operand)}:R (dR P f t n parts σ k)=R (mbs P (E (td P t).k) n (E (parts.toList.map fun p=>(p.1,aK f p.2))) σ k):=congrArg R (by
 unfold dR mbs fR mA cD E
 cases (td P t).k<;>first|rfl|(simp only[List.map_map,List.all_map];rfl))
theorem HY{el:TypeId}{len:Nat}{parts:List (Nat × MV)}:R (mbs P (.slice el) len parts σ k)=R (fR (E ((td P el).zok=true∧parts.map (·.1)=List.range len∧(parts.all fun p=>p.2.cells.all MV.aP&&p.2.cells.length==(td P el).size)=true∧len * (td P el).size≤16777216∧len≤16777216))
   (mA (E σ) (fun l=>cD (E (.vec (td P el).size l 0 len)) (σ.set l (.row el (td P el).size (parts.map fun p=>p.2.cells))) k))):=rfl
theorem KV{x:Operand}{args:Array Operand}{ts:Array TypeId}:R (mop P f σ k (.call ⟨.value x,args,ts⟩))=R (KM P (E (aK f x)) (E (args.toList.map (aK f))) σ k):=congrArg R rfl
theorem Cy{b:Builtin}{args:Array Operand}{ts:Array TypeId}:R (mop P f σ k (.call ⟨.builtin b,args,ts⟩))=R (fD P f b args.toList ts.toList σ k):=congrArg R rfl
def mvs(P:Program)(t:TypeId)(x lo hi:MV)(σ:St)(k:MV→St→Prop):Prop:=if beyond x hi then A2 P t x lo hi (Ks σ x) σ k else mpure σ k (mW P t x (some lo) (some hi) none)
theorem CL{dst:Option Tmp}{t:TypeId}{x y z:Operand}:R (fQ P f σ dst K (.slice t x (some y) (some z) none))=R (mvs P t (E (aK f x)) (E (aK f y)) (E (aK f z)) σ (fun v σ'=>K (bI f dst v) σ')):=congrArg R rfl
theorem Nw{t:TypeId}{e:Nat}{xs:List (List MV)}{tt:Bool}{lo hi:MV}:R (mvs P t (.lst e xs tt) lo hi σ k)=R (mpure σ k (E (mW P t (.lst e xs tt) (some lo) (some hi) none))):=by
 apply congrArg R;unfold mvs;rw[if_neg (show ¬beyond (.lst e xs tt) hi by simp[beyond])];rfl
theorem Nx{t:TypeId}{s:ByteArray}{lo hi:MV}:R (mvs P t (.str s) lo hi σ k)=R (mpure σ k (E (mW P t (.str s) (some lo) (some hi) none))):=by
 apply congrArg R;unfold mvs;rw[if_neg (show ¬beyond (.str s) hi by simp[beyond])];rfl
theorem AY{dst:Option Tmp}{s x:Operand}{t xt:TypeId}:R (fQ P f σ dst K (.call ⟨.builtin .append,#[s,x],#[t,xt]⟩))=R (Ns (E (td P xt).k.isInt) (Lf P t (aK f s) (aK f x) σ (fun v σ'=>K (bI f dst v) σ')) (mop P f σ (fun v σ'=>K (bI f dst v) σ') (.call ⟨.builtin .append,#[s,x],#[t,xt]⟩))):=congrArg R rfl
theorem OU{A B:Prop}:R (Ns false A B)=R B:=congrArg R rfl
end
end

section
section
variable {P:Program} {f:FR} {σ:St} {k:MV→St→Prop} {t:TypeId}
theorem Ky{i:IntKind}{a b:Int}:cC P t .add (.int i a) (.int i b)=some (True,.int i (i.wrap (a+b))):=by simp[cC,fA]
theorem KL{i:IntKind}{a b:Int}:cC P t .sub (.int i a) (.int i b)=some (True,.int i (i.wrap (a - b))):=by simp[cC,fA]
theorem KF{i:IntKind}{a b:Int}:cC P t .mul (.int i a) (.int i b)=some (True,.int i (i.wrap (a * b))):=by simp[cC,fA]
theorem KH{i:IntKind}{a b:Int}:cC P t .quo (.int i a) (.int i b)=some (b≠0,.int i (i.wrap (a.tdiv b))):=by simp[cC,fA]
theorem KI{i:IntKind}{a b:Int}:cC P t .rem (.int i a) (.int i b)=some (b≠0,.int i (a.tmod b)):=by simp[cC,fA]
theorem Kz{i:IntKind}{a b:Int}:cC P t .and (.int i a) (.int i b)=some (True,.int i (mE i a b)):=by simp only[cC,if_true,fA]
theorem Nh{i:IntKind}{a b:Int}:cC P t .or (.int i a) (.int i b)=some (True,.int i (orK i a b)):=by simp only[cC,if_true,fA]
theorem Ch{i:IntKind}{a b:Int}:cC P t .andNot (.int i a) (.int i b)=some (True,.int i (pW i a b)):=by simp only[cC,if_true,fA]
theorem KA{i:IntKind}{a b:Int}:cC P t .eql (.int i a) (.int i b)=some (True,.bool (decide (a=b))):=by simp[cC,fA];rfl
theorem KG{i:IntKind}{a b:Int}:cC P t .neq (.int i a) (.int i b)=some (True,.bool (decide (¬a=b))):=by simp[cC,fA];rfl
theorem KE{i:IntKind}{a b:Int}:cC P t .lss (.int i a) (.int i b)=some (True,.bool (decide (a<b))):=by simp[cC,fA]
theorem KD{i:IntKind}{a b:Int}:cC P t .leq (.int i a) (.int i b)=some (True,.bool (decide (a≤b))):=by simp[cC,fA]
theorem KC{i:IntKind}{a b:Int}:cC P t .gtr (.int i a) (.int i b)=some (True,.bool (decide (b<a))):=by simp[cC,fA]
theorem KB{i:IntKind}{a b:Int}:cC P t .geq (.int i a) (.int i b)=some (True,.bool (decide (b≤a))):=by simp[cC,fA]
theorem KJ{i j:IntKind}{a b:Int}:cC P t .shl (.int i a) (.int j b)=some (0≤b,.int i (i.wrap (a * 2 ^ (min b.toNat i.bits)))):=by simp[cC,mN]
theorem KK{i j:IntKind}{a b:Int}:cC P t .shr (.int i a) (.int j b)=some (0≤b,.int i (a.fdiv (2 ^ (min b.toNat i.bits)))):=by simp[cC,mN]
theorem oY(x y:ByteArray):x.toList=y.toList↔x=y:=by
 rw[ByteArray.toList_eq,ByteArray.toList_eq]
 obtain⟨⟨a⟩⟩:=x
 obtain⟨⟨b⟩⟩:=y
 simp
theorem pP(x y:ByteArray):(x.toList==y.toList)=decide (x=y):=by
 rw[Bool.eq_iff_iff];simp[oY]
theorem HU{x y:ByteArray}:cC P t .eql (.str x) (.str y)=some (True,.bool (decide (x=y))):=by simp only[cC,nI,pP]
theorem HX{x y:ByteArray}:cC P t .neq (.str x) (.str y)=some (True,.bool (decide (¬x=y))):=by simp only[cC,nI,pP];simp
theorem HT{x y:ByteArray}:cC P t .add (.str x) (.str y)=some (((x.size+y.size:Nat):Int)≤9223372036854775807,.str (x++y)):=by simp only[cC,nI]
theorem HW{x y:ByteArray}:cC P t .lss (.str x) (.str y)=some (True,.bool (Op.bytesLess x.toList y.toList)):=by simp only[cC,nI]
theorem HV{x y:ByteArray}:cC P t .gtr (.str x) (.str y)=some (True,.bool (!(Op.bytesLess x.toList y.toList || decide (x=y)))):=by simp only[cC,nI,pP]
theorem HR{x y:Bool}:cC P t .eql (.bool x) (.bool y)=some ((td P t).k.isBool=true,.bool (x==y)):=rfl
theorem HS{x y:Bool}:cC P t .neq (.bool x) (.bool y)=some ((td P t).k.isBool=true,.bool (!(x==y))):=rfl
theorem Ni{op:BinOp}{l i o:Nat}:cC P t op (.ptr l i o) .nilp=eqV op ((td P t).k.qE=true) false:=rfl
theorem Ng{op:BinOp}{l i o:Nat}:cC P t op .nilp (.ptr l i o)=eqV op ((td P t).k.qE=true) false:=rfl
theorem Nb{op:BinOp}{cs:List MV}:cC P t op (.cptr cs) .nilp=eqV op ((td P t).k.qE=true) false:=rfl
theorem Nj{op:BinOp}{e:Nat}{x:List MV}{xs:List (List MV)}{b:Bool}:cC P t op (.lst e (x::xs) b) .aT=eqV op ((td P t).k.Es=true) false:=rfl
theorem Nk{op:BinOp}:cC P t op .aT .aT=eqV op ((td P t).k.Es=true) true:=rfl
theorem Nd{op:BinOp}:cC P t op .nilfn .nilfn=eqV op ((td P t).k.Er=true) true:=rfl
theorem Nc{op:BinOp}{f:Fn}{a b:List MV}:cC P t op (.fn f a b) .nilfn=eqV op ((td P t).k.Er=true) false:=rfl
theorem Nf{op:BinOp}:cC P t op .nilp .nilp=eqV op ((td P t).k.qE=true) true:=rfl
def Kt(P:Program)(op:BinOp)(t:TypeId)(o:Option Bool):PV:=match o with
 | some b=>eqV op (cZ P t=true) b
 | none=>none
theorem uZ{op:BinOp}{xs ys:List MV}:cC P t op (.agg xs) (.agg ys)=Kt P op t (hU P 6 t (.agg xs) (.agg ys)):=rfl
theorem mR{op:BinOp}{b:Bool}:Kt P op t (some b)=eqV op (cZ P t=true) b:=rfl
theorem wQ{σ:St}{l k:Nat}{o:bE}{p:Prop}(h:l≠k→k≠l→σ l=none→p):(σ.set k o) l=none→p:=fun hn =>
 have e:l≠k∧σ l=none:=(LX σ k l o).mp hn
 h e.1 (Ne.symm e.1) e.2
theorem BH(σ:St)(l:Nat)(o:bE):(σ.set l o).del l=σ.del l:=by
 funext k;simp only[St.set,St.del];split<;>rfl
theorem Lj(l:Nat):St.none.del l=St.none:=by
 funext k;simp only[St.none,St.del];split<;>rfl
theorem Jr{α β:Type}{f:α→β}{l:List α}{n:Nat}:(l.map f).take n=(l.take n).map f:=by rw[List.map_take]
theorem Hp{α β:Type}{f:α→β}{l:List α}{n:Nat}:(l.map f).drop n=(l.drop n).map f:=by rw[List.map_drop]
theorem Dl(σ:St){l a:Nat}(o o' oa:bE)(h:l≠a):((σ.set l o).set a oa).set l o'=(σ.set l o').set a oa:=by rw[set_comm _ _ _ (Ne.symm h),set_set]
theorem zY(σ:St){l a b:Nat}(o o' oa ob:bE)(h:l≠a)(h2:l≠b):(((σ.set l o).set a oa).set b ob).set l o'=((σ.set l o').set a oa).set b ob:=by rw[set_comm _ _ _ (Ne.symm h2),Dl _ _ _ _ h]
theorem Jg(σ:St){l a b c:Nat}(o o' oa ob oc:bE)(h:l≠a)(h2:l≠b)(h3:l≠c):((((σ.set l o).set a oa).set b ob).set c oc).set l o'=(((σ.set l o').set a oa).set b ob).set c oc:=by rw[set_comm _ _ _ (Ne.symm h3),zY _ _ _ _ _ h h2]
theorem MH{p q:Prop}[Decidable p][Decidable q]:(decide p&&decide q)=decide (p∧q):=by simp
theorem M9{b:Bool}{o:Bool}:(some o).map (fun c=>b&&c)=some (b&&o):=rfl
theorem Gb{C:Prop}{b:Bool}:eqV .eql C b=some (C,.bool b):=rfl
theorem Gc{C:Prop}{b:Bool}:eqV .neq C b=some (C,.bool (!b)):=rfl
theorem xV{s x:Operand}{t xt:TypeId}:R (fD P f .append [s,x] [t,xt] σ k)=R (jK P t xt (E (aK f s)) (E (aK f x)) σ k):=congrArg R rfl
theorem EA{x:Operand}{t:TypeId}:R (fD P f .len [x] [t] σ k)=R (mpure σ k (E (KT P t (aK f x)))):=congrArg R (by simp[fD,dS,E])
theorem EC{x y:Operand}{t u:TypeId}:R (fD P f .min [x,y] [t,u] σ k)=R (mpure σ k (E (GB (aK f x) (aK f y)))):=congrArg R (by simp[fD,dS,E])
theorem EB{x y:Operand}{t u:TypeId}:R (fD P f .max [x,y] [t,u] σ k)=R (mpure σ k (E (GA (aK f x) (aK f y)))):=congrArg R (by simp[fD,dS,E])
def mcv(P:Program)(s d:TypeId)(ks kd:TK)(x:MV)(σ:St)(k:MV→St→Prop):Prop :=
 match ks,kd,x with
 | .str,.slice el,.str b=>((td P el).k=.int .u8∧b.size≤140737488355328)∧∀l,σ l=none→k (.vec 1 l 0 b.size) (σ.set l (.row el 1 (b.toList.map fun c=>[.int .u8 (c.toNat:Int)])))
 | .slice el,.str,.str _=>False
 | .slice el,.str,x=>match gS σ 1 x with
  | some ys=>((td P el).k=.int .u8∧ys.all isByte=true)∧k (.str (bytesOf ys)) σ
  | none=>False
 | _,_,x=>mpure σ k (qH P s d x)
theorem Cm{s d:TypeId}{x:MV}:R (gR P s d x σ k)=R (mcv P s d (E (td P s).k) (E (td P d).k) x σ k):=congrArg R (by unfold gR mcv E;rfl)
theorem No{s d:TypeId}{i j j':IntKind}{n:Int}:R (mcv P s d (.int j) (.int i) (.int j' n) σ k)=R (mpure σ k (E (qH P s d (.int j' n)))):=congrArg R rfl
theorem OQ{s d el:TypeId}{b:ByteArray}:R (mcv P s d .str (.slice el) (.str b) σ k)=R (fR (E ((td P el).k=.int .u8∧b.size≤140737488355328)) (mA (E σ) (fun l=>cD (E (.vec 1 l 0 b.size)) (σ.set l (.row el 1 (b.toList.map fun c=>[.int .u8 (c.toNat:Int)]))) k))):=congrArg R rfl
def OR(P:Program)(el:TypeId)(o:Option (List (List MV)))(σ:St)(k:MV→St→Prop):Prop:=match o with
 | some ys=>fR ((td P el).k=.int .u8∧ys.all isByte=true) (cD (.str (bytesOf ys)) σ k)
 | none=>False
theorem OP{s d el:TypeId}{e l lo n:Nat}:R (mcv P s d (.slice el) .str (.vec e l lo n) σ k)=R (OR P el (E (gS σ 1 (.vec e l lo n))) σ k):=congrArg R (by unfold mcv OR E;simp only;split<;>rfl)
theorem H4{el:TypeId}{ys:List (List MV)}:R (OR P el (some ys) σ k)=R (fR (E ((td P el).k=.int .u8∧ys.all isByte=true)) (cD (E (.str (bytesOf ys))) σ k)):=congrArg R rfl
attribute [go_sem] OU TK.isInt Cm No OQ OP H4 qH Nn
def Na(P:Program)(d:TK)(xt:TypeId)(s:MV)(ys:Option (List (List MV)))(σ:St)(k:MV→St→Prop):Prop :=
 match d with
 | .slice el=>match ys with
  | some ys=>match s with
   | .aT=>fR ((td P xt).k.fB=true∧(td P el).zok=true∧Fits ys.length (td P el).bytes) (mA σ fun l=>cD (.vec (td P el).size l 0 ys.length) (σ.set l (.row el (td P el).size ys)) k)
   | .lst e xs true=>fR ((td P xt).k.fB=true∧(td P el).zok=true∧e=(td P el).size∧(xs=[]∨0<ys.length)∧Fits (xs.length+ys.length) (td P el).bytes)
     (mA σ fun l=>cD (.vec (td P el).size l 0 (xs.length+ys.length)) (σ.set l (.row el (td P el).size (xs++ys))) k)
   | .vec e l lo n=>match σ l with
    | some (.row tt e' xs)=>fR ((td P xt).k.fB=true∧(td P el).zok=true∧e=(td P el).size∧e'=(td P el).size∧tt=el∧lo=0∧lo+n≤xs.length∧Fits (n+ys.length) (td P el).bytes)
      (mA σ fun l'=>cD (.vec (td P el).size l' 0 (n+ys.length)) ((σ.del l).set l' (.row el (td P el).size (eU xs lo n ys))) k)
    | _=>False
   | _=>False
  | none=>False
 | _=>False
def O9:TK→Option TypeId
 | .slice el=>some el
 | _=>none
def K4(P:Program)(σ:St)(x:MV):Option TypeId→Option (List (List MV))
 | some el=>gS σ (td P el).size x
 | none=>none
theorem Ey{t xt:TypeId}{s x:MV}:R (jK P t xt s x σ k)=R (Na P (E (td P t).k) xt s (E (K4 P σ x (O9 (td P t).k))) σ k):=congrArg R (by
 unfold jK Na K4 O9 fR mA cD E
 cases (td P t).k<;>rfl)
theorem Kv{el xt:TypeId}{ys xs:List (List MV)}{e:Nat}:R (Na P (.slice el) xt (.lst e xs true) (some ys) σ k)=R (fR (E ((td P xt).k.fB=true∧(td P el).zok=true∧e=(td P el).size∧(xs=[]∨0<ys.length)∧Fits (xs.length+ys.length) (td P el).bytes))
     (mA (E σ) (fun l=>cD (E (.vec (td P el).size l 0 (xs.length+ys.length))) (σ.set l (.row el (td P el).size (xs++ys))) k))):=rfl
def Kx(P:Program)(el xt:TypeId)(e l lo n:Nat)(o:Option bE)(ys:List (List MV))(σ:St)(k:MV→St→Prop):Prop :=
 match o with
 | some (.row tt e' xs)=>fR ((td P xt).k.fB=true∧(td P el).zok=true∧e=(td P el).size∧e'=(td P el).size∧tt=el∧lo=0∧lo+n≤xs.length∧Fits (n+ys.length) (td P el).bytes)
      (mA σ fun l'=>cD (.vec (td P el).size l' 0 (n+ys.length)) ((σ.del l).set l' (.row el (td P el).size (eU xs lo n ys))) k)
 | _=>False
theorem Kw{el xt:TypeId}{ys:List (List MV)}{e l lo n:Nat}:R (Na P (.slice el) xt (.vec e l lo n) (some ys) σ k)=R (Kx P el xt e l lo n (E (σ l)) ys σ k):=congrArg R rfl
def mif(c:Prop)(A B:Prop):Prop:=(c→A)∧(¬c→B)
theorem Nq{c A B:Prop}(h:c):R (mif c A B)=R A:=by simp[mif,h]
theorem OS{c A B:Prop}(h1:c→R A)(h2:¬c→R B):R (mif c A B):=⟨h1,h2⟩
theorem HQ{el xt tt:TypeId}{ys xs:List (List MV)}{e e' l lo n:Nat}:R (Kx P el xt e l lo n (some (.row tt e' xs)) ys σ k)=R (mif (E (lo+n=xs.length))
      (fR (E ((td P xt).k.fB=true∧(td P el).zok=true∧e=(td P el).size∧e'=(td P el).size∧tt=el∧lo=0∧Fits (n+ys.length) (td P el).bytes))
       (mA (E σ) (fun l'=>cD (E (.vec (td P el).size l' 0 (n+ys.length))) ((σ.del l).set l' (.row el (td P el).size (xs.drop lo++ys))) k)))
      (fR (E ((td P xt).k.fB=true∧(td P el).zok=true∧e=(td P el).size∧e'=(td P el).size∧tt=el∧lo=0∧lo+n≤xs.length∧Fits (n+ys.length) (td P el).bytes))
       (mA (E σ) (fun l'=>cD (E (.vec (td P el).size l' 0 (n+ys.length))) ((σ.del l).set l' (.row el (td P el).size (eU xs lo n ys))) k)))):=by
 apply congrArg R
 simp only[Kx,mif,E]
 by_cases h:lo+n=xs.length
 ·simp only[h,true_implies,not_true_eq_false,false_implies,and_true,Nat.le_refl,true_and,DM h]
 ·simp only[h,false_implies,not_false_eq_true,true_implies,true_and]
theorem Da{rs:List ResultVar}{Q:MV→St→Prop}{n:Nat}{l:List (Nat × MV)}:R (LG P rs Q .normal ⟨n,l,[]⟩ σ)=R (eE P ⟨n,l,[]⟩ σ rs fun vs=>Q (oneOf vs) σ):=congrArg R rfl
theorem LH{rs:List ResultVar}{Q:MV→St→Prop}{n:Nat}{l:List (Nat × MV)}:R (LG P rs Q .ret ⟨n,l,[]⟩ σ)=R (eE P ⟨n,l,[]⟩ σ rs fun vs=>Q (oneOf vs) σ):=congrArg R rfl
theorem EU{rs:List ResultVar}{Q:MV→St→Prop}{n:Nat}{l:List (Nat × MV)}:R (mleave P n l rs Q [] σ)=R (eE P ⟨n,l,[]⟩ σ rs fun vs=>Q (oneOf vs) σ):=congrArg R rfl
theorem AU{K:List MV→Prop}:R (eE P f σ [] K)=R (K []):=congrArg R rfl
theorem AW{K:List MV→Prop}{t:Nat}{rs:List ResultVar}:R (eE P f σ (.tmp t::rs) K)=R (cD (E (f.get t)) σ (fun v _=>eE P f σ rs fun vs=>K (v::vs))):=congrArg R rfl
theorem x6{K:List MV→Prop}{a:Nat}{t:TypeId}{rs:List ResultVar}:R (eE P f σ (.cell a t::rs) K)=R (kM P t (E (f.get a)) σ (fun v _=>eE P f σ rs fun vs=>K (v::vs))):=congrArg R rfl
theorem IJ{v:MV}:oneOf [v]=v:=rfl
theorem IK{v w:MV}{vs:List MV}:oneOf (v::w::vs)=.tup (v::w::vs):=rfl
theorem II:oneOf []=.tup []:=rfl
theorem Hi{cs:List MV}:(MV.agg cs).cells=cs:=rfl
theorem Hj{i:IntKind}{n:Int}:(MV.int i n).cells=[.int i n]:=rfl
theorem DZ{b:Bool}:(MV.bool b).cells=[.bool b]:=rfl
theorem Hm{s:ByteArray}:(MV.str s).cells=[.str s]:=rfl
theorem D5:MV.nilp.cells=[.nilp]:=rfl
theorem Hl{l i o:Nat}:(MV.ptr l i o).cells=[.ptr l i o]:=rfl
theorem D1{cs:List MV}:(MV.cptr cs).cells=[.cptr cs]:=rfl
theorem D6:MV.aT.cells=[.aT]:=rfl
theorem Hk{e:Nat}{xs:List (List MV)}{t:Bool}:(MV.lst e xs t).cells=[.lst e xs t]:=rfl
theorem Hn{e l lo n:Nat}:(MV.vec e l lo n).cells=[.vec e l lo n]:=rfl
theorem D4:MV.nilm.cells=[.nilm]:=rfl
theorem D2{l:Nat}:(MV.mapv l).cells=[.mapv l]:=rfl
theorem BB:MV.nilfn.cells=[.nilfn]:=rfl
theorem JV{fn:Fn}{a b:List MV}:(MV.fn fn a b).cells=[.fn fn a b]:=rfl
theorem aC{k k':IntKind}{a b:Int}:mB (.int k a) (.int k' b)↔k=k'∧a=b:=⟨fun h=>by cases h;exact⟨rfl,rfl⟩,fun⟨h,g⟩=>h ▸ g ▸ .same _⟩
theorem aB{m:MV}:mB m m↔True:=⟨fun _=>trivial,fun _=>.same m⟩
theorem all_nil{p:MV→Bool}:List.all [] p=true:=rfl
theorem OE{α:Type}{p:α→Prop}:(∀c,c∈([]:List α)→p c)↔True:=by simp
theorem MJ{α:Type}{p:α→Prop}{a:α}{l:List α}:(∀c,c∈a::l→p c)↔p a∧∀c,c∈l→p c:=by simp
theorem JQ{i:IntKind}{n:Int}:(MV.int i n).aP=true:=rfl
theorem Hb{b:Bool}:(MV.bool b).aP=true:=rfl
theorem JT{s:ByteArray}:(MV.str s).aP=true:=rfl
theorem Hg:MV.nilp.aP=true:=rfl
theorem JS{l i o:Nat}:(MV.ptr l i o).aP=true:=rfl
theorem Hc{cs:List MV}:(MV.cptr cs).aP=true:=rfl
theorem Hh:MV.aT.aP=true:=rfl
theorem JR{e:Nat}{xs:List (List MV)}{t:Bool}:(MV.lst e xs t).aP=true:=rfl
theorem JU{e l lo n:Nat}:(MV.vec e l lo n).aP=true:=rfl
theorem Hf:MV.nilm.aP=true:=rfl
theorem Hd{l:Nat}:(MV.mapv l).aP=true:=rfl
theorem DY:MV.nilfn.aP=true:=rfl
theorem ME{fn:Fn}{a b:List MV}:(MV.fn fn a b).aP=true:=rfl
theorem He:MV.nili.aP=true:=rfl
theorem DX{t:TypeId}{v:MV}:(MV.iface t v).aP=true:=rfl
theorem D3:MV.nili.cells=[.nili]:=rfl
theorem BA{t:TypeId}{v:MV}:(MV.iface t v).cells=[.iface t v]:=rfl
end
section
variable {P:Program} {f:FR} {σ:St} {k:MV→St→Prop} {K:FR→St→Prop}
theorem x7{dst:Option Tmp}{t:TypeId}:R (fQ P f σ dst K (.makeMap t none))=R (mA (E σ) fun l=>K (bI f dst (.mapv l)) (σ.set l (.mp []))):=congrArg R rfl
theorem tH{dst:Option Tmp}{t:TypeId}{m x y:Operand}:R (fQ P f σ dst K (.mapUpdate t m x y))=R (fG P t (E (aK f m)) (E (aK f x)) (E (aK f y)) (E (mapOf σ (aK f m))) σ fun v σ'=>K (bI f dst v) σ'):=congrArg R rfl
theorem AZ{dst:Option Tmp}{t:TypeId}{m x:Operand}{ok:Bool}:R (fQ P f σ dst K (.lookup t m x ok))=R (fU P t (E (aK f m)) (E (aK f x)) ok (E (mapOf σ (aK f m))) σ fun v σ'=>K (bI f dst v) σ'):=congrArg R rfl
theorem CK{dst:Option Tmp}{t:TypeId}{m:Operand}:R (fQ P f σ dst K (.range t m))=R (rU P t (E (aK f m)) (E (mapOf σ (aK f m))) σ fun v σ'=>K (bI f dst v) σ'):=congrArg R rfl
theorem E7{dst:Option Tmp}{x:Operand}:R (fQ P f σ dst K (.next x false))=R (zK (E (aK f x)) σ fun v σ'=>K (bI f dst v) σ'):=congrArg R rfl
theorem CI{dst:Option Tmp}{x:Operand}:R (fQ P f σ dst K (.entry x))=R (u7 (E (aK f x)) σ fun v σ'=>K (bI f dst v) σ'):=congrArg R rfl
def vC(P:Program)(d:TK)(l:Nat)(kd:IntKind)(n:Int)(y:MV)(es:List (MV × MV))(σ:St)(k:MV→St→Prop):Prop:=match d with
 | .map kt _=>fR ((td P kt).k=.int kd∧(es.all fun p=>isK kd p.1)=true) (cD .junk (σ.set l (.mp (dJ kd n y es))) k)
 | _=>False
theorem ES{t:TypeId}{l:Nat}{kd:IntKind}{n:Int}{y:MV}{es:List (MV × MV)}:R (fG P t (.mapv l) (.int kd n) y (some (.mp es)) σ k)=R (vC P (E (td P t).k) l kd n y es σ k):=congrArg R (by
 unfold fG vC fR cD E
 cases (td P t).k<;>rfl)
theorem Cs{kt et:TypeId}{l:Nat}{kd:IntKind}{n:Int}{y:MV}{es:List (MV × MV)}:R (vC P (.map kt et) l kd n y es σ k)=R (fR (E ((td P kt).k=.int kd∧(es.all fun p=>isK kd p.1)=true)) (cD (E .junk) (σ.set l (.mp (dJ kd n y es))) k)):=congrArg R rfl
def vD(P:Program)(d:TK)(kd:IntKind)(n:Int)(ok:Bool)(es:List (MV × MV))(σ:St)(k:MV→St→Prop):Prop:=match d with
 | .map kt et=>fR ((td P kt).k=.int kd∧(td P et).zok=true∧(es.all fun p=>isK kd p.1)=true) (cD (if ok=true then .tup [(cJ n es).getD (sG (td P et)),.bool (cJ n es).isSome] else(cJ n es).getD (sG (td P et))) σ k)
 | _=>False
theorem EY{t:TypeId}{l:Nat}{kd:IntKind}{n:Int}{ok:Bool}{es:List (MV × MV)}:R (fU P t (.mapv l) (.int kd n) ok (some (.mp es)) σ k)=R (vD P (E (td P t).k) kd n ok es σ k):=congrArg R (by
 unfold fU vD fR cD E
 cases (td P t).k<;>rfl)
theorem Cw{kt et:TypeId}{kd:IntKind}{n:Int}{ok:Bool}{es:List (MV × MV)}:R (vD P (.map kt et) kd n ok es σ k)=R (fR (E ((td P kt).k=.int kd∧(td P et).zok=true∧(es.all fun p=>isK kd p.1)=true)) (cD (E (if ok=true then .tup [(cJ n es).getD (sG (td P et)),.bool (cJ n es).isSome] else(cJ n es).getD (sG (td P et)))) σ k)):=congrArg R rfl
theorem HO{l:Nat}:mapOf σ (.mapv l)=σ l:=rfl
theorem Kf{kd:IntKind}{n:Int}{v:MV}:dJ kd n v []=[(.int kd n,v)]:=rfl
theorem Kc{n:Int}:cJ n []=none:=rfl
end
attribute [go_sem ↓] Ko Kp HL EL Iw Hw Hy Hx EM H3 EH Ck H2 EJ EI AI EK Bq Jt FM xI DU DT By K0 Iv E4 CH CL AY x7 tH AZ CK E7 CI K5 KX E0 KY AR Io KZ Cz AQ Ir xX xY vF Iq CB Ip KW E1 xZ Is Im Nu vE u5 KV Cy xV EA EC EB Da LH EU AU AW x6
attribute [go_sem] ES Cs EY Cw HO Kf Kc sG Ot Px QK QH Pw QI QG EP Cp H7 KS H9 H8 Ib Ia Cr Ih Ig Ie Ic HD Iy Ix OH K8 E9 IA Lk NC NF Ln Lo Lm IH Ll Nw Nx HZ KN Nr NJ E6 Ii EW Cu E8 A1 aM aH Ff set_set NR NP NQ NO NB LC I6 Bb Nl HY Ky KL KF KH KI Kz Nh Ch KA KG KE KD KC KB KJ KK HU HX HT HW HV HR HS Ni Ng Nb Nf Nj Nk Nd Nc TK.Er Jr Hp List.length_take List.length_drop List.length_append if_pos if_neg Dl zY Jg Fits BH Lj xP Gb Gc uZ mR MH hU bW M9 Ey O9 K4 Kv Kw Nq eU HQ IJ IK II Hi Hj DZ Hm D5 Hl D1 D6 Hk Hn D4 D2 BB JV kF mW iC jY dH vB AM laid dY mS KT GB GA mun qH gS TK.isAgg TK.fB TK.qE TK.Es TK.isBool JQ Hb JT Hg JS Hc Hh JR JU Hf Hd DY ME He DX D3 BA OE MJ List.map_cons List.map_nil List.length_cons List.length_nil List.length_map Int.toNat_natCast List.drop_succ_cons List.drop_zero List.drop_nil List.take_succ_cons List.take_zero List.take_nil List.getD_cons_zero List.getD_cons_succ List.getElem?_cons_zero List.getElem?_cons_succ List.set_cons_zero List.set_cons_succ List.all_cons List.all_nil List.cons_append List.nil_append List.append_nil List.toList_toArray Option.map_some Option.map_none Bool.and_self Bool.and_true Bool.true_and beq_self_eq_true IntWalk.i64_in IntWalk.u8_in IntWalk.u32_in IntWalk.i32_in IntWalk.u64_in decide_true decide_false Bool.not_true Bool.not_false if_true if_false and_true true_and and_self ne_eq not_true_eq_false not_false_eq_true eq_self reduceCtorEq MV.bool.injEq Nat.zero_add Nat.add_zero
end

section
def St.le(σ1 σ:St):Prop:=∀l o,σ1 l=some o→σ l=some o
theorem St.le_refl(σ:St):σ.le σ:=fun _ _ h=>h
theorem St.none_le(σ:St):St.none.le σ:=fun _ _ h=>by simp[St.none] at h
theorem St.bQ{σ1 σ:St}{l:Nat}{o:bE}(h:σ1.le σ)(hl:σ1 l=Option.none):σ1.le (σ.set l o):=fun k q hk=>by
 by_cases e:k=l
 ·subst e;rw[hl] at hk;cases hk
 ·rw[aH _ _ _ _ e];exact h k q hk
theorem St.j6{σ1 σ:St}{l:Nat}{o:bE}(h:σ1.le σ):(σ1.set l o).le (σ.set l o):=fun k q hk=>by
 by_cases e:k=l
 ·subst e;rw[aM] at hk ⊢;exact hk
 ·rw[aH _ _ _ _ e] at hk ⊢;exact h k q hk
theorem St.aL{σ1 σ:St}{l:Nat}{o:bE}(h:σ1.le σ)(hl:σ l=some o):(σ1.set l o).le σ:=fun k q hk=>by
 by_cases e:k=l
 ·subst e;rw[aM] at hk;rw[hl];exact hk
 ·rw[aH _ _ _ _ e] at hk;exact h k q hk
theorem QJ{x y:St}:R (x.le y)=x.le y:=rfl
attribute [go_sem] QJ
inductive View (σ:St):MV→MV→Prop where
 | same (m:MV):View σ m m
 | junk (m:MV):View σ m .junk
 | nil (e:Nat) (t:Bool):View σ .aT (.lst e [] t)
 | tight (e:Nat) (xs:List (List MV)):View σ (.lst e xs true) (.lst e xs false)
 | vec {l lo n:Nat} {t:TypeId} {e:Nat} {xs:List (List MV)} (h:σ l=some (.row t e xs)) (hn:lo+n≤xs.length):View σ (.vec e l lo n) (.lst e ((xs.drop lo).take n) false)
 | vecAll {l n:Nat} {t:TypeId} {e:Nat} {xs:List (List MV)} (h:σ l=some (.row t e xs)) (hn:n=xs.length):View σ (.vec e l 0 n) (.lst e xs false)
 | ptr {l i o:Nat} {t:TypeId} {e:Nat} {xs:List (List MV)} (h:σ l=some (.row t e xs)) (hn:i<xs.length):View σ (.ptr l i o) (.cptr ((xs.getD i []).drop o))
 | agg {ms ms':List MV} (h:ms.length=ms'.length) (hc:∀(i:Nat) (m:MV),ms'[i]?=some m→m.aP=true) (hv:∀(i:Nat) (m m':MV),ms[i]?=some m→ms'[i]?=some m'→View σ m m'):View σ (.agg ms) (.agg ms')
 | tup {ms ms':List MV} (h:ms.length=ms'.length) (hv:∀(i:Nat) (m m':MV),ms[i]?=some m→ms'[i]?=some m'→View σ m m'):View σ (.tup ms) (.tup ms')
 | fn {f:Fn} {ms ns ns':List MV} (h:ns.length=ns'.length) (hv:∀(i:Nat) (m m':MV),ns[i]?=some m→ns'[i]?=some m'→View σ m m'):View σ (.fn f ms ns) (.fn f ms ns')
def JH(Φ Φ':Phi)(w:World)(σ:St):Prop:=Φ.le Φ'∧∀l o p R,σ l=some o→Φ.obj l=some p→p.blk=some R→∀off v,w.cell? ⟨R,off,none⟩=some v→Φ'.snap ⟨R,off,none⟩=some v
theorem dX.cells{Φ:Phi}{w:World}{l:Nat}{t:TypeId}{e:Nat}{xs:List (List MV)}(h:dX Φ w l (.row t e xs)){p:Place}(hp:Φ.obj l=some p){R:Nat}(hR:p.blk=some R) :
  ∀(i:Nat) (x:List MV) (j:Nat) (m:MV),xs[i]?=some x→x[j]?=some m→m.aP=true∧∃v,w.cell? ⟨R,p.bo+(i * e+j),none⟩=some v∧Rel Φ v m:=by
 obtain⟨p',hp',he,h1,h2,h3,h4⟩:=h
 rw[hp] at hp';cases hp'
 rw[hR] at h4
 obtain⟨c,fz,hc,hf,hs,hv⟩:=h4
 intro i x j m hx hm
 obtain⟨hcell,v,hv1,hv2⟩:=hv i x j m hx hm
 exact⟨hcell,v,by simpa[World.cell?,hc] using hv1,hv2⟩
theorem dX.F9{Φ Φ':Phi}{w:World}{l:Nat}{t:TypeId}{e:Nat}{xs:List (List MV)}(h:dX Φ w l (.row t e xs)){p:Place}(hp:Φ.obj l=some p){R:Nat}(hR:p.blk=some R)
 (hle:Φ.le Φ')(hs:∀off v,w.cell? ⟨R,off,none⟩=some v→Φ'.snap ⟨R,off,none⟩=some v):jD Φ' R p.bo e xs:=by
 refine⟨h.OB,fun i j=>(w.cell? ⟨R,p.bo+(i * e+j),none⟩).getD undef,fun i x j m hx hm=>?_⟩
 obtain⟨hcell,v,hv1,hv2⟩:=h.cells hp hR i x j m hx hm
 have:=hs _ _ hv1
 simp only[Nat.add_assoc] at this hv1 ⊢
 refine⟨hcell,?_,?_⟩
 ·rw[this,hv1];rfl
 ·rw[hv1];exact hv2.mono hle
theorem DC{Φ Φ':Phi}{w:World}{σ:St}(hi:Inv Φ w σ)(hs:JH Φ Φ' w σ){l lo n:Nat}{t:TypeId}{e:Nat}{xs:List (List MV)}(h:σ l=some (.row t e xs))(hn:lo+n≤xs.length){v:Value}(r:Rel Φ v (.vec e l lo n)) :
  Rel Φ' v (.lst e ((xs.drop lo).take n) false):=by
 obtain⟨a,cap,p,rfl,hp,he,hcap,hn',hva⟩:=r.iL
 have own:=hi.own l _ h
 obtain⟨p',hp',he',h1,h2,h3,h4⟩:=hi.own l _ h
 rw[hp] at hp';cases hp'
 refine Rel.AP (by simp;omega) hn' (by omega) (by simp) (fun ha=>?_) (fun h0=>?_)
 ·rcases hva with⟨R,hR,ha'⟩|hva
  ·rw[ha'] at ha;cases ha
  ·exact hva
 ·rcases hva with⟨R,hR,ha⟩|hva
  ·subst ha
   refine⟨_,_,rfl,?_⟩
   rw[he]
   exact((own.F9 hp hR hs.1 (hs.2 l _ p R h hp hR)).drop).take
  ·omega
theorem View.rel{Φ Φ':Phi}{w:World}{σ:St}(hi:Inv Φ w σ)(hs:JH Φ Φ' w σ){m m':MV}(h:View σ m m'):∀{v:Value},Rel Φ v m→Rel Φ' v m':=by
 induction h with
 | same m=>intro v r;exact r.mono hs.1
 | junk m=>intro v r;exact .junk v
 | nil e t=>intro v r;cases r;exact .lstn e t
 | tight e xs=>intro v r;exact((mB.tight e xs).rel r).mono hs.1
 | vec h hn=>intro v r;exact DC hi hs h hn r
 | @vecAll l n t e xs h hn =>
  intro v r
  have:=DC hi hs h (lo:=0) (n:=n) (by omega) r
  subst hn
  simpa using this
 | @ptr l i o t e xs h hn =>
  intro v r
  obtain⟨p,R,hp,hR,rfl⟩:=r.gQ
  have own:=hi.own l _ h
  obtain⟨p',hp',he',-⟩:=hi.own l _ h
  rw[hp] at hp';cases hp'
  obtain⟨-,vs,hv⟩:=own.F9 hp hR hs.1 (hs.2 l _ p R h hp hR)
  have hx:xs[i]?=some (xs.getD i []):=by simp[List.getD,List.getElem?_eq_getElem hn]
  refine .cptr (fun j=>vs i (o+j)) (fun j m hm=>?_) (fun j m hm=>?_)
  all_goals
   rw[List.getElem?_drop] at hm
   have:=hv i _ _ m hx hm
  ·refine⟨this.1,?_⟩
   rw[he']
   simpa[Nat.add_assoc] using this.2.1
  ·exact this.2.2
 | agg h hc hv ih =>
  intro v r
  obtain⟨cs,rfl,h1,h2,h3⟩:=r.iK
  refine .agg (by omega) hc (fun i m' hm'=>?_)
  have hlt:=(List.getElem?_eq_some_iff.1 hm').1
  rename_i ms ms'
  obtain⟨m,hm⟩:∃m,ms[i]?=some m:=⟨_,List.getElem?_eq_getElem (by omega)⟩
  exact ih i m m' hm hm' (h3 i m hm)
 | tup h hv ih =>
  intro v r
  obtain⟨cs,rfl,h1,h3⟩:=r.AA
  refine .tup (by omega) (fun i m' hm'=>?_)
  have hlt:=(List.getElem?_eq_some_iff.1 hm').1
  rename_i ms ms'
  obtain⟨m,hm⟩:∃m,ms[i]?=some m:=⟨_,List.getElem?_eq_getElem (by omega)⟩
  exact ih i m m' hm hm' (h3 i m hm)
 | @fn f ms ns ns' h hv ih =>
  intro v r
  obtain⟨first,cap,rfl,h1,h2⟩:=r.mP
  refine .fn f h1.1 (h2.1.trans h) (fun i m hm=>(h1.2 i m hm).mono hs.1) (fun i m' hm'=>?_)
  have hlt:=(List.getElem?_eq_some_iff.1 hm').1
  obtain⟨m,hm⟩:∃m,ns[i]?=some m:=⟨_,List.getElem?_eq_getElem (by omega)⟩
  exact ih i m m' hm hm' (h2.2 i m hm)
def Phi.pO(Φ:Phi)(w:World)(B:Nat→Prop)[DecidablePred B]:Phi:={ Φ with snap:=fun a=>match Φ.snap a with|some v=>some v|none=>if B a.block then w.cell? a else none }
theorem tU(Φ:Phi)(w:World)(B:Nat→Prop)[DecidablePred B]:Φ.le (Φ.pO w B):=⟨fun a v h=>by simp[Phi.pO,h],fun _ _ h=>h,rfl⟩
theorem eS{Φ:Phi}{w:World}{B:Nat→Prop}[DecidablePred B]{a:Addr}{v:Value}(h:(Φ.pO w B).snap a=some v):Φ.snap a=some v∨(B a.block∧w.cell? a=some v):=by
 simp only[Phi.pO] at h
 split at h
 ·rename_i u hu;left;rw[hu,←h]
 ·split at h
  ·rename_i hb;exact .inr ⟨hb,h⟩
  ·cases h
theorem Bm{Φ:Phi}{w:World}{σ:St}(hi:Inv Φ w σ){B:Nat→Prop}[DecidablePred B]{σv:St}(hle:σv.le σ)(hB:∀R,bA Φ σv R→B R):JH Φ (Φ.pO w B) w σv:=by
 refine⟨tU _ _ _,fun l o p R hl hp hR off v hv=>?_⟩
 have hb:B R:=hB R ⟨l,o,p,hl,hp,hR⟩
 simp only[Phi.pO]
 split
 ·rename_i u hu
  have:=hi.snap _ _ hu
  rw[hv] at this
  exact this.symm
 ·rw[if_pos hb];exact hv
theorem bV.freeze{n:Nat}{l l1:List (Nat × MV)}{d:List (FuncId × List MV)}{σ σ1:St}(σv:St)(hle:σv.le σ)(h1:σ1.le σ)(hd:∀k o,σ1 k=some o→σv k=none)
 (h:∀p,p∈l1→View σv (cH l p.1) p.2):bV ⟨n,l,d⟩ σ ⟨n,l1,d⟩ σ1:=by
 refine⟨rfl,fun Φ w vs hi hr=>?_⟩
 classical
 have hs:=Bm (Φ:=Φ) hi (B:=bA Φ σv) hle (fun R h=>h)
 refine⟨Φ.pO w (bA Φ σv),⟨?_,?_,?_,?_,hi.fresh.1,fun g i v q=>hs.1.snap _ _ (hi.fresh.2.1 g i v q),hi.fresh.2.2.mono hs.1.snap⟩,⟨hr.1,?_⟩,⟨hs.1,rfl,rfl,rfl,Nat.le_refl _,Nat.le_refl _,fun _ _ _=>rfl,?_,fun l o h=>.inl ⟨o,h1 l o h⟩,fun R hR=>.inl ?_⟩⟩
 ·exact fun k o hk=>(hi.own k o (h1 k o hk)).mono hs.1 (fun _ _ _ _=>rfl)
 ·exact fun k k' o o' p p' R a b c e=>hi.inj k k' o o' p p' R (h1 k o a) (h1 k' o' b) c e
 ·intro a v hv
  rcases eS hv with q|⟨-,q⟩
  ·exact hi.snap a v q
  ·exact q
 ·intro k o p R a v hk hp hR hv
  rcases eS hv with q|⟨⟨k2,o2,p2,q1,q2,q3⟩,-⟩
  ·exact hi.apart k o p R a v (h1 k o hk) hp hR q
  ·intro e
   rw[e] at q3
   have:=hi.inj k k2 o o2 p p2 R (h1 k o hk) (hle k2 o2 q1) hp q2 hR q3
   subst this
   rw[hd k o hk] at q1
   cases q1
 ·intro t
  show Rel _ _ (cH l1 t)
  have key:∀l1':List (Nat × MV),(∀p,p∈l1'→View σv (cH l p.1) p.2)→View σv (cH l t) (cH l1' t):=by
   intro l1'
   induction l1' with
   | nil=>intro _;exact .junk _
   | cons q r ih =>
    obtain⟨k,v⟩:=q
    intro h
    simp only[cH]
    split
    ·rename_i ht;subst ht;exact h (t,v) (by simp)
    ·exact ih fun q hq=>h q (by simp[hq])
  exact(key l1 h).rel (hi.less hle) hs (hr.2 t)
 ·intro a v hv
  rcases eS hv with q|⟨⟨k,o,p,q1,q2,q3⟩,-⟩
  ·exact .inl q
  ·exact .inr (.inr ⟨k,o,p,hle k o q1,q2,q3⟩)
 ·obtain⟨k,o,p,q1,q2,q3⟩:=hR
  exact⟨k,o,p,h1 k o q1,q2,q3⟩
def F2(σv:St)(o o1:bE):Prop:=o1=o∨∃t e xs xs1,o=.row t e xs∧o1=.row t e xs1∧xs.length=xs1.length∧∀(i:Nat) (x x1:List MV),xs[i]?=some x→xs1[i]?=some x1→x.length=x1.length ∧
 ∀(j:Nat) (m m1:MV),x[j]?=some m→x1[j]?=some m1→m1=m∨(m1.aP=true∧View σv m m1)
theorem F2.own{Φ Φ':Phi}{w:World}{σv:St}{k:Nat}{o o1:bE}(hv:F2 σv o o1)(h:dX Φ w k o)(hle:Φ.le Φ')(hi:Inv Φ w σv)(hs:JH Φ Φ' w σv):dX Φ' w k o1:=by
 rcases hv with rfl|⟨t,e,xs,xs1,rfl,rfl,hl,hx⟩
 ·exact h.mono hle (fun _ _ _ _=>rfl)
 ·obtain⟨p,hp,hpe,q1,q2,q3,q4⟩:=h
  have get:∀(i:Nat) (x1:List MV),xs1[i]?=some x1→∃x,xs[i]?=some x:=fun i x1 h1=>by
   have:=(List.getElem?_eq_some_iff.1 h1).1
   exact⟨xs[i]'(by omega),by simp⟩
  refine⟨p,hle.obj _ _ hp,hpe,by omega,q2,fun i x1 h1=>?_,?_⟩
  ·obtain⟨x,hx0⟩:=get i x1 h1
   rw[←(hx i x x1 hx0 h1).1]
   exact q3 i x hx0
  ·cases hb:p.blk with
   | none=>rw[hb] at q4;exact q4
   | some R =>
    rw[hb] at q4
    obtain⟨c,fz,k1,k2,k3,k4⟩:=q4
    refine⟨c,fz,k1,k2,k3,fun i x1 j m1 h1 hm1=>?_⟩
    obtain⟨x,hx0⟩:=get i x1 h1
    obtain⟨hlen,hview⟩:=hx i x x1 hx0 h1
    have hj:=(List.getElem?_eq_some_iff.1 hm1).1
    obtain⟨m,hm⟩:∃m,x[j]?=some m:=⟨x[j]'(by omega),by simp⟩
    obtain⟨hc0,v,hcv,hrel⟩:=k4 i x j m hx0 hm
    rcases hview j m m1 hm hm1 with rfl|⟨hc,hv⟩
    ·exact⟨hc0,v,hcv,hrel.mono hle⟩
    ·exact⟨hc,v,hcv,hv.rel hi hs hrel⟩
theorem bV.uM{n:Nat}{l l1:List (Nat × MV)}{d:List (FuncId × List MV)}{σ σ1:St}(σv:St)(hle:σv.le σ)(h1:∀k o1,σ1 k=some o1→∃o,σ k=some o∧F2 σv o o1)(hd:∀k o,σ1 k=some o→σv k=none)
 (h:∀p,p∈l1→View σv (cH l p.1) p.2):bV ⟨n,l,d⟩ σ ⟨n,l1,d⟩ σ1:=by
 refine⟨rfl,fun Φ w vs hi hr=>?_⟩
 classical
 have hs:=Bm (Φ:=Φ) hi (B:=bA Φ σv) hle (fun R h=>h)
 refine⟨Φ.pO w (bA Φ σv),⟨?_,?_,?_,?_,hi.fresh.1,fun g i v q=>hs.1.snap _ _ (hi.fresh.2.1 g i v q),hi.fresh.2.2.mono hs.1.snap⟩,⟨hr.1,?_⟩,⟨hs.1,rfl,rfl,rfl,Nat.le_refl _,Nat.le_refl _,fun _ _ _=>rfl,?_,fun l o h=>?_,fun R hR=>.inl ?_⟩⟩
 ·intro k o1 hk
  obtain⟨o,ho,hv⟩:=h1 k o1 hk
  exact hv.own (hi.own k o ho) hs.1 (hi.less hle) hs
 ·intro k k' o o' p p' R a b c e
  obtain⟨q,hq,-⟩:=h1 k o a
  obtain⟨q',hq',-⟩:=h1 k' o' b
  exact hi.inj k k' q q' p p' R hq hq' c e
 ·intro a v hv
  rcases eS hv with q|⟨-,q⟩
  ·exact hi.snap a v q
  ·exact q
 ·intro k o p R a v hk hp hR hv
  obtain⟨o0,ho0,-⟩:=h1 k o hk
  rcases eS hv with q|⟨⟨k2,o2,p2,q1,q2,q3⟩,-⟩
  ·exact hi.apart k o0 p R a v ho0 hp hR q
  ·intro e
   rw[e] at q3
   have:=hi.inj k k2 o0 o2 p p2 R ho0 (hle k2 o2 q1) hp q2 hR q3
   subst this
   rw[hd k o hk] at q1
   cases q1
 ·intro t
  show Rel _ _ (cH l1 t)
  have key:∀l1':List (Nat × MV),(∀p,p∈l1'→View σv (cH l p.1) p.2)→View σv (cH l t) (cH l1' t):=by
   intro l1'
   induction l1' with
   | nil=>intro _;exact .junk _
   | cons q r ih =>
    obtain⟨k,v⟩:=q
    intro h
    simp only[cH]
    split
    ·rename_i ht;subst ht;exact h (t,v) (by simp)
    ·exact ih fun q hq=>h q (by simp[hq])
  exact(key l1 h).rel (hi.less hle) hs (hr.2 t)
 ·intro a v hv
  rcases eS hv with q|⟨⟨k,o,p,q1,q2,q3⟩,-⟩
  ·exact .inl q
  ·exact .inr (.inr ⟨k,o,p,hle k o q1,q2,q3⟩)
 ·obtain⟨o0,ho0,-⟩:=h1 l o h
  exact .inl ⟨o0,ho0⟩
 ·obtain⟨k,o,p,q1,q2,q3⟩:=hR
  obtain⟨o0,ho0,-⟩:=h1 k o q1
  exact⟨k,o0,p,ho0,q2,q3⟩
theorem bV.less{n:Nat}{l l1:List (Nat × MV)}{d:List (FuncId × List MV)}{σ σ1:St}(h:∀p,p∈l1→mB (cH l p.1) p.2)(hs:σ1.le σ):bV ⟨n,l,d⟩ σ ⟨n,l1,d⟩ σ1 :=
 (bV.MX h).trans (bV.drop hs)
end

section
theorem Gh.row{n:Nat}{l:List (Nat × MV)}{d:List (FuncId × List MV)}{σ:St}{K:FR→St→Prop}(t:TypeId)(e:Nat)(l1:Nat→List (Nat × MV))
 (h1:∀k,∀p,p∈l1 k→cH l p.1=p.2∨(p.2=.vec e k 0 0∧(cH l p.1=.aT∨cH l p.1=.lst e [] true)))
 (h:∀k,σ k=none→Gh ⟨n,l1 k,d⟩ (σ.set k (.row t e [])) K):Gh ⟨n,l,d⟩ σ K:=by
 intro Φ w vs hi hr
 obtain⟨k,hk,hk'⟩:=inv_eq hi
 obtain⟨v1,v2,-⟩:=lI hi (fun _ _ h=>h) hk t e none
 have hfr:dC (Φ.put k ⟨none,0,e,0⟩) vs ⟨n,l1 k,d⟩:=by
  refine⟨hr.1,fun s=>?_⟩
  show Rel _ _ (cH (l1 k) s)
  have key:∀l2:List (Nat × MV),(∀p,p∈l2→cH l p.1=p.2∨(p.2=.vec e k 0 0∧(cH l p.1=.aT∨cH l p.1=.lst e [] true)))→Rel (Φ.put k ⟨none,0,e,0⟩) (vs.getD s undef) (cH l2 s):=by
   intro l2
   induction l2 with
   | nil=>intro _;exact .junk _
   | cons q r ih =>
    obtain⟨j,v⟩:=q
    intro h
    simp only[cH]
    split
    ·rename_i ht
     subst ht
     have hs:=hr.2 s
     change Rel Φ _ (cH l s) at hs
     rcases h (s,v) (by simp) with q|⟨q1,q2|q2⟩
     ·simp only at q;rw[←q];exact hs.mono v2.le
     ·simp only at q1 q2
      rw[q2] at hs
      have:=hs.eP
      rw[this,q1]
      exact(lI hi (fun _ _ h=>h) hk t e none).2.2
     ·simp only at q1 q2
      rw[q2] at hs
      obtain⟨a,cap,hv,-,-,h0,-⟩:=hs.jG
      have hcap:cap=0:=by simpa using h0 rfl
      subst hcap
      rw[hv,q1]
      exact(lI hi (fun _ _ h=>h) hk t e a).2.2
    ·exact ih fun q hq=>h q (by simp[hq])
  exact key _ (h1 k)
 obtain⟨f2,σ2,Φ2,e2,k2,i2,r2,s2⟩:=h k hk' _ w vs v1 hfr
 exact⟨f2,σ2,Φ2,e2,k2,i2,r2,v2.trans s2⟩
theorem Gh.De{f:FR}{σ:St}{K:FR→St→Prop}{b:Nat}{t:TypeId}{e:Nat}{pre post:List MV}(t':TypeId)(e':Nat)(hs:σ b=some (.row t e [pre++.aT::post]))
 (h:∀k,σ k=none→Gh f ((σ.set b (.row t e [pre++.vec e' k 0 0::post])).set k (.row t' e' [])) K):Gh f σ K:=by
 intro Φ w vs hi hr
 obtain⟨k,hk,hk'⟩:=inv_eq hi
 obtain⟨v1,v2,-⟩:=lI hi (fun _ _ h=>h) hk t' e' none
 have hbk:b≠k:=fun e=>by subst e;rw[hs] at hk';cases hk'
 have hs':(σ.set k (.row t' e' [])) b=some (.row t e [pre++.aT::post]):=by rw[aH _ _ _ _ hbk];exact hs
 obtain⟨p,hp,hpe,q1,q2,q3,q4⟩:=v1.own b _ hs'
 have hown:dX (Φ.put k ⟨none,0,e',0⟩) w b (.row t e [pre++.vec e' k 0 0::post]):=by
  refine⟨p,hp,hpe,by simpa using q1,q2,fun i x hx=>?_,?_⟩
  ·match i with
   | 0 =>
    simp only[List.getElem?_cons_zero,Option.some.injEq] at hx
    subst hx
    have:=q3 0 _ rfl
    simpa using this
   | i+1=>simp at hx
  ·cases hb:p.blk with
   | none=>rw[hb] at q4;exact q4
   | some R =>
    rw[hb] at q4
    obtain⟨c,fz,k1,k2,k3,k4⟩:=q4
    refine⟨c,fz,k1,k2,k3,fun i x j m hx hm=>?_⟩
    match i with
    | 0 =>
     simp only[List.getElem?_cons_zero,Option.some.injEq] at hx
     subst hx
     by_cases hj:j=pre.length
     ·subst hj
      simp at hm
      subst hm
      obtain⟨-,v,hv,hrel⟩:=k4 0 _ pre.length .aT rfl (by simp)
      have:=hrel.eP
      subst this
      exact⟨rfl,_,hv,.vecn (p:=⟨none,0,e',0⟩) (Phi.cF _ _ _) rfl rfl⟩
     ·refine k4 0 _ j m rfl ?_
      rw[←hm]
      by_cases h:j<pre.length
      ·rw[List.getElem?_append_left h,List.getElem?_append_left h]
      ·rw[List.getElem?_append_right (by omega),List.getElem?_append_right (by omega)]
       obtain⟨q,hq⟩:∃q,j - pre.length=q+1:=⟨j - pre.length - 1,by omega⟩
       rw[hq,List.getElem?_cons_succ,List.getElem?_cons_succ]
    | i+1=>simp at hx
 have i2:Inv (Φ.put k ⟨none,0,e',0⟩) w ((σ.set k (.row t' e' [])).set b (.row t e [pre++.vec e' k 0 0::post])):=by
  refine v1.upd (.refl _) (fun _=>rfl) b _ p hp (fun m o q=>St.bO q) (fun m o q R hm hs2 hq hR=>?_) (fun a v h=>?_) hown v1.fresh.1
  ·rcases St.bO hs2 with⟨_,q1⟩|⟨q1,_⟩
   ·exact⟨rfl,fun e2=>hm (v1.inj m b _ _ q p R q1 hs' hq hp hR e2)⟩
   ·exact absurd q1 hm
  ·exact⟨rfl,fun e2=>v1.apart b _ p _ a v hs' hp e2 h rfl⟩
 have hst:(σ.set k (.row t' e' [])).set b (.row t e [pre++.vec e' k 0 0::post])=(σ.set b (.row t e [pre++.vec e' k 0 0::post])).set k (.row t' e' []):=set_comm _ _ _ (Ne.symm hbk)
 rw[hst] at i2
 obtain⟨f2,σ2,Φ2,e2,k2,j2,r2,s2⟩:=h k hk' _ w vs i2 (hr.mono v2.le)
 refine⟨f2,σ2,Φ2,e2,k2,j2,r2,.trans ?_ s2⟩
 refine⟨v2.le,rfl,rfl,rfl,Nat.le_refl _,Nat.le_refl _,fun _ _ _=>rfl,fun _ _ h=>.inl h,fun m o q=>?_,fun R hR=>?_⟩
 ·rcases St.bO q with⟨_,q1⟩|⟨rfl,_⟩
  ·rcases St.bO q1 with⟨_,q2⟩|⟨rfl,_⟩
   ·exact .inl ⟨_,q2⟩
   ·exact .inl ⟨_,hs⟩
  ·exact .inr hk
 ·obtain⟨m,o1,p1,t1,t2,t3⟩:=hR
  refine v2.ownd R ?_
  rcases St.bO t1 with⟨hm,q1⟩|⟨rfl,rfl⟩
  ·rcases St.bO q1 with⟨_,q2⟩|⟨rfl,_⟩
   ·exact⟨m,o1,p1,by rw[aH _ _ _ _ hm];exact q2,t2,t3⟩
   ·exact⟨m,_,p1,hs',t2,t3⟩
  ·exact⟨m,_,p1,aM _ _ _,t2,t3⟩
theorem aA.gh{P:Program}{g:FuncId}{ms:List MV}{σ:St}{Q:MV→St→Prop}(h:aA P g ms σ fun v σ'=>Gh ⟨1,[(0,v)],[]⟩ σ' fun f1 σ1=>∃v1,f1=⟨1,[(0,v1)],[]⟩∧Q v1 σ1):aA P g ms σ Q:=by
 refine⟨h.1,fun Φ w vs hi hr=>(h.2 Φ w vs hi hr).mono ?_⟩
 rintro e w' ⟨v,mv,σ',Φ',rfl,q1,q2,q3,g⟩
 obtain⟨f1,σ1,Φ1,-,⟨v1,rfl,hq⟩,i1,r1,s1⟩:=g Φ' w' #[v] q2 ⟨rfl,fun t=>by
  simp only[FR.get,cH]
  split
  ·rename_i ht;subst ht;exact q1
  ·exact .junk _⟩
 exact⟨v,v1,σ1,Φ1,rfl,by simpa[FR.get,cH] using r1.2 0,i1,q3.trans s1,hq⟩
def St.over(x y:St):St:=fun l=>match x l with|some o=>some o|Option.none=>y l
def St.minus(x y:St):St:=fun l=>match y l with|some _=>Option.none|Option.none=>x l
theorem gI{x y:St}{l:Nat}{o:bE}(h:(St.over x y) l=some o):x l=some o∨(x l=none∧y l=some o):=by
 simp only[St.over] at h
 split at h
 ·rename_i q hq;exact .inl (by rw[hq,h])
 ·rename_i hq;exact .inr ⟨hq,h⟩
theorem cU{x y:St}{l:Nat}{o:bE}(h:(St.minus x y) l=some o):y l=none∧x l=some o:=by
 simp only[St.minus] at h
 split at h
 ·cases h
 ·rename_i hq;exact⟨hq,h⟩
theorem aA.frame{P:Program}{g:FuncId}{ms:List MV}{σa σ:St}{Q:MV→St→Prop}(h:aA P g ms σa Q)(hle:σa.le σ) :
  aA P g ms σ fun v σ1=>∃σ',Q v σ'∧σ1=σ'.over (σ.minus σa)∧∀l o,σ' l=some o→σ l=none∨∃o',σa l=some o':=by
 refine⟨h.1,fun Φ w vs hi hr=>(h.2 Φ w vs (hi.less hle) hr).mono ?_⟩
 rintro e w' ⟨v,mv,σ',Φ',rfl,r1,i1,s1,hq⟩
 have rest:∀l o,(σ.minus σa) l=some o→∃p,Φ.obj l=some p∧Φ'.obj l=some p∧∀R,p.blk=some R→R<w.heap.size∧¬bA Φ σa R∧w'.heap[R]?=w.heap[R]?:=by
  intro l o hl
  obtain⟨q1,q2⟩:=cU hl
  obtain⟨p,hp,hR⟩:=(hi.own l o q2).place
  refine⟨p,hp,s1.le.obj _ _ hp,fun R hb=>?_⟩
  have hno:¬bA Φ σa R:=by
   rintro⟨l2,o2,p2,u1,u2,u3⟩
   have:=hi.inj l l2 o o2 p p2 R q2 (hle _ _ u1) hp u2 hb u3
   subst this
   rw[q1] at u1;cases u1
  exact⟨hR R hb,hno,s1.block R (hR R hb) hno⟩
 have hdis:∀l o,σ' l=some o→σ l=none∨∃o',σa l=some o':=by
  intro l o hl
  rcases s1.locs l o hl with q|q
  ·exact .inr q
  ·exact .inl (hi.eQ q)
 have hnew:∀l o p R,σ' l=some o→Φ'.obj l=some p→p.blk=some R→bA Φ σa R∨w.heap.size≤R:=fun l o p R a b c=>s1.ownd R ⟨l,o,p,a,b,c⟩
 refine⟨v,mv,σ'.over (σ.minus σa),Φ',rfl,r1,⟨?_,?_,i1.snap,?_,i1.fresh⟩,⟨s1.le,s1.os,s1.tape,s1.output,s1.drawn,s1.size,?_,?_,?_,?_⟩,σ',hq,rfl,hdis⟩
 ·intro l o hl
  rcases gI hl with q|⟨q1,q2⟩
  ·exact i1.own l o q
  ·obtain⟨p,hp,hp',hR⟩:=rest l o q2
   exact(hi.own l o (cU q2).2).mono s1.le fun p1 R h1 h2=>by
    rw[hp] at h1;cases h1
    exact(hR R h2).2.2
 ·intro l l' o o' p p' R hl hl' hp hp' hb hb'
  rcases gI hl with q|⟨q1,q2⟩<;>rcases gI hl' with q'|⟨q1',q2'⟩
  ·exact i1.inj l l' o o' p p' R q q' hp hp' hb hb'
  ·obtain⟨p2,u1,u2,u3⟩:=rest l' o' q2'
   rw[hp'] at u2;cases u2
   rcases hnew l o p R q hp hb with k|k
   ·exact absurd k (u3 R hb').2.1
   ·have:=(u3 R hb').1;omega
  ·obtain⟨p2,u1,u2,u3⟩:=rest l o q2
   rw[hp] at u2;cases u2
   rcases hnew l' o' p' R q' hp' hb' with k|k
   ·exact absurd k (u3 R hb).2.1
   ·have:=(u3 R hb).1;omega
  ·obtain⟨p2,u1,u2,u3⟩:=rest l o q2
   rw[hp] at u2;cases u2
   obtain⟨p3,v1,v2,v3⟩:=rest l' o' q2'
   rw[hp'] at v2;cases v2
   exact hi.inj l l' o o' p p' R (cU q2).2 (cU q2').2 u1 v1 hb hb'
 ·intro l o p R a u hl hp hb hu
  rcases gI hl with q|⟨q1,q2⟩
  ·exact i1.apart l o p R a u q hp hb hu
  ·obtain⟨p2,u1,u2,u3⟩:=rest l o q2
   rw[hp] at u2;cases u2
   intro e
   rcases s1.snapn a u hu with k|k|k
   ·exact hi.apart l o p R a u (cU q2).2 u1 hb k e
   ·have:=(u3 R hb).1;omega
   ·rw[e] at k;exact(u3 R hb).2.1 k
 ·exact fun k hk hno=>s1.block k hk fun q=>hno (q.less hle)
 ·intro a u hu
  rcases s1.snapn a u hu with k|k|k
  ·exact .inl k
  ·exact .inr (.inl k)
  ·exact .inr (.inr (k.less hle))
 ·intro l o hl
  rcases gI hl with q|⟨q1,q2⟩
  ·rcases s1.locs l o q with⟨o',k⟩|k
   ·exact .inl ⟨o',hle _ _ k⟩
   ·exact .inr k
  ·exact .inl ⟨o,(cU q2).2⟩
 ·rintro R ⟨l,o,p,hl,hp,hb⟩
  rcases gI hl with q|⟨q1,q2⟩
  ·rcases hnew l o p R q hp hb with k|k
   ·exact .inl (k.less hle)
   ·exact .inr k
  ·obtain⟨p2,u1,u2,u3⟩:=rest l o q2
   rw[hp] at u2;cases u2
   exact .inl ⟨l,o,p,(cU q2).2,u1,hb⟩
theorem aA.less{P:Program}{g:FuncId}{ms:List MV}{σ:St}{Q Q':MV→St→Prop}(h:aA P g ms σ Q')(hq:∀v σ',Q' v σ'→∃σ1,σ1.le σ'∧Q v σ1):aA P g ms σ Q:=by
 refine⟨h.1,fun Φ w vs hi hr=>(h.2 Φ w vs hi hr).mono ?_⟩
 rintro e w' ⟨v,mv,σ',Φ',rfl,r1,i1,s1,k⟩
 obtain⟨σ1,hle,hk⟩:=hq mv σ' k
 exact⟨v,mv,σ1,Φ',rfl,r1,i1.less hle,s1.trans (.less _ hle),hk⟩
theorem aA.bF{P:Program}{g:FuncId}{ms:List MV}{σ:St}{Q:MV→St→Prop}(h:aA P g ms σ fun v σ'=>∃σ1,σ1.le σ'∧Q v σ1):aA P g ms σ Q:=h.less fun _ _ k=>k
theorem gC(σ:St):σ.minus St.none=σ:=by funext l;simp[St.minus,St.none]
theorem aA.pure{P:Program}{g:FuncId}{ms:List MV}{σ:St}{q:MV→Prop}(h:aA P g ms St.none fun v _=>q v):aA P g ms σ fun v σ'=>q v∧σ'=σ:=by
 refine(h.frame (St.none_le σ)).less ?_
 rintro v σ1 ⟨σ',hq,rfl,hd⟩
 refine⟨σ,fun l o hl=>?_,hq,rfl⟩
 rw[gC]
 simp only[St.over]
 cases hs:σ' l with
 | none=>exact hl
 | some o' =>
  rcases hd l o' hs with k|⟨_,k⟩
  ·rw[hl] at k;cases k
  ·simp[St.none] at k
theorem aA.Ik{P:Program}{g:FuncId}{ms:List MV}{q:MV→Prop}(h:aA P g ms St.none fun v _=>q v):aA P g ms St.none fun v σ'=>q v∧σ'=St.none:=h.pure
theorem bB{P:Program}{g:FuncId}{ms:List MV}{σ:St}{r:MV}{k:MV→St→Prop}(h:aA P g ms St.none fun v _=>v=r)(hk:R (cD r σ k)):R (dN P g ms σ k):=by
 refine(aA.pure (σ:=σ) h).mono ?_
 rintro v σ' ⟨rfl,rfl⟩
 exact hk
theorem eT{P:Program}{g:FuncId}{ms:List MV}{σ:St}{q:MV→Prop}{k:MV→St→Prop}(h:aA P g ms St.none fun v _=>q v)(hk:∀r,q r→R (cD r σ k)):R (dN P g ms σ k):=by
 refine(aA.pure (σ:=σ) h).mono ?_
 rintro v σ' ⟨hq,rfl⟩
 exact hk v hq
inductive Flat:MV→Prop where
 | junk:Flat .junk
 | bool (b:Bool):Flat (.bool b)
 | int (k:IntKind) (n:Int):Flat (.int k n)
 | str (s:ByteArray):Flat (.str s)
 | nilp:Flat .nilp
 | aT:Flat .aT
 | lst0 (e:Nat):Flat (.lst e [] true)
 | nilm:Flat .nilm
 | nilfn:Flat .nilfn
 | nili:Flat .nili
 | agg {cs:List MV} (h:∀c,c∈cs→Flat c):Flat (.agg cs)
 | tup {cs:List MV} (h:∀c,c∈cs→Flat c):Flat (.tup cs)
theorem Flat.rel{Φ Φ':Phi}{m:MV}(h:Flat m):∀{v:Value},Rel Φ v m→Rel Φ' v m:=by
 induction h with
 | junk=>intro v r;exact .junk v
 | bool b=>intro v r;cases r;exact .bool b
 | int k n=>intro v r;cases r;exact .int k n
 | str s=>intro v r;cases r;exact .str s
 | nilp=>intro v r;cases r;exact .nilp
 | aT=>intro v r;cases r;exact .aT
 | nilm=>intro v r;cases r;exact .nilm
 | nilfn=>intro v r;cases r;exact .nilfn
 | nili=>intro v r;cases r;exact .nili
 | lst0 e =>
  intro v r
  cases r with
  | lstn=>exact .lstn e true
  | lst0 a e cap t ht hm=>exact .lst0 a e cap true ht hm
  | lst hl h0=>simp at hl;omega
 | agg h ih =>
  intro v r
  cases r with
  | agg h hc hr=>exact .agg h hc (fun i m hm=>ih m (List.mem_of_getElem? hm) (hr i m hm))
 | tup h ih =>
  intro v r
  cases r with
  | tup h hr=>exact .tup h (fun i m hm=>ih m (List.mem_of_getElem? hm) (hr i m hm))
theorem aA.PX{P:Program}{g:FuncId}{ms ms':List MV}{σ:St}{q:MV→Prop}(h:aA P g ms' St.none fun v _=>q v)(hf:∀r,q r→Flat r)(hl:ms.length=ms'.length)
 (hv:∀(i:Nat) (m m':MV),ms[i]?=some m→ms'[i]?=some m'→View σ m m'):aA P g ms σ fun v σ'=>q v∧σ'=σ:=by
 refine⟨h.1,fun Φ w vs hi hr=>?_⟩
 classical
 have hs:JH Φ (Φ.pO w (fun _=>True)) w σ:=Bm hi (St.le_refl σ) (fun _ _=>trivial)
 have hi':Inv (Φ.pO w (fun _=>True)) w St.none:=by
  refine⟨fun l o hl=>by simp[St.none] at hl,fun l l' o o' p p' R hl=>by simp[St.none] at hl,fun a v hv=>?_,fun l o p R a v hl=>by simp[St.none] at hl,hi.fresh.1,fun g i v q=>(tU _ _ _).snap _ _ (hi.fresh.2.1 g i v q),hi.fresh.2.2.mono (tU _ _ _).snap⟩
  rcases eS hv with q|⟨-,q⟩
  ·exact hi.snap a v q
  ·exact q
 have hr':hO (Φ.pO w (fun _=>True)) vs ms':=by
  refine⟨hr.1.trans hl,fun i m' hm'=>?_⟩
  have hlt:=(List.getElem?_eq_some_iff.1 hm').1
  obtain⟨m,hm⟩:∃m,ms[i]?=some m:=⟨_,List.getElem?_eq_getElem (by omega)⟩
  exact(hv i m m' hm hm').rel hi hs (hr.2 i m hm)
 refine(h.2 _ w vs hi' hr').mono ?_
 rintro e w' ⟨v,mv,σ',Φ',rfl,r1,i1,s1,hq⟩
 have hblk:∀k,k<w.heap.size→w'.heap[k]?=w.heap[k]?:=fun k hk=>s1.block k hk fun⟨l,o,p,a,_⟩=>by simp[St.none] at a
 have hown:∀l o,σ l=some o→dX Φ w' l o:=fun l o hl'=>by
  obtain⟨p,hp,hR⟩:=(hi.own l o hl').place
  exact(hi.own l o hl').mono (.refl Φ) fun p1 R h1 h2=>by
   rw[hp] at h1;cases h1
   exact hblk R (hR R h2)
 refine⟨v,mv,σ,Φ,rfl,(hf mv hq).rel r1,⟨hown,hi.inj,fun a u hu=>?_,hi.apart,hi.fresh⟩,⟨.refl Φ,s1.os,s1.tape,s1.output,s1.drawn,s1.size,fun k hk _=>hblk k hk,fun _ _ h=>.inl h,fun l o h=>.inl ⟨o,h⟩,fun _ h=>.inl h⟩,hq,rfl⟩
 have h1:=hi.snap a u hu
 have:=World.block_lt_of_cell? w a h1
 rw[World.eK (hblk _ this)]
 exact h1
theorem gY{P:Program}{g:FuncId}{ms:List MV}(ms':List MV){σ:St}{r:MV}{k:MV→St→Prop}(h:aA P g ms' St.none fun v _=>v=r)(hf:Flat r)(hl:ms.length=ms'.length)
 (hv:∀(i:Nat) (m m':MV),ms[i]?=some m→ms'[i]?=some m'→View σ m m')(hk:R (cD r σ k)):R (dN P g ms σ k):=by
 refine(aA.PX (σ:=σ) h (fun _ e=>e ▸ hf) hl hv).mono ?_
 rintro v σ' ⟨rfl,rfl⟩
 exact hk
theorem cR{P:Program}{g:FuncId}{ms:List MV}{σa σ:St}{Q k:MV→St→Prop}(h:aA P g ms σa Q)(hle:σa.le σ)
 (hk:∀v σ',Q v σ'→(∀l o,σ' l=some o→σ l=none∨∃o',σa l=some o')→R (cD v (σ'.over (σ.minus σa)) k)):R (dN P g ms σ k):=by
 refine(h.frame hle).mono ?_
 rintro v σ1 ⟨σ',hq,rfl,hd⟩
 exact hk v σ' hq hd
theorem vM{σ σa:St}(h:σa.le σ):σa.over (σ.minus σa)=σ:=by
 funext l
 simp only[St.over,St.minus]
 cases ha:σa l with
 | none=>rfl
 | some o=>exact(h l o ha).symm
theorem bS{P:Program}{g:FuncId}{ms:List MV}{σa σ:St}{r:MV}{k:MV→St→Prop}(h:aA P g ms σa fun v σ'=>v=r∧σ'=σa)(hle:σa.le σ)(hk:R (cD r σ k)):R (dN P g ms σ k):=by
 refine cR h hle ?_
 rintro v σ' ⟨rfl,rfl⟩ -
 rw[vM hle]
 exact hk
theorem cN(x y:St)(l:Nat)(o:bE):(x.set l o).over y=(x.over y).set l o:=by
 funext k
 simp only[St.over,St.set]
 by_cases h:k=l
 ·simp[h]
 ·simp[h]
theorem iE(y:St):St.none.over y=y:=rfl
theorem aA.seen{P:Program}{g:FuncId}{ms:List MV}{σ:St}{r:MV}(h:aA P g ms σ fun v σ'=>View σ' v r):aA P g ms σ fun v _=>v=r:=by
 refine aA.ghost (h.mono fun v σ' hv=>⟨r,St.none,?_,rfl⟩)
 exact bV.freeze σ' (St.le_refl _) (St.none_le _) (fun k o hk=>by simp[St.none] at hk) (fun p hp=>by
  simp only[List.mem_singleton] at hp
  subst hp
  simpa[cH] using hv)
theorem View.loose{σ:St}{e:Nat}{xs:List (List MV)}{t:Bool}:View σ (.lst e xs t) (.lst e xs false):=by
 cases t
 ·exact .same _
 ·exact .tight e xs
theorem View.two{σ:St}{a b a' b':MV}(h:View σ a a')(k:View σ b b'):View σ (.tup [a,b]) (.tup [a',b']):=by
 refine .tup rfl fun i m m' hm hm'=>?_
 match i with
 | 0=>simp only[List.getElem?_cons_zero,Option.some.injEq] at hm hm';subst hm;subst hm';exact h
 | 1=>simp only[List.getElem?_cons_succ,List.getElem?_cons_zero,Option.some.injEq] at hm hm';subst hm;subst hm';exact k
 | i+2=>simp at hm
theorem wT{σ:St}{K:Nat→Prop}(h:R (mA σ K)):R (mA σ K):=h
theorem wN{σ:St}{K:Nat→Prop}(h:∀l,σ l=none→R (K l)):R (mA σ K):=h
theorem wS{σ:St}{l k:Nat}{o:bE}{p:Prop}(h:l≠k→k≠l→σ l=none→p):(σ.set k o) l=none→p:=wQ h
theorem wI{c A B:Prop}(h1:c→R A)(h2:¬c→R B):R (mif c A B):=OS h1 h2
theorem wF{p:Prop}[Decidable p]{A B:Prop}(h1:p→R A)(h2:¬p→R B):R (iV (.bool (decide p)) A B):=H6 h1 h2
theorem wG{p:Prop}[Decidable p]{A B:Prop}(h1:p→R A)(h2:¬p→R B):R (bX (.bool (decide p)) true A B):=ER h1 h2
theorem wH{p:Prop}[Decidable p]{A B:Prop}(h1:¬p→R A)(h2:p→R B):R (bX (.bool (decide p)) false A B):=Cq h1 h2
theorem wL{α:Type}{β:Type}:(∀a b:List α,(a++b).length=a.length+b.length)∧(∀(a:List α) (i:Nat),(a.take i).length=min i a.length)∧(∀(a:List α) (i:Nat),(a.drop i).length=a.length - i) ∧
  (∀(x:α) (a:List α),(x::a).length=a.length+1)∧([]:List α).length=0∧(∀(g:α→β) (a:List α),(a.map g).length=a.length)∧(∀(a:List α) (i:Nat) (x:α),(a.set i x).length=a.length) ∧
  (∀(n:Nat) (x:α),(List.replicate n x).length=n) :=
 ⟨fun _ _=>List.length_append,fun _ _=>List.length_take,fun _ _=>List.length_drop,fun _ _=>rfl,rfl,fun _ _=>List.length_map _,fun _ _ _=>List.length_set,fun _ _=>List.length_replicate⟩
theorem ddL{p:Prop}(h:p:=by first|decide|assumption|omega|(simp only[wL];omega)):p:=h
theorem up{P:Program}{g:FuncId}{ms:List MV}{σ:St}{r:MV}{k:MV→St→Prop}(h:aA P g ms St.none fun v _=>v=r)(hk:R (cD r σ k)):R (dN P g ms σ k):=bB h hk
end

section
structure Eff where
 C:Prop
 kill:Option Nat
 upd:Option (Nat × bE)
 new:Option bE
 v:Nat→MV→Prop
abbrev GF:=List Nat × (List bE→Option Eff)
def Eff.app(e:Eff)(σ:St):St:=fun l=>if e.upd.map (·.1)=some l then e.upd.map (·.2) else if e.kill=some l then none else σ l
def Eff.out(e:Eff)(U:Nat→Prop)(σ:St)(v:MV)(U':Nat→Prop)(σ':St):Prop :=
 match e.new with
 | none=>e.v 0 v∧U'=U∧σ'=e.app σ
 | some o=>∃l,¬U l∧e.v l v∧U'=(fun x=>x=l∨U x)∧σ'=(e.app σ).set l o
def gs(U:Nat→Prop)(σ:St)(g:GF)(k:MV→(Nat→Prop)→St→Prop):Prop :=
 ∃os e,g.1.map σ=os.map some∧g.2 os=some e∧e.C∧(∀l,∃v,e.v l v)∧∀v U' σ',e.out U σ v U' σ'→k v U' σ'
def Wf(g:GF):Prop:=∀os e,os.length=g.1.length→g.2 os=some e→(∀l,e.kill=some l→l∈g.1)∧(∀p,e.upd=some p→p.1∈g.1)
def jQ(g:GF):Prop:=∀os e,os.length=g.1.length→g.2 os=some e→e.upd=none
def NoW(g:GF):Prop:=∀os e,os.length=g.1.length→g.2 os=some e→e.upd=none∧e.kill=none
def Dom(U:Nat→Prop)(σ:St):Prop:=∀l,σ l≠none→U l
def Fin(U:Nat→Prop):Prop:=∃n,∀l,n≤l→¬U l
theorem dM{e:Eff}(h:e.upd=none∧e.kill=none)(σ:St):e.app σ=σ:=by
 funext l;simp[Eff.app,h.1,h.2]
theorem jI{rd:List Nat}{σ:St}{os:List bE}(h:rd.map σ=os.map some):os.length=rd.length:=by
 have:=congrArg List.length h;simpa using this.symm
theorem jJ{rd:List Nat}{σ:St}{os:List bE}(h:rd.map σ=os.map some){l:Nat}(hl:l∈rd):σ l≠none:=by
 have:σ l∈rd.map σ:=List.mem_map_of_mem hl
 rw[h] at this
 obtain⟨o,_,ho⟩:=List.mem_map.1 this
 rw[←ho];simp
theorem map_inj{rd:List Nat}{σ σ':St}{os os':List bE}(h:rd.map σ=os.map some)(h':rd.map σ'=os'.map some)(he:∀l,l∈rd→σ l=σ' l):os=os':=by
 have:rd.map σ=rd.map σ':=List.map_congr_left he
 rw[h,h'] at this
 clear h h' he
 induction os generalizing os' with
 | nil=>cases os' with
  | nil=>rfl
  | cons a r=>simp at this
 | cons b r ih=>cases os' with
  | nil=>simp at this
  | cons a r' =>
   simp only[List.map_cons,List.cons.injEq,Option.some.injEq] at this
   rw[this.1,ih this.2]
theorem tQ{U:Nat→Prop}{σ:St}{g:GF}{k k':MV→(Nat→Prop)→St→Prop}(h:gs U σ g k)(hd:Dom U σ)(hf:Fin U)(hk:∀v U' σ',Dom U' σ'→Fin U'→(∀l,U l→U' l)→k v U' σ'→k' v U' σ')(wf:Wf g):gs U σ g k':=by
 obtain⟨os,e,h1,h2,h3,h4,h5⟩:=h
 refine⟨os,e,h1,h2,h3,h4,fun v U' σ' ho=>?_⟩
 have hw:=wf os e (jI h1) h2
 have hdom:Dom U (e.app σ):=fun l hl=>by
  simp only[Eff.app] at hl
  split at hl
  ·rename_i hu
   cases hup:e.upd with
   | none=>rw[hup] at hu;cases hu
   | some p =>
    rw[hup] at hu
    simp only[Option.map_some,Option.some.injEq] at hu
    have:=hw.2 p hup
    rw[hu] at this
    exact hd l (jJ h1 this)
  ·split at hl
   ·exact absurd rfl hl
   ·exact hd l hl
 refine hk v U' σ' ?_ ?_ ?_ (h5 v U' σ' ho)
 all_goals
  unfold Eff.out at ho
  split at ho
 ·obtain⟨-,rfl,rfl⟩:=ho;exact hdom
 ·obtain⟨l,-,-,rfl,rfl⟩:=ho
  intro k hk
  simp only[St.set] at hk
  split at hk
  ·rename_i e;exact .inl e
  ·exact .inr (hdom k hk)
 ·obtain⟨-,rfl,rfl⟩:=ho;exact hf
 ·obtain⟨l,-,-,rfl,rfl⟩:=ho
  obtain⟨n,hn⟩:=hf
  exact⟨max n (l+1),fun k hk q=>q.elim (fun e=>by omega) (hn k (by omega))⟩
 ·obtain⟨-,rfl,rfl⟩:=ho;exact fun _ h=>h
 ·obtain⟨l,-,-,rfl,rfl⟩:=ho;exact fun _ h=>.inr h
theorem MR{U U':Nat→Prop}{σ:St}{g:GF}{k:MV→(Nat→Prop)→St→Prop}(h:gs U σ g k)(hu:∀l,U l→U' l)(hk:∀v V V' σ,(∀l,V l→V' l)→k v V σ→k v V' σ):gs U' σ g k:=by
 obtain⟨os,e,h1,h2,h3,h4,h5⟩:=h
 refine⟨os,e,h1,h2,h3,h4,fun v V σ' ho=>?_⟩
 unfold Eff.out at ho h5
 split at ho
 ·rename_i hn
  obtain⟨a,rfl,rfl⟩:=ho
  refine hk v U _ _ hu (h5 v U _ ?_)
  rw[hn];exact⟨a,rfl,rfl⟩
 ·rename_i o hn
  obtain⟨l,a,b,rfl,rfl⟩:=ho
  refine hk v (fun x=>x=l∨U x) _ _ (fun x hx=>hx.imp id (hu x)) (h5 v _ _ ?_)
  rw[hn];exact⟨l,fun q=>a (hu l q),b,rfl,rfl⟩
theorem Lr{e:Eff}{U:Nat→Prop}{σ:St}(hf:Fin U)(hv:∀l,∃v,e.v l v)(rd:List Nat):∃v U' σ',e.out U σ v U' σ'∧∀l,l∈rd→σ' l=(e.app σ) l:=by
 unfold Eff.out
 cases e.new with
 | none=>obtain⟨v,hv⟩:=hv 0;exact⟨v,U,e.app σ,⟨hv,rfl,rfl⟩,fun _ _=>rfl⟩
 | some o =>
  obtain⟨n,hn⟩:=hf
  have key:∃m,∀l,l∈rd→l<m:=by
   clear hv
   induction rd with
   | nil=>exact⟨0,by simp⟩
   | cons a r ih =>
    obtain⟨m,hm⟩:=ih
    refine⟨max m (a+1),fun l hl=>?_⟩
    rcases List.mem_cons.1 hl with q|q
    ·omega
    ·have:=hm l q;omega
  obtain⟨m,hm⟩:=key
  obtain⟨v,hv⟩:=hv (max n m)
  refine⟨v,_,_,⟨max n m,hn _ (by omega),hv,rfl,rfl⟩,fun l hl=>?_⟩
  have:=hm l hl
  exact aH _ _ _ _ (by omega)
theorem tK{e:Eff}{σ:St}{l:Nat}{o:bE}(hk:e.kill≠some l)(hu:∀p,e.upd=some p→p.1≠l):e.app (σ.set l o)=(e.app σ).set l o:=by
 funext k
 simp only[Eff.app,St.set]
 by_cases h:k=l
 ·subst h
  rw[if_neg,if_neg hk,if_pos rfl]
  ·simp
  ·intro q
   cases hup:e.upd with
   | none=>rw[hup] at q;cases q
   | some p=>rw[hup] at q;simp at q;exact hu p hup q
 ·simp only[if_neg h]
theorem MU{U:Nat→Prop}{σ:St}{gx gy:GF}{K:MV→MV→(Nat→Prop)→St→Prop}(hd:Dom U σ)(hf:Fin U)(wx:Wf gx)(wy:Wf gy)
 (hc:((gy.1=[]∨jQ gx)∧(gx.1=[]∨NoW gy)∧(NoW gx∨NoW gy))∨∀l,l∈gx.1→l∉gy.1)
 (hK:∀v u V V' σ,(∀l,V l→V' l)→K v u V σ→K v u V' σ)
 (h:gs U σ gx fun v U1 σ1=>gs U1 σ1 gy fun u U2 σ2=>K v u U2 σ2) :
  gs U σ gy fun u U1 σ1=>∀U1',(∀l,U1 l→U1' l)→gs U1' σ1 gx fun v U2 σ2=>K v u U2 σ2:=by
 obtain⟨ox,ex,x1,x2,x3,x4,x5⟩:=h
 have wx':=wx ox ex (jI x1) x2
 -- what y reads is there already
 have agree:∀v U1 σ1,ex.out U σ v U1 σ1→∀oy:List bE,gy.1.map σ1=oy.map some→(∀l,l∈gy.1→σ1 l=(ex.app σ) l)→∀l,l∈gy.1→σ1 l=σ l:=by
  intro v U1 σ1 ho oy hoy hsame l hl
  rw[hsame l hl]
  rcases hc.imp_left (·.1) with(c|c)|c
  ·rw[c] at hl;cases hl
  ·have hu:=c ox ex (jI x1) x2
   have hne:=jJ hoy hl
   rw[hsame l hl] at hne
   simp only[Eff.app,hu,Option.map_none] at hne ⊢
   split at hne
   ·rename_i q;cases q
   ·split at hne
    ·exact absurd rfl hne
    ·rename_i q1 q2;rw[if_neg q1,if_neg q2]
  ·simp only[Eff.app]
   rw[if_neg,if_neg]
   ·intro e;exact c l (wx'.1 l e) hl
   ·intro e
    obtain⟨p,hp,he⟩:=Option.map_eq_some_iff.1 e
    exact c l (he ▸ wx'.2 p hp) hl
 obtain⟨v0,V0,σ0,out0,same0⟩:=Lr (σ:=σ) hf x4 gy.1
 obtain⟨oy,ey,y1,y2,y3,y4,y5⟩:=x5 v0 V0 σ0 out0
 have ag0:=agree v0 V0 σ0 out0 oy y1 same0
 have y1':gy.1.map σ=oy.map some:=by rw[←y1];exact(List.map_congr_left ag0).symm
 have wy':=wy oy ey (jI y1) y2
 refine⟨oy,ey,y1',y2,y3,y4,fun u U1 σ1 hoy U1' hU1=>?_⟩
 -- what x reads is there still
 have hx1:gx.1.map σ1=ox.map some:=by
  rw[←x1]
  refine List.map_congr_left fun l hl=>?_
  rcases hc.imp_left (·.2.1) with(c|c)|c
  ·rw[c] at hl;cases hl
  ·have hw:=c oy ey (jI y1) y2
   unfold Eff.out at hoy
   split at hoy
   ·obtain⟨-,-,rfl⟩:=hoy;rw[dM hw]
   ·obtain⟨k,q1,q2,q3,rfl⟩:=hoy
    rw[dM hw]
    refine aH _ _ _ _ (fun e=>q1 ?_)
    subst e
    exact hd l (jJ x1 hl)
  ·have hap:(ey.app σ) l=σ l:=by
    simp only[Eff.app]
    rw[if_neg,if_neg]
    ·intro e;exact c l hl (wy'.1 l e)
    ·intro e
     obtain⟨p,hp,he⟩:=Option.map_eq_some_iff.1 e
     exact c l hl (he ▸ wy'.2 p hp)
   unfold Eff.out at hoy
   split at hoy
   ·obtain⟨-,-,rfl⟩:=hoy;exact hap
   ·obtain⟨k,q1,q2,q3,rfl⟩:=hoy
    rw[←hap]
    refine aH _ _ _ _ (fun e=>q1 ?_)
    subst e
    exact hd l (jJ x1 hl)
 refine⟨ox,ex,hx1,x2,x3,x4,fun v U2 σ2 hox=>?_⟩
 -- the two in their old order,at the same places
 have noty:∀l,¬U l→ey.kill≠some l∧∀p,ey.upd=some p→p.1≠l:=fun l hl =>
  ⟨fun e=>hl (hd l (jJ y1' (wy'.1 l e))),fun p hp e=>hl (hd l (e ▸ jJ y1' (wy'.2 p hp)))⟩
 have notx:∀l,¬U l→ex.kill≠some l∧∀p,ex.upd=some p→p.1≠l:=fun l hl =>
  ⟨fun e=>hl (hd l (jJ x1 (wx'.1 l e))),fun p hp e=>hl (hd l (e ▸ jJ x1 (wx'.2 p hp)))⟩
 have comm:ex.app (ey.app σ)=ey.app (ex.app σ):=by
  rcases hc.imp_left (·.2.2) with(c|c)|c
  ·rw[dM (c ox ex (jI x1) x2),dM (c ox ex (jI x1) x2)]
  ·rw[dM (c oy ey (jI y1) y2),dM (c oy ey (jI y1) y2)]
  ·funext l
   by_cases hx:l∈gx.1
   ·have hy:=c l hx
    have n1:ey.upd.map (·.1)≠some l:=fun e=>by
     obtain⟨p,hp,he⟩:=Option.map_eq_some_iff.1 e
     exact hy (he ▸ wy'.2 p hp)
    have n2:ey.kill≠some l:=fun e=>hy (wy'.1 l e)
    simp only[Eff.app,if_neg n1,if_neg n2]
   ·have n1:ex.upd.map (·.1)≠some l:=fun e=>by
     obtain⟨p,hp,he⟩:=Option.map_eq_some_iff.1 e
     exact hx (he ▸ wx'.2 p hp)
    have n2:ex.kill≠some l:=fun e=>hx (wx'.1 l e)
    simp only[Eff.app,if_neg n1,if_neg n2]
 have finish:∀V σ',ex.out U σ v V σ'→(∀l,l∈gy.1→σ' l=(ex.app σ) l)→∀W σ'',ey.out V σ' u W σ''→K v u W σ'':=by
  intro V σ' ho hsame W σ'' hoy'
  obtain⟨oy2,ey2,z1,z2,z3,z4,z5⟩:=x5 v V σ' ho
  have ag:=agree v V σ' ho oy2 z1 hsame
  have:oy=oy2:=map_inj y1' z1 (fun l hl=>(ag l hl).symm)
  subst this
  rw[y2] at z2;cases z2
  exact z5 u W σ'' hoy'
 have hmem:∀l,¬U l→l∉gy.1:=fun l hl q=>hl (hd l (jJ y1' q))
 unfold Eff.out at hox hoy
 cases hnx:ex.new with
 | none =>
  rw[hnx] at hox
  obtain⟨a1,rfl,rfl⟩:=hox
  have hout:ex.out U σ v U (ex.app σ):=by unfold Eff.out;rw[hnx];exact⟨a1,rfl,rfl⟩
  cases hny:ey.new with
  | none =>
   rw[hny] at hoy
   obtain⟨b1,rfl,rfl⟩:=hoy
   refine hK v u U1 U2 _ hU1 (finish _ _ hout (fun _ _=>rfl) _ _ ?_)
   unfold Eff.out;rw[hny];exact⟨b1,rfl,comm⟩
  | some o =>
   rw[hny] at hoy
   obtain⟨l,b0,b1,rfl,rfl⟩:=hoy
   refine hK v u _ U2 _ hU1 (finish _ _ hout (fun _ _=>rfl) _ _ ?_)
   unfold Eff.out;rw[hny]
   refine⟨l,b0,b1,rfl,?_⟩
   rw[tK (notx l b0).1 (notx l b0).2,comm]
 | some p =>
  rw[hnx] at hox
  obtain⟨k,a0,a1,rfl,rfl⟩:=hox
  have hout:∀W:Nat→Prop,(∀l,U l→W l)→¬W k→ex.out U σ v (fun x=>x=k∨U x) ((ex.app σ).set k p):=fun W hW hk=>by
   unfold Eff.out;rw[hnx];exact⟨k,fun q=>hk (hW k q),a1,rfl,rfl⟩
  cases hny:ey.new with
  | none =>
   rw[hny] at hoy
   obtain⟨b1,rfl,rfl⟩:=hoy
   have hk:¬U1 k:=fun q=>a0 (hU1 k q)
   refine hK v u (fun x=>x=k∨U1 x) _ _ (fun l q=>q.imp id (hU1 l)) (finish _ _ (hout U1' hU1 a0) (fun l hl=>aH _ _ _ _ (fun e=>hmem k hk (e ▸ hl))) _ _ ?_)
   unfold Eff.out;rw[hny]
   refine⟨b1,rfl,?_⟩
   rw[comm,tK (noty k hk).1 (noty k hk).2]
  | some o =>
   rw[hny] at hoy
   obtain⟨l,b0,b1,rfl,rfl⟩:=hoy
   have hk:¬U k:=fun q=>a0 (hU1 k (.inr q))
   have hkl:k≠l:=fun e=>a0 (hU1 k (.inl e))
   refine hK v u (fun x=>x=l∨(x=k∨U x)) _ _ (fun x q=>?_) (finish _ _ (hout U1' (fun x q=>hU1 x (.inr q)) a0) (fun x hx=>aH _ _ _ _ (fun e=>hmem k hk (e ▸ hx))) _ _ ?_)
   ·rcases q with q|q|q
    ·exact .inr (hU1 x (.inl q))
    ·exact .inl q
    ·exact .inr (hU1 x (.inr q))
   ·unfold Eff.out;rw[hny]
    refine⟨l,fun q=>q.elim (fun e=>hkl e.symm) b0,b1,rfl,?_⟩
    rw[tK (notx l b0).1 (notx l b0).2,comm,tK (noty k hk).1 (noty k hk).2,set_comm _ _ _ (Ne.symm hkl)]
end

section
def St.ofList:List Nat→List bE→St
 | l::ls,o::os=>(St.ofList ls os).set l o
 | _,_=>St.none
structure Fact where
 rd:List Nat
 q:MV→Prop
 new:Option (bE × (Nat→MV))
abbrev bP:=FuncId→List MV→Option Fact
def cA:GF:=([],fun _=>none)
def eH(pv:PV):GF:=([],fun _=>pv.map fun x=>⟨x.1,none,none,none,fun _ u=>u=x.2⟩)
def fY(C:Prop)(o:bE)(v:Nat→MV):GF:=([],fun _=>some ⟨C,none,none,some o,fun l u=>u=v l⟩)
def j7:MV→List Nat
 | .vec _ l _ _=>[l]
 | _=>[]
def Dr(os:List bE):St:=fun _=>os.head?
def mM(P:Program)(t:TypeId):MV→GF
 | .ptr l i o=>([l],fun os=>match os with
  | [.row _ _ xs]=>some ⟨(td P t).ok=true∧i<xs.length∧o+(td P t).size≤(xs.getD i []).length∧0<(td P t).size,none,none,none,fun _ u=>u=dH (td P t) (xs.getD i []) o⟩
  | _=>none)
 | .cptr cs=>eH (some ((td P t).ok=true∧(td P t).size≤cs.length∧0<(td P t).size,dH (td P t) cs 0))
 | _=>cA
def lT(P:Program)(t:TypeId)(x y:MV):GF :=
 match x with
 | .ptr l i o=>([l],fun os=>match os with
  | [.row tt e xs]=>some ⟨(td P t).ok=true∧i<xs.length∧y.cells.all MV.aP=true∧y.cells.length=(td P t).size∧o+y.cells.length≤(xs.getD i []).length,none,some (l,.row tt e (xs.set i (laid (xs.getD i []) o y.cells))),none,fun _ u=>u=.junk⟩
  | _=>none)
 | _=>cA
def kI(P:Program)(t xt:TypeId)(s x:MV):GF :=
 match (td P t).k with
 | .slice el=>match s with
  | .aT=>(j7 x,fun os=>match gS (Dr os) (td P el).size x with
   | some ys=>some ⟨(td P xt).k.fB=true∧(td P el).zok=true∧Fits ys.length (td P el).bytes,none,none,some (.row el (td P el).size ys),fun l u=>u=.vec (td P el).size l 0 ys.length⟩
   | none=>none)
  | .lst e xs true=>(j7 x,fun os=>match gS (Dr os) (td P el).size x with
   | some ys=>some ⟨(td P xt).k.fB=true∧(td P el).zok=true∧e=(td P el).size∧(xs=[]∨0<ys.length)∧Fits (xs.length+ys.length) (td P el).bytes,none,none,some (.row el (td P el).size (xs++ys)),fun l u=>u=.vec (td P el).size l 0 (xs.length+ys.length)⟩
   | none=>none)
  | .vec e l lo n=>(l::j7 x,fun os=>match os with
   | .row tt e' xs::os=>match gS (Dr os) (td P el).size x with
    | some ys=>some ⟨(td P xt).k.fB=true∧(td P el).zok=true∧e=(td P el).size∧e'=(td P el).size∧tt=el∧lo=0∧lo+n≤xs.length∧Fits (n+ys.length) (td P el).bytes,some l,none,some (.row el (td P el).size (eU xs lo n ys)),fun l' u=>u=.vec (td P el).size l' 0 (n+ys.length)⟩
    | none=>none
   | _=>none)
  | _=>cA
 | _=>cA
def dP(P:Program)(ρ:Operand→MV)(t:TypeId)(len:Nat)(parts:Array (Nat × Operand)):GF :=
 match (td P t).k with
 | .slice el=>fY ((td P el).zok=true∧parts.toList.map (·.1)=List.range len∧(parts.toList.all fun p=>(ρ p.2).cells.all MV.aP&&(ρ p.2).cells.length==(td P el).size)=true∧len * (td P el).size≤16777216∧len≤16777216)
   (.row el (td P el).size (parts.toList.map fun p=>(ρ p.2).cells)) (fun l=>.vec (td P el).size l 0 len)
 | _=>cA
def eZ(P:Program)(t:TypeId)(x y:MV):GF :=
 match (td P t).k,x,y with
 | .slice el,.int .i64 n,.int .i64 c=>fY ((td P el).zok=true∧0≤n∧n≤c∧Fits c.toNat (td P el).bytes) (.row el (td P el).size (List.replicate n.toNat (td P el).zero)) (fun l=>.vec (td P el).size l 0 n.toNat)
 | _,_,_=>cA
def gP(P:Program)(s d:TypeId)(x:MV):GF :=
 match (td P s).k,(td P d).k,x with
 | .str,.slice el,.str b=>fY ((td P el).k=.int .u8∧b.size≤140737488355328) (.row el 1 (b.toList.map fun c=>[.int .u8 (c.toNat:Int)])) (fun l=>.vec 1 l 0 b.size)
 | .slice el,.str,.str _=>cA
 | .slice el,.str,x=>(j7 x,fun os=>match gS (Dr os) 1 x with
  | some ys=>some ⟨(td P el).k=.int .u8∧ys.all isByte=true,none,none,none,fun _ u=>u=.str (bytesOf ys)⟩
  | none=>none)
 | _,_,x=>eH (qH P s d x)
def gH(P:Program)(C:bP)(g:FuncId)(ms:List MV):GF :=
 match C g ms with
 | some ⟨rd,q,none⟩=>(rd,fun os=>some ⟨aA P g ms (St.ofList rd os) (fun v σ'=>q v∧σ'=St.ofList rd os),none,none,none,fun _ u=>q u⟩)
 | some ⟨[],_,some (o,u)⟩=>fY (aA P g ms St.none fun v σ'=>∃l,v=u l∧σ'=St.none.set l o) o u
 | some ⟨[l],_,some (o',u)⟩=>([l],fun os=>match os with
  | [o]=>some ⟨aA P g ms (St.none.set l o) (fun v σ'=>v=u l∧σ'=St.none.set l o'),none,some (l,o'),none,fun _ w=>w=u l⟩
  | _=>none)
 | _=>cA
def jF(P:Program)(t:TypeId)(m x:MV)(ok:Bool):GF :=
 match (td P t).k,m,x with
 | .map kt et,.mapv l,.int kd n=>([l],fun os=>match os with
  | [.mp es]=>some ⟨(td P kt).k=.int kd∧(td P et).zok=true∧(es.all fun p=>isK kd p.1)=true,none,none,none,fun _ u=>u=if ok=true then .tup [(cJ n es).getD (sG (td P et)),.bool (cJ n es).isSome] else(cJ n es).getD (sG (td P et))⟩
  | _=>none)
 | _,_,_=>cA
def lR(P:Program)(t:TypeId)(m x y:MV):GF :=
 match (td P t).k,m,x with
 | .map kt _,.mapv l,.int kd n=>([l],fun os=>match os with
  | [.mp es]=>some ⟨(td P kt).k=.int kd∧(es.all fun p=>isK kd p.1)=true,none,some (l,.mp (dJ kd n y es)),none,fun _ u=>u=.junk⟩
  | _=>none)
 | _,_,_=>cA
def Pl(C:bP):Prop:=∀g ms rd q x,C g ms=some ⟨rd,q,some x⟩→rd=[]
def bP.pl(C:bP):bP:=fun g ms=>(C g ms).map fun F=>match F with
 | ⟨rd,q,none⟩=>⟨rd,q,none⟩
 | ⟨_,q,some x⟩=>⟨[],q,some x⟩
theorem bP.Og(C:bP):Pl C.pl:=by
 intro g ms rd q x h
 unfold bP.pl at h
 cases hC:C g ms with
 | none=>rw[hC] at h;cases h
 | some F =>
  rw[hC] at h
  obtain⟨rd',q',n⟩:=F
  cases n with
  | none=>simp at h
  | some y=>simp at h;exact h.1.symm ▸ rfl
inductive gM where
 | no
 | all
 | these (L:List FuncId)
def gM.stays:gM→Operand→Bool
 | .no,_=>true
 | .these L,.func g=>!L.contains g
 | _,_=>false
def gM.may:gM→FuncId→Prop
 | .no,_=>False
 | .all,_=>True
 | .these L,g=>g∈L
def PlU(u:gM)(C:bP):Prop:=∀g ms rd q x,C g ms=some ⟨rd,q,some x⟩→rd=[]∨u.may g
theorem Pl.u{C:bP}(h:Pl C){u:gM}:PlU u C:=fun g ms rd q x e=>.inl (h g ms rd q x e)
def gop(P:Program)(C:bP)(f:FR):Op→GF
 | .alloc t=>fY ((td P t).zok=true) (.row t (td P t).size [(td P t).zero]) (fun l=>.ptr l 0 0)
 | .box t x=>fY ((aK f x).cells.all MV.aP=true) (.row t (aK f x).cells.length [(aK f x).cells]) (fun l=>.ptr l 0 0)
 | .load t x=>mM P t (aK f x)
 | .store t x y=>lT P t (aK f x) (aK f y)
 | .lookup t m x ok=>jF P t (aK f m) (aK f x) ok
 | .mapUpdate t m x y=>lR P t (aK f m) (aK f x) (aK f y)
 | .buildSlice t len parts=>dP P (aK f) t len parts
 | .makeSlice t x y=>eZ P t (aK f x) (aK f y)
 | .convert s d x=>gP P s d (aK f x)
 | .call ⟨.builtin .append,args,ts⟩=>match args.toList,ts.toList with
  | [s,x],[t,xt]=>kI P t xt (aK f s) (aK f x)
  | _,_=>cA
 | .call ⟨.builtin b,args,ts⟩=>if ts.toList.length=args.toList.length then eH (dS P b ts.toList.toArray (args.toList.map (aK f))) else cA
 | .call ⟨.value x,args,ts⟩=>match aK f x with
  | .fn (.func g) ms ns=>gH P C g (ms++args.toList.map (aK f)++ns)
  | _=>cA
 | .call ⟨.invoke _ _,_,_⟩=>cA
 | .defer _=>cA
 | op=>eH (qop P f op)
theorem cT(pv:PV):Wf (eH pv)∧NoW (eH pv)∧jQ (eH pv)∧(eH pv).1=[]:=by
 have key:∀os e,(eH pv).2 os=some e→e.upd=none∧e.kill=none:=fun os e h=>by
  simp only[eH,Option.map_eq_some_iff] at h
  obtain⟨x,-,rfl⟩:=h
  exact⟨rfl,rfl⟩
 exact⟨fun os e _ h=>by simp[key os e h],fun os e _ h=>key os e h,fun os e _ h=>(key os e h).1,rfl⟩
theorem dV(C:Prop)(o:bE)(v:Nat→MV):Wf (fY C o v)∧NoW (fY C o v)∧jQ (fY C o v)∧(fY C o v).1=[]:=by
 have key:∀os e,(fY C o v).2 os=some e→e.upd=none∧e.kill=none:=fun os e h=>by
  simp only[fY,Option.some.injEq] at h
  subst h;exact⟨rfl,rfl⟩
 exact⟨fun os e _ h=>by simp[key os e h],fun os e _ h=>key os e h,fun os e _ h=>(key os e h).1,rfl⟩
theorem bH:Wf cA∧NoW cA∧jQ cA∧cA.1=[]:=⟨fun os e _ h=>by simp[cA] at h,fun os e _ h=>by simp[cA] at h,fun os e _ h=>by simp[cA] at h,rfl⟩
def rd0:Op→Bool
 | .load ..|.store ..|.lookup ..|.mapUpdate ..|.convert ..|.call ⟨.builtin .append,_,_⟩|.call ⟨.value _,_,_⟩=>false
 | _=>true
def vJ(u:gM):Op→Bool
 | .store ..|.mapUpdate ..=>false
 | .call ⟨.value x,_,_⟩=>u.stays x
 | _=>true
def noW(u:gM):Op→Bool
 | .store ..|.mapUpdate ..|.call ⟨.builtin .append,_,_⟩=>false
 | .call ⟨.value x,_,_⟩=>u.stays x
 | _=>true
theorem Bu(P:Program)(t:TypeId)(x:MV):Wf (mM P t x)∧NoW (mM P t x)∧jQ (mM P t x):=by
 unfold mM
 split
 ·have key:∀(os:List bE) (e:Eff) (l i o:Nat),(match os with
   | [.row _ _ xs]=>some (⟨(td P t).ok=true∧i<xs.length∧o+(td P t).size≤(xs.getD i []).length∧0<(td P t).size,none,none,none,fun _ u=>u=dH (td P t) (xs.getD i []) o⟩:Eff)
   | _=>none)=some e→e.upd=none∧e.kill=none:=by
   intro os e l i o h
   split at h
   ·cases h;exact⟨rfl,rfl⟩
   ·cases h
  exact⟨fun os e _ h=>by simp[key os e 0 _ _ h],fun os e _ h=>key os e 0 _ _ h,fun os e _ h=>(key os e 0 _ _ h).1⟩
 ·exact⟨(cT _).1,(cT _).2.1,(cT _).2.2.1⟩
 ·exact⟨bH.1,bH.2.1,bH.2.2.1⟩
theorem Mo(P:Program)(t:TypeId)(x y:MV):Wf (lT P t x y):=by
 unfold lT
 split
 ·intro os e _ h
  simp only at h
  split at h
  ·cases h;simp
  ·cases h
 ·exact bH.1
theorem z8(P:Program)(t xt:TypeId)(s x:MV):Wf (kI P t xt s x)∧jQ (kI P t xt s x):=by
 unfold kI
 split
 ·split
  ·refine⟨fun os e _ h=>?_,fun os e _ h=>?_⟩ <;>
   ·simp only at h
    split at h
    ·cases h;simp
    ·cases h
  ·refine⟨fun os e _ h=>?_,fun os e _ h=>?_⟩ <;>
   ·simp only at h
    split at h
    ·cases h;simp
    ·cases h
  ·refine⟨fun os e _ h=>?_,fun os e _ h=>?_⟩ <;>
   ·simp only at h
    split at h
    ·split at h
     ·cases h;simp
     ·cases h
    ·cases h
  ·exact⟨bH.1,bH.2.2.1⟩
 ·exact⟨bH.1,bH.2.2.1⟩
theorem pS(P:Program)(s d:TypeId)(x:MV):Wf (gP P s d x)∧NoW (gP P s d x)∧jQ (gP P s d x):=by
 unfold gP
 split
 ·exact⟨(dV _ _ _).1,(dV _ _ _).2.1,(dV _ _ _).2.2.1⟩
 ·exact⟨bH.1,bH.2.1,bH.2.2.1⟩
 ·refine⟨fun os e _ h=>?_,fun os e _ h=>?_,fun os e _ h=>?_⟩ <;>
  ·simp only at h
   split at h
   ·cases h;simp
   ·cases h
 ·exact⟨(cT _).1,(cT _).2.1,(cT _).2.2.1⟩
theorem Bt(P:Program)(C:bP)(g:FuncId)(ms:List MV):Wf (gH P C g ms)∧((∀rd q x,C g ms=some ⟨rd,q,some x⟩→rd=[])→NoW (gH P C g ms)∧jQ (gH P C g ms)):=by
 unfold gH
 split
 ·refine⟨fun os e _ h=>?_,fun _=>⟨fun os e _ h=>?_,fun os e _ h=>?_⟩⟩ <;>
  ·simp only[Option.some.injEq] at h
   subst h;simp
 ·exact⟨(dV _ _ _).1,fun _=>⟨(dV _ _ _).2.1,(dV _ _ _).2.2.1⟩⟩
 ·rename_i l q o' u hC
  refine⟨fun os e _ h=>?_,fun hp=>?_⟩
  ·simp only at h
   split at h
   ·cases h;simp
   ·cases h
  ·have:=hp _ _ _ hC;cases this
 ·exact⟨bH.1,fun _=>⟨bH.2.1,bH.2.2.1⟩⟩
theorem iO(P:Program)(ρ:Operand→MV)(t:TypeId)(len:Nat)(parts:Array (Nat × Operand)):Wf (dP P ρ t len parts)∧NoW (dP P ρ t len parts)∧jQ (dP P ρ t len parts)∧(dP P ρ t len parts).1=[]:=by
 unfold dP
 split
 ·exact dV _ _ _
 ·exact bH
theorem jN(P:Program)(t:TypeId)(x y:MV):Wf (eZ P t x y)∧NoW (eZ P t x y)∧jQ (eZ P t x y)∧(eZ P t x y).1=[]:=by
 unfold eZ
 split
 ·exact dV _ _ _
 ·exact bH
theorem sF(P:Program)(t:TypeId)(m x:MV)(ok:Bool):Wf (jF P t m x ok)∧NoW (jF P t m x ok)∧jQ (jF P t m x ok):=by
 unfold jF
 split
 ·refine⟨fun os e _ h=>?_,fun os e _ h=>?_,fun os e _ h=>?_⟩ <;>
  ·simp only at h
   split at h
   ·cases h;simp
   ·cases h
 ·exact⟨bH.1,bH.2.1,bH.2.2.1⟩
theorem JA(P:Program)(t:TypeId)(m x y:MV):Wf (lR P t m x y):=by
 unfold lR
 split
 ·intro os e _ h
  simp only at h
  split at h
  ·cases h;simp
  ·cases h
 ·exact bH.1
theorem FX(P:Program)(C:bP){u:gM}(hu:PlU u C)(f:FR)(op:Op):Wf (gop P C f op)∧(vJ u op=true→jQ (gop P C f op))∧(noW u op=true→NoW (gop P C f op))∧(rd0 op=true→(gop P C f op).1=[]):=by
 cases op
 case load t x=>exact⟨(Bu _ _ _).1,fun _=>(Bu _ _ _).2.2,fun _=>(Bu _ _ _).2.1,fun h=>by simp[rd0] at h⟩
 case store t x y=>exact⟨Mo _ _ _ _,fun h=>by simp[vJ] at h,fun h=>by simp[noW] at h,fun h=>by simp[rd0] at h⟩
 case convert s d x=>exact⟨(pS _ _ _ _).1,fun _=>(pS _ _ _ _).2.2,fun _=>(pS _ _ _ _).2.1,fun h=>by simp[rd0] at h⟩
 case lookup t m x ok=>exact⟨(sF _ _ _ _ _).1,fun _=>(sF _ _ _ _ _).2.2,fun _=>(sF _ _ _ _ _).2.1,fun h=>by simp[rd0] at h⟩
 case mapUpdate t m x y=>exact⟨JA _ _ _ _ _,fun h=>by simp[vJ] at h,fun h=>by simp[noW] at h,fun h=>by simp[rd0] at h⟩
 case alloc t=>exact⟨(dV _ _ _).1,fun _=>(dV _ _ _).2.2.1,fun _=>(dV _ _ _).2.1,fun _=>rfl⟩
 case box t x=>exact⟨(dV _ _ _).1,fun _=>(dV _ _ _).2.2.1,fun _=>(dV _ _ _).2.1,fun _=>rfl⟩
 case buildSlice t n p=>exact⟨(iO _ _ _ _ _).1,fun _=>(iO _ _ _ _ _).2.2.1,fun _=>(iO _ _ _ _ _).2.1,fun _=>(iO _ _ _ _ _).2.2.2⟩
 case makeSlice t x y=>exact⟨(jN _ _ _ _).1,fun _=>(jN _ _ _ _).2.2.1,fun _=>(jN _ _ _ _).2.1,fun _=>(jN _ _ _ _).2.2.2⟩
 case defer c=>exact⟨bH.1,fun _=>bH.2.2.1,fun _=>bH.2.1,fun _=>rfl⟩
 case call c =>
  obtain⟨callee,args,ts⟩:=c
  cases callee with
  | value x =>
   simp only[gop]
   split
   ·rename_i g ms ns hx
    have hp:u.stays x=true→∀rd q y,C g (ms++args.toList.map (aK f)++ns)=some ⟨rd,q,some y⟩→rd=[]:=fun h rd q y e=>by
     rcases hu _ _ _ _ _ e with q1|q1
     ·exact q1
     ·cases u with
      | no=>exact q1.elim
      | all=>simp[gM.stays] at h
      | these L =>
       cases x with
       | func g0 =>
        have:g0=g:=by simp[aK] at hx;exact hx.1
        subst this
        simp[gM.stays] at h
        exact absurd q1 h
       | _=>simp[gM.stays] at h
    exact⟨(Bt _ _ _ _).1,fun h=>((Bt _ _ _ _).2 (hp (by simpa[vJ] using h))).2,fun h=>((Bt _ _ _ _).2 (hp (by simpa[noW] using h))).1,fun h=>by simp[rd0] at h⟩
   ·exact⟨bH.1,fun _=>bH.2.2.1,fun _=>bH.2.1,fun _=>rfl⟩
  | invoke r m=>exact⟨bH.1,fun _=>bH.2.2.1,fun _=>bH.2.1,fun _=>rfl⟩
  | builtin b =>
   by_cases hb:b=.append
   ·subst hb
    simp only[gop]
    split
    ·exact⟨(z8 _ _ _ _ _).1,fun _=>(z8 _ _ _ _ _).2,fun h=>by simp[noW] at h,fun h=>by simp[rd0] at h⟩
    ·exact⟨bH.1,fun _=>bH.2.2.1,fun _=>bH.2.1,fun _=>rfl⟩
   ·have:gop P C f (.call ⟨.builtin b,args,ts⟩)=if ts.toList.length=args.toList.length then eH (dS P b ts.toList.toArray (args.toList.map (aK f))) else cA:=by
     cases b<;>first|rfl|exact absurd rfl hb
    rw[this]
    split
    ·exact⟨(cT _).1,fun _=>(cT _).2.2.1,fun _=>(cT _).2.1,fun _=>rfl⟩
    ·exact⟨bH.1,fun _=>bH.2.2.1,fun _=>bH.2.1,fun _=>rfl⟩
 all_goals exact⟨(cT _).1,fun _=>(cT _).2.2.1,fun _=>(cT _).2.1,fun _=>rfl⟩
end

section
def pB(P:Program)(C:bP)(g:FuncId)(ms:List MV)(σ:St)(k:MV→St→Prop):Prop :=
 (∃rd q os,C g ms=some ⟨rd,q,none⟩∧rd.map σ=os.map some∧aA P g ms (St.ofList rd os) (fun v σ'=>q v∧σ'=St.ofList rd os)∧(∃v,q v)∧∀v,q v→k v σ) ∨
 ∃rd q o u,C g ms=some ⟨rd,q,some (o,u)⟩∧aA P g ms St.none (fun v σ'=>∃l,v=u l∧σ'=St.none.set l o)∧∀l,σ l=none→k (u l) (σ.set l o)
def gA(P:Program)(C:bP)(g:FuncId)(ms:List MV)(σ:St)(k:MV→St→Prop):Prop :=
 (∃rd q os,C g ms=some ⟨rd,q,none⟩∧rd.map σ=os.map some∧aA P g ms (St.ofList rd os) (fun v σ'=>q v∧σ'=St.ofList rd os)∧(∃v,q v)∧∀v,q v→k v σ) ∨
 (∃q o u,C g ms=some ⟨[],q,some (o,u)⟩∧aA P g ms St.none (fun v σ'=>∃l,v=u l∧σ'=St.none.set l o)∧∀l,σ l=none→k (u l) (σ.set l o)) ∨
 ∃l q o o' u,C g ms=some ⟨[l],q,some (o',u)⟩∧σ l=some o∧aA P g ms (St.none.set l o) (fun v σ'=>v=u l∧σ'=St.none.set l o')∧k (u l) (σ.set l o')
def xW(P:Program)(MC:FuncId→List MV→St→(MV→St→Prop)→Prop)(f:FR)(σ:St)(k:MV→St→Prop):Op→Prop
 | .call ⟨.value x,args,ts⟩=>match aK f x with
  | .fn (.func g) ms ns=>MC g (ms++args.toList.map (aK f)++ns) σ k
  | _=>False
 | .defer _=>False
 | op=>mop P f σ k op
section
variable {P:Program} {C:bP} {f:FR} {σ:St} {U:Nat→Prop}
theorem zP:∀(rd:List Nat) (os:List bE),rd.map σ=os.map some→(St.ofList rd os).le σ
 | [],_,_=>by
  intro l o h
  simp[St.ofList,St.none] at h
 | l::ls,[],h=>by simp at h
 | l::ls,o::os,h=>by
  simp only[List.map_cons,List.cons.injEq] at h
  (try simp only[St.ofList])
  exact St.aL (zP ls os h.2) h.1
theorem lS{pv:PV}{k:MV→St→Prop}(h:mpure σ k pv):gs U σ (eH pv) fun v _ σ'=>k v σ':=by
 cases pv with
 | none=>exact h.elim
 | some x =>
  obtain⟨Cd,v⟩:=x
  refine⟨[],⟨Cd,none,none,none,fun _ u=>u=v⟩,rfl,rfl,h.1,fun _=>⟨v,rfl⟩,fun u U' σ' ho=>?_⟩
  obtain⟨rfl,-,rfl⟩:=ho
  rw[dM ⟨rfl,rfl⟩]
  exact h.2
theorem lZ{pv:PV}{k:MV→(Nat→Prop)→St→Prop}(h:gs U σ (eH pv) k):mpure σ (fun v σ'=>∃U',(∀l,U' l→U l∨σ' l≠none)∧k v U' σ') pv:=by
 obtain⟨os,e,h1,h2,h3,h4,h5⟩:=h
 cases pv with
 | none=>simp[eH] at h2
 | some x =>
  obtain⟨Cd,v⟩:=x
  simp only[eH,Option.map_some,Option.some.injEq] at h2
  subst h2
  refine⟨h3,U,fun l h=>.inl h,h5 v U σ ⟨rfl,rfl,?_⟩⟩
  rw[dM ⟨rfl,rfl⟩]
theorem jU{Cd:Prop}{o:bE}{v:Nat→MV}{k:MV→St→Prop}(hd:Dom U σ)(h:Cd∧∀l,σ l=none→k (v l) (σ.set l o)):gs U σ (fY Cd o v) fun v _ σ'=>k v σ':=by
 refine⟨[],⟨Cd,none,none,some o,fun l u=>u=v l⟩,rfl,rfl,h.1,fun l=>⟨v l,rfl⟩,fun u U' σ' ho=>?_⟩
 obtain⟨l,hl,rfl,-,rfl⟩:=ho
 rw[dM ⟨rfl,rfl⟩]
 exact h.2 l (by
  cases hs:σ l with
  | none=>rfl
  | some x=>exact absurd (hd l (by simp[hs])) hl)
def kD(U:Nat→Prop)(σ:St)(k:MV→(Nat→Prop)→St→Prop)(v:MV)(σ':St):Prop :=
 (∀l,σ' l≠none→σ l=none→¬U l)→∃U',(∀l,U' l→U l∨σ' l≠none)∧k v U' σ'
theorem kW{Cd:Prop}{o:bE}{v:Nat→MV}{k:MV→(Nat→Prop)→St→Prop}(h:gs U σ (fY Cd o v) k):Cd∧∀l,σ l=none→kD U σ k (v l) (σ.set l o):=by
 obtain⟨os,e,h1,h2,h3,h4,h5⟩:=h
 simp only[fY,Option.some.injEq] at h2
 subst h2
 refine⟨h3,fun l hl hn=>⟨fun x=>x=l∨U x,fun x hx=>hx.elim (fun e=>.inr (by rw[e,aM];simp)) .inl,h5 _ _ _ ⟨l,hn l (by rw[aM];simp) hl,rfl,rfl,?_⟩⟩⟩
 rw[dM ⟨rfl,rfl⟩]
theorem vG{pv:PV}{k k':MV→St→Prop}(h:mpure σ k pv)(hk:∀v σ',k v σ'→k' v σ'):mpure σ k' pv:=by
 cases pv with
 | none=>exact h.elim
 | some x=>exact⟨h.1,hk _ _ h.2⟩
theorem jO{e:Nat}{x:MV}{os:List bE}(h:(j7 x).map σ=os.map some):gS (Dr os) e x=gS σ e x:=by
 cases x<;>try rfl
 rename_i e' l lo n
 cases os with
 | nil=>simp[j7] at h
 | cons o r =>
  simp only[j7,List.map_cons,List.map_nil,List.cons.injEq] at h
  (try simp only[gS,Dr,List.head?_cons,h.1])
theorem L5{e:Nat}{x:MV}{ys:List (List MV)}(h:gS σ e x=some ys):∃os:List bE,(j7 x).map σ=os.map some:=by
 cases x<;>try exact⟨[],rfl⟩
 rename_i e' l lo n
 simp only[gS] at h
 split at h
 ·split at h
  ·rename_i t e2 xs hs;exact⟨[.row t e2 xs],by simp[j7,hs]⟩
  ·cases h
 ·cases h
theorem MT{t:TypeId}{x:MV}{k:MV→St→Prop}(h:kM P t x σ k):gs U σ (mM P t x) fun v _ σ'=>k v σ':=by
 unfold kM at h
 unfold mM
 split at h
 ·rename_i l i o
  split at h
  ·rename_i tt e xs hs
   refine⟨[.row tt e xs],_,by simp[hs],rfl,h.1,fun _=>⟨_,rfl⟩,fun v U' σ' ho=>?_⟩
   obtain⟨rfl,-,rfl⟩:=ho
   rw[dM ⟨rfl,rfl⟩];exact h.2
  ·exact h.elim
 ·exact lS (σ:=σ) (pv:=some (_,_)) h
 ·exact h.elim
theorem M8{t:TypeId}{x:MV}{k:MV→(Nat→Prop)→St→Prop}(h:gs U σ (mM P t x) k):kM P t x σ (kD U σ k):=by
 unfold mM at h
 unfold kM
 split at h
 ·rename_i l i o
  obtain⟨os,e,h1,h2,h3,h4,h5⟩:=h
  simp only at h1 h2
  split at h2
  ·rename_i tt ee xs
   cases h2
   simp only[List.map_cons,List.map_nil,List.cons.injEq,and_true] at h1
   (try simp only[h1])
   refine⟨h3,fun _=>⟨U,fun _ h=>.inl h,h5 _ _ _ ⟨rfl,rfl,?_⟩⟩⟩
   rw[dM ⟨rfl,rfl⟩]
  ·cases h2
 ·obtain⟨h1,U',h2,h3⟩:=lZ (σ:=σ) h
  exact⟨h1,fun _=>⟨U',h2,h3⟩⟩
 ·obtain⟨os,e,h1,h2,_⟩:=h
  simp[cA] at h2
theorem nP{Cd:Prop}{l:Nat}{o:bE}{n:Option bE}{v:Nat→MV→Prop}:(Eff.app ⟨Cd,none,some (l,o),n,v⟩ σ)=σ.set l o:=by
 funext k
 (try simp only[Eff.app,St.set,Option.map_some,Option.some.injEq,reduceCtorEq,if_false])
 by_cases hk:k=l
 ·simp[hk]
 ·rw[if_neg (Ne.symm hk),if_neg hk]
theorem J7{t:TypeId}{x y:MV}{k:MV→St→Prop}(h:mY P t x y σ k):gs U σ (lT P t x y) fun v _ σ'=>k v σ':=by
 unfold mY at h
 unfold lT
 split at h
 ·rename_i l i o
  split at h
  ·rename_i tt e xs hs
   refine⟨[.row tt e xs],_,by simp[hs],rfl,h.1,fun _=>⟨_,rfl⟩,fun v U' σ' ho=>?_⟩
   obtain⟨rfl,-,rfl⟩:=ho
   rw[nP];exact h.2
  ·exact h.elim
 ·exact h.elim
theorem L7{t:TypeId}{x y:MV}{k:MV→(Nat→Prop)→St→Prop}(h:gs U σ (lT P t x y) k):mY P t x y σ (kD U σ k):=by
 unfold lT at h
 unfold mY
 split at h
 ·rename_i l i o
  obtain⟨os,e,h1,h2,h3,h4,h5⟩:=h
  simp only at h1 h2
  split at h2
  ·rename_i tt ee xs
   cases h2
   simp only[List.map_cons,List.map_nil,List.cons.injEq,and_true] at h1
   (try simp only[h1])
   refine⟨h3,fun _=>⟨U,fun _ h=>.inl h,h5 _ _ _ ⟨rfl,rfl,?_⟩⟩⟩
   rw[nP]
  ·cases h2
 ·obtain⟨os,e,h1,h2,_⟩:=h
  simp[cA] at h2
theorem HB{t:TypeId}{m x:MV}{ok:Bool}{k:MV→St→Prop}(h:fU P t m x ok (mapOf σ m) σ k):gs U σ (jF P t m x ok) fun v _ σ'=>k v σ':=by
 unfold fU at h
 split at h
 ·rename_i kt et l kd n es h1 h2
  have hl:σ l=some (.mp es):=h2
  unfold jF
  (try simp only[h1])
  refine⟨[.mp es],_,by simp[hl],rfl,h.1,fun _=>⟨_,rfl⟩,fun v U' σ' ho=>?_⟩
  obtain⟨rfl,-,rfl⟩:=ho
  rw[dM ⟨rfl,rfl⟩];exact h.2
 ·exact h.elim
theorem HN{t:TypeId}{m x:MV}{ok:Bool}{k:MV→(Nat→Prop)→St→Prop}(h:gs U σ (jF P t m x ok) k):fU P t m x ok (mapOf σ m) σ (kD U σ k):=by
 unfold jF at h
 split at h
 ·rename_i kt et l kd n h1
  obtain⟨os,e,h2,h3,h4,h5,h6⟩:=h
  simp only at h2 h3
  split at h3
  ·rename_i es
   cases h3
   simp only[List.map_cons,List.map_nil,List.cons.injEq,and_true] at h2
   unfold fU
   (try simp only[h1,mapOf,h2])
   refine⟨h4,fun _=>⟨U,fun _ h=>.inl h,h6 _ _ _ ⟨rfl,rfl,?_⟩⟩⟩
   rw[dM ⟨rfl,rfl⟩]
  ·cases h3
 ·obtain⟨os,e,h1,h2,_⟩:=h
  simp[cA] at h2
theorem HC{t:TypeId}{m x y:MV}{k:MV→St→Prop}(h:fG P t m x y (mapOf σ m) σ k):gs U σ (lR P t m x y) fun v _ σ'=>k v σ':=by
 unfold fG at h
 split at h
 ·rename_i kt et l kd n es h1 h2
  have hl:σ l=some (.mp es):=h2
  unfold lR
  (try simp only[h1])
  refine⟨[.mp es],_,by simp[hl],rfl,h.1,fun _=>⟨_,rfl⟩,fun v U' σ' ho=>?_⟩
  obtain⟨rfl,-,rfl⟩:=ho
  rw[nP];exact h.2
 ·exact h.elim
theorem HP{t:TypeId}{m x y:MV}{k:MV→(Nat→Prop)→St→Prop}(h:gs U σ (lR P t m x y) k):fG P t m x y (mapOf σ m) σ (kD U σ k):=by
 unfold lR at h
 split at h
 ·rename_i kt et l kd n h1
  obtain⟨os,e,h2,h3,h4,h5,h6⟩:=h
  simp only at h2 h3
  split at h3
  ·rename_i es
   cases h3
   simp only[List.map_cons,List.map_nil,List.cons.injEq,and_true] at h2
   unfold fG
   (try simp only[h1,mapOf,h2])
   refine⟨h4,fun _=>⟨U,fun _ h=>.inl h,h6 _ _ _ ⟨rfl,rfl,?_⟩⟩⟩
   rw[nP]
  ·cases h3
 ·obtain⟨os,e,h1,h2,_⟩:=h
  simp[cA] at h2
theorem Bw{Cd:Prop}{l:Nat}{n:Option bE}{v:Nat→MV→Prop}:(Eff.app ⟨Cd,some l,none,n,v⟩ σ)=σ.del l:=by
 funext k
 (try simp only[Eff.app,St.del,Option.map_none,reduceCtorEq,if_false,Option.some.injEq])
 by_cases hk:k=l
 ·simp[hk]
 ·rw[if_neg (Ne.symm hk),if_neg hk]
theorem uN(hd:Dom U σ){l:Nat}(hl:¬U l):σ l=none:=by
 cases hs:σ l with
 | none=>rfl
 | some x=>exact absurd (hd l (by simp[hs])) hl
theorem HA{t xt:TypeId}{s x:MV}{k:MV→St→Prop}(hd:Dom U σ)(h:jK P t xt s x σ k):gs U σ (kI P t xt s x) fun v _ σ'=>k v σ':=by
 unfold jK at h
 unfold kI
 split at h
 ·rename_i el hk
  (try simp only[hk])
  split at h
  ·rename_i ys hy
   obtain⟨os,hos⟩:=L5 hy
   have hsrc:=jO (e:=(td P el).size) hos
   rw[hy] at hsrc
   split at h
   ·refine⟨os,⟨(td P xt).k.fB=true∧(td P el).zok=true∧Fits ys.length (td P el).bytes,none,none,some (.row el (td P el).size ys),fun l u=>u=.vec (td P el).size l 0 ys.length⟩,hos,by simp only[hsrc],h.1,fun l=>⟨_,rfl⟩,fun u U' σ' ho=>?_⟩
    obtain⟨l,hl,rfl,-,rfl⟩:=ho
    rw[dM ⟨rfl,rfl⟩]
    exact h.2 l (uN hd hl)
   ·rename_i e xs
    refine⟨os,⟨(td P xt).k.fB=true∧(td P el).zok=true∧e=(td P el).size∧(xs=[]∨0<ys.length)∧Fits (xs.length+ys.length) (td P el).bytes,none,none,some (.row el (td P el).size (xs++ys)),fun l u=>u=.vec (td P el).size l 0 (xs.length+ys.length)⟩,hos,by simp only[hsrc],h.1,fun l=>⟨_,rfl⟩,fun u U' σ' ho=>?_⟩
    obtain⟨l,hl,rfl,-,rfl⟩:=ho
    rw[dM ⟨rfl,rfl⟩]
    exact h.2 l (uN hd hl)
   ·rename_i e l lo n
    split at h
    ·rename_i tt e' xs hs
     refine⟨.row tt e' xs::os,⟨(td P xt).k.fB=true∧(td P el).zok=true∧e=(td P el).size∧e'=(td P el).size∧tt=el∧lo=0∧lo+n≤xs.length∧Fits (n+ys.length) (td P el).bytes,some l,none,some (.row el (td P el).size (eU xs lo n ys)),fun l' u=>u=.vec (td P el).size l' 0 (n+ys.length)⟩,by simp[hs,hos],by simp only[hsrc],h.1,fun l=>⟨_,rfl⟩,fun u U' σ' ho=>?_⟩
     obtain⟨l',hl,rfl,-,rfl⟩:=ho
     rw[Bw]
     exact h.2 l' (uN hd hl)
    ·exact h.elim
   ·exact h.elim
  ·exact h.elim
 ·exact h.elim
theorem G4{t xt:TypeId}{s x:MV}{k:MV→(Nat→Prop)→St→Prop}(h:gs U σ (kI P t xt s x) k):jK P t xt s x σ (kD U σ k):=by
 unfold kI at h
 unfold jK
 split at h
 ·rename_i el hk
  split at h
  ·obtain⟨os,e,h1,h2,h3,h4,h5⟩:=h
   simp only at h1 h2
   split at h2
   ·rename_i ys hy
    cases h2
    rw[jO h1] at hy
    (try simp only[hk,hy])
    refine⟨h3,fun l hl hn=>⟨fun x=>x=l∨U x,fun x hx=>hx.elim (fun e=>.inr (by rw[e,aM];simp)) .inl,h5 _ _ _ ⟨l,hn l (by rw[aM];simp) hl,rfl,rfl,?_⟩⟩⟩
    rw[dM ⟨rfl,rfl⟩]
   ·cases h2
  ·obtain⟨os,e,h1,h2,h3,h4,h5⟩:=h
   simp only at h1 h2
   split at h2
   ·rename_i ys hy
    cases h2
    rw[jO h1] at hy
    (try simp only[hk,hy])
    refine⟨h3,fun l hl hn=>⟨fun x=>x=l∨U x,fun x hx=>hx.elim (fun e=>.inr (by rw[e,aM];simp)) .inl,h5 _ _ _ ⟨l,hn l (by rw[aM];simp) hl,rfl,rfl,?_⟩⟩⟩
    rw[dM ⟨rfl,rfl⟩]
   ·cases h2
  ·obtain⟨os,e,h1,h2,h3,h4,h5⟩:=h
   simp only at h1 h2
   split at h2
   ·rename_i tt e' xs os'
    simp only[List.map_cons,List.cons.injEq] at h1
    split at h2
    ·rename_i ys hy
     cases h2
     rw[jO h1.2] at hy
     (try simp only[hk,hy,h1.1])
     refine⟨h3,fun l hl hn=>⟨fun x=>x=l∨U x,fun x hx=>hx.elim (fun e=>.inr (by rw[e,aM];simp)) .inl,h5 _ _ _ ⟨l,hn l (by rw[aM];simp) hl,rfl,rfl,?_⟩⟩⟩
     rw[Bw]
    ·cases h2
   ·cases h2
  ·obtain⟨os,e,h1,h2,_⟩:=h
   simp[cA] at h2
 ·obtain⟨os,e,h1,h2,_⟩:=h
  simp[cA] at h2
theorem fH{k:MV→(Nat→Prop)→St→Prop}(h:gs U σ cA k):False:=by
 obtain⟨os,e,h1,h2,_⟩:=h
 simp[cA] at h2
theorem OK{D:Prop}{x:MV}{k:MV→St→Prop}(h:match gS σ 1 x with|some ys=>(D∧ys.all isByte=true)∧k (.str (bytesOf ys)) σ|none=>False) :
  gs U σ (j7 x,fun os=>match gS (Dr os) 1 x with
  | some ys=>some ⟨D∧ys.all isByte=true,none,none,none,fun _ u=>u=.str (bytesOf ys)⟩
  | none=>none) fun v _ σ'=>k v σ':=by
 split at h
 ·rename_i ys hy
  obtain⟨os,hos⟩:=L5 hy
  have hsrc:=jO (e:=1) hos
  rw[hy] at hsrc
  refine⟨os,⟨D∧ys.all isByte=true,none,none,none,fun _ u=>u=.str (bytesOf ys)⟩,hos,by simp only[hsrc],h.1,fun _=>⟨_,rfl⟩,fun u U' σ' ho=>?_⟩
  obtain⟨rfl,-,rfl⟩:=ho
  rw[dM ⟨rfl,rfl⟩];exact h.2
 ·exact h.elim
theorem Pa{D:Prop}{x:MV}{k:MV→(Nat→Prop)→St→Prop}(h:gs U σ (j7 x,fun os=>match gS (Dr os) 1 x with
  | some ys=>some ⟨D∧ys.all isByte=true,none,none,none,fun _ u=>u=.str (bytesOf ys)⟩
  | none=>none) k):match gS σ 1 x with|some ys=>(D∧ys.all isByte=true)∧kD U σ k (.str (bytesOf ys)) σ|none=>False:=by
 obtain⟨os,e,h1,h2,h3,h4,h5⟩:=h
 simp only at h1 h2
 split at h2
 ·rename_i ys hy
  cases h2
  rw[jO h1] at hy
  (try simp only[hy])
  refine⟨h3,fun _=>⟨U,fun _ h=>.inl h,h5 _ _ _ ⟨rfl,rfl,?_⟩⟩⟩
  rw[dM ⟨rfl,rfl⟩]
 ·cases h2
theorem Ej{s d:TypeId}{x:MV}{k:MV→St→Prop}(hd:Dom U σ)(h:gR P s d x σ k):gs U σ (gP P s d x) fun v _ σ'=>k v σ':=by
 unfold gR at h
 unfold gP
 cases hs:(td P s).k<;>cases hk:(td P d).k<;>simp only[hs,hk] at h ⊢<;>first
  | exact lS h
  | (cases x<;>first|exact lS h|exact jU hd h|exact h.elim|exact OK h)
theorem Eb{s d:TypeId}{x:MV}{k:MV→(Nat→Prop)→St→Prop}(h:gs U σ (gP P s d x) k):gR P s d x σ (kD U σ k):=by
 unfold gP at h
 unfold gR
 have hp:∀{pv:PV},gs U σ (eH pv) k→mpure σ (kD U σ k) pv:=fun h=>vG (lZ h) fun v σ' hh _=>hh
 cases hs:(td P s).k<;>cases hk:(td P d).k<;>simp only[hs,hk] at h ⊢<;>first
  | exact hp h
  | (cases x<;>first|exact hp h|exact kW h|exact(fH h).elim|exact Pa h)
theorem BX{g:FuncId}{ms:List MV}{k:MV→St→Prop}{rd:List Nat}{q:MV→Prop}{os:List bE}(h1:C g ms=some ⟨rd,q,none⟩)(h2:rd.map σ=os.map some)(h3:aA P g ms (St.ofList rd os) (fun v σ'=>q v∧σ'=St.ofList rd os))(h4:∃v,q v)(h5:∀v,q v→k v σ):gs U σ (gH P C g ms) fun v _ σ'=>k v σ':=by
 unfold gH
 rw[h1]
 refine⟨os,⟨aA P g ms (St.ofList rd os) (fun v σ'=>q v∧σ'=St.ofList rd os),none,none,none,fun _ u=>q u⟩,h2,rfl,h3,fun _=>h4,fun u U' σ' ho=>?_⟩
 obtain⟨hq,-,rfl⟩:=ho
 rw[dM ⟨rfl,rfl⟩]
 exact h5 u hq
theorem Gr{g:FuncId}{ms:List MV}{k:MV→St→Prop}(hd:Dom U σ)(h:pB P C g ms σ k):gs U σ (gH P C.pl g ms) fun v _ σ'=>k v σ':=by
 rcases h with⟨rd,q,os,h1,h2,h3,h4,h5⟩|⟨rd,q,o,u,h1,h2,h3⟩
 ·exact BX (by unfold bP.pl;rw[h1];rfl) h2 h3 h4 h5
 ·have hC:C.pl g ms=some ⟨[],q,some (o,u)⟩:=by unfold bP.pl;rw[h1];rfl
  unfold gH
  rw[hC]
  exact jU hd ⟨h2,h3⟩
theorem BW{g:FuncId}{ms:List MV}{k:MV→St→Prop}(hd:Dom U σ)(h:gA P C g ms σ k):gs U σ (gH P C g ms) fun v _ σ'=>k v σ':=by
 rcases h with⟨rd,q,os,h1,h2,h3,h4,h5⟩|⟨q,o,u,h1,h2,h3⟩|⟨l,q,o,o',u,h1,h2,h3,h4⟩
 ·exact BX h1 h2 h3 h4 h5
 ·unfold gH
  rw[h1]
  exact jU hd ⟨h2,h3⟩
 ·unfold gH
  rw[h1]
  refine⟨[o],⟨aA P g ms (St.none.set l o) (fun v σ'=>v=u l∧σ'=St.none.set l o'),none,some (l,o'),none,fun _ w=>w=u l⟩,by simp[h2],rfl,h3,fun _=>⟨_,rfl⟩,fun v U' σ' ho=>?_⟩
  obtain⟨hv,-,rfl⟩:=ho
  rw[nP,hv]
  exact h4
theorem MB{g:FuncId}{ms:List MV}{k:MV→(Nat→Prop)→St→Prop}(h:gs U σ (gH P C g ms) k):aA P g ms σ (kD U σ k):=by
 unfold gH at h
 split at h
 ·rename_i rd q hC
  obtain⟨os,e,h1,h2,h3,h4,h5⟩:=h
  simp only[Option.some.injEq] at h2
  subst h2
  simp only at h1 h3
  have hle:=zP rd os h1
  refine(h3.frame hle).mono ?_
  rintro v σ1 ⟨σ',⟨hq,rfl⟩,rfl,-⟩
  rw[vM hle]
  refine fun _=>⟨U,fun _ h=>.inl h,h5 _ _ _ ⟨hq,rfl,?_⟩⟩
  rw[dM ⟨rfl,rfl⟩]
 ·rename_i rd q o u hC
  obtain⟨h1,h2⟩:=kW h
  refine(h1.frame (St.none_le σ)).mono ?_
  rintro v σ1 ⟨σ',⟨l,rfl,rfl⟩,rfl,hf⟩
  rw[gC,cN,iE]
  refine h2 l ?_
  rcases hf l o (aM _ _ _) with h|⟨o',h⟩
  ·exact h
  ·simp[St.none] at h
 ·rename_i l q o' u hC
  obtain⟨os,e,h1,h2,h3,h4,h5⟩:=h
  simp only at h1 h2
  split at h2
  ·rename_i o
   cases h2
   have hl:σ l=some o:=by simpa using h1
   have hle:(St.none.set l o).le σ:=St.aL (St.none_le _) hl
   refine(aA.frame h3 hle).mono ?_
   rintro v σ1 ⟨σ',⟨hv,rfl⟩,rfl,-⟩
   have e:(St.none.set l o').over (σ.minus (St.none.set l o))=σ.set l o':=by
    funext j
    by_cases h:j=l
    ·subst h;simp[St.over,St.set]
    ·simp[St.over,St.set,St.minus,h,St.none]
   rw[e]
   exact fun _=>⟨U,fun _ h=>.inl h,h5 _ _ _ ⟨hv,rfl,nP.symm⟩⟩
  ·cases h2
 ·exact(fH h).elim
theorem OJ{MC:FuncId→List MV→St→(MV→St→Prop)→Prop}(hMC:∀g ms k,MC g ms σ k→gs U σ (gH P C g ms) fun v _ σ'=>k v σ'){op:Op}{k:MV→St→Prop}(hd:Dom U σ)(h:xW P MC f σ k op):gs U σ (gop P C f op) fun v _ σ'=>k v σ':=by
 cases op
 case alloc t=>exact jU hd h
 case box t x=>exact jU hd h
 case load t x=>exact MT h
 case store t x y=>exact J7 h
 case lookup t m x ok=>exact HB h
 case mapUpdate t m x y=>exact HC h
 case convert s d x=>exact Ej hd h
 case buildSlice t n p =>
  have h:dR P f t n p σ k:=h
  (try simp only[gop])
  unfold dR at h
  unfold dP
  split at h
  ·rename_i el hk;(try simp only[hk]);exact jU hd h
  ·exact h.elim
 case makeSlice t x y =>
  have h:iD P t (aK f x) (aK f y) σ k:=h
  (try simp only[gop])
  unfold iD at h
  unfold eZ
  split at h
  ·rename_i el n c hk hx hy;(try simp only[hk,hx,hy]);exact jU hd h
  ·exact h.elim
 case defer c=>exact h.elim
 case call c =>
  obtain⟨callee,args,ts⟩:=c
  cases callee with
  | value x =>
   simp only[xW] at h
   (try simp only[gop])
   split at h
   ·rename_i g ms ns hx;first|(simp only[hx];exact hMC _ _ _ h)|exact hMC _ _ _ h
   ·exact h.elim
  | invoke r m=>exact h.elim
  | builtin b =>
   by_cases hb:b=.append
   ·subst hb
    have h:fD P f .append args.toList ts.toList σ k:=h
    (try simp only[gop])
    simp only[fD] at h
    split at h
    ·rename_i s x t xt ha ht;(try simp only[ha,ht]);exact HA hd h
    ·exact h.elim
   ·have h:fD P f b args.toList ts.toList σ k:=h
    have e1:gop P C f (.call ⟨.builtin b,args,ts⟩)=if ts.toList.length=args.toList.length then eH (dS P b ts.toList.toArray (args.toList.map (aK f))) else cA:=by
     cases b<;>first|rfl|exact absurd rfl hb
    have e2:fD P f b args.toList ts.toList σ k=(ts.toList.length=args.toList.length∧mpure σ k (dS P b ts.toList.toArray (args.toList.map (aK f)))):=by
     cases b<;>first|rfl|exact absurd rfl hb
    rw[e2] at h
    rw[e1,if_pos h.1]
    exact lS h.2
 all_goals exact lS h
theorem Of{op:Op}{k:MV→(Nat→Prop)→St→Prop}(h:gs U σ (gop P C f op) k):mop P f σ (kD U σ k) op:=by
 have hp:∀{pv:PV},gs U σ (eH pv) k→mpure σ (kD U σ k) pv:=fun h=>vG (lZ h) fun v σ' hh _=>hh
 cases op
 case alloc t=>exact kW h
 case box t x=>exact kW h
 case load t x=>exact M8 h
 case store t x y=>exact L7 h
 case lookup t m x ok=>exact HN h
 case mapUpdate t m x y=>exact HP h
 case convert s d x=>exact Eb h
 case buildSlice t n p =>
  simp only[gop] at h
  show dR P f t n p σ _
  unfold dR
  unfold dP at h
  split at h
  ·rename_i el hk;(try simp only[hk]);exact kW h
  ·exact(fH h).elim
 case makeSlice t x y =>
  simp only[gop] at h
  show iD P t (aK f x) (aK f y) σ _
  unfold iD
  unfold eZ at h
  split at h
  ·rename_i el n c hk hx hy;(try simp only[hk,hx,hy]);exact kW h
  ·exact(fH h).elim
 case defer c=>exact(fH h).elim
 case call c =>
  obtain⟨callee,args,ts⟩:=c
  cases callee with
  | value x =>
   simp only[gop] at h
   show Gx P f ⟨.value x,args,ts⟩ σ _
   (try simp only[Gx])
   split at h
   ·rename_i g ms ns hx;(try simp only[hx]);exact MB h
   ·exact(fH h).elim
  | invoke r m=>exact(fH h).elim
  | builtin b =>
   show fD P f b args.toList ts.toList σ _
   by_cases hb:b=.append
   ·subst hb
    simp only[gop] at h
    (try simp only[fD])
    split at h
    ·rename_i s x t xt ha ht;(try simp only[ha,ht]);exact G4 h
    ·exact(fH h).elim
   ·have e1:gop P C f (.call ⟨.builtin b,args,ts⟩)=if ts.toList.length=args.toList.length then eH (dS P b ts.toList.toArray (args.toList.map (aK f))) else cA:=by
     cases b<;>first|rfl|exact absurd rfl hb
    have e2:fD P f b args.toList ts.toList σ (kD U σ k)=(ts.toList.length=args.toList.length∧mpure σ (kD U σ k) (dS P b ts.toList.toArray (args.toList.map (aK f)))):=by
     cases b<;>first|rfl|exact absurd rfl hb
    rw[e1] at h
    rw[e2]
    split at h
    ·rename_i hl;exact⟨hl,hp h⟩
    ·exact(fH h).elim
 all_goals exact hp h
end
end

section
section
variable {P:Program} {C:bP} {ops:Array Oper}
def FEq(f f':FR):Prop:=f.n=f'.n∧f.d=f'.d∧∀t,f.get t=f'.get t
theorem FEq.refl(f:FR):FEq f f:=⟨rfl,rfl,fun _=>rfl⟩
theorem FEq.symm{f f':FR}(h:FEq f f'):FEq f' f:=⟨h.1.symm,h.2.1.symm,fun t=>(h.2.2 t).symm⟩
theorem FEq.trans{f f' f'':FR}(h:FEq f f')(k:FEq f' f''):FEq f f'':=⟨h.1.trans k.1,h.2.1.trans k.2.1,fun t=>(h.2.2 t).trans (k.2.2 t)⟩
theorem lQ(f:FR)(dst:Option Tmp)(v:MV)(t:Nat):(bI f dst v).get t=if dst=some t∧t<f.n then v else f.get t:=by
 cases dst with
 | none=>simp[bI]
 | some d =>
  (try simp only[bI])
  split
  ·rename_i hd
   (try simp only[FR.get,cH])
   by_cases ht:t=d
   ·subst ht;simp[hd]
   ·rw[if_neg ht,if_neg (by simp;intro e;exact absurd e.symm ht)]
  ·rename_i hd
   rw[if_neg]
   rintro⟨e,h⟩
   cases e
   exact hd h
theorem GM(f:FR)(dst:Option Tmp)(v:MV):(bI f dst v).n=f.n:=by
 unfold bI
 split<;>(try split)<;>rfl
theorem FEq.put{f f':FR}(h:FEq f f')(dst:Option Tmp)(v:MV):FEq (bI f dst v) (bI f' dst v) :=
 ⟨by rw[GM,GM];exact h.1,by rw[fN,fN];exact h.2.1,fun t=>by rw[lQ,lQ,h.1,h.2.2 t]⟩
theorem FEq.comm(f:FR){x y:Option Tmp}(v u:MV)(h:∀d,x=some d→y≠some d):FEq (bI (bI f x v) y u) (bI (bI f y u) x v) :=
 ⟨by simp only[GM],by simp only[fN],fun t=>by
  (try simp only[lQ,GM])
  by_cases hx:x=some t
  ·have:=h t hx
   simp[hx,this]
  ·simp[hx]⟩
theorem FEq.aK{f f':FR}(h:FEq f f'):aK f=aK f':=by
 funext x
 cases x with
 | tmp t=>exact h.2.2 t
 | _=>rfl
theorem K7{f:FR}{dst:Option Tmp}{v:MV}{x:Operand}(h:∀d,dst=some d→x≠.tmp d):aK (bI f dst v) x=aK f x:=by
 cases x with
 | tmp t =>
  show(bI f dst v).get t=f.get t
  rw[lQ,if_neg]
  rintro⟨e,_⟩
  exact h t e rfl
 | _=>rfl
theorem tF{f f':FR}{place:Nat→Option (Nat × TypeId)}:∀(parts:List (Nat × Operand)) (cs:List MV),(∀p,p∈parts→aK f p.2=aK f' p.2)→dY P f place parts cs=dY P f' place parts cs:=by
 intro parts
 induction parts with
 | nil=>intro cs _;rfl
 | cons p r ih =>
  intro cs h
  obtain⟨i,x⟩:=p
  (try simp only[dY])
  have hx:aK f x=aK f' x:=h (i,x) (by simp)
  rw[hx]
  cases place i with
  | none=>rfl
  | some q=>simp only[];rw[ih _ (fun p hp=>h p (by simp[hp]))]
theorem AG{f f':FR}{t:TypeId}{parts:Array (Nat × Operand)}(h:∀p,p∈parts.toList→aK f p.2=aK f' p.2):mS P f t parts=mS P f' t parts:=by
 unfold mS
 cases (td P t).k<;>simp only[]<;>rw[tF _ _ h]
theorem o9{f f':FR}{xs:List Operand}(h:∀x,x∈xs→aK f x=aK f' x):xs.map (aK f)=xs.map (aK f'):=List.map_congr_left h
theorem y7{f f':FR}{op:Op}(h:∀x,x∈op.operands→aK f x=aK f' x):gop P C f op=gop P C f' op:=by
 cases op<;>simp only[Op.operands] at h
 case buildSlice t n ps =>
  (try simp only[gop,dP])
  have hp:∀p,p∈ps.toList→aK f p.2=aK f' p.2:=fun p hp=>h p.2 (by simpa using⟨p.1,by simpa using hp⟩)
  have e1:(ps.toList.all fun p=>(aK f p.2).cells.all MV.aP&&(aK f p.2).cells.length==0)=(ps.toList.all fun p=>(aK f' p.2).cells.all MV.aP&&(aK f' p.2).cells.length==0):=by
   rw[Bool.eq_iff_iff];(try simp only[List.all_eq_true])
   exact⟨fun q x hx=>by rw[←hp x hx];exact q x hx,fun q x hx=>by rw[hp x hx];exact q x hx⟩
  have e2:∀z,(ps.toList.all fun p=>(aK f p.2).cells.all MV.aP&&(aK f p.2).cells.length==z)=(ps.toList.all fun p=>(aK f' p.2).cells.all MV.aP&&(aK f' p.2).cells.length==z):=fun z=>by
   rw[Bool.eq_iff_iff];(try simp only[List.all_eq_true])
   exact⟨fun q x hx=>by rw[←hp x hx];exact q x hx,fun q x hx=>by rw[hp x hx];exact q x hx⟩
  have e3:(ps.toList.map fun p=>(aK f p.2).cells)=(ps.toList.map fun p=>(aK f' p.2).cells):=List.map_congr_left fun p hq=>by rw[hp p hq]
  (try simp only[e2,e3])
 case build t ps =>
  (try simp only[gop,qop])
  rw[AG fun p hp=>h p.2 (by simpa using⟨p.1,by simpa using hp⟩)]
 case makeFunc fn first captured =>
  (try simp only[gop,qop])
  rw[o9 (xs:=first.toList) fun x hx=>h x (by simp at hx ⊢;exact .inl hx),o9 (xs:=captured.toList) fun x hx=>h x (by simp at hx ⊢;exact .inr hx)]
 case indexAddr t x i =>
  have h1:=h x (by simp)
  have h2:=h i (by simp)
  (try simp only[gop])
  cases x<;>simp only[qop]<;>simp[h1,h2]
 case slice t x lo hi mx =>
  (try simp only[gop,qop])
  rw[h x (by simp)]
  cases lo<;>cases hi<;>cases mx<;>simp_all
 case call c =>
  obtain⟨callee,args,ts⟩:=c
  have ha:args.toList.map (aK f)=args.toList.map (aK f'):=o9 fun x hx=>h x (by simp[Call.operands];exact .inr (by simpa using hx))
  cases callee with
  | value x=>simp only[gop];rw[h x (by simp[Call.operands]),ha]
  | invoke r m=>rfl
  | builtin b =>
   by_cases hb:b=.append
   ·subst hb
    (try simp only[gop])
    have hm:∀y,y∈args.toList→aK f y=aK f' y:=fun y hy=>h y (by simp[Call.operands];simpa using hy)
    split
    ·rename_i s x t xt hl _
     rw[hm s (by simp[hl]),hm x (by simp[hl])]
    ·rfl
   ·have e1:∀f,gop P C f (.call ⟨.builtin b,args,ts⟩)=if ts.toList.length=args.toList.length then eH (dS P b ts.toList.toArray (args.toList.map (aK f))) else cA:=fun f=>by
     cases b<;>first|rfl|exact absurd rfl hb
    rw[e1,e1,ha]
 all_goals first
  | rfl
  | (simp_all [gop,qop];done)
def gfo(P:Program)(C:bP)(ops:Array Oper)(f:FR)(o:Oper):GF :=
 match o.guard with
 | none=>gop P C f o.op
 | some (j,want)=>match (ops[j]?).bind (·.dst) with
  | some t=>match f.get t with
   | .bool b=>if b=want then gop P C f o.op else eH (some (True,.tup []))
   | .tup []=>eH (some (True,.tup []))
   | _=>cA
  | none=>cA
theorem Mn{u:gM}(hu:PlU u C)(f:FR)(o:Oper):Wf (gfo P C ops f o)∧(vJ u o.op=true→jQ (gfo P C ops f o))∧(noW u o.op=true→NoW (gfo P C ops f o))∧(rd0 o.op=true→(gfo P C ops f o).1=[]):=by
 have hf:Wf cA∧(vJ u o.op=true→jQ cA)∧(noW u o.op=true→NoW cA)∧(rd0 o.op=true→cA.1=[]):=⟨bH.1,fun _=>bH.2.2.1,fun _=>bH.2.1,fun _=>rfl⟩
 unfold gfo
 split
 ·exact FX P C hu f o.op
 ·split
  ·split
   ·split
    ·exact FX P C hu f o.op
    ·exact⟨(cT _).1,fun _=>(cT _).2.2.1,fun _=>(cT _).2.1,fun _=>rfl⟩
   ·exact⟨(cT _).1,fun _=>(cT _).2.2.1,fun _=>(cT _).2.1,fun _=>rfl⟩
   ·exact hf
  ·exact hf
theorem Hz{f f':FR}(h:FEq f f')(o:Oper):gfo P C ops f o=gfo P C ops f' o:=by
 unfold gfo
 rw[y7 (f:=f) (f':=f') fun x _=>by rw[h.aK]]
 (try simp only[h.2.2])
theorem Gm{f:FR}{dst:Option Tmp}{v:MV}{o:Oper}(h:∀d,dst=some d→d∉o.looksAt ops):gfo P C ops (bI f dst v) o=gfo P C ops f o:=by
 have h1:gop P C (bI f dst v) o.op=gop P C f o.op:=y7 fun x hx=>K7 fun d hd e=>h d hd (by
  subst e
  exact List.mem_append_left _ (List.mem_filterMap.2 ⟨.tmp d,by simpa using hx,rfl⟩))
 unfold gfo
 rw[h1]
 split
 ·rfl
 ·rename_i j want hg
  split
  ·rename_i t ht
   have:(bI f dst v).get t=f.get t:=by
    rw[lQ,if_neg]
    rintro⟨e,-⟩
    exact h t e (by simp[Oper.looksAt,hg,ht])
   rw[this]
  ·rfl
def gl(P:Program)(C:bP)(ops:Array Oper)(K:FR→(Nat→Prop)→St→Prop):List Oper→FR→(Nat→Prop)→St→Prop
 | [],f,U,σ=>K f U σ
 | o::r,f,U,σ=>gs U σ (gfo P C ops f o) fun v U' σ'=>gl P C ops K r (bI f o.dst v) U' σ'
def KOk(K:FR→(Nat→Prop)→St→Prop):Prop:=∀f f' U U' σ,FEq f f'→(∀l,U l→U' l)→K f U σ→K f' U' σ
theorem rL{U:Nat→Prop}{σ:St}{g:GF}{k k':MV→(Nat→Prop)→St→Prop}(h:gs U σ g k)(hk:∀v U' σ',k v U' σ'→k' v U' σ'):gs U σ g k':=by
 obtain⟨os,e,h1,h2,h3,h4,h5⟩:=h
 exact⟨os,e,h1,h2,h3,h4,fun v U' σ' ho=>hk v U' σ' (h5 v U' σ' ho)⟩
theorem Gn{K:FR→(Nat→Prop)→St→Prop}(hK:KOk K):∀l,KOk (gl P C ops K l)
 | []=>hK
 | o::r=>fun f f' U U' σ hf hu h=>by
  simp only[gl] at h ⊢
  rw[←Hz hf]
  refine MR (rL h fun v U' σ' hh=>Gn hK r _ (bI f' o.dst v) U' U' σ' (hf.put o.dst v) (fun _ h=>h) hh) hu fun v V V' σ hv hh=>Gn hK r _ _ V V' σ (.refl _) hv hh
def Oj(u:gM)(ops:Array Oper)(x y:Oper):Bool:=x.apart ops y&&((rd0 y.op || vJ u x.op)&&(rd0 x.op || noW u y.op)&&(noW u x.op || noW u y.op))
structure RX where
 Ds:List Nat
 Rs:List (Nat × Nat)
 dr:Option Nat
 u:gM
def DOk(X:RX)(loc:Nat→Nat)(f:FR):Prop:=(∀t,t∈X.Ds→∃i o,f.get t=.ptr (loc t) i o)∧(∀t t',t∈X.Ds→t'∈X.Ds→t≠t'→loc t≠loc t')∧∀p,p∈X.Rs→p.2∈X.Ds∧∀l i o,f.get p.1=.ptr l i o→l=loc p.2
def l7(X:RX)(loc:Nat→Nat)(C:bP):Prop:=PlU X.u C∧match X.dr with
 | none=>True
 | some d=>d∈X.Ds∧∀g ms F,C g ms=some F→∀l,l∈F.rd→l=loc d
def sX(X:RX)(t:Nat):Option Nat:=if X.Ds.contains t then some t else(X.Rs.find? fun p=>p.1==t).map (·.2)
def dsr(X:RX):Op→Option Nat
 | .load _ (.tmp t)=>sX X t
 | .store _ (.tmp t) _=>sX X t
 | .call ⟨.value _,_,_⟩=>X.dr
 | _=>none
def N9(X:RX)(x y:Op):Bool:=match dsr X x,dsr X y with
 | some a,some b=>a != b
 | _,_=>false
def wW(X:RX)(ops:Array Oper)(x y:Oper):Bool:=Oj X.u ops x y || (x.apart ops y&&N9 X x.op y.op)
def Am(X:RX)(r:Nat):Op→Bool
 | .fieldAddr _ (.tmp s) _|.move (.tmp s)=>sX X s==some r
 | _=>false
def o7(X:RX)(o:Oper):Bool:=match o.dst with
 | some d=>!X.Ds.contains d&&X.Rs.all fun p=>p.1 != d || Am X p.2 o.op
 | none=>true
def GV(g:GF)(v:MV):Prop:=∃os e l,g.2 os=some e∧e.v l v
theorem Ek{U:Nat→Prop}{σ:St}{g:GF}{k:MV→(Nat→Prop)→St→Prop}(h:gs U σ g k):gs U σ g fun v U' σ'=>GV g v∧k v U' σ':=by
 obtain⟨os,e,h1,h2,h3,h4,h5⟩:=h
 refine⟨os,e,h1,h2,h3,h4,fun v U' σ' ho=>⟨?_,h5 v U' σ' ho⟩⟩
 unfold Eff.out at ho
 split at ho
 ·exact⟨os,e,0,h2,ho.1⟩
 ·obtain⟨l,-,hv,-⟩:=ho
  exact⟨os,e,l,h2,hv⟩
theorem vZ{X:RX}{loc:Nat→Nat}{f:FR}(h:DOk X loc f){t r:Nat}(hr:sX X t=some r):r∈X.Ds∧∀l i o,f.get t=.ptr l i o→l=loc r:=by
 unfold sX at hr
 split at hr
 ·rename_i hm
  cases hr
  have hm:t∈X.Ds:=by simpa using hm
  refine⟨hm,fun l i o e=>?_⟩
  obtain⟨i',o',e'⟩:=h.1 t hm
  rw[e] at e'
  cases e'
  rfl
 ·obtain⟨p,hp,rfl⟩:=Option.map_eq_some_iff.1 hr
  have h1:=List.find?_some hp
  have h2:=List.mem_of_find?_eq_some hp
  obtain⟨h3,h4⟩:=h.2.2 p h2
  refine⟨h3,fun l i o e=>h4 l i o ?_⟩
  have:p.1=t:=by simpa using h1
  rw[this];exact e
theorem tR{pv:PV}{v:MV}(h:GV (eH pv) v):∃c,pv=some (c,v):=by
 obtain⟨os,e,l,h1,h2⟩:=h
 simp only[eH,Option.map_eq_some_iff] at h1
 obtain⟨x,hx,rfl⟩:=h1
 exact⟨x.1,by rw[hx];congr 1;exact Prod.ext rfl h2.symm⟩
theorem Ee{X:RX}{loc:Nat→Nat}{f:FR}(h:DOk X loc f){r:Nat}{o:Oper}(hd:Am X r o.op=true){v:MV}(hv:GV (gfo P C ops f o) v){l i j:Nat}(e:v=.ptr l i j):l=loc r:=by
 subst e
 have key:GV (gop P C f o.op) (.ptr l i j)→l=loc r:=by
  intro hv
  unfold Am at hd
  split at hd
  ·rename_i ty s k hop
   rw[hop] at hv
   obtain⟨c,hc⟩:=tR hv
   have hr:sX X s=some r:=by simpa using hd
   simp only[qop,iC,aK] at hc
   split at hc
   ·split at hc
    ·rename_i l' i' o' hs
     simp only[Option.some.injEq,Prod.mk.injEq,MV.ptr.injEq] at hc
     rw[←hc.2.1]
     exact(vZ h hr).2 _ _ _ (by assumption)
    ·simp at hc
    ·cases hc
   ·cases hc
  ·rename_i s hop
   rw[hop] at hv
   obtain⟨c,hc⟩:=tR hv
   have hr:sX X s=some r:=by simpa using hd
   simp only[qop,aK,Option.some.injEq,Prod.mk.injEq] at hc
   exact(vZ h hr).2 _ _ _ hc.2
  ·cases hd
 unfold gfo at hv
 split at hv
 ·exact key hv
 ·split at hv
  ·split at hv
   ·split at hv
    ·exact key hv
    ·obtain⟨c,hc⟩:=tR hv;simp at hc
   ·obtain⟨c,hc⟩:=tR hv;simp at hc
   ·obtain⟨os,e,l,h1,h2⟩:=hv;simp[cA] at h1
  ·obtain⟨os,e,l,h1,h2⟩:=hv;simp[cA] at h1
theorem DOk.put{X:RX}{loc:Nat→Nat}{f:FR}(h:DOk X loc f){o:Oper}(hk:o7 X o=true){v:MV}(hv:GV (gfo P C ops f o) v):DOk X loc (bI f o.dst v):=by
 refine⟨fun t ht=>?_,h.2.1,fun p hp=>⟨(h.2.2 p hp).1,fun l i j e=>?_⟩⟩
 ·rw[lQ,if_neg]
  ·exact h.1 t ht
  ·rintro⟨e,-⟩
   simp only[o7,e,Bool.and_eq_true,Bool.not_eq_true',List.contains_iff_mem] at hk
   simp[ht] at hk
 ·rw[lQ] at e
  split at e
  ·rename_i hd
   simp only[o7,hd.1,Bool.and_eq_true,List.all_eq_true,Bool.or_eq_true,bne_iff_ne,ne_eq] at hk
   rcases hk.2 p hp with hn|hn
   ·exact absurd rfl hn
   ·exact Ee h hn hv e
  ·exact(h.2.2 p hp).2 l i j e
theorem yW{X:RX}{loc:Nat→Nat}{f:FR}(h:DOk X loc f)(hC:l7 X loc C){o:Oper}{r:Nat}(ho:dsr X o.op=some r):r∈X.Ds∧∀l,l∈(gfo P C ops f o).1→l=loc r:=by
 have ld:∀{t:Nat},sX X t=some r→r∈X.Ds∧∀g:MV→GF,(∀v,(∀l i j,v≠.ptr l i j)→(g v).1=[])→(∀l i j,(g (.ptr l i j)).1=[l])→∀l,l∈(g (f.get t)).1→l=loc r:=by
  intro t ht
  obtain⟨h1,h2⟩:=vZ h ht
  refine⟨h1,fun g hg1 hg2 l hl=>?_⟩
  by_cases hp:∃l' i j,f.get t=.ptr l' i j
  ·obtain⟨l',i,j,e⟩:=hp
   rw[e,hg2] at hl
   rw[List.mem_singleton.1 hl]
   exact h2 _ _ _ e
  ·rw[hg1 _ (fun l i j e=>hp ⟨l,i,j,e⟩)] at hl
   cases hl
 have key:r∈X.Ds∧∀l,l∈(gop P C f o.op).1→l=loc r:=by
  unfold dsr at ho
  split at ho
  ·rename_i ty u hop
   obtain⟨h1,h2⟩:=ld ho
   refine⟨h1,fun l hl=>?_⟩
   rw[hop] at hl
   exact h2 (mM P ty) (fun v hv=>by unfold mM;split<;>first|rfl|exact absurd rfl (hv _ _ _)) (fun l i j=>rfl) l hl
  ·rename_i ty u y hop
   obtain⟨h1,h2⟩:=ld ho
   refine⟨h1,fun l hl=>?_⟩
   rw[hop] at hl
   exact h2 (fun v=>lT P ty v (aK f y)) (fun v hv=>by unfold lT;split<;>first|rfl|exact absurd rfl (hv _ _ _)) (fun l i j=>rfl) l hl
  ·rename_i x args ts hop
   unfold l7 at hC
   replace hC:=hC.2
   rw[ho] at hC
   simp only at hC
   refine⟨hC.1,fun l hl=>?_⟩
   rw[hop] at hl
   simp only[gop] at hl
   split at hl
   ·unfold gH at hl
    split at hl
    ·rename_i hc;exact hC.2 _ _ _ hc l hl
    ·cases hl
    ·rename_i hc;exact hC.2 _ _ _ hc l hl
    ·cases hl
   ·cases hl
  ·cases ho
 refine⟨key.1,fun l hl=>?_⟩
 unfold gfo at hl
 split at hl
 ·exact key.2 l hl
 ·split at hl
  ·split at hl
   ·split at hl
    ·exact key.2 l hl
    ·simp[eH] at hl
   ·simp[eH] at hl
   ·simp[cA] at hl
  ·simp[cA] at hl
theorem l7.u{X:RX}{loc:Nat→Nat}(h:l7 X loc C):PlU X.u C:=h.1
theorem pull{K:FR→(Nat→Prop)→St→Prop}(hK:KOk K){X:RX}{loc:Nat→Nat}(hC:l7 X loc C)(l2:List Oper)(o:Oper):∀(l1:List Oper) (f:FR) (U:Nat→Prop) (σ:St),Dom U σ→Fin U→DOk X loc f→(∀x,x∈l1→wW X ops x o=true)→(∀x,x∈l1→o7 X x=true) →
  gl P C ops K (l1++o::l2) f U σ→gs U σ (gfo P C ops f o) fun v U1 σ1=>∀U1',(∀l,U1 l→U1' l)→gl P C ops K (l1++l2) (bI f o.dst v) U1' σ1:=by
 intro l1
 induction l1 with
 | nil =>
  intro f U σ hd hf _ _ _ h
  exact rL h fun v U' σ' hh U1' hu=>Gn hK _ _ _ U' U1' σ' (.refl _) hu hh
 | cons x l1 ih =>
  intro f U σ hd hf hD hsw hkp h
  have hx:=hsw x (by simp)
  have wx:=Mn (P:=P) (C:=C) (ops:=ops) hC.u f x
  have wo:=Mn (P:=P) (C:=C) (ops:=ops) hC.u f o
  have hx2:x.apart ops o=true∧((((gfo P C ops f o).1=[]∨jQ (gfo P C ops f x))∧((gfo P C ops f x).1=[]∨NoW (gfo P C ops f o))∧(NoW (gfo P C ops f x)∨NoW (gfo P C ops f o)))∨∀l,l∈(gfo P C ops f x).1→l∉(gfo P C ops f o).1):=by
   simp only[wW,Oj,Bool.or_eq_true,Bool.and_eq_true] at hx
   rcases hx with⟨hap,⟨c1,c2⟩,c3⟩|⟨hap,hdj⟩
   ·exact⟨hap,.inl ⟨c1.imp wo.2.2.2 wx.2.1,c2.imp wx.2.2.2 wo.2.2.1,c3.imp wx.2.2.1 wo.2.2.1⟩⟩
   ·refine⟨hap,.inr ?_⟩
    unfold N9 at hdj
    split at hdj
    ·rename_i a b ha hb
     obtain⟨m1,r1⟩:=yW (P:=P) (C:=C) (ops:=ops) hD hC ha
     obtain⟨m2,r2⟩:=yW (P:=P) (C:=C) (ops:=ops) hD hC hb
     intro l h1 h2
     have e1:=r1 l h1
     have e2:=r2 l h2
     exact hD.2.1 a b m1 m2 (by simpa using hdj) (e1.symm.trans e2)
    ·cases hdj
  obtain⟨hap,hc⟩:=hx2
  obtain⟨a1,a2,a3⟩:=Oper.apart_spec hap
  simp only[List.cons_append,gl] at h
  have h':=tQ (Ek h) hd hf (k':=fun v U1 σ1=>gs U1 σ1 (gfo P C ops f o) fun u U2 σ2=>∀U2',(∀l,U2 l→U2' l)→gl P C ops K (l1++l2) (bI (bI f x.dst v) o.dst u) U2' σ2) (fun v U1 σ1 hd1 hf1 _ ⟨hgv,hh⟩=>by
   have:=ih (bI f x.dst v) U1 σ1 hd1 hf1 (hD.put (hkp x (by simp)) hgv) (fun y hy=>hsw y (by simp[hy])) (fun y hy=>hkp y (by simp[hy])) hh
   rwa [Gm a1] at this) wx.1
  have h2:=MU (K:=fun v u U2 σ2=>∀U2',(∀l,U2 l→U2' l)→gl P C ops K (l1++l2) (bI (bI f x.dst v) o.dst u) U2' σ2) hd hf wx.1 wo.1 hc
   (fun v u V V' σ hv hh U2' hu=>hh U2' fun l hl=>hu l (hv l hl)) h'
  refine rL h2 fun u U1 σ1 hh U1' hu=>?_
  (try simp only[List.cons_append,gl])
  rw[Gm a3]
  refine rL (hh U1' hu) fun v U2 σ2 hk=>?_
  exact Gn hK _ _ _ U2 U2 σ2 (FEq.comm f v u a2) (fun _ h=>h) (hk U2 fun _ h=>h)
end
end

section
def oO:List Oper→List Nat→List Nat
 | [],acc=>acc
 | o::r,acc=>oO r (acc++[o.after.toList.foldl (fun m e=>if Region.binds .any e then(m ||| 2 ^ e.on) ||| acc.getD e.on 0 else m) 0])
def o3(X:RX)(ops:Array Oper):Bool :=
 let ms:=oO ops.toList []
 (ops.toList.all (o7 X))&&(List.range ops.size).all fun i=>match ops[i]? with
  | none=>true
  | some oi=>(oi.after.toList.all fun e=>!Region.binds .any e || decide (e.on<i)) &&
   ((List.range i).all fun j=>match ops[j]? with
    | none=>true
    | some oj=>(ms.getD i 0).testBit j || wW X ops oj oi)
def chk(ops:Array Oper):Bool:=o3 ⟨[],[],none,.no⟩ ops
section
variable {P:Program} {C:bP} {ops:Array Oper}
def rC(ops:Array Oper)(L:Nat→Prop):Prop:=∀i o,ops[i]?=some o→L i→∀e,e∈o.after.toList→Region.binds .any e=true→L e.on
theorem J3{L:Nat→Prop}{acc:List Nat}{B:Edge→Bool}(hacc:∀i,L i→∀j,(acc.getD i 0).testBit j=true→L j):∀(es:List Edge) (m:Nat),(∀e,e∈es→B e=true→L e.on)→(∀j,m.testBit j=true→L j) →
  ∀j,(es.foldl (fun m e=>if B e then(m ||| 2 ^ e.on) ||| acc.getD e.on 0 else m) m).testBit j=true→L j:=by
 intro es
 induction es with
 | nil=>intro m _ hm j h;exact hm j h
 | cons e r ih =>
  intro m he hm j h
  simp only[List.foldl_cons] at h
  refine ih _ (fun e' h'=>he e' (by simp[h'])) (fun k hk=>?_) j h
  split at hk
  ·rename_i hb
   simp only[Nat.testBit_or,Bool.or_eq_true] at hk
   rcases hk with(hk|hk)|hk
   ·exact hm k hk
   ·rw[Nat.testBit_two_pow] at hk
    have:e.on=k:=by simpa using hk
    exact this ▸ he e (by simp) hb
   ·exact hacc e.on (he e (by simp) hb) k hk
  ·exact hm k hk
theorem pA{L:Nat→Prop}:∀(l pre:List Oper) (acc:List Nat),acc.length=pre.length→rC (pre++l).toArray L →
  (∀i,(L i∨∃o,(pre++l)[i]?=some o∧∀e,e∈o.after.toList→Region.binds .any e=true→L e.on)→∀j,(acc.getD i 0).testBit j=true→L j) →
  ∀i,(L i∨∃o,(pre++l)[i]?=some o∧∀e,e∈o.after.toList→Region.binds .any e=true→L e.on)→∀j,((oO l acc).getD i 0).testBit j=true→L j:=by
 intro l
 induction l with
 | nil=>intro pre acc _ _ h;exact h
 | cons o r ih =>
  intro pre acc hl hc h
  have e1:pre++o::r=(pre++[o])++r:=by simp
  (try simp only[oO])
  rw[e1] at hc h ⊢
  refine ih (pre++[o]) _ (by simp[hl]) hc (fun i hi j hj=>?_)
  rcases Nat.lt_trichotomy i acc.length with q|q|q
  ·refine h i hi j ?_
   simpa[List.getD,List.getElem?_append_left q] using hj
  ·have ho:((pre++[o])++r)[i]?=some o:=by
    rw[q,hl];simp
   have hpre:∀e,e∈o.after.toList→Region.binds .any e=true→L e.on:=by
    rcases hi with hi|⟨o',h1,h2⟩
    ·exact hc i o (by simpa using ho) hi
    ·rw[ho] at h1;cases h1;exact h2
   rw[q] at hj
   simp only[List.getD,List.getElem?_append_right (Nat.le_refl _),Nat.sub_self,List.getElem?_cons_zero,Option.getD_some] at hj
   exact J3 (B:=Region.binds .any) (fun k hk=>h k (.inl hk)) o.after.toList 0 hpre (fun j hj=>by simp at hj) j hj
  ·have:(acc++[o.after.toList.foldl (fun m e=>if Region.binds .any e then(m ||| 2 ^ e.on) ||| acc.getD e.on 0 else m) 0])[i]?=none:=by
    rw[List.getElem?_eq_none];simp;omega
   rw[List.getD,this] at hj
   simp at hj
def left(listed:Array Bool)(n:Nat):List Nat:=(List.range n).filter fun i=>!listed.getD i true
theorem uT{listed:Array Bool}{n i:Nat}(hs:listed.size=n):left (listed.setIfInBounds i true) n=(left listed n).filter fun j=>j != i:=by
 unfold left
 rw[List.filter_filter]
 refine List.filter_congr fun j hj=>?_
 have hj:j<n:=by simpa using hj
 by_cases h:j=i
 ·subst h;simp[hs,hj]
 ·have:(i:Nat)≠j:=fun e=>h e.symm
  simp[h,Array.getElem?_setIfInBounds_ne this]
theorem o8{listed:Array Bool}{n i:Nat}(h:i∈left listed n):∃l1 l2,left listed n=l1++i::l2∧(∀j,j∈l1→j<i)∧(left listed n).filter (fun j=>j != i)=l1++l2:=by
 obtain⟨l1,l2,he⟩:=List.append_of_mem h
 have hp:(left listed n).Pairwise (·<·):=List.Pairwise.filter _ List.pairwise_lt_range
 rw[he] at hp
 obtain⟨h1,h2,h3⟩:=List.pairwise_append.1 hp
 have h4:=(List.pairwise_cons.1 h2).1
 refine⟨l1,l2,he,fun j hj=>h3 j hj i (by simp),?_⟩
 rw[he]
 (try simp only[List.filter_append,List.filter_cons,bne_self_eq_false,Bool.false_eq_true,if_false])
 congr 1
 ·exact List.filter_eq_self.2 fun j hj=>by have:=h3 j hj i (by simp);simp;omega
 ·exact List.filter_eq_self.2 fun j hj=>by have:=h4 j hj;simp;omega
def opsOf(ops:Array Oper)(is:List Nat):List Oper:=is.filterMap fun i=>ops[i]?
theorem mem_left{listed:Array Bool}{n i:Nat}:i∈left listed n↔i<n∧listed.getD i true=false:=by simp[left]
theorem G2{X:RX}{loc:Nat→Nat}(hC:l7 X loc C)(hchk:o3 X ops=true){F:Fence}(hF:F=Fence.wide∨∃l0,F=Fence.wide.inRound l0∧∀o,o∈ops.toList→∀c,o.op≠.defer c){Q:MQ}{Φ0:Phi}{σ0:St}{w0:World}:∀(fuel:Nat) (listed:Array Bool) (f:FR) (σ:St) (Φ:Phi) (w:World) (a:Act),listed.size=ops.size→(left listed ops.size).length=fuel →
  rC ops (fun i=>listed.getD i false=true)→Inv Φ w σ→dC Φ a.tmps f→eG Φ w a.defers f.d→DOk X loc f→Step Φ0 σ0 w0 Φ σ w →
  gl P C ops (fun f' _ σ'=>∃f'',FEq f' f''∧Q .normal f'' σ') (opsOf ops (left listed ops.size)) f (fun l=>Φ.obj l≠none) σ→wpAnyIn F 0 P .any ops (lift Φ0 σ0 w0 Q) fuel listed a w:=by
 have hKok:KOk (fun f' (_:Nat→Prop) σ'=>∃f'',FEq f' f''∧Q .normal f'' σ'):=fun f f' U U' σ hf _ ⟨f'',h1,h2⟩=>⟨f'',hf.symm.trans h1,h2⟩
 have fin:∀(listed:Array Bool) (f:FR) (σ:St) (Φ:Phi) (w:World) (a:Act),left listed ops.size=[]→Inv Φ w σ→dC Φ a.tmps f→eG Φ w a.defers f.d→Step Φ0 σ0 w0 Φ σ w →
   gl P C ops (fun f' _ σ'=>∃f'',FEq f' f''∧Q .normal f'' σ') (opsOf ops (left listed ops.size)) f (fun l=>Φ.obj l≠none) σ→lift Φ0 σ0 w0 Q .normal a w:=by
  intro listed f σ Φ w a hl hi hr hd hs h
  rw[hl] at h
  obtain⟨f'',h1,h2⟩:=h
  exact⟨f'',σ,Φ,h1.2.1 ▸ hd,⟨hr.1.trans h1.1,fun t=>by rw[←h1.2.2 t];exact hr.2 t⟩,hi,hs,h2⟩
 have ready_left:∀(listed:Array Bool) i,i∈Region.ready .any ops listed→i∈left listed ops.size:=fun listed i hi=>by
  obtain⟨h0,o,ho,-⟩:=mem_ready.1 hi
  exact mem_left.2 ⟨(Array.getElem?_eq_some_iff.1 ho).1,h0⟩
 have chk1:∀i oi,ops[i]?=some oi→(∀e,e∈oi.after.toList→Region.binds .any e=true→e.on<i)∧∀j oj,j<i→ops[j]?=some oj→((oO ops.toList []).getD i 0).testBit j=true∨wW X ops oj oi=true:=by
  intro i oi hoi
  have hlt:=(Array.getElem?_eq_some_iff.1 hoi).1
  have h:=hchk
  simp only[o3,Bool.and_eq_true] at h
  replace h:=h.2
  simp only[List.all_eq_true,List.mem_range] at h
  have h1:=h i hlt
  rw[hoi] at h1
  simp only[Bool.and_eq_true,List.all_eq_true,Bool.or_eq_true,Bool.not_eq_true',decide_eq_true_eq,List.mem_range] at h1
  refine⟨fun e he hb=>?_,fun j oj hj hoj=>?_⟩
  ·rcases h1.1 e he with q|q
   ·rw[hb] at q;cases q
   ·exact q
  ·have:=h1.2 j hj
   rw[hoj] at this
   simpa using this
 intro fuel
 induction fuel with
 | zero =>
  intro listed f σ Φ w a hsz hl hc hi hr hd hD hs h
  have hnil:left listed ops.size=[]:=List.eq_nil_of_length_eq_zero hl
  refine⟨?_,fin listed f σ Φ w a hnil hi hr hd hs h⟩
  rw[List.eq_nil_iff_forall_not_mem]
  intro i hi
  have:=ready_left listed i hi
  rw[hnil] at this;cases this
 | succ fuel ih =>
  intro listed f σ Φ w a hsz hl hc hi hr hd hD hs h
  refine⟨fun hnone=>?_,fun i hrd=>?_⟩
  ·-- the first that is left is ready
   exfalso
   cases hleft:left listed ops.size with
   | nil=>rw[hleft] at hl;cases hl
   | cons i0 r =>
    have h0:i0∈left listed ops.size:=by rw[hleft];simp
    obtain⟨hlt,h0'⟩:=mem_left.1 h0
    have hoi:ops[i0]?=some ops[i0]:=Array.getElem?_eq_getElem hlt
    have:i0∈Region.ready .any ops listed:=mem_ready.2 ⟨h0',_,hoi,fun e he hb=>by
     have hlt':=(chk1 i0 _ hoi).1 e (by simpa using he) hb
     cases hq:listed.getD e.on false with
     | true=>rfl
     | false =>
      exfalso
      have hm:e.on∈left listed ops.size:=mem_left.2 ⟨by omega,by
       have hb2:e.on<listed.size:=by omega
       simpa[hb2] using hq⟩
      have hp:(left listed ops.size).Pairwise (·<·):=List.Pairwise.filter _ List.pairwise_lt_range
      rw[hleft] at hp hm
      have:=(List.pairwise_cons.1 hp).1
      rcases List.mem_cons.1 hm with q|q
      ·omega
      ·have:=this e.on q;omega⟩
    rw[hnone] at this;cases this
  ·have hmem:=ready_left listed i hrd
   obtain⟨l1,l2,he,hlt,hflt⟩:=o8 hmem
   obtain⟨h0,o,ho,hpre⟩:=mem_ready.1 hrd
   have hsw:∀x,x∈opsOf ops l1→wW X ops x o=true:=by
    intro x hx
    obtain⟨j,hj,hx⟩:=List.mem_filterMap.1 hx
    rcases (chk1 i o ho).2 j x (hlt j hj) hx with q|q
    ·exfalso
     have:=pA (L:=fun i=>listed.getD i false=true) ops.toList [] [] rfl (by simpa using hc) (fun i hi j hj=>by simp at hj) i (.inr ⟨o,by simpa using ho,fun e he hb=>hpre e (by simpa using he) hb⟩) j q
     have hjl:j∈left listed ops.size:=by rw[he];simp[hj]
     have hj2:=(mem_left.1 hjl)
     have hb2:j<listed.size:=by omega
     simp[hb2] at this hj2
     simp[this] at hj2
    ·exact q
   have e2:opsOf ops (left listed ops.size)=opsOf ops l1++o::opsOf ops l2:=by rw[he];simp[opsOf,List.filterMap_append,ho]
   rw[e2] at h
   have hdom:Dom (fun l=>Φ.obj l≠none) σ:=fun l hl q=>hl (hi.eQ q)
   have hfin:Fin (fun l=>Φ.obj l≠none):=by
    obtain⟨n,hn⟩:=hi.fresh.1.1
    exact⟨n,fun l hl q=>q (hn l hl)⟩
   have hkall:∀(j:Nat) x,ops[j]?=some x→o7 X x=true:=fun j x hx=>by
    have h:=hchk
    simp only[o3,Bool.and_eq_true,List.all_eq_true] at h
    exact h.1 x (by rw[←Array.getElem?_toList] at hx;exact List.mem_of_getElem? hx)
   have hp:=Ek (pull hKok hC (opsOf ops l2) o (opsOf ops l1) f _ σ hdom hfin hD hsw (fun x hx=>by
    obtain⟨j,hj,hx⟩:=List.mem_filterMap.1 hx
    exact hkall j x hx) h)
   have e3:opsOf ops (left (listed.setIfInBounds i true) ops.size)=opsOf ops l1++opsOf ops l2:=by rw[uT hsz,hflt];simp[opsOf,List.filterMap_append]
   have hlen:(left (listed.setIfInBounds i true) ops.size).length=fuel:=by
    rw[uT hsz,hflt]
    rw[he] at hl
    simp at hl ⊢;omega
   have hcl:rC ops (fun k=>(listed.setIfInBounds i true).getD k false=true):=by
    intro k ok hk hlk e hek hb
    by_cases hki:k=i
    ·subst hki
     rw[ho] at hk;cases hk
     exact getD_set_true (hpre e (by simpa using hek) hb)
    ·have:listed.getD k false=true:=by rw[←hlk,getD_set_ne _ (Ne.symm hki)]
     exact getD_set_true (hc k ok hk this e hek hb)
   -- what comes then
   have next:∀v mv σ' Φ' w' ,Rel Φ' v mv→Inv Φ' w' σ'→Step Φ σ w Φ' σ' w' →
     (∃U':Nat→Prop,(∀l,U' l→Φ.obj l≠none∨σ' l≠none)∧GV (gfo P C ops f o) mv∧∀U1',(∀l,U' l→U1' l)→gl P C ops (fun f' _ σ'=>∃f'',FEq f' f''∧Q .normal f'' σ') (opsOf ops l1++opsOf ops l2) (bI f o.dst mv) U1' σ') →
     wpAnyIn F 0 P .any ops (lift Φ0 σ0 w0 Q) fuel (listed.setIfInBounds i true) (a.put o.dst v) w':=by
    rintro v mv σ' Φ' w' r1 i1 s1 ⟨U',hu,hgv,hk⟩
    refine ih _ (bI f o.dst mv) σ' Φ' w' (a.put o.dst v) (by simpa using hsz) hlen hcl i1 (eF (hr.mono s1.le) o.dst r1) (by rw[cI,fN];exact hd.step hi s1) (hD.put (hkall i o ho) hgv) (hs.trans s1) ?_
    rw[e3]
    refine hk _ fun l hl=>?_
    rcases hu l hl with q|q
    ·intro hn
     cases hp:Φ.obj l with
     | none=>exact q hp
     | some p=>rw[s1.le.obj l p hp] at hn;cases hn
    ·intro hn;exact q (i1.eQ hn)
   unfold wpOpIn
   rw[ho]
   simp only
   have hFo:F=Fence.wide∨∃l0,F=Fence.wide.inRound l0∧∀c,o.op≠.defer c:=hF.imp id fun⟨l0,e,q⟩=>⟨l0,e,q o (by rw[←Array.getElem?_toList] at ho;exact List.mem_of_getElem? ho)⟩
   have hfn:∀g,F.fn g:=fun g=>by rcases hF with rfl|⟨l,rfl,_⟩<;>trivial
   have run:gs (fun l=>Φ.obj l≠none) σ (gop P C f o.op) (fun v U1 σ1=>GV (gfo P C ops f o) v∧∀U1',(∀l,U1 l→U1' l)→gl P C ops (fun f' _ σ'=>∃f'',FEq f' f''∧Q .normal f'' σ') (opsOf ops l1++opsOf ops l2) (bI f o.dst v) U1' σ1) →
     o.wpIn F 0 P a w (wpAnyIn F 0 P .any ops (lift Φ0 σ0 w0 Q) fuel (listed.setIfInBounds i true)) (lift Φ0 σ0 w0 Q):=by
    intro hg
    refine kA hFo ?_
    refine lA (Of hg) Φ w a _ _ hi hr fun v mv σ' Φ' w' r1 i1 s1 hk=>next v mv σ' Φ' w' r1 i1 s1 (hk fun l h1 h2 q=>?_)
    rcases s1.locs l _ (Option.ne_none_iff_exists'.1 h1).choose_spec with⟨o',ho'⟩|ho'
    ·rw[h2] at ho';cases ho'
    ·exact q ho'
   obtain⟨G,hG⟩:∃G,GV (gfo P C ops f o)=G:=⟨_,rfl⟩
   rw[hG] at hp run next
   unfold gfo at hp
   split at hp
   ·rename_i hg
    have hw:Region.wanted o (yielded ops a.tmps)=true:=by unfold Region.wanted;rw[hg]
    rw[if_pos hw]
    exact run hp
   ·rename_i j want hg
    split at hp
    ·rename_i t ht
     split at hp
     ·rename_i b hb
      have hmg:∀{A B:Prop},(b=want→A)∧(b=(!want)→B)→(Region.wanted o (yielded ops a.tmps)=true∧A)∨(Region.wanted o (yielded ops a.tmps)=false∧B):=fun {A B} h =>
       dT (ops:=ops) (o:=o) (f:=f) (by unfold gB;rw[hg];(try simp only[ht,hb]);exact h) hr
      split at hp
      ·rename_i hbw
       rcases hmg (A:=True) (B:=False) ⟨fun _=>trivial,fun e=>by rw[hbw] at e;cases want<;>cases e⟩ with⟨hw,-⟩|⟨-,hw⟩
       ·rw[if_pos hw];exact run hp
       ·exact hw.elim
      ·rename_i hbw
       rcases hmg (A:=False) (B:=True) ⟨fun e=>hbw e,fun _=>trivial⟩ with⟨-,hw⟩|⟨hw,-⟩
       ·exact hw.elim
       ·rw[if_neg (by simp[hw])]
        obtain⟨-,U',hu,hgv,hk⟩:=lZ hp
        exact⟨fun f _=>hfn f,next undef (.tup []) σ Φ w gJ hi (.refl _ _ _) ⟨U',hu,hgv,hk⟩⟩
     ·rename_i hb
      rcases dT (ops:=ops) (o:=o) (f:=f) (yes:=False) (no:=True) (by unfold gB;rw[hg];simp only[ht,hb]) hr with⟨-,hw⟩|⟨hw,-⟩
      ·exact hw.elim
      ·rw[if_neg (by simp[hw])]
       obtain⟨-,U',hu,hgv,hk⟩:=lZ hp
       exact⟨fun f _=>hfn f,next undef (.tup []) σ Φ w gJ hi (.refl _ _ _) ⟨U',hu,hgv,hk⟩⟩
     ·exact(fH hp).elim
    ·exact(fH hp).elim
def cV(P:Program)(MC:FuncId→List MV→St→(MV→St→Prop)→Prop)(ops:Array Oper)(K:FR→St→Prop):List Oper→FR→St→Prop
 | [],f,σ=>K f σ
 | o::rest,f,σ=>gB ops f o (xW P MC f σ (fun v σ'=>cV P MC ops K rest (bI f o.dst v) σ') o.op) (cV P MC ops K rest (bI f o.dst (.tup [])) σ)
abbrev mU(P:Program)(C:bP):=cV P (pB P C)
theorem Oa{MC:FuncId→List MV→St→(MV→St→Prop)→Prop}(hMC:∀U σ,Dom U σ→∀g ms k,MC g ms σ k→gs U σ (gH P C g ms) fun v _ σ'=>k v σ'){u:gM}(hu:PlU u C){K:FR→St→Prop}:∀(l:List Oper) (f:FR) (U:Nat→Prop) (σ:St),Dom U σ→Fin U→cV P MC ops K l f σ→gl P C ops (fun f' _ σ'=>∃f'',FEq f' f''∧K f'' σ') l f U σ:=by
 intro l
 induction l with
 | nil=>intro f U σ _ _ h;exact⟨f,.refl f,h⟩
 | cons o r ih =>
  intro f U σ hd hf h
  simp only[cV] at h
  (try simp only[gl])
  have run:xW P MC f σ (fun v σ'=>cV P MC ops K r (bI f o.dst v) σ') o.op→gs U σ (gop P C f o.op) fun v U' σ'=>gl P C ops (fun f' _ σ'=>∃f'',FEq f' f''∧K f'' σ') r (bI f o.dst v) U' σ':=fun h =>
   tQ (OJ (hMC U σ hd) hd h) hd hf (fun v U' σ' hd' hf' _ hh=>ih _ U' σ' hd' hf' hh) (FX P C hu f o.op).1
  unfold gB at h
  unfold gfo
  split at h
  ·rename_i hg;(try simp only[hg]);exact run h
  ·rename_i j want hg
   (try simp only[hg])
   split at h
   ·rename_i t ht
    (try simp only[ht])
    split at h
    ·rename_i b hb
     (try simp only[hb])
     split
     ·rename_i hbw;exact run (h.1 hbw)
     ·rename_i hbw
      have hb':b=!want:=by cases b<;>cases want<;>simp at hbw ⊢
      refine rL (tQ (lS (U:=U) (pv:=some (True,.tup [])) (k:=fun v σ'=>v=.tup []∧σ'=σ) ⟨trivial,rfl,rfl⟩) hd hf (k':=fun v U' σ'=>v=.tup []∧σ'=σ∧Dom U' σ'∧Fin U') (fun v U' σ' h1 h2 _ h3=>⟨h3.1,h3.2,h1,h2⟩) (cT _).1) ?_
      rintro v U' σ' ⟨rfl,rfl,h1,h2⟩
      exact ih _ U' _ h1 h2 (h.2 hb')
    ·rename_i hb
     (try simp only[hb])
     refine rL (tQ (lS (U:=U) (pv:=some (True,.tup [])) (k:=fun v σ'=>v=.tup []∧σ'=σ) ⟨trivial,rfl,rfl⟩) hd hf (k':=fun v U' σ'=>v=.tup []∧σ'=σ∧Dom U' σ'∧Fin U') (fun v U' σ' h1 h2 _ h3=>⟨h3.1,h3.2,h1,h2⟩) (cT _).1) ?_
     rintro v U' σ' ⟨rfl,rfl,h1,h2⟩
     exact ih _ U' _ h1 h2 h
    ·exact h.elim
   ·exact h.elim
theorem zM(hm:P.follows .mixedOrders=true){X:RX}{loc:Nat→Nat}(hC:l7 X loc C)(hchk:o3 X ops=true){MC:FuncId→List MV→St→(MV→St→Prop)→Prop}(hMC:∀U σ,Dom U σ→∀g ms k,MC g ms σ k→gs U σ (gH P C g ms) fun v _ σ'=>k v σ'){id:Nat}{f:FR}{σ:St}{Q:MQ}(hD:DOk X loc f)(h:cV P MC ops (Q .normal) ops.toList f σ):mwp P (.region id ops true) f σ Q:=by
 intro F hF Φ w a hi hr hd
 have hi':Inv Φ { w with drawn:=w.drawn+1 } σ:=⟨fun l o hl=>by
  have:=hi.own l o hl
  cases o<;>exact this,hi.inj,hi.snap,hi.apart,hi.fresh⟩
 have hst:Step Φ σ w Φ σ { w with drawn:=w.drawn+1 }:=⟨.refl Φ,rfl,rfl,rfl,iZ (Nat.le_succ _),Nat.le_refl _,fun _ _ _=>rfl,fun _ _ h=>.inl h,fun l o h=>.inl ⟨o,h⟩,fun _ h=>.inl h⟩
 have hall:left (Array.replicate ops.size false) ops.size=List.range ops.size:=by
  unfold left
  refine List.filter_eq_self.2 fun j hj=>?_
  have hj:j<ops.size:=by simpa using hj
  simp[hj]
 have hops:opsOf ops (List.range ops.size)=ops.toList:=by
  unfold opsOf
  apply List.ext_getElem?
  intro i
  have:∀(l:List Oper),(List.range l.length).filterMap (fun i=>l[i]?)=l:=by
   intro l
   induction l with
   | nil=>rfl
   | cons a r ih =>
    rw[List.length_cons,List.range_succ_eq_map,List.filterMap_cons]
    (try simp only[List.getElem?_cons_zero,List.filterMap_map])
    congr 1
  have:=this ops.toList
  simp only[Array.length_toList,Array.getElem?_toList] at this
  rw[this]
 refine wpIn_region_any hm (G2 (C:=C) hC hchk hF.ops ops.size _ f σ Φ _ a (by simp) (by rw[hall];simp) ?_ hi' hr (hd.step hi hst) hD hst ?_)
 ·intro i o ho hl
  simp only[Array.getD_eq_getD_getElem?,Array.getElem?_replicate] at hl
  split at hl<;>simp at hl
 ·rw[hall,hops]
  refine Oa hMC hC.u ops.toList f _ σ (fun l hl q=>hl (hi.eQ q)) ?_ h
  obtain⟨n,hn⟩:=hi.fresh.1.1
  exact⟨n,fun l hl q=>q (hn l hl)⟩
theorem IC(hm:P.follows .mixedOrders=true){Ds:List Nat}{loc:Nat→Nat}(hchk:o3 ⟨Ds,[],none,.no⟩ ops=true)(C:bP){id:Nat}{f:FR}{σ:St}{Q:MQ}(hD:DOk ⟨Ds,[],none,.no⟩ loc f)(h:mU P C ops (Q .normal) ops.toList f σ):mwp P (.region id ops true) f σ Q :=
 zM (C:=C.pl) (X:=⟨Ds,[],none,.no⟩) (loc:=loc) hm (show l7 ⟨Ds,[],none,.no⟩ loc C.pl from⟨C.Og.u,trivial⟩) hchk (fun _ _ hd _ _ _ h=>Gr hd h) hD h
theorem CO(hm:P.follows .mixedOrders=true)(hchk:chk ops=true)(C:bP){id:Nat}{f:FR}{σ:St}{Q:MQ}(h:mU P C ops (Q .normal) ops.toList f σ):mwp P (.region id ops true) f σ Q :=
 IC (loc:=fun _=>0) hm hchk C ⟨fun t ht=>(by cases ht),fun t t' ht=>(by cases ht),fun p hp=>(by cases hp)⟩ h
theorem ID(hm:P.follows .mixedOrders=true){X:RX}{loc:Nat→Nat}(C:bP)(hC:l7 X loc C)(hchk:o3 X ops=true){id:Nat}{f:FR}{σ:St}{Q:MQ}(hD:DOk X loc f)(h:cV P (gA P C) ops (Q .normal) ops.toList f σ):mwp P (.region id ops true) f σ Q :=
 zM hm hC hchk (fun _ _ hd _ _ _ h=>BW hd h) hD h
end
end

section
def lW:Op→Bool
 | .call ⟨.value _,_,_⟩|.defer _=>false
 | _=>true
section
variable {P:Program} {C:bP} {MC:FuncId→List MV→St→(MV→St→Prop)→Prop} {f:FR} {σ:St} {Q:MQ} {k:MV→St→Prop} {K:FR→St→Prop} {ops:Array Oper} {rest:List Oper}
theorem EZ{op:Op}(h:lW op=true):xW P MC f σ k op=mop P f σ k op:=by
 cases op<;>first|rfl|(simp[lW] at h;done)|skip
 rename_i c
 obtain⟨callee,args,ts⟩:=c
 cases callee<;>first|rfl|(simp[lW] at h;done)
theorem Cn{id:Nat}{l:List Oper}(hm:P.follows .mixedOrders=true)(hchk:(chk l.toArray&&l.all fun o=>lW o.op)=true)(h:R (mU P (fun _ _=>none) (@OfNat.ofNat (Array Oper) (nat_lit 0) (@_root_.id (OfNat (Array Oper) (nat_lit 0)) (OfNat.mk (l.toArray)))) (Q .normal) (@OfNat.ofNat (List Oper) (nat_lit 0) (@_root_.id (OfNat (List Oper) (nat_lit 0)) (OfNat.mk l))) f σ)):R (sN P id (@OfNat.ofNat (List Oper) (nat_lit 0) (@_root_.id (OfNat (List Oper) (nat_lit 0)) (OfNat.mk l))) f σ Q):=by
 simp only[Bool.and_eq_true] at hchk
 exact CO hm hchk.1 (fun _ _=>none) h
theorem aJ{id:Nat}{l:List Oper}(hm:P.follows .mixedOrders=true)(hchk:chk l.toArray=true)(C:bP)(h:R (mU P C (@OfNat.ofNat (Array Oper) (nat_lit 0) (@_root_.id (OfNat (Array Oper) (nat_lit 0)) (OfNat.mk (l.toArray)))) (Q .normal) (@OfNat.ofNat (List Oper) (nat_lit 0) (@_root_.id (OfNat (List Oper) (nat_lit 0)) (OfNat.mk l))) f σ)):R (sN P id (@OfNat.ofNat (List Oper) (nat_lit 0) (@_root_.id (OfNat (List Oper) (nat_lit 0)) (OfNat.mk l))) f σ Q) :=
 CO hm hchk C h
def HM(ds:List (Nat × Nat))(t:Nat):Nat:=((ds.find? fun p=>p.1==t).map (·.2)).getD 0
theorem DOk.of{ds:List (Nat × Nat)}{Rs:List (Nat × Nat)}{dr:Option Nat}{tu:gM}{f:FR}(h1:∀p,p∈ds→∃i o,f.get p.1=.ptr p.2 i o)(h2:(ds.map (·.2)).Pairwise (·≠·))(h3:(ds.map (·.1)).Pairwise (·≠·))(h4:∀p,p∈Rs→p.2∈ds.map (·.1)∧∀l i o,f.get p.1=.ptr l i o→l=HM ds p.2):DOk ⟨ds.map (·.1),Rs,dr,tu⟩ (HM ds) f:=by
 unfold HM at h4 ⊢
 have hloc:∀p,p∈ds→((ds.find? fun q=>q.1==p.1).map (·.2)).getD 0=p.2:=fun p hp=>by
  clear h4
  induction ds with
  | nil=>cases hp
  | cons q r ih =>
   simp only[List.map_cons] at h2 h3
   obtain⟨a1,a2⟩:=List.pairwise_cons.1 h2
   obtain⟨b1,b2⟩:=List.pairwise_cons.1 h3
   rcases List.mem_cons.1 hp with rfl|hp'
   ·simp
   ·have:(q.1==p.1)=false:=by simpa using b1 p.1 (List.mem_map.2 ⟨p,hp',rfl⟩)
    rw[List.find?_cons,this]
    exact ih (fun p hp=>h1 p (List.mem_cons_of_mem _ hp)) a2 b2 hp'
 refine⟨fun t ht=>?_,fun t t' ht ht' hne=>?_,h4⟩
 ·obtain⟨p,hp,rfl⟩:=List.mem_map.1 ht
  simp only[hloc p hp]
  exact h1 p hp
 ·obtain⟨p,hp,rfl⟩:=List.mem_map.1 ht
  obtain⟨q,hq,rfl⟩:=List.mem_map.1 ht'
  simp only[hloc p hp,hloc q hq]
  intro e
  obtain⟨i,hi,e1⟩:=List.mem_iff_getElem.1 hp
  obtain⟨j,hj,e2⟩:=List.mem_iff_getElem.1 hq
  have hij:i≠j:=fun e=>by subst e;exact hne (by rw[←e1,←e2])
  rw[List.pairwise_iff_getElem] at h2
  rcases Nat.lt_or_gt_of_ne hij with hlt|hgt
  ·have:=h2 i j (by simpa using hi) (by simpa using hj) hlt
   simp only[List.getElem_map,e1,e2] at this
   exact this e
  ·have:=h2 j i (by simpa using hj) (by simpa using hi) hgt
   simp only[List.getElem_map,e1,e2] at this
   exact this e.symm
theorem H5{id:Nat}{l:List Oper}(hm:P.follows .mixedOrders=true)(ds:List (Nat × Nat))(Ds:List Nat)(hds:ds.map (·.1)=Ds)(Rs:List (Nat × Nat))(d:Nat)(hd:d∈Ds)(hchk:o3 ⟨Ds,Rs,some d,.all⟩ l.toArray=true)(C:bP)(hC:∀g ms F,C g ms=some F→∀l,l∈F.rd→l=HM ds d)
 (h1:∀p,p∈ds→∃i o,f.get p.1=.ptr p.2 i o)(h2:(ds.map (·.2)).Pairwise (·≠·))(h3:Ds.Pairwise (·≠·))(h4:∀p,p∈Rs→p.2∈Ds∧∀l i o,f.get p.1=.ptr l i o→l=HM ds p.2)
 (h:R (cV P (gA P C) (@OfNat.ofNat (Array Oper) (nat_lit 0) (@_root_.id (OfNat (Array Oper) (nat_lit 0)) (OfNat.mk (l.toArray)))) (Q .normal) (@OfNat.ofNat (List Oper) (nat_lit 0) (@_root_.id (OfNat (List Oper) (nat_lit 0)) (OfNat.mk l))) f σ)):R (sN P id (@OfNat.ofNat (List Oper) (nat_lit 0) (@_root_.id (OfNat (List Oper) (nat_lit 0)) (OfNat.mk l))) f σ Q):=by
 subst hds
 exact ID (X:=⟨ds.map (·.1),Rs,some d,.all⟩) (loc:=HM ds) hm C (show l7 _ _ C from⟨fun _ _ _ _ _ _=>.inr trivial,hd,hC⟩) hchk (DOk.of h1 h2 h3 h4) h
theorem Iu:R (cV P MC ops K [] f σ)=R (K f σ):=rfl
theorem E2{dst:Option Tmp}{op:Op}{ty:TypeId}{pos:String}{after:Array Edge}:R (cV P MC ops K (⟨dst,op,ty,pos,after,none⟩::rest) f σ)=R (xW P MC f σ (fun v σ'=>cV P MC ops K (@OfNat.ofNat (List Oper) (nat_lit 0) (@_root_.id (OfNat (List Oper) (nat_lit 0)) (OfNat.mk rest))) (bI f dst v) σ') op):=congrArg R rfl
theorem E3{l:List Oper}:R (cV P MC ops K (@OfNat.ofNat (List Oper) (nat_lit 0) (@_root_.id (OfNat (List Oper) (nat_lit 0)) (OfNat.mk l))) f σ)=R (cV P MC ops K l f σ):=congrArg R rfl
theorem CC{l:List Oper}{dst:Option Tmp}{op:Op}{ty:TypeId}{pos:String}{after:Array Edge}{j:Nat}{want:Bool}:R (cV P MC (@OfNat.ofNat (Array Oper) (nat_lit 0) (@_root_.id (OfNat (Array Oper) (nat_lit 0)) (OfNat.mk (l.toArray)))) K (⟨dst,op,ty,pos,after,some (j,want)⟩::rest) f σ)=R (bX (E (Em f (lP (@OfNat.ofNat (List Oper) (nat_lit 0) (@_root_.id (OfNat (List Oper) (nat_lit 0)) (OfNat.mk l))) j))) want (xW P MC f σ (fun v σ'=>cV P MC (@OfNat.ofNat (Array Oper) (nat_lit 0) (@_root_.id (OfNat (Array Oper) (nat_lit 0)) (OfNat.mk (l.toArray)))) K (@OfNat.ofNat (List Oper) (nat_lit 0) (@_root_.id (OfNat (List Oper) (nat_lit 0)) (OfNat.mk rest))) (bI f dst v) σ') op) (cV P MC (@OfNat.ofNat (Array Oper) (nat_lit 0) (@_root_.id (OfNat (Array Oper) (nat_lit 0)) (OfNat.mk (l.toArray)))) K (@OfNat.ofNat (List Oper) (nat_lit 0) (@_root_.id (OfNat (List Oper) (nat_lit 0)) (OfNat.mk rest))) (bI f dst (.tup [])) σ)):=congrArg R (by
 show cV P MC l.toArray K (⟨dst,op,ty,pos,after,some (j,want)⟩::rest) f σ=bX (Em f (lP l j)) want (xW P MC f σ (fun v σ'=>cV P MC l.toArray K rest (bI f dst v) σ') op) (cV P MC l.toArray K rest (bI f dst (.tup [])) σ)
 simp only[cV,gB,Au]
 cases lP l j<;>rfl)
theorem Nt{op:Op}(h:lW op=true):R (xW P MC f σ k op)=R (mop P f σ k op):=by rw[EZ h]
def Gy(MC:FuncId→List MV→St→(MV→St→Prop)→Prop)(x:MV)(args:List MV)(σ:St)(k:MV→St→Prop):Prop:=match x with
 | .fn (.func g) ms ns=>MC g (ms++args++ns) σ k
 | _=>False
theorem Il{x:Operand}{args:Array Operand}{ts:Array TypeId}:R (xW P MC f σ k (.call ⟨.value x,args,ts⟩))=R (Gy MC (E (aK f x)) (E (args.toList.map (aK f))) σ k):=congrArg R rfl
theorem EF{g:FuncId}{ms ns args:List MV}:R (Gy MC (.fn (.func g) ms ns) args σ k)=R (MC g (E (ms++args++ns)) σ k):=congrArg R rfl
theorem aF{g:FuncId}{ms:List MV}{r:MV}(hC:C g ms=some ⟨[],fun v=>v=r,none⟩)(h:aA P g ms St.none fun v _=>v=r)(hk:R (cD r σ k)):R (pB P C g ms σ k) :=
 .inl ⟨[],_,[],hC,rfl,h.Ik,⟨r,rfl⟩,fun v hv=>hv ▸ hk⟩
theorem Gt{g:FuncId}{ms:List MV}(rd:List Nat)(os:List bE){q:MV→Prop}(hC:C g ms=some ⟨rd,q,none⟩)(hos:rd.map σ=os.map some)(h:aA P g ms (St.ofList rd os) fun v σ'=>q v∧σ'=St.ofList rd os)(hq:∃v,q v)(hk:∀v,q v→R (cD v σ k)):R (pB P C g ms σ k) :=
 .inl ⟨rd,q,os,hC,hos,h,hq,hk⟩
theorem rP{g:FuncId}{ms:List MV}{l:Nat}{q:MV→Prop}{o o':bE}{r:MV}(hC:C g ms=some ⟨[l],q,some (o',fun _=>r)⟩)(ho:σ l=some o)(h:aA P g ms (St.none.set l o) fun v σ'=>v=r∧σ'=St.none.set l o')(hk:R (cD r (σ.set l o') k)):R (gA P C g ms σ k) :=
 .inr (.inr ⟨l,q,o,o',fun _=>r,hC,ho,h,hk⟩)
theorem B8{g:FuncId}{ms:List MV}(rd:List Nat)(os:List bE){r:MV}(hC:C g ms=some ⟨rd,fun v=>v=r,none⟩)(hos:rd.map σ=os.map some)(h:aA P g ms (St.ofList rd os) fun v σ'=>v=r∧σ'=St.ofList rd os)(hk:R (cD r σ k)):R (gA P C g ms σ k) :=
 .inl ⟨rd,_,os,hC,hos,h,⟨r,rfl⟩,fun v hv=>hv ▸ hk⟩
theorem Kg{g:FuncId}{ms:List MV}{rd:List Nat}{q:MV→Prop}{o:bE}{u:Nat→MV}(hC:C g ms=some ⟨rd,q,some (o,u)⟩)(h:aA P g ms St.none fun v σ'=>∃l,v=u l∧σ'=St.none.set l o)(hk:∀l,σ l=none→R (cD (u l) (σ.set l o) k)):R (pB P C g ms σ k) :=
 .inr ⟨rd,q,o,u,hC,h,hk⟩
end
attribute [go_sem ↓] E3 Iu E2 CC Il Nt
attribute [go_sem] EF
noncomputable def kn(L:List (FuncId × List MV × Fact)):bP:=fun g ms=>by
 classical exact(L.find? fun p=>decide (p.1=g∧p.2.1=ms)).map (·.2.2)
theorem jW{g:FuncId}{ms:List MV}{F:Fact}{L:List (FuncId × List MV × Fact)}:kn ((g,ms,F)::L) g ms=some F:=by
 simp[kn]
theorem fS{g g':FuncId}{ms ms':List MV}{F F':Fact}{L:List (FuncId × List MV × Fact)}(h:g'=g∧ms'=ms→F'=F)(k:kn L g ms=some F):kn ((g',ms',F')::L) g ms=some F:=by
 by_cases e:g'=g∧ms'=ms
 ·obtain⟨rfl,rfl⟩:=e
  rw[jW,h ⟨rfl,rfl⟩]
 ·unfold kn at k ⊢
  rw[List.find?_cons_of_neg (by simpa using e)]
  exact k
end
end Go.Proofs.YtojmhmejdihaaaaGreatDoor
