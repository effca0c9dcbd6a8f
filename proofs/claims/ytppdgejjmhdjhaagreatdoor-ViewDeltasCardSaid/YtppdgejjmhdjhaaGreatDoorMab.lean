/- Parts of the proof; conditions: as its theorems name them. -/
import Derived.Test.YtppdgejjmhdjhaaGreatDoorMaa
import Derived.MapKept
import Derived.Maps.RangeRun
import Derived.RangeFuncLeaves
import Derived.RangeFuncRecord
set_option linter.unusedVariables false
set_option linter.unusedSimpArgs false
set_option maxHeartbeats 8000000
set_option maxRecDepth 100000
namespace Go.Proofs.YtppdgejjmhdjhaaGreatDoor
section
open Go.MapKept
def isK(k:IntKind):MV→Bool
 | .int k' _=>decide (k'=k)
 | _=>false
def dQ(n:Int):List (MV × MV)→Option MV
 | []=>none
 | (.int _ m,v)::r=>if m=n then some v else dQ n r
 | _::r=>dQ n r
def dG(k:IntKind)(n:Int)(v:MV):List (MV × MV)→List (MV × MV)
 | []=>[(.int k n,v)]
 | (.int k' m,u)::r=>if m=n then(.int k' m,v)::r else(.int k' m,u)::dG k n v r
 | x::r=>x::dG k n v r
theorem mN{k:IntKind}{m:MV}(h:isK k m=true):∃n,m=.int k n:=by
 cases m<;>simp[isK] at h
 subst h;exact⟨_,rfl⟩
theorem vI{k:IntKind}{n:Int}{Φ:Phi}(v':MV):∀(l:List MapEntry) (es:List (MV × MV)) (i0:Nat),l.length=es.length→(es.all fun x=>isK k x.1)=true→(∀(i:Nat) (x:MV × MV),es[i]?=some x→∃e:MapEntry,l[i]?=some e∧Rel Φ e.key x.1) →
  (∀x:MapEntry,x∈l→IsKey (.int k) x.key)∧((dQ n es=none∧Instr.findNow (.int k) (.int k n) l i0=some none∧dG k n v' es=es++[(.int k n,v')]) ∨
   ∃(j:Nat) (e:MapEntry) (v:MV),dQ n es=some v∧Instr.findNow (.int k) (.int k n) l i0=some (some (i0+j,e.val))∧l[j]?=some e∧e.key=.int k n∧es[j]?=some (.int k n,v)∧dG k n v' es=es.set j (.int k n,v'))
 | [],[],_,_,_,_=>⟨by simp,.inl ⟨rfl,rfl,rfl⟩⟩
 | [],_::_,_,h,_,_=>by simp at h
 | _::_,[],_,h,_,_=>by simp at h
 | e::l,(x,u)::es,i0,hl,hk,hr=>by
  simp only[List.all_cons,Bool.and_eq_true] at hk
  obtain⟨m,rfl⟩:=mN hk.1
  obtain⟨e',he',hrel⟩:=hr 0 _ rfl
  simp only[List.getElem?_cons_zero,Option.some.injEq] at he'
  subst he'
  have hkey:=hrel.aS
  obtain⟨q1,q2⟩:=vI (n:=n) v' l es (i0+1) (by simpa using hl) hk.2 fun i x hx=>hr (i+1) x (by simpa using hx)
  refine⟨?_,?_⟩
  ·intro y hy
   rcases List.mem_cons.1 hy with rfl|hy
   ·rw[hkey];exact rfl
   ·exact q1 y hy
  ·by_cases hmn:m=n
   ·subst hmn
    right
    refine⟨0,e,u,by simp[dQ],?_,rfl,hkey,rfl,by simp[dG]⟩
    simp[Instr.findNow,Instr.sameNow,hkey]
   ·have hf:Instr.findNow (.int k) (.int k n) (e::l) i0=Instr.findNow (.int k) (.int k n) l (i0+1):=by
     have:(n==m)=false:=by simpa using Ne.symm hmn
     simp[Instr.findNow,Instr.sameNow,hkey,this]
    rw[hf]
    rcases q2 with⟨a,b,c⟩|⟨j,e2,v,a,b,c,d,e3,f⟩
    ·exact .inl ⟨by simp[dQ,hmn,a],b,by simp[dG,hmn,c]⟩
    ·refine .inr ⟨j+1,e2,v,by simp[dQ,hmn,a],?_,by simpa using c,d,by simpa using e3,by simp[dG,hmn,f]⟩
     rw[b];simp;omega
theorem FL{Φ:Phi}{k:IntKind}{n:Int}:∀{es:List (MV × MV)} {x:MV × MV} {v:Value},dQ n es=none→(es.all fun p=>isK k p.1)=true→x∈es→Rel Φ v x.1→v≠.int k n
 | [],_,_,_,_,hx,_=>by cases hx
 | (y,u)::es,x,v,h0,hk,hx,hr=>by
  simp only[List.all_cons,Bool.and_eq_true] at hk
  obtain⟨m,rfl⟩:=mN hk.1
  by_cases hm:m=n
  ·simp[dQ,hm] at h0
  ·simp only[dQ,if_neg hm] at h0
   rcases List.mem_cons.1 hx with rfl|hx
   ·rw[hr.aS]
    intro e;cases e;exact hm rfl
   ·exact FL h0 hk.2 hx hr
theorem eY.F9{Φ:Phi}{w:World}{l:Nat}{es:List (MV × MV)}(h:eY Φ w l (.mp es)):∃(p:Place) (R:Nat) (c:Array MapEntry) (clock:Nat),Φ.obj l=some p∧p.blk=some R∧w.heap[R]?=some (.map c clock)∧c.size=es.length∧Stamped c clock ∧
  ∀(i:Nat) (x:MV × MV),es[i]?=some x→∃e,c.toList[i]?=some e∧Rel Φ e.key x.1∧Rel Φ e.val x.2:=by
 obtain⟨p,R,hp,hR,c,clock,hh,⟨hs,hst⟩,hr⟩:=h
 refine⟨p,R,c,clock,hp,hR,hh,hs,hst,fun i x hx=>?_⟩
 have hi:=(List.getElem?_eq_some_iff.1 hx).1
 have hic:i<c.size:=by omega
 have:=hr i x hx
 rw[show c.getD i default=c[i] by simp[Array.getD,hic]] at this
 exact⟨c[i],by simp[hic],this⟩
theorem HU{P:Program}{o:Oper}{f:FR}{σ:St}{k:MV→St→Prop}{t:TypeId}(ho:o.op=.makeMap t none)(hk:∀l,σ l=none→k (.mapv l) (σ.set l (.mp []))):sop P o f σ k:=by
 intro Φ w a K Q' hi hr hK
 obtain⟨n,hn⟩:=hi.fresh.1.1
 have hl:=hn n (Nat.le_refl _)
 have hrun:(execOp a.eval o).run P w=.ok (.value (.map (some w.heap.size))) (w.alloc (.map #[] 0)):=by
  unfold execOp
  simp only[ho,Instr.makeMap,Option.map_none,Sem.run_bind,run_newObj,Result.andThen_ok,Sem.run_pure]
  rfl
 obtain⟨i1,s1⟩:=hi.alloc (w':=w.alloc (.map #[] 0)) n hl (.mp []) (.map #[] 0) ⟨some w.heap.size,0,1,1⟩ rfl rfl rfl rfl rfl (by first|exact Nat.le_refl _|exact kS (Nat.le_succ _))
  ⟨_,w.heap.size,Phi.cO _ _ _,rfl,#[],0,heap_alloc_new w _,⟨rfl,stamped_empty 0⟩,fun i x hx=>by simp at hx⟩
 exact bJ hrun (hK _ (.mapv n) _ _ _ (Rel.mapv (Phi.cO _ _ _) rfl) i1 s1 (hk n (hi.fT hl)))
theorem Ku{P:Program}{o:Oper}{f:FR}{σ:St}{k:MV→St→Prop}{t kt et:TypeId}{m x y:Operand}(ho:o.op=.insert t m x y∨o.op=.mapUpdate t m x y)(ht:(td P t).k=.map kt et){kd:IntKind}(hkt:(td P kt).k=.int kd)
 {l:Nat}{es:List (MV × MV)}(hm:aE f m=.mapv l)(hl:σ l=some (.mp es)){n:Int}(hx:aE f x=.int kd n)(he:(es.all fun p=>isK kd p.1)=true)
 (hk:k .junk (σ.set l (.mp (dG kd n (aE f y) es)))):sop P o f σ k:=by
 intro Φ w a K Q' hi hr hK
 have hum:=rE ht
 have huk:=kC hkt
 have rm:=aI hr m
 have rx:=aI hr x
 have ry:=aI hr y
 rw[hm] at rm
 rw[hx] at rx
 obtain⟨p,R,hp,hR,hmv⟩:=rm.nI
 have hxv:=rx.aS
 obtain⟨p',R',c,clock,hp',hR',hh,hs,hst,hrel⟩:=(hi.own l _ hl).F9
 rw[hp] at hp';cases hp'
 rw[hR] at hR';cases hR'
 obtain⟨hkeys,hfind⟩:=vI (n:=n) (aE f y) c.toList es 0 (by simpa using hs) he fun i z hz=>by
  obtain⟨e,h1,h2,_⟩:=hrel i z hz
  exact⟨e,h1,h2⟩
 have hrt:=(Array.getElem?_eq_some_iff.1 hh).1
 rcases hfind with⟨h0,h1,h2⟩|⟨j,e,v,_,h1,hj,hek,hes,h2⟩
 ·obtain⟨c',hc'⟩:∃c',c'=c.push { key:=a.eval x,val:=a.eval y,born:=clock }:=⟨_,rfl⟩
  have hrun:(execOp a.eval o).run P w=.ok .skip (fU w R (.map c' (clock+1))):=by
   unfold execOp
   rcases ho with ho|ho<;>simp only[ho] <;>
    simp[hmv,hxv,Instr.mapUpdate,run_underlying hum,Go.MapKept.run_getObj_map hh,run_checkKey (d:=.int kd) (k:=.int kd n) huk rfl,run_findKey (d:=.int kd) huk h1,run_setObj_map _ hh,Result.andThen,fU,hc']
  obtain⟨i1,s1⟩:=hi.EX (w':=fU w R (.map c' (clock+1))) l hl (.mp (es++[(.int kd n,aE f y)])) hp hR iQ (fun q hq=>eT hq) rfl rfl rfl (Nat.le_refl _)
   ⟨p,R,hp,hR,c',clock+1,gS hrt,⟨by rw[hc'];simp[hs],by
    rw[hc']
    refine stamped_push hst fun e1 he1=>?_
    obtain⟨i,hi1,rfl⟩:=List.mem_iff_getElem.1 he1
    have hi':i<es.length:=by rw[←hs];simpa using hi1
    obtain⟨e',q1,q2,_⟩:=hrel i es[i] (List.getElem?_eq_getElem hi')
    rw[List.getElem?_eq_getElem hi1] at q1
    cases q1
    rw[hxv]
    exact FL h0 he (List.getElem_mem hi') q2⟩,fun i z hz=>by
    rw[hc']
    by_cases hlt:i<es.length
    ·rw[List.getElem?_append_left hlt] at hz
     obtain⟨e,q1,q2,q3⟩:=hrel i z hz
     have:(c.push { key:=a.eval x,val:=a.eval y,born:=clock }).getD i default=e:=by
      have hic:i<c.size:=by omega
      have q1':c[i]?=some e:=by simpa using q1
      rw[Array.getD_eq_getD_getElem?,Array.getElem?_push,if_neg oM,q1'];rfl
     rw[this];exact⟨q2,q3⟩
    ·have hie:i=es.length:=by
      have:=(List.getElem?_eq_some_iff.1 hz).1
      simp at this;omega
     subst hie
     rw[List.getElem?_append_right (Nat.le_refl _)] at hz
     simp only[Nat.sub_self,List.getElem?_cons_zero,Option.some.injEq] at hz
     subst hz
     have:(c.push { key:=a.eval x,val:=a.eval y,born:=clock }).getD es.length default={ key:=a.eval x,val:=a.eval y,born:=clock }:=by
      rw[Array.getD_eq_getD_getElem?,Array.getElem?_push,if_pos oM];rfl
     rw[this]
     exact⟨by simp only;rw[hxv];exact .int _ _,ry⟩⟩
  rw[←h2] at i1 s1
  exact E3 hrun (hK _ .junk _ _ _ (.junk _) i1 s1 hk)
 ·have hjc:c[j]?=some e:=by simpa using hj
  obtain⟨c',hc'⟩:∃c',c'=c.modify j fun e=>{ e with key:=a.eval x,val:=a.eval y }:=⟨_,rfl⟩
  have hrun:(execOp a.eval o).run P w=.ok .skip (fU w R (.map c' clock)):=by
   unfold execOp
   rcases ho with ho|ho<;>simp only[ho] <;>
    simp[hmv,hxv,Instr.mapUpdate,run_underlying hum,Go.MapKept.run_getObj_map hh,run_checkKey (d:=.int kd) (k:=.int kd n) huk rfl,run_findKey (d:=.int kd) huk h1,hjc,hek,run_keyThatStays (d:=.int kd) (k:=.int kd n) rfl,run_setObj_map _ hh,Result.andThen,fU,hc']
  have hjlt:=(Array.getElem?_eq_some_iff.1 hjc).1
  obtain⟨i1,s1⟩:=hi.EX (w':=fU w R (.map c' clock)) l hl (.mp (es.set j (.int kd n,aE f y))) hp hR iQ (fun q hq=>eT hq) rfl rfl rfl (Nat.le_refl _)
   ⟨p,R,hp,hR,c',clock,gS hrt,⟨by rw[hc'];simp[hs],by
    rw[hc']
    exact stamped_modify hst j _ (fun _ _=>rfl) fun e' _ he'=>by rw[hjc] at he';cases he';exact hxv.trans hek.symm⟩,fun i z hz=>by
    rw[hc',Array.getD_eq_getD_getElem?,Array.getElem?_modify]
    by_cases hij:j=i
    ·subst hij
     rw[List.getElem?_set_self oM] at hz
     cases hz
     rw[if_pos rfl,hjc]
     exact⟨by simp only[Option.map_some,Option.getD_some];rw[hxv];exact .int _ _,ry⟩
    ·rw[List.getElem?_set_ne hij] at hz
     obtain⟨e,q1,q2,q3⟩:=hrel i z hz
     have q1':c[i]?=some e:=by simpa using q1
     rw[if_neg hij,q1'];exact⟨q2,q3⟩⟩
  rw[←h2] at i1 s1
  exact E3 hrun (hK _ .junk _ _ _ (.junk _) i1 s1 hk)
def xF(d:TD):MV:=if d.k.isAgg=true then .agg d.zero else d.zero.headD .junk
theorem Kv{P:Program}{o:Oper}{f:FR}{σ:St}{k:MV→St→Prop}{t kt et:TypeId}{m x:Operand}{ok:Bool}(ho:o.op=.lookup t m x ok)(ht:(td P t).k=.map kt et){kd:IntKind}(hkt:(td P kt).k=.int kd)(hz:(td P et).zok=true)
 {l:Nat}{es:List (MV × MV)}(hm:aE f m=.mapv l)(hl:σ l=some (.mp es)){n:Int}(hx:aE f x=.int kd n)(he:(es.all fun p=>isK kd p.1)=true)
 (hk:k (if ok=true then .tup [(dQ n es).getD (xF (td P et)),.bool (dQ n es).isSome] else(dQ n es).getD (xF (td P et))) σ):sop P o f σ k:=by
 intro Φ w a K Q' hi hr hK
 have hum:=rE ht
 have huk:=kC hkt
 have rm:=aI hr m
 have rx:=aI hr x
 rw[hm] at rm
 rw[hx] at rx
 obtain⟨p,R,hp,hR,hmv⟩:=rm.nI
 have hxv:=rx.aS
 obtain⟨p',R',c,clock,hp',hR',hh,hs,hst,hrel⟩:=(hi.own l _ hl).F9
 rw[hp] at hp';cases hp'
 rw[hR] at hR';cases hR'
 obtain⟨hkeys,hfind⟩:=vI (n:=n) .junk c.toList es 0 (by simpa using hs) he fun i z hz=>by
  obtain⟨e,h1,h2,_⟩:=hrel i z hz
  exact⟨e,h1,h2⟩
 obtain⟨z,hz0,hz1,hz2,hok,hz3,hz4,hz5⟩:=dH hz w
 have fin:∀(v:Value) (u:MV) (b:Bool),Rel Φ v u→(Instr.lookup t (a.eval m) (a.eval x) ok).run P w=.ok (if ok=true then .tuple #[v,.bool b] else v) w→k (if ok=true then .tup [u,.bool b] else u) σ→o.wp P a w K Q':=fun v u b hv hrun hk=>by
  have hrun2:(execOp a.eval o).run P w=.ok (.value (if ok=true then .tuple #[v,.bool b] else v)) w:=by
   unfold execOp
   simp only[ho,Sem.run_bind,hrun,Result.andThen_ok,Sem.run_pure]
  refine bJ hrun2 (hK _ _ _ _ _ ?_ hi (.refl _ _ _) hk)
  cases ok
  ·exact hv
  ·refine .tup rfl fun i q hq=>?_
   match i with
   | 0=>simp at hq;subst hq;exact hv
   | 1=>simp at hq;subst hq;exact .bool _
   | i+2=>simp at hq
 rcases hfind with⟨h0,h1,h2⟩|⟨j,e,v,h0,h1,hj,hek,hes,h2⟩
 ·rw[h0] at hk
  refine fin z (xF (td P et)) false ?_ ?_ hk
  ·unfold xF
   by_cases hag:(td P et).k.isAgg=true
   ·rw[if_pos hag]
    obtain⟨cs,rfl⟩:=hz4 hag
    exact(jY (Φ:=Φ) hz1 hz3).agg
   ·rw[if_neg hag]
    have h5:=hz5 (by simpa using hag)
    have rc:=jY (Φ:=Φ) hz1 hz3
    rw[h5] at rc
    have hlen:=rc.1
    match hzz:(td P et).zero with
    | []=>rw[hzz] at hlen;simp at hlen
    | q::_ =>
     rw[hzz] at rc
     have:=rc.2.2 0 q rfl
     simpa using this
  ·simp[hmv,hxv,Instr.lookup,run_underlying hum,Go.MapKept.run_getObj_map hh,run_checkKey (d:=.int kd) (k:=.int kd n) huk rfl,run_findKey (d:=.int kd) huk h1,hz0,Result.andThen]
 ·rw[h0] at hk
  obtain⟨e',q1,q2,q3⟩:=hrel j _ hes
  rw[hj] at q1;cases q1
  refine fin e.val v true q3 ?_ hk
  simp[hmv,hxv,Instr.lookup,run_underlying hum,Go.MapKept.run_getObj_map hh,run_checkKey (d:=.int kd) (k:=.int kd n) huk rfl,run_findKey (d:=.int kd) huk h1,Result.andThen]
end

section
open Go.MapKept
theorem OF{P:Program}{o:Oper}{f:FR}{σ:St}{k:MV→St→Prop}{t kt et:TypeId}{m:Operand}(ho:o.op=.range t m)(ht:(td P t).k=.map kt et)
 {l:Nat}{es:List (MV × MV)}(hm:aE f m=.mapv l)(hl:σ l=some (.mp es))
 (hk:∀q st ck,σ q=none→st.length=es.length→st.Nodup→(∀s,s∈st→s<ck)→k (.ptr q 0 0) ((σ.set l (.mk es st ck)).set q (.it l ck []))):sop P o f σ k:=by
 intro Φ w a K Q' hi hr hK
 have hum:=rE ht
 have rm:=aI hr m
 rw[hm] at rm
 obtain⟨p,R,hp,hR,hmv⟩:=rm.nI
 obtain⟨p',R',hp',hR',c,clock,hh,⟨hs,hst⟩,hrel⟩:=hi.own l _ hl
 rw[hp] at hp';cases hp'
 rw[hR] at hR';cases hR'
 have hst':=(stamped_iff c clock).1 hst
 obtain⟨i1,s1⟩:=hi.EX (w':=w) l hl (.mk es (c.toList.map (·.born)) clock) hp hR rfl (fun _ _=>rfl) rfl rfl rfl (Nat.le_refl _) ⟨p,R,hp,hR,c,hh,⟨hs,hst,rfl⟩,hrel⟩
 obtain⟨n,hn⟩:=i1.fresh.1.1
 have hfr:=hn n (Nat.le_refl _)
 have hrun:(execOp a.eval o).run P w=.ok (.value (.pointer (some ⟨w.heap.size,0,none⟩))) (w.alloc (.mapIter (some R) clock #[] clock)):=by
  unfold execOp
  simp only[ho,hmv,Sem.run_bind,run_range_map w t kt et R c clock hum hh,Result.andThen_ok,Sem.run_pure]
 have hln:l≠n:=fun e=>by subst e;rw[hp] at hfr;cases hfr
 obtain⟨i2,s2⟩:=i1.alloc (w':=w.alloc (.mapIter (some R) clock #[] clock)) n hfr (.it l clock []) (.mapIter (some R) clock #[] clock) ⟨some w.heap.size,0,1,1⟩ rfl rfl rfl rfl rfl (by first|exact Nat.le_refl _|exact kS (Nat.le_succ _))
  ⟨_,w.heap.size,p,R,Phi.cO _ _ _,rfl,rfl,(Phi.sM _ hfr).obj _ _ hp,hR,heap_alloc_new w _⟩
 refine bJ hrun (hK _ (.ptr n 0 0) _ _ _ ?_ i2 (s1.trans s2) (hk n _ clock (hi.fT hfr) (by simp[hs]) ?_ fun s h=>?_))
 ·have:=Rel.ptr (Φ:=Φ.put n ⟨some w.heap.size,0,1,1⟩) (l:=n) (i:=0) (o:=0) (Phi.cO _ _ _) rfl
  simpa using this
 ·exact hst'.2.1
 ·obtain⟨x,hx,rfl⟩:=List.mem_map.1 h
  exact hst'.1 x hx
theorem R2{P:Program}{o:Oper}{f:FR}{σ:St}{k:MV→St→Prop}{x:Operand}(ho:o.op=.next x false){q l ck:Nat}{seen st:List Nat}{es:List (MV × MV)}(hx:aE f x=.ptr q 0 0)
 (hq:σ q=some (.it l ck seen))(hl:σ l=some (.mk es st ck))(h0:(∀s,s∈st→s∈seen)→k (.tup [.bool false]) σ)
 (h1:∀(i:Nat) (z:MV × MV) (s:Nat),es[i]?=some z→st[i]?=some s→s∉seen→k (.tup [.bool true,z.1,z.2]) (σ.set q (.it l ck (seen++[s])))):sop P o f σ k:=by
 intro Φ w a K Q' hi hr hK
 have rx:=aI hr x
 rw[hx] at rx
 obtain⟨p,R,hp,hR,hv⟩:=rx.iZ
 obtain⟨p',R',pm,Rm,hp',hR',hbo,hpm,hRm,hit⟩:=hi.own q _ hq
 rw[hp] at hp';cases hp'
 rw[hR] at hR';cases hR'
 obtain⟨pl,Rl,hpl,hRl,c,hh,⟨hs,hst,hbn⟩,hrel⟩:=hi.own l _ hl
 rw[hpm] at hpl;cases hpl
 rw[hRm] at hRl;cases hRl
 have hst':=(stamped_iff c ck).1 hst
 rw[hbo,Nat.zero_mul] at hv
 have hv:a.eval x=.pointer (some ⟨R,0,none⟩):=by simpa using hv
 rcases run_next_at (P:=P) w o.type R Rm ck ck seen.toArray c ck hit hh hst'.1 (Nat.le_refl _) with⟨h2,hrun⟩|⟨e,he,w1,hw1,hrun⟩
 ·have hrun':(execOp a.eval o).run P w=.ok (.value (.tuple #[.bool false])) w:=by
   unfold execOp
   simp only[ho,hv,Sem.run_bind,hrun,Result.andThen_ok,Sem.run_pure]
  refine bJ hrun' (hK _ (.tup [.bool false]) _ _ _ ?_ hi (.refl _ _ _) (h0 fun s h=>?_))
  ·refine .tup rfl fun i z hz=>?_
   match i with
   | 0=>simp at hz;subst hz;exact .bool _
   | i+1=>simp at hz
  ·rw[←hbn] at h
   obtain⟨y,hy,rfl⟩:=List.mem_map.1 h
   have:=all_seen c seen.toArray h2 y hy
   simpa using this
 ·obtain⟨hem,hes⟩:=mem_left he
  obtain⟨i,hi1,hie⟩:=List.mem_iff_getElem.1 hem
  have hic:i<c.size:=by simpa using hi1
  have hie':c.toList[i]?=some e:=by rw[List.getElem?_eq_getElem hi1,hie]
  have hz:es[i]?=some (es[i]'oM):=List.getElem?_eq_getElem oM
  obtain⟨z,hzz⟩:∃z,es[i]'oM=z:=⟨_,rfl⟩
  rw[hzz] at hz
  have hrz:=hrel i z hz
  rw[show c.getD i default=e by
   have:c[i]=e:=by rw[←hie];simp
   simp[Array.getD,hic,this]] at hrz
  have hsi:st[i]?=some e.born:=by rw[←hbn,List.getElem?_map,hie'];rfl
  have hns:e.born∉seen:=by simpa using hes
  have hrun':(execOp a.eval o).run P w=.ok (.value (.tuple #[.bool true,e.key,e.val])) (Go.ChangeMaps.setBlock w1 R (.mapIter (some Rm) ck (seen.toArray.push e.born) ck)):=by
   unfold execOp
   simp only[ho,hv,Sem.run_bind,hrun,Result.andThen_ok,Sem.run_pure]
  have hRlt:=(Array.getElem?_eq_some_iff.1 hit).1
  have hheap:(Go.ChangeMaps.setBlock w1 R (.mapIter (some Rm) ck (seen.toArray.push e.born) ck)).heap=w.heap.setIfInBounds R (.mapIter (some Rm) ck (seen.toArray.push e.born) ck):=by
   rcases hw1 with rfl|rfl<;>rfl
  have hdr:drw w≤drw (Go.ChangeMaps.setBlock w1 R (.mapIter (some Rm) ck (seen.toArray.push e.born) ck)):=by
   rcases hw1 with rfl|rfl
   ·exact Nat.le_refl _
   ·exact kS (Nat.le_succ _)
  obtain⟨i1,s1⟩:=hi.EX (w':=Go.ChangeMaps.setBlock w1 R (.mapIter (some Rm) ck (seen.toArray.push e.born) ck)) q hq (.it l ck (seen++[e.born])) hp hR (by rw[hheap];simp) (fun j hj=>by
    rw[hheap,Array.getElem?_setIfInBounds,if_neg (Ne.symm hj)]) (by rcases hw1 with rfl|rfl<;>rfl) (by rcases hw1 with rfl|rfl<;>rfl) (by rcases hw1 with rfl|rfl<;>rfl) hdr
   ⟨p,R,pm,Rm,hp,hR,hbo,hpm,hRm,by
    rw[hheap,Array.getElem?_setIfInBounds,if_pos rfl,if_pos hRlt]
    simp⟩
  refine bJ hrun' (hK _ (.tup [.bool true,z.1,z.2]) _ _ _ ?_ i1 s1 (h1 i z e.born hz hsi hns))
  refine .tup rfl fun j m hm=>?_
  match j with
  | 0=>simp at hm;subst hm;exact .bool _
  | 1=>simp at hm;subst hm;exact hrz.1
  | 2=>simp at hm;subst hm;exact hrz.2
  | j+3=>simp at hm
theorem OD{P:Program}{o:Oper}{f:FR}{σ:St}{k:MV→St→Prop}{x:Operand}(ho:o.op=.entry x){q l ck:Nat}{seen st:List Nat}{es:List (MV × MV)}(hx:aE f x=.ptr q 0 0)
 {i s:Nat}{z:MV × MV}(hq:σ q=some (.it l ck (seen++[s])))(hl:σ l=some (.mk es st ck))(hz:es[i]?=some z)(hsi:st[i]?=some s)(hk:k (.tup [z.1,z.2]) σ):sop P o f σ k:=by
 intro Φ w a K Q' hi hr hK
 have rx:=aI hr x
 rw[hx] at rx
 obtain⟨p,R,hp,hR,hv⟩:=rx.iZ
 obtain⟨p',R',pm,Rm,hp',hR',hbo,hpm,hRm,hit⟩:=hi.own q _ hq
 rw[hp] at hp';cases hp'
 rw[hR] at hR';cases hR'
 obtain⟨pl,Rl,hpl,hRl,c,hh,⟨hs,hst,hbn⟩,hrel⟩:=hi.own l _ hl
 rw[hpm] at hpl;cases hpl
 rw[hRm] at hRl;cases hRl
 have hst':=(stamped_iff c ck).1 hst
 rw[hbo,Nat.zero_mul] at hv
 have hv:a.eval x=.pointer (some ⟨R,0,none⟩):=by simpa using hv
 have hil:i<es.length:=(List.getElem?_eq_some_iff.1 hz).1
 have hic:i<c.size:=by omega
 have hci:c.toList[i]?=some c[i]:=by simp[hic]
 have hbi:c[i].born=s:=by
  rw[←hbn,List.getElem?_map,hci] at hsi
  simpa using hsi
 have hrz:=hrel i z hz
 rw[show c.getD i default=c[i] by simp[Array.getD,hic]] at hrz
 have hrun:(execOp a.eval o).run P w=.ok (.value (.tuple #[c[i].key,c[i].val])) w:=by
  unfold execOp
  simp only[ho,hv,Sem.run_bind,run_entry_at (P:=P) w R Rm ck seen.toArray c ck c[i] (by rw[hbi];simpa using hit) hh (List.mem_of_getElem? hci) (hst'.2.1),Result.andThen_ok,Sem.run_pure]
 refine bJ hrun (hK _ (.tup [z.1,z.2]) _ _ _ ?_ hi (.refl _ _ _) hk)
 refine .tup rfl fun j m hm=>?_
 match j with
 | 0=>simp at hm;subst hm;exact hrz.1
 | 1=>simp at hm;subst hm;exact hrz.2
 | j+2=>simp at hm
end

section
def Fits(n b:Nat):Prop:=n≤140737488355328∧n * b≤140737488355328
def mpure(σ:St)(k:MV→St→Prop):PV→Prop
  | some (C,v)=>C∧k v σ
  | none=>False
def mQ(P:Program)(t:TypeId)(x:MV)(σ:St)(k:MV→St→Prop):Prop :=
  match x with
  | .ptr l i o=>match σ l with
    | some (.row _ _ xs)=>((td P t).ok=true∧i<xs.length∧o+(td P t).size≤(xs.getD i []).length∧0<(td P t).size)∧k (eA (td P t) (xs.getD i []) o) σ
    | _=>False
  | .cptr cs=>((td P t).ok=true∧(td P t).size≤cs.length∧0<(td P t).size)∧k (eA (td P t) cs 0) σ
  | _=>False
def pZ(P:Program)(t:TypeId)(x y:MV)(σ:St)(k:MV→St→Prop):Prop :=
  match x with
  | .ptr l i o=>match σ l with
    | some (.row tt e xs)=>((td P t).ok=true∧i<xs.length∧y.cells.all MV.aL=true∧y.cells.length=(td P t).size∧o+y.cells.length≤(xs.getD i []).length)∧k .junk (σ.set l (.row tt e (xs.set i (laid (xs.getD i []) o y.cells))))
    | _=>False
  | _=>False
def lF(P:Program)(t xt:TypeId)(s x:MV)(σ:St)(k:MV→St→Prop):Prop :=
  match (td P t).k with
  | .slice el=>match fG σ (td P el).size x with
    | some ys=>match s with
      | .aM=>((td P xt).k.gA=true∧(td P el).zok=true∧Fits ys.length (td P el).bytes)∧∀l,σ l=none→k (.vec (td P el).size l 0 ys.length) (σ.set l (.row el (td P el).size ys))
      | .lst e xs true=>((td P xt).k.gA=true∧(td P el).zok=true∧e=(td P el).size∧(xs=[]∨0<ys.length)∧Fits (xs.length+ys.length) (td P el).bytes) ∧
          ∀l,σ l=none→k (.vec (td P el).size l 0 (xs.length+ys.length)) (σ.set l (.row el (td P el).size (xs++ys)))
      | .vec e l lo n=>match σ l with
        | some (.row tt e' xs)=>((td P xt).k.gA=true∧(td P el).zok=true∧e=(td P el).size∧e'=(td P el).size∧tt=el∧lo=0∧lo+n≤xs.length∧Fits (n+ys.length) (td P el).bytes) ∧
            ∀l',σ l'=none→k (.vec (td P el).size l' 0 (n+ys.length)) ((σ.del l).set l' (.row el (td P el).size (fW xs lo n ys)))
        | _=>False
      | _=>False
    | none=>False
  | _=>False
def eJ(P:Program)(f:FR)(t:TypeId)(len:Nat)(parts:Array (Nat × Operand))(σ:St)(k:MV→St→Prop):Prop :=
  match (td P t).k with
  | .slice el=>((td P el).zok=true∧parts.toList.map (·.1)=List.range len∧(parts.toList.all fun p=>(aE f p.2).cells.all MV.aL&&(aE f p.2).cells.length==(td P el).size)=true∧len * (td P el).size≤16777216∧len≤16777216) ∧
      ∀l,σ l=none→k (.vec (td P el).size l 0 len) (σ.set l (.row el (td P el).size (parts.toList.map fun p=>(aE f p.2).cells)))
  | _=>False
def jN(P:Program)(t:TypeId)(x y:MV)(σ:St)(k:MV→St→Prop):Prop :=
  match (td P t).k,x,y with
  | .slice el,.int .i64 n,.int .i64 c=>((td P el).zok=true∧0≤n∧n≤c∧Fits c.toNat (td P el).bytes)∧∀l,σ l=none→k (.vec (td P el).size l 0 n.toNat) (σ.set l (.row el (td P el).size (List.replicate n.toNat (td P el).zero)))
  | _,_,_=>False
def jA(P:Program)(s d:TypeId)(x:MV)(σ:St)(k:MV→St→Prop):Prop :=
  match (td P s).k,(td P d).k,x with
  | .str,.slice el,.str b=>((td P el).k=.int .u8∧FZ el=true∧b.size≤140737488355328)∧∀l,σ l=none→k (.vec 1 l 0 b.size) (σ.set l (.row el 1 (b.toList.map fun c=>[.int .u8 (c.toNat:Int)])))
  | .slice el,.str,.str _=>False
  | .slice el,.str,x=>match fG σ 1 x with
    | some ys=>((td P el).k=.int .u8∧ys.all isByte=true)∧k (.str (bytesOf ys)) σ
    | none=>False
  | _,_,x=>mpure σ k (tQ P s d x)
def gF(P:Program)(f:FR)(b:Builtin)(args:List Operand)(ts:List TypeId)(σ:St)(k:MV→St→Prop):Prop :=
  match b with
  | .append=>match args,ts with
    | [s,x],[t,xt]=>lF P t xt (aE f s) (aE f x) σ k
    | _,_=>False
  | b=>ts.length=args.length∧mpure σ k (eK P b ts.toArray (args.map (aE f)))
def Ln(P:Program)(f:FR)(c:Call)(σ:St)(k:MV→St→Prop):Prop :=
  match c.callee with
  | .builtin b=>gF P f b c.args.toList c.argTypes.toList σ k
  | .value x=>match aE f x with
    | .fn (.func g) ms ns=>aA P g (ms++c.args.toList.map (aE f)++ns) σ k
    | _=>False
  | .invoke _ _=>False
def mapOf(σ:St):MV→Option aT
  | .mapv l=>σ l
  | _=>none
def gO(P:Program)(t:TypeId)(m x y:MV)(o:Option aT)(σ:St)(k:MV→St→Prop):Prop :=
  match (td P t).k,m,x,o with
  | .map kt _,.mapv l,.int kd n,some (.mp es)=>((td P kt).k=.int kd∧(es.all fun p=>isK kd p.1)=true)∧k .junk (σ.set l (.mp (dG kd n y es)))
  | _,_,_,_=>False
def gV(P:Program)(t:TypeId)(m x:MV)(ok:Bool)(o:Option aT)(σ:St)(k:MV→St→Prop):Prop :=
  match (td P t).k,m,x,o with
  | .map kt et,.mapv _,.int kd n,some (.mp es)=>((td P kt).k=.int kd∧(td P et).zok=true∧(es.all fun p=>isK kd p.1)=true)∧k (if ok=true then .tup [(dQ n es).getD (xF (td P et)),.bool (dQ n es).isSome] else(dQ n es).getD (xF (td P et))) σ
  | _,_,_,_=>False
def JD(P:Program)(t:TypeId)(m:MV)(o:Option aT)(σ:St)(k:MV→St→Prop):Prop :=
  match (td P t).k,m,o with
  | .map _ _,.mapv l,some (.mp es)=>∀q st ck,σ q=none→st.length=es.length→st.Nodup→(∀s,s∈st→s<ck)→k (.ptr q 0 0) ((σ.set l (.mk es st ck)).set q (.it l ck []))
  | _,_,_=>False
def QA(x:MV)(σ:St)(k:MV→St→Prop):Prop :=
  match x with
  | .ptr q 0 0=>∃l ck seen es st,σ q=some (.it l ck seen)∧σ l=some (.mk es st ck)∧((∀s,s∈st→s∈seen)→k (.tup [.bool false]) σ) ∧
      ∀(i:Nat) (z:MV × MV) (s:Nat),es[i]?=some z→st[i]?=some s→s∉seen→k (.tup [.bool true,z.1,z.2]) (σ.set q (.it l ck (seen++[s])))
  | _=>False
def Jk(x:MV)(σ:St)(k:MV→St→Prop):Prop :=
  match x with
  | .ptr q 0 0=>∃l ck seen es st,∃(i:Nat) (z:MV × MV) (s:Nat),σ q=some (.it l ck (seen++[s]))∧σ l=some (.mk es st ck)∧es[i]?=some z∧st[i]?=some s∧k (.tup [z.1,z.2]) σ
  | _=>False
def mop(P:Program)(f:FR)(σ:St)(k:MV→St→Prop):Op→Prop
  | .alloc t=>(td P t).zok=true∧∀l,σ l=none→k (.ptr l 0 0) (σ.set l (.row t (td P t).size [(td P t).zero]))
  | .box t x=>(aE f x).cells.all MV.aL=true∧∀l,σ l=none→k (.ptr l 0 0) (σ.set l (.row t (aE f x).cells.length [(aE f x).cells]))
  | .load t x=>mQ P t (aE f x) σ k
  | .store t x y=>pZ P t (aE f x) (aE f y) σ k
  | .buildSlice t len parts=>eJ P f t len parts σ k
  | .makeSlice t x y=>jN P t (aE f x) (aE f y) σ k
  | .convert s d x=>jA P s d (aE f x) σ k
  | .call c=>Ln P f c σ k
  | .lookup t m x ok=>gV P t (aE f m) (aE f x) ok (mapOf σ (aE f m)) σ k
  | .mapUpdate t m x y=>gO P t (aE f m) (aE f x) (aE f y) (mapOf σ (aE f m)) σ k
  | op=>mpure σ k (qop P f op)
theorem pX{P:Program}{o:Oper}{f:FR}{σ:St}{k:MV→St→Prop}(h:mpure σ k (qop P f o.op))(hot:tX o.op=true):sop P o f σ k:=by
  cases hq:qop P f o.op with
  | none=>rw[hq] at h;exact h.elim
  | some q=>obtain⟨C,v⟩:=q;rw[hq] at h;exact R4 hq hot h.1 h.2
theorem nM{n:Nat}(h:n≤140737488355328):n≤maxLen:=Nat.le_trans h (by unfold maxLen;omega)
theorem De{l:List MV}(h:l.all MV.aL=true):∀c,c∈l→c.aL=true:=by simpa using h
theorem Gu{P:Program}{o:Oper}{f:FR}{σ:St}{k:MV→St→Prop}{t:TypeId}{x:Operand}(ho:o.op=.load t x)(h:mQ P t (aE f x) σ k):sop P o f σ k:=by
  unfold mQ at h
  split at h
  · rename_i l i of hx
    split at h
    · rename_i tt e xs hs
      exact R0 ho hx hs h.1.1 h.1.2.1 h.1.2.2.1 h.1.2.2.2 h.2
    · exact h.elim
  · rename_i cs hx
    exact OC ho hx h.1.1 h.1.2.1 h.1.2.2 h.2
  · exact h.elim
theorem nA{P:Program}{o:Oper}{f:FR}{σ:St}{k:MV→St→Prop}{t:TypeId}{m x y:Operand}(ho:o.op=.insert t m x y∨o.op=.mapUpdate t m x y)(h:gO P t (aE f m) (aE f x) (aE f y) (mapOf σ (aE f m)) σ k):sop P o f σ k:=by
  unfold gO at h
  split at h
  · rename_i kt et l kd n es h1 h2 h3 h4
    rw[h2] at h4
    exact Ku ho h1 h.1.1 h2 h4 h3 h.1.2 h.2
  · exact h.elim
theorem rT{P:Program}{o:Oper}{f:FR}{σ:St}{k:MV→St→Prop}{t:TypeId}{m x:Operand}{ok:Bool}(ho:o.op=.lookup t m x ok)(h:gV P t (aE f m) (aE f x) ok (mapOf σ (aE f m)) σ k):sop P o f σ k:=by
  unfold gV at h
  split at h
  · rename_i kt et l kd n es h1 h2 h3 h4
    rw[h2] at h4
    exact Kv ho h1 h.1.1 h.1.2.1 h2 h4 h3 h.1.2.2 h.2
  · exact h.elim
theorem D5{P:Program}{o:Oper}{f:FR}{σ:St}{k:MV→St→Prop}{t:TypeId}{m:Operand}(ho:o.op=.range t m)(h:JD P t (aE f m) (mapOf σ (aE f m)) σ k):sop P o f σ k:=by
  unfold JD at h
  split at h
  · rename_i kt et l es h1 h2 h3
    rw[h2] at h3
    exact OF ho h1 h2 h3 h
  · exact h.elim
theorem Gw{P:Program}{o:Oper}{f:FR}{σ:St}{k:MV→St→Prop}{x:Operand}(ho:o.op=.next x false)(h:QA (aE f x) σ k):sop P o f σ k:=by
  unfold QA at h
  split at h
  · rename_i q hx
    obtain⟨l,ck,seen,es,st,h1,h2,h3,h4⟩:=h
    exact R2 ho hx h1 h2 h3 h4
  · exact h.elim
theorem DV{P:Program}{o:Oper}{f:FR}{σ:St}{k:MV→St→Prop}{x:Operand}(ho:o.op=.entry x)(h:Jk (aE f x) σ k):sop P o f σ k:=by
  unfold Jk at h
  split at h
  · rename_i q hx
    obtain⟨l,ck,seen,es,st,i,z,s,h1,h2,h3,h4,h5⟩:=h
    exact OD ho hx h1 h2 h3 h4 h5
  · exact h.elim
theorem nO{P:Program}{o:Oper}{f:FR}{σ:St}{k:MV→St→Prop}(h:mop P f σ k o.op):sop P o f σ k:=by
  cases ho:o.op<;>rw[ho] at h<;>simp only[mop] at h
  case alloc t=>exact OA ho h.1 h.2
  case box t x=>exact Ui ho (De h.1) h.2
  case load t x=>exact Gu ho h
  case lookup t m x ok=>exact rT ho h
  case mapUpdate t m x y=>exact nA (.inr ho) h
  case store t x y =>
    unfold pZ at h
    split at h
    · rename_i l i of hx
      split at h
      · rename_i tt e xs hs
        obtain⟨⟨h1,h2,h3,h4,h5⟩,h6⟩:=h
        exact OG ho hx hs h1 h2 (De h3) h4 h5 h6
      · exact h.elim
    · exact h.elim
  case buildSlice t len parts =>
    unfold eJ at h
    split at h
    · rename_i el hk
      obtain⟨⟨h1,h2,h3,h4,h5⟩,h6⟩:=h
      refine A4 ho hk h1 h2 (fun p hp=>?_) h4 (nM oM) h6
      have:=List.all_eq_true.1 h3 p hp
      simp only[Bool.and_eq_true,beq_iff_eq] at this
      exact⟨De this.1,this.2⟩
    · exact h.elim
  case makeSlice t x y =>
    unfold jN at h
    split at h
    · rename_i el n c hk hx hy
      obtain⟨⟨h1,h2,h3,h4⟩,h6⟩:=h
      obtain⟨h7,h8⟩:=h4
      refine BY ho hk h1 hx hy h2 h3 oM ?_ h6
      have:c=(c.toNat:Int):=by omega
      rw[this,Int.mul_comm,←Int.natCast_mul]
      exact Int.ofNat_le.2 h8
    · exact h.elim
  case convert s d x =>
    unfold jA at h
    split at h
    · rename_i el b hs hd hx
      exact OE ho hs hd h.1.1 h.1.2.1 hx (nM h.1.2.2) h.2
    · exact h.elim
    · rename_i el hs hd hne
      split at h
      · rename_i ys hy
        exact OH ho hs h.1.1 hd hy (fun b hb=>hne b hb) h.1.2 h.2
      · exact h.elim
    · refine pX ?_ (by rw[ho];rfl)
      rw[ho]
      exact h
  case call c =>
    obtain⟨callee,args,ts⟩:=c
    unfold Ln at h
    cases callee with
    | builtin b =>
      simp only[gF] at h
      split at h
      · split at h
        · rename_i s x t xt ha hts
          have ha':args=#[s,x]:=by rw[←Array.toArray_toList (xs:=args),ha]
          have hts':ts=#[t,xt]:=by rw[←Array.toArray_toList (xs:=ts),hts]
          subst ha';subst hts'
          unfold lF at h
          split at h
          · rename_i el hk
            split at h
            · rename_i ys hy
              split at h
              · rename_i hs
                obtain⟨⟨h1,h2,h3⟩,h4⟩:=h
                have:=qH (P:=P) (f:=f) (σ:=σ) (k:=k) ho hk h1 h2 (xs:=[]) (ys:=ys) (.inl ⟨hs,rfl⟩) hy (.inl rfl) (nM (by simpa using h3.1)) (by simpa using h3.2) (by simpa using h4)
                exact this
              · rename_i e xs hs
                obtain⟨⟨h1,h2,rfl,h3,h4⟩,h5⟩:=h
                exact qH (P:=P) (f:=f) (σ:=σ) (k:=k) ho hk h1 h2 (.inr hs) hy h3 (nM h4.1) h4.2 h5
              · rename_i e l lo n hs
                split at h
                · rename_i tt e' xs hsl
                  obtain⟨⟨h1,h2,rfl,rfl,h3,hlo,h4,h5⟩,h6⟩:=h
                  exact A3 (P:=P) (f:=f) (σ:=σ) (k:=k) ho hk h1 h2 hs hsl h3 hlo h4 hy (nM h5.1) h5.2 h6
                · exact h.elim
              · exact h.elim
            · exact h.elim
          · exact h.elim
        · exact h.elim
      · rename_i b' hne
        refine pX (P:=P) (f:=f) ?_ (by rw[ho];simp only[tX,beq_iff_eq];simpa using h.1)
        rw[ho]
        simpa[qop] using h.2
    | value x =>
      simp only at h
      split at h
      · rename_i g ms ns hx
        exact RZ ho hx h
      · exact h.elim
    | invoke r m=>exact h.elim
  all_goals first
    | exact pX (by rw[ho];exact h) (by rw[ho];rfl)
    | exact h.elim
def bD(f:FR)(dst:Option Tmp)(v:MV):FR :=
  match dst with
  | some d=>if d<f.n then⟨f.n,(d,v)::f.l,f.d⟩ else f
  | none=>f
theorem cL{Φ:Phi}{a:Act}{f:FR}(hr:dD Φ a.tmps f)(dst:Option Tmp){v:Value}{m:MV}(h:Rel Φ v m):dD Φ (a.put dst v).tmps (bD f dst m):=by
  cases dst with
  | none=>exact hr
  | some d =>
    have e1:=hr.1
    simp only[bD]
    split
    · rename_i hd
      refine⟨by simp[Act.put,e1],fun t=>?_⟩
      simp only[Act.put,Array.getD_eq_getD_getElem?,Array.getElem?_setIfInBounds,FR.get,cQ]
      by_cases ht:t=d
      · subst ht
        rw[if_pos rfl,if_pos rfl,if_pos (show t<a.tmps.size by rw[e1];exact hd)]
        exact h
      · rw[if_neg (Ne.symm ht),if_neg ht]
        have:=hr.2 t
        rwa [Array.getD_eq_getD_getElem?] at this
    · rename_i hd
      refine⟨by simp[Act.put,e1],fun t=>?_⟩
      have hd':¬d<a.tmps.size:=by rw[e1];exact hd
      have:(a.put (some d) v).tmps=a.tmps:=by simp only[Act.put,Array.setIfInBounds,dif_neg hd']
      rw[this]
      exact hr.2 t
theorem bO{a:Act}(dst:Option Tmp)(v:Value):(a.put dst v).defers=a.defers:=by cases dst<;>rfl
theorem gP{Φ:Phi}:Rel Φ undef (.tup []):=.tup rfl (fun i m h=>by simp at h)
def fX(ops:Array Oper)(f:FR)(o:Oper)(yes no:Prop):Prop :=
  match o.guard with
  | none=>yes
  | some (j,want)=>match (ops[j]?).bind (·.dst) with
    | some t=>match f.get t with
      | .bool b=>(b=want→yes)∧(b=(!want)→no)
      | .tup []=>no
      | _=>False
    | none=>False
theorem cI{Φ:Phi}{ops:Array Oper}{f:FR}{o:Oper}{yes no:Prop}(h:fX ops f o yes no){a:Act}(hr:dD Φ a.tmps f) :
    (Region.wanted o (yielded ops a.tmps)=true∧yes)∨(Region.wanted o (yielded ops a.tmps)=false∧no):=by
  unfold fX at h
  unfold Region.wanted
  split at h
  · rename_i hg;rw[hg];exact .inl ⟨rfl,h⟩
  · rename_i j want hg
    rw[hg]
    simp only
    split at h
    · rename_i t ht
      split at h
      · rename_i b hb
        have hy:yielded ops a.tmps j=some b:=by
          unfold yielded
          rw[ht]
          have hrel:=hr.2 t
          rw[hb] at hrel
          have hrel:=hrel.lU
          have hlt2:t<a.tmps.size:=by
            rcases Nat.lt_or_ge t a.tmps.size with q|q
            · exact q
            · simp[Array.getD_eq_getD_getElem?,Array.getElem?_eq_none q,undef] at hrel
          rw[Array.getD_eq_getD_getElem?,Array.getElem?_eq_getElem hlt2] at hrel
          simp only[Option.getD_some] at hrel
          simp[Array.getElem?_eq_getElem hlt2,hrel]
        rw[hy]
        by_cases hw:b=want
        · left;subst hw;exact⟨by simp,h.1 rfl⟩
        · right
          have hb':b=!want:=by cases b<;>cases want<;>simp at hw ⊢
          exact⟨by simp[hw],h.2 hb'⟩
      · rename_i hb
        right
        have hrel:=hr.2 t
        rw[hb] at hrel
        obtain⟨cs,e,hs,_⟩:=hrel.DI
        have hy:yielded ops a.tmps j=none:=by
          unfold yielded
          rw[ht]
          rcases Nat.lt_or_ge t a.tmps.size with q|q
          · rw[Array.getD_eq_getD_getElem?,Array.getElem?_eq_getElem q] at e
            simp only[Option.getD_some] at e
            simp[Array.getElem?_eq_getElem q,e]
          · simp[Array.getElem?_eq_none q]
        rw[hy]
        exact⟨by simp,h⟩
      · exact h.elim
    · exact h.elim
def vS(f:FR)(c:Call)(K:FR→Prop):Prop:=match c.callee with
  | .value x=>match aE f x with
    | .fn (.func g) ms ns=>K ⟨f.n,f.l,(g,ms++c.args.toList.map (aE f)++ns)::f.d⟩
    | _=>False
  | _=>False
def qY(P:Program)(t:TypeId)(x lo hi:MV)(o:Option aT)(σ:St)(k:MV→St→Prop):Prop :=
  match x,lo,hi,o,(td P t).k with
  | .vec e l l0 _,.int _ a,.int _ h,some (.row _ e' xs),.slice el=>((td P el).ok=true∧e=(td P el).size∧e'=(td P el).size∧0≤a∧a≤h∧l0+h.toNat≤xs.length)∧k (.vec e l (l0+a.toNat) (h.toNat - a.toNat)) σ
  | _,_,_,_,_=>False
def Lm(σ:St):MV→Option aT
  | .vec _ l _ _=>σ l
  | _=>none
def beyond:MV→MV→Prop
  | .vec _ _ _ n,.int _ h=>(n:Int)<h
  | _,_=>False
instance (x y:MV):Decidable (beyond x y):=by unfold beyond;split<;>infer_instance
def mclear(P:Program)(t:TypeId)(x:MV)(o:Option aT)(σ:St)(k:MV→St→Prop):Prop :=
  match x,o,(td P t).k with
  | .vec e l l0 n,some (.row tt e' xs),.slice el=>((td P el).zok=true∧0<(td P el).size∧e=(td P el).size∧e'=(td P el).size∧l0+n≤xs.length)∧k .junk (σ.set l (.row tt e' (bC xs l0 (List.replicate n (td P el).zero))))
  | _,_,_=>False
def QS(P:Program)(t:TypeId)(s x:MV)(σ:St)(k:MV→St→Prop):Prop :=
  match (td P t).k,s,x with
  | .slice el,.aM,.int .i64 n=>((td P el).zok=true∧0<(td P el).size∧0<n∧Fits n.toNat (td P el).bytes)∧∀l,σ l=none→k (.vec (td P el).size l 0 n.toNat) (σ.set l (.row el (td P el).size (List.replicate n.toNat (td P el).zero)))
  | _,_,_=>False
def TN(b:Bool)(A B:Prop):Prop:=if b=true then A else B
def jB(P:Program)(f:FR)(σ:St)(dst:Option Tmp)(K:FR→St→Prop):Op→Prop
  | .defer c=>vS f c fun f'=>K (bD f' dst .junk) σ
  | .makeMap _ none=>∀l,σ l=none→K (bD f dst (.mapv l)) (σ.set l (.mp []))
  | .insert t m x y=>gO P t (aE f m) (aE f x) (aE f y) (mapOf σ (aE f m)) σ (fun v σ'=>K (bD f dst v) σ')
  | .mapUpdate t m x y=>gO P t (aE f m) (aE f x) (aE f y) (mapOf σ (aE f m)) σ (fun v σ'=>K (bD f dst v) σ')
  | .lookup t m x ok=>gV P t (aE f m) (aE f x) ok (mapOf σ (aE f m)) σ (fun v σ'=>K (bD f dst v) σ')
  | .range t m=>JD P t (aE f m) (mapOf σ (aE f m)) σ (fun v σ'=>K (bD f dst v) σ')
  | .next x false=>QA (aE f x) σ (fun v σ'=>K (bD f dst v) σ')
  | .entry x=>Jk (aE f x) σ (fun v σ'=>K (bD f dst v) σ')
  | .slice t x (some y) (some z) none=>if beyond (aE f x) (aE f z) then qY P t (aE f x) (aE f y) (aE f z) (Lm σ (aE f x)) σ (fun v σ'=>K (bD f dst v) σ')
      else mop P f σ (fun v σ'=>K (bD f dst v) σ') (.slice t x (some y) (some z) none)
  | .call ⟨.builtin .clear,args,ts⟩=>match args.toList,ts.toList with
    | [x],[t]=>mclear P t (aE f x) (Lm σ (aE f x)) σ (fun v σ'=>K (bD f dst v) σ')
    | _,_=>False
  | .call ⟨.builtin .append,args,ts⟩=>match args.toList,ts.toList with
    | [s,x],[t,xt]=>TN (td P xt).k.isInt (QS P t (aE f s) (aE f x) σ (fun v σ'=>K (bD f dst v) σ')) (mop P f σ (fun v σ'=>K (bD f dst v) σ') (.call ⟨.builtin .append,args,ts⟩))
    | _,_=>False
  | op=>mop P f σ (fun v σ'=>K (bD f dst v) σ') op
def dL(P:Program)(ops:Array Oper)(K:FR→St→Prop):List Oper→FR→St→Prop
  | [],f,σ=>K f σ
  | o::rest,f,σ=>fX ops f o (jB P f σ o.dst (dL P ops K rest) o.op) (dL P ops K rest (bD f o.dst (.tup [])) σ)
theorem dZ(f:FR)(dst:Option Tmp)(v:MV):(bD f dst v).d=f.d:=by
  unfold bD
  split<;>(try split)<;>rfl
def eL:Op→Bool
  | .defer _|.makeMap _ none|.insert ..|.mapUpdate ..|.lookup ..|.range ..|.next _ false|.entry ..|.slice _ _ (some _) (some _) none|.call ⟨.builtin .clear,_,_⟩|.call ⟨.builtin .append,_,_⟩=>false
  | _=>true
theorem GJ{P:Program}{f:FR}{σ:St}{dst:Option Tmp}{K:FR→St→Prop}{op:Op}(h:eL op=true):jB P f σ dst K op=mop P f σ (fun v σ'=>K (bD f dst v) σ') op:=by
  cases op<;>first|rfl|skip
  case slice t x lo hi mx=>cases lo<;>cases hi<;>cases mx<;>first|rfl|(simp[eL] at h;done)
  case defer c=>simp[eL] at h
  case makeMap t r=>cases r<;>first|rfl|(simp[eL] at h;done)
  case insert=>simp[eL] at h
  case range=>simp[eL] at h
  case entry=>simp[eL] at h
  case next x b=>cases b<;>first|rfl|(simp[eL] at h;done)
  case call c =>
    obtain⟨callee,args,ts⟩:=c
    cases callee<;>first|rfl|skip
    rename_i b
    cases b<;>first|rfl|(simp[eL] at h;done)
theorem kN{P:Program}{o:Oper}{f:FR}{σ:St}{K:FR→St→Prop}(hd:∀c,o.op≠.defer c)(h:jB P f σ o.dst K o.op):sop P o f σ fun v σ'=>K (bD f o.dst v) σ':=by
  by_cases hp:eL o.op=true
  · rw[GJ hp] at h
    exact nO h
  · cases ho:o.op<;>rw[ho] at h hp<;>(try simp[eL] at hp)
    case slice t x lo hi mx =>
      cases lo<;>cases hi<;>cases mx<;>(try simp[eL] at hp)
      rename_i y z
      simp only[jB] at h
      split at h
      · unfold qY at h
        split at h
        · rename_i e l l0 n k1 a k2 hh tt e' xs el hx hy hz hl hk
          obtain⟨⟨h1,rfl,rfl,h3,h4,h5⟩,h6⟩:=h
          rw[hx] at hl
          exact Kx ho hk h1 hx hl hy hz h3 h4 h5 h6
        · exact h.elim
      · rw[←ho] at h
        exact nO h
    case defer c=>exact absurd ho (hd c)
    case makeMap t r =>
      cases r<;>(try simp[eL] at hp)
      exact HU ho h
    case insert t m x y=>exact nA (.inl ho) h
    case mapUpdate t m x y=>exact nA (.inr ho) h
    case lookup t m x ok=>exact rT ho h
    case range t m=>exact D5 ho h
    case next x b =>
      cases b<;>(try simp[eL] at hp)
      exact Gw ho h
    case entry x=>exact DV ho h
    case call c =>
      obtain⟨callee,args,ts⟩:=c
      cases callee<;>(try simp[eL] at hp)
      rename_i b
      cases b<;>(try simp[eL] at hp)
      case append =>
        simp only[jB] at h
        split at h
        · rename_i s x t xt ha ht
          have ha':args=#[s,x]:=by rw[←Array.toArray_toList (xs:=args),ha]
          have ht':ts=#[t,xt]:=by rw[←Array.toArray_toList (xs:=ts),ht]
          subst ha';subst ht'
          unfold TN at h
          split at h
          · rename_i hxt
            unfold QS at h
            split at h
            · rename_i el n hk hs hx
              obtain⟨⟨h1,h2,h3,h4,h5⟩,h6⟩:=h
              exact wP ho hk hxt h1 h2 hs hx h3 h4 h5 h6
            · exact h.elim
          · rw[←ho] at h
            exact nO h
        · exact h.elim
      case clear =>
        simp only[jB] at h
        split at h
        · rename_i x t ha ht
          have ha':args=#[x]:=by rw[←Array.toArray_toList (xs:=args),ha]
          have ht':ts=#[t]:=by rw[←Array.toArray_toList (xs:=ts),ht]
          subst ha';subst ht'
          unfold mclear at h
          split at h
          · rename_i e l l0 n tt e' xs el hx hl hk
            obtain⟨⟨h1,h2,rfl,rfl,h3⟩,h4⟩:=h
            rw[hx] at hl
            exact OB ho hk h1 h2 hx hl h3 h4
          · exact h.elim
        · exact h.elim
theorem HA{Φ:Phi}{x y:Array Value}{m n:List MV}(h1:iS Φ x m)(h2:iS Φ y n):iS Φ (x++y) (m++n):=by
  refine⟨by simp[h1.1,h2.1],fun i q hq=>?_⟩
  have e1:=h1.1
  by_cases h:i<m.length
  · rw[List.getElem?_append_left h] at hq
    have:=h1.2 i q hq
    simpa[Array.getD_eq_getD_getElem?,Array.getElem?_append_left (show i<x.size by omega)] using this
  · rw[List.getElem?_append_right oM] at hq
    have:=h2.2 _ q hq
    simpa[Array.getD_eq_getD_getElem?,Array.getElem?_append_right (show x.size≤i by omega),e1] using this
theorem oF{P:Program}{o:Oper}{c:Call}(ho:o.op=.defer c){f:FR}{K:FR→Prop}(h:vS f c K){Φ:Phi}{a:Act}{w:World}(hr:dD Φ a.tmps f)(hd:eC Φ w a.defers f.d) :
    ∃d f',(execOp a.eval o).run P w=.ok (.defer d) w∧dD Φ a.tmps f'∧eC Φ w (d::a.defers) f'.d∧K f':=by
  unfold vS at h
  obtain⟨callee,args,ts⟩:=c
  simp only at h
  split at h
  · rename_i x
    split at h
    · rename_i g ms ns hx
      have rx:=aI hr x
      rw[hx] at rx
      obtain⟨first,cap,he,r1,r2⟩:=rx.sC
      refine⟨⟨.fn (.func g) cap,first++args.map a.eval⟩,_,?_,?_,?_,h⟩
      · unfold execOp
        simp only[ho,resolve,he,Deferred.ofValue,Sem.run_bind,Sem.run_pure,Result.andThen_ok]
      · exact hr
      · exact .inr ⟨_,_,_,cap,rfl,rfl,HA (HA r1 (nQ hr args)) r2,hd⟩
    · exact h.elim
  · exact h.elim
theorem EG{F:Fence}(hF:F=Fence.wide∨∃l,F=Fence.wide.inRound l){n:Nat}{P:Program}{row:String}{args:Array Value}{w:World}{R:Value→World→Prop}(h:Rows P row args w R):RowsIn F n P row args w R:=by
  intro c cs _
  obtain⟨v,w',r,s⟩:=h c cs
  refine⟨v,w',r,?_⟩
  rcases hF with rfl|⟨l,rfl⟩
  · exact stepsIn_wide.2 s
  · rw[fenced_inRound];exact stepsIn_wide.2 s
theorem Bk{F:Fence}(hF:F=Fence.wide∨∃l,F=Fence.wide.inRound l){n:Nat}{P:Program}{f:FuncId}{args:Array Value}{w:World}{R:Ending→World→Prop}(h:Calls P f args w R):CallsIn F n P f args w R:=by
  rcases hF with rfl|⟨l,rfl⟩
  · exact callsIn_wide.2 h
  · exact CallsIn.inRound l (callsIn_wide.2 h)
theorem eS{F:Fence}{n:Nat}{P:Program}{o:Oper}{a:Act}{w:World}{K:Act→World→Prop}{Q:Exit→Act→World→Prop}
   (hF:F=Fence.wide∨∃l,F=Fence.wide.inRound l∧∀c,o.op≠.defer c)(h:o.wp P a w K Q):o.wpIn F n P a w K Q:=by
  have hF':F=Fence.wide∨∃l,F=Fence.wide.inRound l:=hF.imp id fun⟨l,e,_⟩=>⟨l,e⟩
  have hfn:∀g,F.fn g:=fun g=>by rcases hF' with rfl|⟨l,rfl⟩<;>trivial
  have hd:F.depth.isSome=true→1≤n:=fun q=>by rcases hF' with rfl|⟨l,rfl⟩<;>cases q
  have hs:o.semAt F.round a.eval=execOp a.eval o:=by
    rcases hF with rfl|⟨l,rfl,hc⟩
    · exact Oper.semAt_none _ _
    · exact Oper.semAt_eq _ _ _ hc
  refine⟨fun f _=>hfn f,?_⟩
  rw[hs]
  unfold Oper.wp at h
  generalize (execOp a.eval o).run P w=r at h ⊢
  cases r with
  | ok x w' =>
    cases x with
    | value v=>exact h
    | skip=>exact h
    | defer d=>exact h
    | enter f args=>exact⟨hd,(Bk hF' h).mono fun e w'' q=>by cases e<;>exact q⟩
    | row row args=>exact⟨hd,EG hF' h⟩
    | _=>exact h.elim
  | halt x w' =>
    cases x with
    | panic v=>exact h
    | _=>exact h.elim
theorem sI{P:Program}{ops:Array Oper}{Q:MQ}{Φ0:Phi}{σ0:St}{w0:World}{F:Fence}:∀(l:List Oper),(F=Fence.wide∨∃l0,F=Fence.wide.inRound l0∧∀o,o∈l→∀c,o.op≠.defer c)→∀(f:FR) (σ:St) (Φ:Phi) (w:World) (a:Act),dL P ops (Q .normal) l f σ→Inv Φ w σ→dD Φ a.tmps f→eC Φ w a.defers f.d →
    Step Φ0 σ0 w0 Φ σ w→wpListIn F 0 P ops (lift Φ0 σ0 w0 Q) l a w:=by
  intro l
  induction l with
  | nil=>intro _ f σ Φ w a h hi hr hd hs;exact⟨f,σ,Φ,hd,hr,hi,hs,h⟩
  | cons o rest ih =>
    intro hF f σ Φ w a h hi hr hd hs
    have hFr:F=Fence.wide∨∃l0,F=Fence.wide.inRound l0∧∀o,o∈rest→∀c,o.op≠.defer c:=hF.imp id fun⟨l0,e,q⟩=>⟨l0,e,fun o ho=>q o (by simp[ho])⟩
    have hFo:F=Fence.wide∨∃l0,F=Fence.wide.inRound l0∧∀c,o.op≠.defer c:=hF.imp id fun⟨l0,e,q⟩=>⟨l0,e,q o (by simp)⟩
    have hfn:∀g,F.fn g:=fun g=>by rcases hF with rfl|⟨l,rfl,_⟩<;>trivial
    simp only[dL] at h
    unfold wpListIn
    rcases cI h hr with⟨hw,hy⟩|⟨hw,hn⟩
    · rw[if_pos hw]
      refine eS hFo ?_
      by_cases hdef:∃c,o.op=.defer c
      · obtain⟨c,hc⟩:=hdef
        rw[hc] at hy
        have hy:vS f c fun f'=>dL P ops (Q .normal) rest (bD f' o.dst .junk) σ:=hy
        obtain⟨d,f',h1,h2,h3,h4⟩:=oF (P:=P) (w:=w) hc hy hr hd
        unfold Oper.wp
        rw[h1]
        refine ih hFr _ _ Φ w _ h4 hi (cL (a:={ a with defers:=d::a.defers }) h2 o.dst (.junk _)) ?_ hs
        rw[bO,dZ]
        exact h3
      · exact kN (fun c hc=>hdef ⟨c,hc⟩) hy Φ w a _ _ hi hr (fun v mv σ' Φ' w' r1 i1 s1 hk=>ih hFr _ _ Φ' w' (a.put o.dst v) hk i1 (cL (hr.mono s1.le) o.dst r1) (by rw[bO,dZ];exact hd.step hi s1) (hs.trans s1))
    · rw[if_neg (by simp[hw])]
      exact⟨fun f _=>hfn f,ih hFr _ _ Φ w (a.put o.dst undef) hn hi (cL hr o.dst gP) (by rw[bO,dZ];exact hd) hs⟩
theorem FOk.ops{F:Fence}{id:Nat}{ops:Array Oper}{dr:Bool}(h:FOk F (.region id ops dr)):F=Fence.wide∨∃l0,F=Fence.wide.inRound l0∧∀o,o∈ops.toList→∀c,o.op≠.defer c :=
  Or.imp (fun q=>q) (fun⟨l0,e,q⟩=>⟨l0,e,fun o ho c hc=>by
    have:=List.all_eq_true.1 q o ho
    rw[hc] at this
    cases this⟩) h
theorem JI{P:Program}{id:Nat}{ops:Array Oper}{f:FR}{σ:St}{Q:MQ}(h:dL P ops (Q .normal) ops.toList f σ):mwp P (.region id ops false) f σ Q :=
  fun F hF Φ w a hi hr hd=>wpIn_region_list (sI ops.toList hF.ops f σ Φ w a h hi hr hd (.refl _ _ _))
def GD(P:Program)(f:FR)(σ:St):ResultVar→(MV→Prop)→Prop
  | .tmp t,k=>k (f.get t)
  | .cell a t,k=>mQ P t (f.get a) σ (fun v _=>k v)
def fE(P:Program)(f:FR)(σ:St):List ResultVar→(List MV→Prop)→Prop
  | [],k=>k []
  | r::rs,k=>GD P f σ r fun v=>fE P f σ rs fun vs=>k (v::vs)
def oneOf:List MV→MV
  | [v]=>v
  | vs=>.tup vs
def Dc(P:Program)(g:FuncId)(ms:List MV)(σ:St)(Q:St→Prop):Prop :=
  ∃fn,P.funcs[g]?=some fn∧fn.body.isNone=false∧(fn.name == "runtime.NumGoroutine")=false ∧
    ∀Φ w vs,Inv Φ w σ→iS Φ vs ms→CallsD P g vs .returning w fun e u' w'=>u'=.returning∧∃v σ' Φ',e=.returned v∧Inv Φ' w' σ'∧Step Φ σ w Φ' σ' w'∧Q σ'
def mleave(P:Program)(n:Nat)(l:List (Nat × MV))(rs:List ResultVar)(Q:MV→St→Prop):List (FuncId × List MV)→St→Prop
  | [],σ=>fE P ⟨n,l,[]⟩ σ rs fun vs=>Q (oneOf vs) σ
  | (g,ms)::d,σ=>Dc P g ms σ fun σ'=>mleave P n l rs Q d σ'
def Ot(P:Program)(rs:List ResultVar)(Q:MV→St→Prop):MQ
  | .normal,f,σ|.ret,f,σ=>mleave P f.n f.l rs Q f.d σ
  | _,_,_=>False
theorem NB{P:Program}{t:TypeId}{x:MV}{σ:St}{k:MV→St→Prop}(h:mQ P t x σ k){Φ:Phi}{w:World}(hi:Inv Φ w σ){v:Value}(r:Rel Φ v x):∃ad u m,v=.pointer (some ad)∧(loadVar t ad).run P w=.ok u w∧Rel Φ u m∧k m σ:=by
  unfold mQ at h
  split at h
  · rename_i l i of
    split at h
    · rename_i tt e xs hs
      obtain⟨⟨hok,hi',h1,h0⟩,hk⟩:=h
      obtain⟨p,R,hp,hR,he⟩:=r.iZ
      obtain⟨p',hp',hpe,hlen,R',hR',hcells⟩:=(hi.own l _ hs).elem (j6 hi' (d:=[]))
      rw[hp] at hp';cases hp'
      rw[hR] at hR';cases hR'
      obtain⟨v2,hv,hrel⟩:=lK (P:=P) (Φ:=Φ) (w:=w) (t:=t) (b:=R) (off:=p.bo+i * p.e+of) (ms:=(xs.getD i []).drop of) hok (by rw[List.length_drop];omega) h0 (fun j m hm=>by
        rw[List.getElem?_drop] at hm
        have:=hcells _ m hm
        rw[Nat.add_assoc (p.bo+i * p.e),hpe]
        exact this)
      have e2:eA (td P t) ((xs.getD i []).drop of) 0=eA (td P t) (xs.getD i []) of:=by
        unfold eA
        simp[List.getD,List.getElem?_drop]
      rw[e2] at hrel
      exact⟨_,v2,_,he,hv,hrel,hk⟩
    · exact h.elim
  · rename_i cs
    obtain⟨⟨hok,h1,h0⟩,hk⟩:=h
    obtain⟨b,off,vs,he,hc,hrr⟩:=r.nH
    obtain⟨v2,hv,hrel⟩:=lK (P:=P) (Φ:=Φ) (w:=w) (t:=t) (b:=b) (off:=off) (ms:=cs) hok h1 h0 (fun j m hm=>⟨(hc j m hm).1,vs j,hi.snap _ _ (hc j m hm).2,hrr j m hm⟩)
    exact⟨_,v2,_,he,hv,hrel,hk⟩
  · exact h.elim
theorem Hz{Φ:Phi}{tmps:Array Value}{f:FR}(hr:dD Φ tmps f)(t:Nat):Rel Φ (tmps.getD t undef) (f.get t):=hr.2 t
def CY(tmps:Array Value):ResultVar→Sem Value
  | .tmp t=>pure (tmps.getD t undef)
  | .cell a t=>do loadVar t (←asAddr (tmps.getD a undef))
theorem oO(fn:Func)(tmps:Array Value):results fn tmps=(do
    let vs ←fn.results.mapM (CY tmps)
    pure (if h:vs.size=1 then vs[0] else .tuple vs)):=rfl
theorem D7{P:Program}{f:FR}{σ:St}{Φ:Phi}{w:World}(hi:Inv Φ w σ){tmps:Array Value}(hr:dD Φ tmps f):∀(rs:List ResultVar) (k:List MV→Prop),fE P f σ rs k →
    ∃vs ms,(rs.mapM (m:=Sem) (CY tmps)).run P w=.ok vs w∧vs.length=ms.length∧(∀(i:Nat) v m,vs[i]?=some v→ms[i]?=some m→Rel Φ v m)∧k ms:=by
  intro rs
  induction rs with
  | nil=>intro k h;exact⟨[],[],by simp,rfl,by simp,h⟩
  | cons r rs ih =>
    intro k h
    simp only[fE] at h
    cases r with
    | tmp t =>
      obtain⟨vs,ms,h1,h2,h3,h4⟩:=ih _ h
      refine⟨tmps.getD t undef::vs,f.get t::ms,?_,by simp[h2],fun i v m hv hm=>?_,h4⟩
      · rw[List.mapM_cons]
        simp only[CY,Sem.run_bind,Sem.run_pure,Result.andThen_ok]
        rw[h1]
        rfl
      · cases i with
        | zero=>simp only[List.getElem?_cons_zero,Option.some.injEq] at hv hm;subst hv;subst hm;exact Hz hr t
        | succ i=>exact h3 i v m (by simpa using hv) (by simpa using hm)
    | cell a t =>
      simp only[GD] at h
      obtain⟨ad,u,m1,he,hl,hrel,hk⟩:=NB h hi (Hz hr a)
      obtain⟨vs,ms,h1,h2,h3,h4⟩:=ih _ hk
      refine⟨u::vs,m1::ms,?_,by simp[h2],fun i v m hv hm=>?_,h4⟩
      · rw[List.mapM_cons]
        simp only[CY,Sem.run_bind,he,asAddr,Sem.run_pure,Result.andThen_ok,hl]
        rw[h1]
        rfl
      · cases i with
        | zero=>simp only[List.getElem?_cons_zero,Option.some.injEq] at hv hm;subst hv;subst hm;exact hrel
        | succ i=>exact h3 i v m (by simpa using hv) (by simpa using hm)
theorem HB{P:Program}{fn:Func}{f:FR}{σ:St}{Φ:Phi}{w:World}(hi:Inv Φ w σ){tmps:Array Value}(hr:dD Φ tmps f){Q:MV→St→Prop}(h:fE P f σ fn.results.toList fun vs=>Q (oneOf vs) σ) :
    ∃v m,(results fn tmps).run P w=.ok v w∧Rel Φ v m∧Q m σ:=by
  obtain⟨vs,ms,h1,h2,h3,h4⟩:=D7 (P:=P) hi hr fn.results.toList _ h
  have hm:∃va:Array Value,(fn.results.mapM (m:=Sem) (CY tmps)).run P w=.ok va w∧va.toList=vs:=by
    rw[←Array.toList_mapM] at h1
    simp only[Sem.run_map] at h1
    generalize hg:(fn.results.mapM (m:=Sem) (CY tmps)).run P w=res at h1 ⊢
    cases res with
    | halt x w'=>simp at h1
    | ok va w' =>
      simp only[Result.andThen_ok,Result.ok.injEq] at h1
      obtain⟨h1,rfl⟩:=h1
      exact⟨va,rfl,h1⟩
  obtain⟨va,hva,rfl⟩:=hm
  by_cases hs:va.size=1
  · match ms,h2 with
    | [m],h2 =>
      refine⟨va[0],m,?_,h3 0 _ m (by simp[hs]) rfl,h4⟩
      rw[oO]
      simp only[Sem.run_bind,hva,Result.andThen_ok,Sem.run_pure,dif_pos hs]
    | [],h2=>simp[hs] at h2
    | _::_::_,h2=>simp[hs] at h2
  · refine⟨.tuple va,oneOf ms,?_,?_,h4⟩
    · rw[oO]
      simp only[Sem.run_bind,hva,Result.andThen_ok,Sem.run_pure,dif_neg hs]
    · have:oneOf ms=.tup ms:=by
        match ms,h2 with
        | [],_=>rfl
        | [m],h2=>exact absurd (by simpa using h2) hs
        | _::_::_,_=>rfl
      rw[this]
      refine .tup (by simpa using h2) (fun i m hm'=>?_)
      have hlt:i<va.size:=by have:=(List.getElem?_eq_some_iff.1 hm').1;simp at h2;omega
      have hv:va.toList[i]?=some (va.getD i undef):=by
        rw[Array.getElem?_toList]
        simp[Array.getD_eq_getD_getElem?,Array.getElem?_eq_getElem hlt]
      exact h3 i _ m hv hm'
def iG:Nat→List MV→List (Nat × MV)
  | _,[]=>[]
  | i,m::ms=>(i,m)::iG (i+1) ms
theorem qM:∀(ms:List MV) (i t:Nat),cQ (iG i ms) t=if i≤t then(ms[t - i]?).getD .junk else .junk:=by
  intro ms
  induction ms with
  | nil=>intro i t;simp[iG,cQ]
  | cons m ms ih =>
    intro i t
    simp only[iG,cQ,ih]
    by_cases h:t=i
    · subst h;simp
    · rw[if_neg h]
      by_cases h2:i≤t
      · obtain⟨k,rfl⟩:∃k,t=i+1+k:=⟨t - (i+1),by omega⟩
        rw[if_pos oM,if_pos h2,show i+1+k - (i+1)=k from by omega,show i+1+k - i=k+1 from by omega]
        rfl
      · rw[if_neg oM,if_neg h2]
def jZ(P:Program)(fn:Func)(tmps:Array Value)(R:Ending→World→Prop):List Deferred→World→Prop
  | [],w=>∃v,(results fn tmps).run P w=.ok v w∧R (.returned v) w
  | d::ds,w=>(∃r w',d.target=.collected r∧(Instr.takeDeferred r).run P w=.ok [] w'∧jZ P fn tmps R ds w') ∨
      ∃fv cap f args,d.target=.fn fv cap∧(invoke d.target d.args).run P w=.ok (.enter f args) w∧CallsD P f args .returning w fun e u' w'=>(∃v,e=.returned v)∧u'=.returning∧jZ P fn tmps R ds w'
theorem rQ{P:Program}{fn:Func}{tmps:Array Value}{R:Ending→World→Prop}:∀(ds:List Deferred) (w:World) (fr:Frame) (cs:List Frame),fr.mode=.returning→fr.defers=ds→fr.tmps=tmps→P.funcs[fr.fn]?=some fn→fr.kind=.normal →
    jZ P fn tmps R ds w→∃e w' fr',R e w'∧Comes P (lone fr cs w) (lone fr' cs w') e∧fr'.fn=fr.fn∧fr'.leaving P w' e:=by
  intro ds
  induction ds with
  | nil =>
    intro w fr cs hu hd ht hf hk h
    obtain⟨v,hr,hR⟩:=h
    exact⟨.returned v,w,fr,hR,Steps.refl P _,rfl,hu,hd,hk,fn,hf,ht ▸ hr⟩
  | cons d ds ih =>
    intro w fr cs hu hd ht hf hk h
    have hrun:fr.mode≠.run:=by rw[hu];simp
    rcases h with⟨r,w',h1,h2,h3⟩|⟨fv,cap,f,args,h1,h2,h3⟩
    · have s1:=step_collected (cs:=cs) hrun hd h1 h2
      obtain⟨e,w2,fr',q1,q2,q3,q4⟩:=ih w' { fr with defers:=[]++ds } cs hu rfl ht hf hk h3
      exact⟨e,w2,fr',q1,Comes.of_steps (.one s1) q2,q3,q4⟩
    · have s1:=step_defer (cs:=cs) hrun hd h1 h2
      obtain⟨e,u',w',frX,hR,hsteps,hkX,hgo⟩:=h3 { fr with defers:=ds } cs hu
      obtain⟨⟨v,rfl⟩,rfl,hR⟩:=hR
      have s2:=step_going_returned (c:={ { fr with defers:=ds } with mode:=.returning }) (cs:=cs) hkX hgo
      obtain⟨e,w2,fr',q1,q2,q3,q4⟩:=ih w' { { { fr with defers:=ds } with mode:=.returning } with mode:=settle .returning } cs rfl rfl ht hf hk hR
      exact⟨e,w2,fr',q1,Comes.of_steps (.head s1 (Steps.trans hsteps (.one s2))) q2,q3,q4⟩
theorem nZ{P:Program}{f:FuncId}{fn:Func}{c:Code}{args:Array Value}{w:World}{R:Ending→World→Prop}(hf:P.funcs[f]?=some fn)(hb:fn.body=some c)
   (h:c.wp P (fun e a w=>(e=.normal∨e=.ret)∧jZ P fn a.tmps R a.defers w) { tmps:=args++Array.replicate (fn.ntmps - args.size) undef,defers:=[] } w):Calls P f args w R:=by
  intro cs
  let b:Frame:={ (default:Frame) with fn:=f,kind:=.normal }
  have henter:Frame.enter P f args .normal=b.at { tmps:=args++Array.replicate (fn.ntmps - args.size) undef,defers:=[] } [.code c]:=by
    simp[Frame.enter,Frame.at,hf,hb,b]
  obtain⟨e,a',w',⟨he,hq⟩,harr⟩:=h b [] cs
  rw[←henter] at harr
  rcases he with rfl|rfl
  · obtain⟨e',w'',fr',hR,hs,hfn,hl⟩:=rQ a'.defers w' { b.at a' [] with mode:=.returning } cs rfl rfl rfl hf rfl hq
    exact⟨e',w'',fr',hR,Comes.of_steps (Steps.trans harr (.one step_end)) hs,hfn,hl⟩
  · obtain⟨todo,hs₀⟩:=harr
    obtain⟨e',w'',fr',hR,hs,hfn,hl⟩:=rQ a'.defers w' { b.at a' todo with mode:=.returning } cs rfl rfl rfl hf rfl hq
    exact⟨e',w'',fr',hR,Comes.of_steps hs₀ hs,hfn,hl⟩
theorem Inv.putObj{Φ:Phi}{w:World}{σ:St}(hi:Inv Φ w σ){D:Nat}{o:Obj}(o':Obj)(hD:w.heap[D]?=some o)(h:∀c t fz,o≠.cells c t fz)(h':∀c k,o≠.map c k)(h2':∀m a b c,o≠.mapIter m a b c:=by intro _ _ _ _ e;cases e):Inv Φ (w.putObj D o') σ:=by
  have hno:¬aY Φ σ D:=hi.AB (fun c t fz e=>h c t fz (by rw[hD] at e;exact Option.some.inj e)) (fun c k e=>h' c k (by rw[hD] at e;exact Option.some.inj e)) (fun m a b c e=>h2' m a b c (by rw[hD] at e;exact Option.some.inj e))
  refine⟨fun l ob hl=>(hi.own l ob hl).mono (.refl _) fun p R h1 h2=>World.putObj_heap_other fun e=>hno ⟨l,ob,p,hl,h1,e ▸ h2⟩,hi.inj,fun a v hv=>?_,hi.apart,hi.fresh⟩
  have hc:=hi.snap a v hv
  rw[←hc]
  refine World.gC (World.putObj_heap_other fun e=>?_)
  rw[World.cell?,e,hD] at hc
  cases o with
  | cells c t fz=>exact h _ _ _ rfl
  | map c k=>exact h' _ _ rfl
  | _=>simp at hc
theorem Cy{P:Program}{fn:Func}{tmps:Array Value}{n:Nat}{l:List (Nat × MV)}{Q:MV→St→Prop}{Φ0:Phi}{σ0:St}{w0:World}(h0:Φ0.base=w0.heap.size) :
    ∀(ds:List Deferred) (d:List (FuncId × List MV)) (Φ:Phi) (w:World) (σ:St),eC Φ w ds d→dD Φ tmps ⟨n,l,[]⟩→Inv Φ w σ→Step Φ0 σ0 w0 Φ σ w→mleave P n l fn.results.toList Q d σ →
    jZ P fn tmps (fun e w'=>∃v mv σ' Φ',e=.returned v∧Rel Φ' v mv∧Inv Φ' w' σ'∧Step Φ0 σ0 w0 Φ' σ' w'∧Q mv σ') ds w:=by
  intro ds
  induction ds with
  | nil =>
    intro d Φ w σ hd hr hi hs h
    obtain⟨rfl,-⟩:=hd
    obtain⟨v,m,h1,h2,h3⟩:=HB (P:=P) (fn:=fn) hi hr h
    exact⟨v,h1,v,m,σ,Φ,rfl,h2,hi,hs,h3⟩
  | cons x ds ih =>
    intro d Φ w σ hd hr hi hs h
    rcases hd with⟨D,h1,h2,h3,h4,h5⟩|⟨g,ms,r,cap,rfl,h1,h2,h3⟩
    · refine .inl ⟨D,_,h1,run_takeDeferred h3,?_⟩
      have hi':=hi.putObj (.deferred none) h3 (fun _ _ _ e=>by cases e) (fun _ _ e=>by cases e)
      have hDb:w0.heap.size≤D:=by rw[←h0,←hs.le.base];exact h2
      have hs':Step Φ0 σ0 w0 Φ σ (w.putObj D (.deferred none)) :=
        ⟨hs.le,hs.os,hs.tape,hs.output,hs.drawn,by rw[World.putObj_size];exact hs.size,fun k hk hn=>(World.putObj_heap_other oM).trans (hs.block k hk hn),hs.snapn,hs.locs,hs.ownd⟩
      refine ih d Φ _ σ ?_ hr hi' hs' h
      have:∀(xs:List Deferred) (d:List (FuncId × List MV)),(∀y,y∈xs→y.target≠.collected D)→eC Φ w xs d→eC Φ (w.putObj D (.deferred none)) xs d:=by
        intro xs
        induction xs with
        | nil=>intro d _ h;exact⟨h.1,by rw[World.putObj_size];exact h.2⟩
        | cons y xs ihx =>
          intro d hy h
          rcases h with⟨D',k1,k2,k3,k4,k5⟩|⟨g,ms,r,cap,k1,k2,k3,k4⟩
          · refine .inl ⟨D',k1,k2,?_,k4,ihx d (fun z hz=>hy z (by simp[hz])) k5⟩
            rw[World.putObj_heap_other]
            · exact k3
            · intro e;exact hy y (by simp) (by rw[k1,e])
          · exact .inr ⟨g,ms,r,cap,k1,k2,k3,ihx r (fun z hz=>hy z (by simp[hz])) k4⟩
      exact this ds d h4 h5
    · obtain⟨fn',hf,hb,hn,hc⟩:=h
      obtain⟨t,ags⟩:=x
      simp only at h1 h2
      subst h1
      refine .inr ⟨.func g,cap,g,ags++cap,rfl,?_,?_⟩
      · simp only[invoke,callFunc,Sem.run_bind,run_program,hf,hn,hb,Result.andThen_ok,Bool.false_eq_true,if_false,Sem.run_pure]
      · intro c cs hcu
        obtain⟨e,u',w',fr,⟨rfl,v,σ',Φ',rfl,i1,s1,q⟩,q2,q3,q4⟩:=hc Φ w _ hi h2 c cs hcu
        exact⟨_,_,w',fr,⟨⟨v,rfl⟩,rfl,ih r Φ' w' σ' (h3.step hi s1) (hr.mono s1.le) i1 (hs.trans s1) q⟩,q2,q3,q4⟩
theorem Ma{P:Program}{fn:Func}{Q:MV→St→Prop}{Φ0:Phi}{σ0:St}{w0:World}{e:Exit}{a':Act}{w':World}(h0:Φ0.base=w0.heap.size)
   (h:lift Φ0 σ0 w0 (Ot P fn.results.toList Q) e a' w'):(e=.normal∨e=.ret)∧jZ P fn a'.tmps (fun e w'=>∃v mv σ' Φ',e=.returned v∧Rel Φ' v mv∧Inv Φ' w' σ'∧Step Φ0 σ0 w0 Φ' σ' w'∧Q mv σ') a'.defers w':=by
  obtain⟨f',σ',Φ',x1,x2,x3,x4,q⟩:=h
  obtain⟨n,l,d⟩:=f'
  cases e with
  | normal=>exact⟨.inl rfl,Cy h0 _ d Φ' w' σ' x1 x2 x3 x4 q⟩
  | ret=>exact⟨.inr rfl,Cy h0 _ d Φ' w' σ' x1 x2 x3 x4 q⟩
  | _=>exact q.elim
theorem vJ{Φ:Phi}{fn:Func}{vs:Array Value}{ms:List MV}(hr:iS Φ vs ms):dD Φ (vs++Array.replicate (fn.ntmps - vs.size) undef) ⟨max fn.ntmps ms.length,iG 0 ms,[]⟩:=by
  refine⟨by simp[hr.1];omega,fun t=>?_⟩
  simp only[FR.get,qM,Nat.sub_zero,Nat.zero_le,if_true]
  cases hm:ms[t]? with
  | none=>exact .junk _
  | some m =>
    have hlt:=(List.getElem?_eq_some_iff.1 hm).1
    have e1:=hr.1
    have:=hr.2 t m hm
    simpa[Array.getD_eq_getD_getElem?,Array.getElem?_append_left (show t<vs.size by omega)] using this
def Phi.aX(Φ:Phi)(n:Nat):Phi:={ Φ with base:=n }
theorem Rel.aX{Φ:Phi}{v:Value}{m:MV}(h:Rel Φ v m)(n:Nat):Rel (Φ.aX n) v m:=Rel.Gx (Φ:=Φ) (Φ':=Φ.aX n) (fun _ _ q=>q) (fun _ _ q=>q) h
theorem Inv.aX{Φ:Phi}{w:World}{σ:St}(hi:Inv Φ w σ)(n:Nat):Inv (Φ.aX n) w σ:=by
  refine⟨fun l o hl=>?_,hi.inj,hi.snap,hi.apart,hi.fresh⟩
  have:=hi.own l o hl
  cases o with
  | row t e xs =>
    obtain⟨p,h1,h2,h3,h4,h5,h6⟩:=this
    refine⟨p,h1,h2,h3,h4,h5,?_⟩
    split
    · rename_i hb;rw[hb] at h6;exact h6
    · rename_i R hb
      rw[hb] at h6
      obtain⟨c,fz,k1,k2,k3,k4⟩:=h6
      exact⟨c,fz,k1,k2,k3,fun i x j m hx hm=>⟨(k4 i x j m hx hm).1,(k4 i x j m hx hm).2.imp fun v hv=>⟨hv.1,hv.2.aX n⟩⟩⟩
  | mp es =>
    obtain⟨p,R,h1,h2,c,k,h3,h4,h5⟩:=this
    exact⟨p,R,h1,h2,c,k,h3,h4,fun i x hx=>⟨(h5 i x hx).1.aX n,(h5 i x hx).2.aX n⟩⟩
  | mk es st ck =>
    obtain⟨p,R,h1,h2,c,h3,h4,h5⟩:=this
    exact⟨p,R,h1,h2,c,h3,h4,fun i x hx=>⟨(h5 i x hx).1.aX n,(h5 i x hx).2.aX n⟩⟩
  | it m ck seen=>exact this
theorem Step.aX{Φ Φ':Phi}{σ σ':St}{w w':World}{n:Nat}(h:Step (Φ.aX n) σ w Φ' σ' w'):Step Φ σ w (Φ'.aX Φ.base) σ' w' :=
  ⟨⟨h.le.snap,h.le.obj,rfl⟩,h.os,h.tape,h.output,h.drawn,h.size,h.block,h.snapn,h.locs,h.ownd⟩
theorem aA.gW{P:Program}{g:FuncId}{fn:Func}{c:Code}{ms:List MV}{σ:St}{Q:MV→St→Prop}(n:Nat)(rs:List ResultVar)(hf:P.funcs[g]?=some fn)(hb:fn.body=some c)(hn:(fn.name == "runtime.NumGoroutine")=false)
   (hn':max fn.ntmps ms.length=n)(hrs:fn.results.toList=rs)(h:mwp P c ⟨n,iG 0 ms,[]⟩ σ (Ot P rs Q)):aA P g ms σ Q:=by
  subst hn';subst hrs
  refine⟨⟨fn,hf,by simp[hb],hn⟩,fun Φ w vs hi hr=>?_⟩
  have hr':iS (Φ.aX w.heap.size) vs ms:=⟨hr.1,fun i m hm=>(hr.2 i m hm).aX _⟩
  refine(nZ hf hb (wp_mono (wpIn_wide.1 (h _ .wide (Φ.aX w.heap.size) w { tmps:=vs++Array.replicate (fn.ntmps - vs.size) undef,defers:=[] } (hi.aX _) (vJ hr') ⟨rfl,Nat.le_refl _⟩)) fun e a' w' hq=>Ma rfl hq)).mono ?_
  rintro e w' ⟨v,mv,σ',Φ',q1,q2,q3,q4,q5⟩
  exact⟨v,mv,σ',Φ'.aX Φ.base,q1,q2.aX _,q3.aX _,q4.aX,q5⟩
theorem aA.ghost{P:Program}{g:FuncId}{ms:List MV}{σ:St}{Q:MV→St→Prop}(h:aA P g ms σ fun v σ'=>∃v1 σ1,bA ⟨1,[(0,v)],[]⟩ σ' ⟨1,[(0,v1)],[]⟩ σ1∧Q v1 σ1):aA P g ms σ Q:=by
  refine⟨h.1,fun Φ w vs hi hr=>(h.2 Φ w vs hi hr).mono ?_⟩
  rintro e w' ⟨v,mv,σ',Φ',rfl,q1,q2,q3,v1,σ1,g,hq⟩
  obtain⟨Φ1,i1,r1,s1⟩:=g.2 Φ' w' #[v] q2 ⟨rfl,fun t=>by
    simp only[FR.get,cQ]
    split
    · rename_i ht;subst ht;exact q1
    · exact .junk _⟩
  exact⟨v,v1,σ1,Φ1,rfl,by simpa[FR.get,cQ] using r1.2 0,i1,q3.trans s1,hq⟩
end

section
def E{α:Sort _}(x:α):α:=x
theorem Xd{α:Sort _}(x:α):E x=x:=rfl
def R(p:Prop):Prop:=p
theorem UX:R True=True:=rfl
theorem Xe{α:Sort _}{a b:α}:R (a=b)=(a=b):=rfl
theorem Wc{a b:Prop}:R (a∧b)=(R a∧R b):=rfl
theorem Xf{α:Sort _}{p:α→Prop}:R (∃x,p x)=∃x,R (p x):=rfl
theorem Wd{p:Prop}:R (¬p)=¬p:=rfl
theorem Xh{a b:Prop}:R (a∨b)=(R a∨R b):=rfl
theorem bL{p:Prop}(h:p):R p:=h
def oH(σ:St)(K:Nat→Prop):Prop:=∀l,σ l=none→K l
def kL(x:MV)(A B:Prop):Prop:=match x with
 | .bool b=>(b=true→A)∧(b=false→B)
 | _=>False
def fY(C:Prop)(A:Prop):Prop:=C∧A
theorem Jn(A B:Prop):R (kL (.bool true) A B)=R A:=by simp[kL]
theorem Gn(A B:Prop):R (kL (.bool false) A B)=R B:=by simp[kL]
theorem Nr{p:Prop}[Decidable p]{A B:Prop}(h:p):R (kL (.bool (decide p)) A B)=R A:=by simp[kL,h]
theorem Qw{p:Prop}[Decidable p]{A B:Prop}(h:¬p):R (kL (.bool (decide p)) A B)=R B:=by simp[kL,h]
theorem Nq{p:Prop}[Decidable p]{A B:Prop}(h1:p→R A)(h2:¬p→R B):R (kL (.bool (decide p)) A B):=by
 simp only[R,kL,decide_eq_true_eq,decide_eq_false_iff_not];exact⟨h1,h2⟩
theorem cK{b:Bool}{A B:Prop}(h1:b=true→R A)(h2:b=false→R B):R (kL (.bool b) A B):=⟨h1,h2⟩
def rS(P:Program)(id:Nat)(ops:List Oper)(f:FR)(σ:St)(Q:MQ):Prop:=mwp P (.region id ops.toArray true) f σ Q
def Qz(P:Program)(c:Code)(f:FR)(σ:St)(Q:MQ):Prop:=mwp P (.loop c) f σ Q
def WG(P:Program)(c:Code)(f:FR)(σ:St)(Q:MQ):Prop:=mwp P c f σ Q
def dN(P:Program):Code→FR→St→MQ→Prop
 | .skip,f,σ,Q=>Q .normal f σ
 | .seq a b,f,σ,Q=>dN P a f σ (uQ (fun f' σ'=>dN P b f' σ' Q) Q)
 | .cond c a b,f,σ,Q=>kL (aE f c) (dN P a f σ Q) (dN P b f σ Q)
 | .block id b,f,σ,Q=>dN P b f σ (o8 id Q)
 | .scope b,f,σ,Q=>dN P b f σ (EL Q)
 | .label _,f,σ,Q=>Q .normal f σ
 | .ret,f,σ,Q=>Q .ret f σ
 | .exit id,f,σ,Q=>Q (.exit id) f σ
 | .region id ops true,f,σ,Q=>rS P id ops.toList f σ Q
 | .region _ ops false,f,σ,Q=>dL P ops (Q .normal) ops.toList f σ
 | .loop b,f,σ,Q=>Qz P b f σ Q
 | c,f,σ,Q=>WG P c f σ Q
theorem mP{P:Program}:∀(c:Code) (f:FR) (σ:St) (Q:MQ),dN P c f σ Q→mwp P c f σ Q:=by
 intro c
 induction c with
 | skip=>intro f σ Q h;exact QR h
 | region id ops draw=>intro f σ Q h;cases draw with
  | true=>exact h
  | false=>exact JI h
 | seq a b iha ihb =>
  intro f σ Q h
  refine a8 (QQ (iha f σ _ h) fun e f' σ' hq=>?_)
  cases e with
  | normal=>exact ihb f' σ' Q hq
  | _=>exact hq
 | cond c a b iha ihb =>
  intro f σ Q h
  simp only[dN,kL] at h
  split at h
  ·rename_i t ht
   exact QN ht (fun hh=>iha f σ Q (h.1 hh)) (fun hh=>ihb f σ Q (h.2 hh))
  ·exact h.elim
 | block id b ih=>intro f σ Q h;exact NU (ih f σ _ h)
 | scope b ih=>intro f σ Q h;exact NZ (ih f σ _ h)
 | label l=>intro f σ Q h;exact NY h
 | loop b _=>intro f σ Q h;exact h
 | ret=>intro f σ Q h;exact TX h
 | exit id=>intro f σ Q h;exact QO h
 | _=>intro f σ Q h;exact h
theorem aA.body{P:Program}{g:FuncId}{fn:Func}{c:Code}{ms:List MV}{σ:St}{Q:MV→St→Prop}(n:Nat)(rs:List ResultVar)(hf:P.funcs[g]?=some fn)(hb:fn.body=some c)(hn:(fn.name == "runtime.NumGoroutine")=false)
 (hn':max fn.ntmps ms.length=n)(hrs:fn.results.toList=rs)(h:R (dN P (@OfNat.ofNat Code (nat_lit 0) (@_root_.id (OfNat Code (nat_lit 0)) (OfNat.mk c))) ⟨n,iG 0 ms,[]⟩ σ (Ot P rs Q))):aA P g ms σ Q :=
 aA.gW n rs hf hb hn hn' hrs (mP c _ σ _ h)
theorem aF{P:Program}{c:Code}{f:FR}{σ:St}{Q:MQ}{α:Type}(F:α→FR)(S:α→St)(p:α→Prop)(μ:α→Nat)(h0:Gh f σ fun f1 σ1=>∃a,f1=F a∧σ1=S a∧p a)
 (round:∀a,p a→R (dN P c (F a) (S a) (uQ (fun f' σ'=>Gh f' σ' fun f1 σ1=>∃b,f1=F b∧σ1=S b∧p b∧μ b<μ a) Q))):R (Qz P c f σ Q) :=
 QP F S p μ h0 fun a ha=>mP c _ _ _ (round a ha)
section
variable {P:Program} {f:FR} {σ:St} {Q:MQ} {k:MV→St→Prop} {K:FR→St→Prop} {ops:Array Oper} {rest:List Oper}
theorem Jj:R (dN P .skip f σ Q)=R (Q .normal f σ):=rfl
theorem Ji{c:Code}:R (dN P (@OfNat.ofNat Code (nat_lit 0) (@_root_.id (OfNat Code (nat_lit 0)) (OfNat.mk c))) f σ Q)=R (dN P c f σ Q):=congrArg R rfl
theorem Nn{a b:Code}:R (dN P (.seq a b) f σ Q)=R (dN P (@OfNat.ofNat Code (nat_lit 0) (@_root_.id (OfNat Code (nat_lit 0)) (OfNat.mk a))) f σ (uQ (fun f' σ'=>dN P (@OfNat.ofNat Code (nat_lit 0) (@_root_.id (OfNat Code (nat_lit 0)) (OfNat.mk b))) f' σ' Q) Q)):=congrArg R rfl
theorem Je{c:Operand}{a b:Code}:R (dN P (.cond c a b) f σ Q)=R (kL (E (aE f c)) (dN P (@OfNat.ofNat Code (nat_lit 0) (@_root_.id (OfNat Code (nat_lit 0)) (OfNat.mk a))) f σ Q) (dN P (@OfNat.ofNat Code (nat_lit 0) (@_root_.id (OfNat Code (nat_lit 0)) (OfNat.mk b))) f σ Q)):=congrArg R rfl
theorem Gd{id:Nat}{b:Code}:R (dN P (.block id b) f σ Q)=R (dN P (@OfNat.ofNat Code (nat_lit 0) (@_root_.id (OfNat Code (nat_lit 0)) (OfNat.mk b))) f σ (o8 id Q)):=congrArg R rfl
theorem Gf{b:Code}:R (dN P (.scope b) f σ Q)=R (dN P (@OfNat.ofNat Code (nat_lit 0) (@_root_.id (OfNat Code (nat_lit 0)) (OfNat.mk b))) f σ (EL Q)):=congrArg R rfl
theorem Ge{l:Nat}:R (dN P (.label l) f σ Q)=R (Q .normal f σ):=congrArg R rfl
theorem Ks:R (EL Q .ret f σ)=R (Q .ret f σ):=congrArg R rfl
theorem Nl:R (dN P .ret f σ Q)=R (Q .ret f σ):=rfl
theorem Jg{id:Nat}:R (dN P (.exit id) f σ Q)=R (Q (.exit id) f σ):=congrArg R rfl
theorem Jf{id:Nat}{l:List Oper}:R (dN P (.region id l.toArray true) f σ Q)=R (rS P id (@OfNat.ofNat (List Oper) (nat_lit 0) (@_root_.id (OfNat (List Oper) (nat_lit 0)) (OfNat.mk l))) (E f) σ Q):=congrArg R rfl
theorem DU{id:Nat}{l:List Oper}:R (dN P (.region id l.toArray false) f σ Q)=R (dL P (@OfNat.ofNat (Array Oper) (nat_lit 0) (@_root_.id (OfNat (Array Oper) (nat_lit 0)) (OfNat.mk (l.toArray)))) (Q .normal) (@OfNat.ofNat (List Oper) (nat_lit 0) (@_root_.id (OfNat (List Oper) (nat_lit 0)) (OfNat.mk l))) f σ):=congrArg R rfl
theorem NO{l:List Oper}:R (dL P ops K (@OfNat.ofNat (List Oper) (nat_lit 0) (@_root_.id (OfNat (List Oper) (nat_lit 0)) (OfNat.mk l))) f σ)=R (dL P ops K l f σ):=congrArg R rfl
theorem Jh{b:Code}:R (dN P (.loop b) f σ Q)=R (Qz P (@OfNat.ofNat Code (nat_lit 0) (@_root_.id (OfNat Code (nat_lit 0)) (OfNat.mk b))) (E f) σ Q):=congrArg R rfl
theorem EV{next:FR→St→Prop}:R (uQ next Q .normal f σ)=R (next f σ):=congrArg R rfl
theorem OM{next:FR→St→Prop}:R (uQ next Q .ret f σ)=R (Q .ret f σ):=congrArg R rfl
theorem KC{next:FR→St→Prop}{id:Nat}:R (uQ next Q (.exit id) f σ)=R (Q (.exit id) f σ):=congrArg R rfl
theorem Bi{id:Nat}:R (o8 id Q .normal f σ)=R (Q .normal f σ):=congrArg R rfl
theorem Ij{id:Nat}:R (o8 id Q .ret f σ)=R (Q .ret f σ):=congrArg R rfl
theorem Ii{id:Nat}:R (o8 id Q (.exit id) f σ)=R (Q .normal f σ):=by simp[o8]
theorem QH:R (dL P ops K [] f σ)=R (K f σ):=rfl
theorem NN{dst:Option Tmp}{op:Op}{ty:TypeId}{pos:String}{after:Array Edge}:R (dL P ops K (⟨dst,op,ty,pos,after,none⟩::rest) f σ)=R (jB P f σ dst (dL P ops K (@OfNat.ofNat (List Oper) (nat_lit 0) (@_root_.id (OfNat (List Oper) (nat_lit 0)) (OfNat.mk rest)))) op):=congrArg R rfl
theorem QJ{dst:Option Tmp}{op:Op}(h:eL op=true):R (jB P f σ dst K op)=R (mop P f σ (fun v σ'=>K (bD f dst v) σ') op):=by
 rw[GJ h]
def UI(f:FR)(x:MV)(args:List MV)(K:FR→Prop):Prop:=match x with
 | .fn (.func g) ms ns=>K ⟨f.n,f.l,(g,ms++args++ns)::f.d⟩
 | _=>False
theorem GH{dst:Option Tmp}{x:Operand}{args:Array Operand}{ts:Array TypeId}:R (jB P f σ dst K (.defer ⟨.value x,args,ts⟩))=R (UI f (E (aE f x)) (E (args.toList.map (aE f))) fun f'=>K (bD f' dst .junk) σ):=congrArg R rfl
theorem Qs{n:Nat}{l:List (Nat × MV)}{d:List (FuncId × List MV)}{g:FuncId}{ms ns args:List MV}{H:FR→Prop}:R (UI ⟨n,l,d⟩ (.fn (.func g) ms ns) args H)=R (H ⟨n,l,(g,ms++args++ns)::d⟩):=congrArg R rfl
def rG:List Oper→Nat→Option Tmp
 | [],_=>none
 | o::_,0=>o.dst
 | _::r,n+1=>rG r n
theorem La:∀(l:List Oper) (j:Nat),(l.toArray[j]?).bind (·.dst)=rG l j:=by
 intro l
 induction l with
 | nil=>intro j;simp[rG]
 | cons o r ih =>
  intro j
  cases j with
  | zero=>simp[rG]
  | succ j=>simpa[rG] using ih j
def cG(x:MV)(want:Bool)(yes no:Prop):Prop:=match x with
 | .bool b=>(b=want→yes)∧(b=(!want)→no)
 | .tup []=>no
 | _=>False
theorem Gq(want:Bool)(A B:Prop):R (cG (.tup []) want A B)=R (B):=congrArg R (by simp[cG])
theorem Nz(A B:Prop):R (cG (.bool true) true A B)=R (A):=congrArg R (by simp[cG])
theorem Ny(A B:Prop):R (cG (.bool true) false A B)=R (B):=congrArg R (by simp[cG])
theorem Nx(A B:Prop):R (cG (.bool false) true A B)=R (B):=congrArg R (by simp[cG])
theorem Nw(A B:Prop):R (cG (.bool false) false A B)=R (A):=congrArg R (by simp[cG])
theorem cC{b want:Bool}{A B:Prop}(h1:b=want→R A)(h2:b=(!want)→R B):R (cG (.bool b) want A B):=⟨h1,h2⟩
theorem Jo{p:Prop}[Decidable p]{A B:Prop}(h1:p→R A)(h2:¬p→R B):R (cG (.bool (decide p)) true A B):=by
 simp only[R,cG,decide_eq_true_eq,Bool.not_true,decide_eq_false_iff_not];exact⟨h1,h2⟩
theorem Gp{p:Prop}[Decidable p]{A B:Prop}(h1:¬p→R A)(h2:p→R B):R (cG (.bool (decide p)) false A B):=by
 simp only[R,cG,decide_eq_true_eq,Bool.not_false,decide_eq_false_iff_not];exact⟨h1,h2⟩
theorem Nt{p:Prop}[Decidable p]{A B:Prop}(h:p):R (cG (.bool (decide p)) true A B)=R A:=by simp[cG,h]
theorem Ns{p:Prop}[Decidable p]{A B:Prop}(h:¬p):R (cG (.bool (decide p)) true A B)=R B:=by simp[cG,h]
theorem Nv{p:Prop}[Decidable p]{A B:Prop}(h:¬p):R (cG (.bool (decide p)) false A B)=R A:=by simp[cG,h]
theorem Nu{p:Prop}[Decidable p]{A B:Prop}(h:p):R (cG (.bool (decide p)) false A B)=R B:=by simp[cG,h]
def PE(f:FR):Option Tmp→MV
 | some t=>f.get t
 | none=>.junk
theorem JB{l:List Oper}{dst:Option Tmp}{op:Op}{ty:TypeId}{pos:String}{after:Array Edge}{j:Nat}{want:Bool}:R (dL P (@OfNat.ofNat (Array Oper) (nat_lit 0) (@_root_.id (OfNat (Array Oper) (nat_lit 0)) (OfNat.mk (l.toArray)))) K (⟨dst,op,ty,pos,after,some (j,want)⟩::rest) f σ)=R (cG (E (PE f (rG (@OfNat.ofNat (List Oper) (nat_lit 0) (@_root_.id (OfNat (List Oper) (nat_lit 0)) (OfNat.mk l))) j))) want (jB P f σ dst (dL P (@OfNat.ofNat (Array Oper) (nat_lit 0) (@_root_.id (OfNat (Array Oper) (nat_lit 0)) (OfNat.mk (l.toArray)))) K (@OfNat.ofNat (List Oper) (nat_lit 0) (@_root_.id (OfNat (List Oper) (nat_lit 0)) (OfNat.mk rest)))) op) (dL P (@OfNat.ofNat (Array Oper) (nat_lit 0) (@_root_.id (OfNat (Array Oper) (nat_lit 0)) (OfNat.mk (l.toArray)))) K (@OfNat.ofNat (List Oper) (nat_lit 0) (@_root_.id (OfNat (List Oper) (nat_lit 0)) (OfNat.mk rest))) (bD f dst (.tup [])) σ)):=congrArg R (by
 show dL P l.toArray K (⟨dst,op,ty,pos,after,some (j,want)⟩::rest) f σ=cG (PE f (rG l j)) want (jB P f σ dst (dL P l.toArray K rest) op) (dL P l.toArray K rest (bD f dst (.tup [])) σ)
 simp only[dL,fX,La]
 cases rG l j<;>rfl)
theorem MO{t:Tmp}:PE f (some t)=f.get t:=rfl
theorem MG{l:List Oper}{j:Nat}:rG (@OfNat.ofNat (List Oper) (nat_lit 0) (@_root_.id (OfNat (List Oper) (nat_lit 0)) (OfNat.mk l))) j=rG l j:=rfl
theorem MI{o:Oper}{r:List Oper}:rG (o::r) 0=o.dst:=rfl
theorem MH{o:Oper}{r:List Oper}{n:Nat}:rG (o::r) (n+1)=rG r n:=rfl
theorem NR{n:Nat}{l:List (Nat × MV)}{d:Nat}{v:MV}{ds:List (FuncId × List MV)}(h:d<n):bD ⟨n,l,ds⟩ (some d) v=⟨n,(d,v)::l,ds⟩:=by simp[bD,h]
theorem NQ{v:MV}:bD f none v=f:=rfl
theorem Vg{n:Nat}{l:List (Nat × MV)}{t:Nat}{ds:List (FuncId × List MV)}:FR.get ⟨n,l,ds⟩ t=cQ l t:=rfl
theorem P0{t:Nat}:cQ [] t=.junk:=rfl
theorem PZ{k:Nat}{v:MV}{r:List (Nat × MV)}:cQ ((k,v)::r) k=v:=by simp[cQ]
theorem M0{k:Nat}{v:MV}{r:List (Nat × MV)}{t:Nat}(h:t≠k):cQ ((k,v)::r) t=cQ r t:=by simp[cQ,h]
theorem QM{n:Nat}{l:List (Nat × MV)}{t:Nat}{ds:List (FuncId × List MV)}:aE ⟨n,l,ds⟩ (.tmp t)=cQ l t:=rfl
theorem JF{v:Value}:aE f (.const v)=ofV v:=rfl
theorem NT{g:FuncId}:aE f (.func g)=.fn (.func g) [] []:=rfl
theorem QZ{b:Bool}:ofV (.bool b)=.bool b:=rfl
theorem T3{i:IntKind}{n:Int}:ofV (.int i n)=.int i n:=rfl
theorem T4{s:ByteArray}:ofV (.string s)=.str s:=rfl
theorem Q2:ofV (.pointer none)=.nilp:=rfl
theorem Q3:ofV (.slice none 0 0)=.aM:=rfl
theorem Q1:ofV (.map none)=.nilm:=rfl
theorem N6:ofV .nilFunc=.nilfn:=rfl
theorem Q0:ofV .nilIface=.nili:=rfl
def cW(P:Program)(g:FuncId)(ms:List MV)(σ:St)(Q:MV→St→Prop):Prop:=aA P g ms σ Q
def Qq(P:Program)(x:MV)(args:List MV)(σ:St)(k:MV→St→Prop):Prop :=
 match x with
 | .fn (.func g) ms ns=>aA P g (ms++args++ns) σ k
 | _=>False
theorem Nk{g:FuncId}{ms ns args:List MV}:R (Qq P (.fn (.func g) ms ns) args σ k)=R (cW P g (E (ms++args++ns)) σ k):=congrArg R rfl
def bT(v:MV)(σ:St)(k:MV→St→Prop):Prop:=k v σ
theorem TL{v:MV}:R (bT v σ k)=R (k v σ):=congrArg R rfl
theorem T7{C A:Prop}(h:C):R (fY C A)=R A:=by simp[fY,h]
theorem JC{C:Prop}{v:MV}:R (mpure σ k (some (C,v)))=R (fY (E C) (bT (E v) σ k)):=congrArg R rfl
def Lr(P:Program)(t:TypeId)(o:Option aT)(i of:Nat)(σ:St)(k:MV→St→Prop):Prop :=
 match o with
 | some (.row _ _ xs)=>fY ((td P t).ok=true∧i<xs.length∧of+(td P t).size≤(xs.getD i []).length∧0<(td P t).size) (bT (eA (td P t) (xs.getD i []) of) σ k)
 | _=>False
theorem NA{t:TypeId}{l i o:Nat}:R (mQ P t (.ptr l i o) σ k)=R (Lr P t (E (σ l)) i o σ k):=congrArg R rfl
theorem Jt{t:TypeId}{cs:List MV}:R (mQ P t (.cptr cs) σ k)=R (fY (E ((td P t).ok=true∧(td P t).size≤cs.length∧0<(td P t).size)) (bT (E (eA (td P t) cs 0)) σ k)):=congrArg R rfl
theorem Gt{t tt:TypeId}{e i o:Nat}{xs:List (List MV)}:R (Lr P t (some (.row tt e xs)) i o σ k)=R (fY (E ((td P t).ok=true∧i<xs.length∧o+(td P t).size≤(xs.getD i []).length∧0<(td P t).size)) (bT (E (eA (td P t) (xs.getD i []) o)) σ k)):=congrArg R rfl
def GL(P:Program)(t:TypeId)(o:Option aT)(l i of:Nat)(y:MV)(σ:St)(k:MV→St→Prop):Prop :=
 match o with
 | some (.row tt e xs)=>fY ((td P t).ok=true∧i<xs.length∧y.cells.all MV.aL=true∧y.cells.length=(td P t).size∧of+y.cells.length≤(xs.getD i []).length) (bT .junk (σ.set l (.row tt e (xs.set i (laid (xs.getD i []) of y.cells)))) k)
 | _=>False
theorem JE{t:TypeId}{l i o:Nat}{y:MV}:R (pZ P t (.ptr l i o) y σ k)=R (GL P t (E (σ l)) l i o y σ k):=congrArg R rfl
theorem Ec{t tt:TypeId}{e l i o:Nat}{y:MV}{xs:List (List MV)}:R (GL P t (some (.row tt e xs)) l i o y σ k)=R (fY (E ((td P t).ok=true∧i<xs.length∧y.cells.all MV.aL=true∧y.cells.length=(td P t).size∧o+y.cells.length≤(xs.getD i []).length)) (bT (E .junk) (σ.set l (.row tt e (xs.set i (laid (xs.getD i []) o y.cells)))) k)):=congrArg R rfl
theorem JN(k:Nat):St.none k=Option.none:=rfl
theorem set_set(σ:St)(l:Nat)(o o':aT):(σ.set l o).set l o'=σ.set l o':=by
 funext k;simp only[St.set];split<;>rfl
theorem set_comm(σ:St){l k:Nat}(o o':aT)(h:l≠k):(σ.set l o).set k o'=(σ.set k o').set l o:=by
 funext j;simp only[St.set]
 by_cases h1:j=k
 ·subst h1;simp[Ne.symm h]
 ·simp[h1]
theorem Bo(σ:St){l k:Nat}(o:aT)(h:k≠l):(σ.set k o).del l=(σ.del l).set k o:=by
 funext j;simp only[St.set,St.del]
 by_cases h1:j=l
 ·subst h1;simp[Ne.symm h]
 ·simp[h1]
theorem aD(σ:St)(l:Nat)(o:aT):(σ.set l o) l=some o:=by simp[St.set]
theorem aG(σ:St)(l k:Nat)(o:aT)(h:k≠l):(σ.set l o) k=σ k:=by simp[St.set,h]
theorem RQ(σ:St)(l k:Nat)(o:aT):(σ.set l o) k=none↔k≠l∧σ k=none:=by
 simp only[St.set];split<;>simp_all
theorem QD{x:Operand}:R (mop P f σ k (.move x))=R (bT (E (aE f x)) σ k):=congrArg R (by simp[mop,qop,mpure,bT,E])
theorem Jx{x:Operand}:R (mop P f σ k (.assign x))=R (bT (E (aE f x)) σ k):=congrArg R (by simp[mop,qop,mpure,bT,E])
def AO(c a b:MV):PV:=match c with
 | .bool t=>some (True,if t=true then a else b)
 | _=>none
theorem QE{c a b:Operand}:R (mop P f σ k (.pick c a b))=R (mpure σ k (E (AO (aE f c) (aE f a) (aE f b)))):=congrArg R rfl
theorem Ud{p:Prop}[Decidable p]{a b:MV}(h:p):AO (.bool (decide p)) a b=some (True,a):=by simp[AO,h]
theorem Ub{p:Prop}[Decidable p]{a b:MV}(h:¬p):AO (.bool (decide p)) a b=some (True,b):=by simp[AO,h]
theorem Uc{a b:MV}:AO (.bool true) a b=some (True,a):=rfl
theorem Ua{a b:MV}:AO (.bool false) a b=some (True,b):=rfl
theorem T2{p:Prop}[Decidable p]:(!decide p)=decide (¬p):=by simp
def VI(x:MV):PV:=match x with
 | .ptr l i o=>some (True,.ptr l i o)
 | .cptr cs=>some (True,.cptr cs)
 | _=>none
theorem D4{x:Operand}:R (mop P f σ k (.nilCheck x))=R (mpure σ k (E (VI (aE f x)))):=congrArg R rfl
theorem Rn{l i o:Nat}:VI (.ptr l i o)=some (True,.ptr l i o):=rfl
theorem Om{cs:List MV}:VI (.cptr cs)=some (True,.cptr cs):=rfl
theorem NH{op:BinOp}{t yt:TypeId}{x y:Operand}:R (mop P f σ k (.binOp op t x y yt))=R (mpure σ k (E (cH P t op (aE f x) (aE f y)))):=congrArg R rfl
theorem QF{op:UnOp}{t:TypeId}{x:Operand}:R (mop P f σ k (.unOp op t x))=R (mpure σ k (E (mun op (aE f x)))):=congrArg R rfl
theorem Gz{s d:TypeId}{x:Operand}:R (mop P f σ k (.convert s d x))=R (jA P s d (E (aE f x)) σ k):=congrArg R rfl
theorem D3{fn:Fn}{a b:Array Operand}:R (mop P f σ k (.makeFunc fn a b))=R (bT (E (.fn fn (a.toList.map (aE f)) (b.toList.map (aE f)))) σ k):=congrArg R (by simp[mop,qop,mpure,bT,E])
theorem NK{t:TypeId}{x:Operand}{lo hi mx:Option Operand}:R (mop P f σ k (.slice t x lo hi mx))=R (mpure σ k (E (pY P t (aE f x) (lo.map (aE f)) (hi.map (aE f)) (mx.map (aE f))))):=congrArg R rfl
theorem Bw{t:TypeId}{x:Operand}{i:Nat}:R (mop P f σ k (.fieldAddr t x i))=R (mpure σ k (E (fL P t (aE f x) i))):=congrArg R rfl
theorem Bx{t:TypeId}{x:Tmp}{i:Operand}:R (mop P f σ k (.indexAddr t (.tmp x) i))=R (mpure σ k (E (lX P t (aE f (.tmp x)) (aE f i)))):=congrArg R rfl
theorem Ar{t:TypeId}{g:Nat}{i:Operand}:R (mop P f σ k (.indexAddr t (.global g) i))=R (mpure σ k (IJ P t g (E (aE f i)))):=congrArg R rfl
theorem NJ{t:TypeId}{x i:Operand}:R (mop P f σ k (.index t x i))=R (mpure σ k (E (An P t (aE f x) (aE f i)))):=congrArg R rfl
def AN(x:MV)(i:Nat):PV:=match x with
 | .tup vs=>match vs[i]? with|some v=>some (True,v)|none=>none
 | _=>none
theorem GA{x:Operand}{i:Nat}:R (mop P f σ k (.extract x i))=R (mpure σ k (E (AN (aE f x) i))):=congrArg R rfl
theorem Ey{vs:List MV}{i:Nat}:AN (.tup vs) i=(vs[i]?).map fun v=>(True,v):=by simp only[AN];cases vs[i]?<;>rfl
theorem NI{t:TypeId}{parts:Array (Nat × Operand)}:R (mop P f σ k (.build t parts))=R (mpure σ k (E (pS P f t parts))):=congrArg R rfl
theorem Jy{t:TypeId}{m x:Operand}{ok:Bool}:R (mop P f σ k (.lookup t m x ok))=R (gV P t (E (aE f m)) (E (aE f x)) ok (E (mapOf σ (aE f m))) σ k):=congrArg R rfl
theorem By{t:TypeId}{m x y:Operand}:R (mop P f σ k (.mapUpdate t m x y))=R (gO P t (E (aE f m)) (E (aE f x)) (E (aE f y)) (E (mapOf σ (aE f m))) σ k):=congrArg R rfl
theorem QC{t:TypeId}{x:Operand}:R (mop P f σ k (.load t x))=R (mQ P t (E (aE f x)) σ k):=congrArg R rfl
theorem NL{t:TypeId}{x y:Operand}:R (mop P f σ k (.store t x y))=R (pZ P t (E (aE f x)) (E (aE f y)) σ k):=congrArg R rfl
theorem NG{t:TypeId}:R (mop P f σ k (.alloc t))=R (fY (E ((td P t).zok=true)) (oH (E σ) (fun l=>bT (E (.ptr l 0 0)) (σ.set l (.row t (td P t).size [(td P t).zero])) k))):=congrArg R rfl
def WD(t:TypeId)(x:MV)(σ:St)(k:MV→St→Prop):Prop:=x.cells.all MV.aL=true∧∀l,σ l=none→k (.ptr l 0 0) (σ.set l (.row t x.cells.length [x.cells]))
theorem TQ{t:TypeId}{x:Operand}:R (mop P f σ k (.box t x))=R (WD t (E (aE f x)) σ k):=congrArg R rfl
theorem TG{t:TypeId}{x:MV}:R (WD t x σ k)=R (fY (E (x.cells.all MV.aL=true)) (oH (E σ) (fun l=>bT (E (.ptr l 0 0)) (σ.set l (.row t x.cells.length [x.cells])) k))):=congrArg R rfl
theorem Aq{t:TypeId}{n:Nat}{parts:Array (Nat × Operand)}:R (mop P f σ k (.buildSlice t n parts))=R (eJ P f t n parts σ k):=congrArg R rfl
def mbs(P:Program)(d:TK)(len:Nat)(parts:List (Nat × MV))(σ:St)(k:MV→St→Prop):Prop :=
 match d with
 | .slice el=>fY ((td P el).zok=true∧parts.map (·.1)=List.range len∧(parts.all fun p=>p.2.cells.all MV.aL&&p.2.cells.length==(td P el).size)=true∧len * (td P el).size≤16777216∧len≤16777216)
   (oH σ fun l=>bT (.vec (td P el).size l 0 len) (σ.set l (.row el (td P el).size (parts.map fun p=>p.2.cells))) k)
 | _=>False
theorem Aj{t:TypeId}{n:Nat}{parts:Array (Nat × Operand)}:R (eJ P f t n parts σ k)=R (mbs P (E (td P t).k) n (E (parts.toList.map fun p=>(p.1,aE f p.2))) σ k):=congrArg R (by
 unfold eJ mbs fY oH bT E
 cases (td P t).k<;>first|rfl|(simp only[List.map_map,List.all_map];rfl))
theorem Nj{el:TypeId}{len:Nat}{parts:List (Nat × MV)}:R (mbs P (.slice el) len parts σ k)=R (fY (E ((td P el).zok=true∧parts.map (·.1)=List.range len∧(parts.all fun p=>p.2.cells.all MV.aL&&p.2.cells.length==(td P el).size)=true∧len * (td P el).size≤16777216∧len≤16777216))
   (oH (E σ) (fun l=>bT (E (.vec (td P el).size l 0 len)) (σ.set l (.row el (td P el).size (parts.map fun p=>p.2.cells))) k))):=rfl
theorem QB{x:Operand}{args:Array Operand}{ts:Array TypeId}:R (mop P f σ k (.call ⟨.value x,args,ts⟩))=R (Qq P (E (aE f x)) (E (args.toList.map (aE f))) σ k):=congrArg R rfl
theorem Gy{b:Builtin}{args:Array Operand}{ts:Array TypeId}:R (mop P f σ k (.call ⟨.builtin b,args,ts⟩))=R (gF P f b args.toList ts.toList σ k):=congrArg R rfl
def mvs(P:Program)(t:TypeId)(x lo hi:MV)(σ:St)(k:MV→St→Prop):Prop:=if beyond x hi then qY P t x lo hi (Lm σ x) σ k else mpure σ k (pY P t x (some lo) (some hi) none)
theorem GK{dst:Option Tmp}{t:TypeId}{x y z:Operand}:R (jB P f σ dst K (.slice t x (some y) (some z) none))=R (mvs P t (E (aE f x)) (E (aE f y)) (E (aE f z)) σ (fun v σ'=>K (bD f dst v) σ')):=congrArg R rfl
theorem JG{t:TypeId}{e l l0 n:Nat}{lo:MV}{i:IntKind}{h:Int}(hb:(n:Int)<h):R (mvs P t (.vec e l l0 n) lo (.int i h) σ k)=R (qY P t (.vec e l l0 n) lo (.int i h) (E (σ l)) σ k):=by
 apply congrArg R;unfold mvs;rw[if_pos (show beyond (.vec e l l0 n) (.int i h) from hb)];rfl
theorem TT{t:TypeId}{e:Nat}{xs:List (List MV)}{tt:Bool}{lo hi:MV}:R (mvs P t (.lst e xs tt) lo hi σ k)=R (mpure σ k (E (pY P t (.lst e xs tt) (some lo) (some hi) none))):=by
 apply congrArg R;unfold mvs;rw[if_neg (show ¬beyond (.lst e xs tt) hi by simp[beyond])];rfl
theorem TV{t:TypeId}{s:ByteArray}{lo hi:MV}:R (mvs P t (.str s) lo hi σ k)=R (mpure σ k (E (pY P t (.str s) (some lo) (some hi) none))):=by
 apply congrArg R;unfold mvs;rw[if_neg (show ¬beyond (.str s) hi by simp[beyond])];rfl
def Vy(P:Program)(d:TK)(e l l0:Nat)(a h:Int)(e':Nat)(xs:List (List MV))(σ:St)(k:MV→St→Prop):Prop:=match d with
 | .slice el=>fY ((td P el).ok=true∧e=(td P el).size∧e'=(td P el).size∧0≤a∧a≤h∧l0+h.toNat≤xs.length) (bT (.vec e l (l0+a.toNat) (h.toNat - a.toNat)) σ k)
 | _=>False
theorem GM{t tt:TypeId}{e l l0 n:Nat}{i j:IntKind}{a h:Int}{e':Nat}{xs:List (List MV)}:R (qY P t (.vec e l l0 n) (.int i a) (.int j h) (some (.row tt e' xs)) σ k)=R (Vy P (E (td P t).k) e l l0 a h e' xs σ k):=by
 apply congrArg R;unfold qY Vy E;cases (td P t).k<;>rfl
theorem JH{el:TypeId}{e l l0:Nat}{a h:Int}{e':Nat}{xs:List (List MV)}:R (Vy P (.slice el) e l l0 a h e' xs σ k)=R (fY (E ((td P el).ok=true∧e=(td P el).size∧e'=(td P el).size∧0≤a∧a≤h∧l0+h.toNat≤xs.length)) (bT (E (.vec e l (l0+a.toNat) (h.toNat - a.toNat))) σ k)):=congrArg R rfl
def WE(P:Program)(t:TypeId)(x:MV)(σ:St)(k:MV→St→Prop):Prop:=mclear P t x (Lm σ x) σ k
theorem GG{dst:Option Tmp}{x:Operand}{t:TypeId}:R (jB P f σ dst K (.call ⟨.builtin .clear,#[x],#[t]⟩))=R (WE P t (E (aE f x)) σ (fun v σ'=>K (bD f dst v) σ')):=congrArg R rfl
theorem Ea{dst:Option Tmp}{s x:Operand}{t xt:TypeId}:R (jB P f σ dst K (.call ⟨.builtin .append,#[s,x],#[t,xt]⟩))=R (TN (E (td P xt).k.isInt) (QS P t (aE f s) (aE f x) σ (fun v σ'=>K (bD f dst v) σ')) (mop P f σ (fun v σ'=>K (bD f dst v) σ') (.call ⟨.builtin .append,#[s,x],#[t,xt]⟩))):=congrArg R rfl
theorem Vx{A B:Prop}:R (TN false A B)=R B:=congrArg R rfl
theorem Qr{t:TypeId}{e l l0 n:Nat}:R (WE P t (.vec e l l0 n) σ k)=R (mclear P t (.vec e l l0 n) (E (σ l)) σ k):=congrArg R rfl
def DT(P:Program)(d:TK)(e l l0 n:Nat)(tt:TypeId)(e':Nat)(xs:List (List MV))(σ:St)(k:MV→St→Prop):Prop:=match d with
 | .slice el=>fY ((td P el).zok=true∧0<(td P el).size∧e=(td P el).size∧e'=(td P el).size∧l0+n≤xs.length) (bT .junk (σ.set l (.row tt e' (bC xs l0 (List.replicate n (td P el).zero)))) k)
 | _=>False
theorem Jd{t tt:TypeId}{e l l0 n e':Nat}{xs:List (List MV)}:R (mclear P t (.vec e l l0 n) (some (.row tt e' xs)) σ k)=R (DT P (E (td P t).k) e l l0 n tt e' xs σ k):=by
 apply congrArg R;unfold mclear DT E;cases (td P t).k<;>rfl
theorem Bu{el tt:TypeId}{e l l0 n e':Nat}{xs:List (List MV)}:R (DT P (.slice el) e l l0 n tt e' xs σ k)=R (fY (E ((td P el).zok=true∧0<(td P el).size∧e=(td P el).size∧e'=(td P el).size∧l0+n≤xs.length)) (bT (E .junk) (σ.set l (.row tt e' (bC xs l0 (List.replicate n (td P el).zero)))) k)):=congrArg R rfl
end
end

section
section
variable {P:Program} {f:FR} {σ:St} {k:MV→St→Prop} {t:TypeId}
theorem Qa{i:IntKind}{a b:Int}:cH P t .add (.int i a) (.int i b)=some (True,.int i (i.wrap (a+b))):=by simp[cH,gE]
theorem Qo{i:IntKind}{a b:Int}:cH P t .sub (.int i a) (.int i b)=some (True,.int i (i.wrap (a - b))):=by simp[cH,gE]
theorem Qh{i:IntKind}{a b:Int}:cH P t .mul (.int i a) (.int i b)=some (True,.int i (i.wrap (a * b))):=by simp[cH,gE]
theorem Qj{i:IntKind}{a b:Int}:cH P t .quo (.int i a) (.int i b)=some (b≠0,.int i (i.wrap (a.tdiv b))):=by simp[cH,gE]
theorem Qk{i:IntKind}{a b:Int}:cH P t .rem (.int i a) (.int i b)=some (b≠0,.int i (a.tmod b)):=by simp[cH,gE]
theorem Qb{i:IntKind}{a b:Int}:cH P t .and (.int i a) (.int i b)=some (True,.int i (nX i a b)):=by simp only[cH,if_true,gE]
theorem TB{i:IntKind}{a b:Int}:cH P t .or (.int i a) (.int i b)=some (True,.int i (orK i a b)):=by simp only[cH,if_true,gE]
theorem Gc{i:IntKind}{a b:Int}:cH P t .andNot (.int i a) (.int i b)=some (True,.int i (s8 i a b)):=by simp only[cH,if_true,gE]
theorem Qc{i:IntKind}{a b:Int}:cH P t .eql (.int i a) (.int i b)=some (True,.bool (decide (a=b))):=by simp[cH,gE];rfl
theorem Qi{i:IntKind}{a b:Int}:cH P t .neq (.int i a) (.int i b)=some (True,.bool (decide (¬a=b))):=by simp[cH,gE];rfl
theorem Qg{i:IntKind}{a b:Int}:cH P t .lss (.int i a) (.int i b)=some (True,.bool (decide (a<b))):=by simp[cH,gE]
theorem Qf{i:IntKind}{a b:Int}:cH P t .leq (.int i a) (.int i b)=some (True,.bool (decide (a≤b))):=by simp[cH,gE]
theorem Qe{i:IntKind}{a b:Int}:cH P t .gtr (.int i a) (.int i b)=some (True,.bool (decide (b<a))):=by simp[cH,gE]
theorem Qd{i:IntKind}{a b:Int}:cH P t .geq (.int i a) (.int i b)=some (True,.bool (decide (b≤a))):=by simp[cH,gE]
theorem Ql{i j:IntKind}{a b:Int}:cH P t .shl (.int i a) (.int j b)=some (0≤b,.int i (i.wrap (a * 2 ^ (min b.toNat i.bits)))):=by simp[cH,pO]
theorem Qn{i j:IntKind}{a b:Int}:cH P t .shr (.int i a) (.int j b)=some (0≤b,.int i (a.fdiv (2 ^ (min b.toNat i.bits)))):=by simp[cH,pO]
theorem r0(x y:ByteArray):x.toList=y.toList↔x=y:=by
 rw[ByteArray.toList_eq,ByteArray.toList_eq]
 obtain⟨⟨a⟩⟩:=x
 obtain⟨⟨b⟩⟩:=y
 simp
theorem sV(x y:ByteArray):(x.toList==y.toList)=decide (x=y):=by
 rw[Bool.eq_iff_iff];simp[r0]
theorem Nd{x y:ByteArray}:cH P t .eql (.str x) (.str y)=some (True,.bool (decide (x=y))):=by simp only[cH,qI,sV]
theorem Nh{x y:ByteArray}:cH P t .neq (.str x) (.str y)=some (True,.bool (decide (¬x=y))):=by simp only[cH,qI,sV];simp
theorem Nc{x y:ByteArray}:cH P t .add (.str x) (.str y)=some (((x.size+y.size:Nat):Int)≤9223372036854775807,.str (x++y)):=by simp only[cH,qI]
theorem Ng{x y:ByteArray}:cH P t .lss (.str x) (.str y)=some (True,.bool (Op.bytesLess x.toList y.toList)):=by simp only[cH,qI]
theorem Nf{x y:ByteArray}:cH P t .gtr (.str x) (.str y)=some (True,.bool (!(Op.bytesLess x.toList y.toList || decide (x=y)))):=by simp only[cH,qI,sV]
theorem Na{x y:Bool}:cH P t .eql (.bool x) (.bool y)=some ((td P t).k.isBool=true,.bool (x==y)):=rfl
theorem Nb{x y:Bool}:cH P t .neq (.bool x) (.bool y)=some ((td P t).k.isBool=true,.bool (!(x==y))):=rfl
theorem TC{op:BinOp}{l i o:Nat}:cH P t op (.ptr l i o) .nilp=eqV op ((td P t).k.tO=true) false:=rfl
theorem TA{op:BinOp}{l i o:Nat}:cH P t op .nilp (.ptr l i o)=eqV op ((td P t).k.tO=true) false:=rfl
theorem Tw{op:BinOp}{cs:List MV}:cH P t op (.cptr cs) .nilp=eqV op ((td P t).k.tO=true) false:=rfl
theorem TE{op:BinOp}{e:Nat}{x:List MV}{xs:List (List MV)}{b:Bool}:cH P t op (.lst e (x::xs) b) .aM=eqV op ((td P t).k.IV=true) false:=rfl
theorem TF{op:BinOp}:cH P t op .aM .aM=eqV op ((td P t).k.IV=true) true:=rfl
theorem Ty{op:BinOp}:cH P t op .nilfn .nilfn=eqV op ((td P t).k.IS=true) true:=rfl
theorem Tx{op:BinOp}{f:Fn}{a b:List MV}:cH P t op (.fn f a b) .nilfn=eqV op ((td P t).k.IS=true) false:=rfl
theorem Tz{op:BinOp}:cH P t op .nilp .nilp=eqV op ((td P t).k.tO=true) true:=rfl
def P4(P:Program)(op:BinOp)(t:TypeId)(o:Option Bool):PV:=match o with
 | some b=>eqV op (eX P t=true) b
 | none=>none
theorem Gb{op:BinOp}{xs ys:List MV}:cH P t op (.agg xs) (.agg ys)=P4 P op t (kK P 6 t (.agg xs) (.agg ys)):=rfl
theorem xM{op:BinOp}{b:Bool}:P4 P op t (some b)=eqV op (eX P t=true) b:=rfl
theorem AZ{σ:St}{l k:Nat}{o:aT}{p:Prop}(h:l≠k→k≠l→σ l=none→p):(σ.set k o) l=none→p:=fun hn =>
 have e:l≠k∧σ l=none:=(RQ σ k l o).mp hn
 h e.1 (Ne.symm e.1) e.2
theorem Fp(σ:St)(l:Nat)(o:aT):(σ.set l o).del l=σ.del l:=by
 funext k;simp only[St.set,St.del];split<;>rfl
theorem QW(l:Nat):St.none.del l=St.none:=by
 funext k;simp only[St.none,St.del];split<;>rfl
theorem OL{α β:Type}{f:α→β}{l:List α}{n:Nat}:(l.map f).take n=(l.take n).map f:=by rw[List.map_take]
theorem Mv{α β:Type}{f:α→β}{l:List α}{n:Nat}:(l.map f).drop n=(l.drop n).map f:=by rw[List.map_drop]
theorem OY{α β:Type}{f:α→β}{l r:List α}:l.map f++r.map f=(l++r).map f:=by rw[List.map_append]
theorem HN(σ:St){l a:Nat}(o o' oa:aT)(h:l≠a):((σ.set l o).set a oa).set l o'=(σ.set l o').set a oa:=by rw[set_comm _ _ _ (Ne.symm h),set_set]
theorem C3(σ:St){l a b:Nat}(o o' oa ob:aT)(h:l≠a)(h2:l≠b):(((σ.set l o).set a oa).set b ob).set l o'=((σ.set l o').set a oa).set b ob:=by rw[set_comm _ _ _ (Ne.symm h2),HN _ _ _ _ h]
theorem Oy(σ:St){l a b c:Nat}(o o' oa ob oc:aT)(h:l≠a)(h2:l≠b)(h3:l≠c):((((σ.set l o).set a oa).set b ob).set c oc).set l o'=(((σ.set l o').set a oa).set b ob).set c oc:=by rw[set_comm _ _ _ (Ne.symm h3),C3 _ _ _ _ _ h h2]
theorem FC{α:Type}{l r:List α}{n:Nat}{d:α}(h:n<l.length):(l++r).getD n d=l.getD n d:=by simp[List.getD,List.getElem?_append_left h]
theorem KE(n:Nat):((n:Int)+1).toNat=n+1:=by omega
theorem SP{p q:Prop}[Decidable p][Decidable q]:(decide p&&decide q)=decide (p∧q):=by simp
theorem Tv{b:Bool}{o:Bool}:(some o).map (fun c=>b&&c)=some (b&&o):=rfl
theorem SR{C:Prop}{b:Bool}:eqV .eql C b=some (C,.bool b):=rfl
theorem KX{C:Prop}{b:Bool}:eqV .neq C b=some (C,.bool (!b)):=rfl
theorem Bt{s x:Operand}{t xt:TypeId}:R (gF P f .append [s,x] [t,xt] σ k)=R (lF P t xt (E (aE f s)) (E (aE f x)) σ k):=congrArg R rfl
theorem I7{x:Operand}{t:TypeId}:R (gF P f .len [x] [t] σ k)=R (mpure σ k (E (Qy P t (aE f x)))):=congrArg R (by simp[gF,eK,E])
theorem I9{x y:Operand}{t u:TypeId}:R (gF P f .min [x,y] [t,u] σ k)=R (mpure σ k (E (Lt (aE f x) (aE f y)))):=congrArg R (by simp[gF,eK,E])
theorem I8{x y:Operand}{t u:TypeId}:R (gF P f .max [x,y] [t,u] σ k)=R (mpure σ k (E (Ls (aE f x) (aE f y)))):=congrArg R (by simp[gF,eK,E])
def mcv(P:Program)(s d:TypeId)(ks kd:TK)(x:MV)(σ:St)(k:MV→St→Prop):Prop :=
 match ks,kd,x with
 | .str,.slice el,.str b=>((td P el).k=.int .u8∧FZ el=true∧b.size≤140737488355328)∧∀l,σ l=none→k (.vec 1 l 0 b.size) (σ.set l (.row el 1 (b.toList.map fun c=>[.int .u8 (c.toNat:Int)])))
 | .slice el,.str,.str _=>False
 | .slice el,.str,x=>match fG σ 1 x with
  | some ys=>((td P el).k=.int .u8∧ys.all isByte=true)∧k (.str (bytesOf ys)) σ
  | none=>False
 | _,_,x=>mpure σ k (tQ P s d x)
theorem Gi{s d:TypeId}{x:MV}:R (jA P s d x σ k)=R (mcv P s d (E (td P s).k) (E (td P d).k) x σ k):=congrArg R (by unfold jA mcv E;rfl)
theorem TI{s d:TypeId}{i j j':IntKind}{n:Int}:R (mcv P s d (.int j) (.int i) (.int j' n) σ k)=R (mpure σ k (E (tQ P s d (.int j' n)))):=congrArg R rfl
theorem Vq{s d el:TypeId}{b:ByteArray}:R (mcv P s d .str (.slice el) (.str b) σ k)=R (fY (E ((td P el).k=.int .u8∧FZ el=true∧b.size≤140737488355328)) (oH (E σ) (fun l=>bT (E (.vec 1 l 0 b.size)) (σ.set l (.row el 1 (b.toList.map fun c=>[.int .u8 (c.toNat:Int)]))) k))):=congrArg R rfl
def Vr(P:Program)(el:TypeId)(o:Option (List (List MV)))(σ:St)(k:MV→St→Prop):Prop:=match o with
 | some ys=>fY ((td P el).k=.int .u8∧ys.all isByte=true) (bT (.str (bytesOf ys)) σ k)
 | none=>False
theorem Vp{s d el:TypeId}{e l lo n:Nat}:R (mcv P s d (.slice el) .str (.vec e l lo n) σ k)=R (Vr P el (E (fG σ 1 (.vec e l lo n))) σ k):=congrArg R (by unfold mcv Vr E;simp only;split<;>rfl)
theorem No{el:TypeId}{ys:List (List MV)}:R (Vr P el (some ys) σ k)=R (fY (E ((td P el).k=.int .u8∧ys.all isByte=true)) (bT (E (.str (bytesOf ys))) σ k)):=congrArg R rfl
attribute [go_sem] Vx TK.isInt Gi TI Vq Vp No tQ TH
def P6(P:Program)(d:TK)(xt:TypeId)(s:MV)(ys:Option (List (List MV)))(σ:St)(k:MV→St→Prop):Prop :=
 match d with
 | .slice el=>match ys with
  | some ys=>match s with
   | .aM=>fY ((td P xt).k.gA=true∧(td P el).zok=true∧Fits ys.length (td P el).bytes) (oH σ fun l=>bT (.vec (td P el).size l 0 ys.length) (σ.set l (.row el (td P el).size ys)) k)
   | .lst e xs true=>fY ((td P xt).k.gA=true∧(td P el).zok=true∧e=(td P el).size∧(xs=[]∨0<ys.length)∧Fits (xs.length+ys.length) (td P el).bytes)
     (oH σ fun l=>bT (.vec (td P el).size l 0 (xs.length+ys.length)) (σ.set l (.row el (td P el).size (xs++ys))) k)
   | .vec e l lo n=>match σ l with
    | some (.row tt e' xs)=>fY ((td P xt).k.gA=true∧(td P el).zok=true∧e=(td P el).size∧e'=(td P el).size∧tt=el∧lo=0∧lo+n≤xs.length∧Fits (n+ys.length) (td P el).bytes)
      (oH σ fun l'=>bT (.vec (td P el).size l' 0 (n+ys.length)) ((σ.del l).set l' (.row el (td P el).size (fW xs lo n ys))) k)
    | _=>False
   | _=>False
  | none=>False
 | _=>False
def VO:TK→Option TypeId
 | .slice el=>some el
 | _=>none
def QI(P:Program)(σ:St)(x:MV):Option TypeId→Option (List (List MV))
 | some el=>fG σ (td P el).size x
 | none=>none
theorem I5{t xt:TypeId}{s x:MV}:R (lF P t xt s x σ k)=R (P6 P (E (td P t).k) xt s (E (QI P σ x (VO (td P t).k))) σ k):=congrArg R (by
 unfold lF P6 QI VO fY oH bT E
 cases (td P t).k<;>rfl)
theorem M8{el xt:TypeId}{ys:List (List MV)}:R (P6 P (.slice el) xt .aM (some ys) σ k)=R (fY (E ((td P xt).k.gA=true∧(td P el).zok=true∧Fits ys.length (td P el).bytes)) (oH (E σ) (fun l=>bT (E (.vec (td P el).size l 0 ys.length)) (σ.set l (.row el (td P el).size ys)) k))):=congrArg R rfl
theorem P7{el xt:TypeId}{ys xs:List (List MV)}{e:Nat}:R (P6 P (.slice el) xt (.lst e xs true) (some ys) σ k)=R (fY (E ((td P xt).k.gA=true∧(td P el).zok=true∧e=(td P el).size∧(xs=[]∨0<ys.length)∧Fits (xs.length+ys.length) (td P el).bytes))
     (oH (E σ) (fun l=>bT (E (.vec (td P el).size l 0 (xs.length+ys.length))) (σ.set l (.row el (td P el).size (xs++ys))) k))):=rfl
def P9(P:Program)(el xt:TypeId)(e l lo n:Nat)(o:Option aT)(ys:List (List MV))(σ:St)(k:MV→St→Prop):Prop :=
 match o with
 | some (.row tt e' xs)=>fY ((td P xt).k.gA=true∧(td P el).zok=true∧e=(td P el).size∧e'=(td P el).size∧tt=el∧lo=0∧lo+n≤xs.length∧Fits (n+ys.length) (td P el).bytes)
      (oH σ fun l'=>bT (.vec (td P el).size l' 0 (n+ys.length)) ((σ.del l).set l' (.row el (td P el).size (fW xs lo n ys))) k)
 | _=>False
theorem P8{el xt:TypeId}{ys:List (List MV)}{e l lo n:Nat}:R (P6 P (.slice el) xt (.vec e l lo n) (some ys) σ k)=R (P9 P el xt e l lo n (E (σ l)) ys σ k):=congrArg R rfl
def mif(c:Prop)(A B:Prop):Prop:=(c→A)∧(¬c→B)
theorem TJ{c A B:Prop}(h:c):R (mif c A B)=R A:=by simp[mif,h]
theorem Vt{c A B:Prop}(h:¬c):R (mif c A B)=R B:=by simp[mif,h]
theorem Vs{c A B:Prop}(h1:c→R A)(h2:¬c→R B):R (mif c A B):=⟨h1,h2⟩
theorem M9{el xt tt:TypeId}{ys xs:List (List MV)}{e e' l lo n:Nat}:R (P9 P el xt e l lo n (some (.row tt e' xs)) ys σ k)=R (mif (E (lo+n=xs.length))
      (fY (E ((td P xt).k.gA=true∧(td P el).zok=true∧e=(td P el).size∧e'=(td P el).size∧tt=el∧lo=0∧Fits (n+ys.length) (td P el).bytes))
       (oH (E σ) (fun l'=>bT (E (.vec (td P el).size l' 0 (n+ys.length))) ((σ.del l).set l' (.row el (td P el).size (xs.drop lo++ys))) k)))
      (fY (E ((td P xt).k.gA=true∧(td P el).zok=true∧e=(td P el).size∧e'=(td P el).size∧tt=el∧lo=0∧lo+n≤xs.length∧Fits (n+ys.length) (td P el).bytes))
       (oH (E σ) (fun l'=>bT (E (.vec (td P el).size l' 0 (n+ys.length))) ((σ.del l).set l' (.row el (td P el).size (fW xs lo n ys))) k)))):=by
 apply congrArg R
 simp only[P9,mif,E]
 by_cases h:lo+n=xs.length
 ·simp only[h,true_implies,not_true_eq_false,false_implies,and_true,Nat.le_refl,true_and,Ib h]
 ·simp only[h,false_implies,not_false_eq_true,true_implies,true_and]
theorem HC{rs:List ResultVar}{Q:MV→St→Prop}{n:Nat}{l:List (Nat × MV)}:R (Ot P rs Q .normal ⟨n,l,[]⟩ σ)=R (fE P ⟨n,l,[]⟩ σ rs fun vs=>Q (oneOf vs) σ):=congrArg R rfl
theorem Rp{rs:List ResultVar}{Q:MV→St→Prop}{n:Nat}{l:List (Nat × MV)}:R (Ot P rs Q .ret ⟨n,l,[]⟩ σ)=R (fE P ⟨n,l,[]⟩ σ rs fun vs=>Q (oneOf vs) σ):=congrArg R rfl
theorem Jr{rs:List ResultVar}{Q:MV→St→Prop}{n:Nat}{l:List (Nat × MV)}:R (mleave P n l rs Q [] σ)=R (fE P ⟨n,l,[]⟩ σ rs fun vs=>Q (oneOf vs) σ):=congrArg R rfl
theorem D6{K:List MV→Prop}:R (fE P f σ [] K)=R (K []):=congrArg R rfl
theorem D8{K:List MV→Prop}{t:Nat}{rs:List ResultVar}:R (fE P f σ (.tmp t::rs) K)=R (bT (E (f.get t)) σ (fun v _=>fE P f σ rs fun vs=>K (v::vs))):=congrArg R rfl
theorem Bz{K:List MV→Prop}{a:Nat}{t:TypeId}{rs:List ResultVar}:R (fE P f σ (.cell a t::rs) K)=R (mQ P t (E (f.get a)) σ (fun v _=>fE P f σ rs fun vs=>K (v::vs))):=congrArg R rfl
theorem N9{v:MV}:oneOf [v]=v:=rfl
theorem Oa{v w:MV}{vs:List MV}:oneOf (v::w::vs)=.tup (v::w::vs):=rfl
theorem N8:oneOf []=.tup []:=rfl
theorem Mj{cs:List MV}:(MV.agg cs).cells=cs:=rfl
theorem Mk{i:IntKind}{n:Int}:(MV.int i n).cells=[.int i n]:=rfl
theorem Ip{b:Bool}:(MV.bool b).cells=[.bool b]:=rfl
theorem Mn{s:ByteArray}:(MV.str s).cells=[.str s]:=rfl
theorem Iv:MV.nilp.cells=[.nilp]:=rfl
theorem Mm{l i o:Nat}:(MV.ptr l i o).cells=[.ptr l i o]:=rfl
theorem Iq{cs:List MV}:(MV.cptr cs).cells=[.cptr cs]:=rfl
theorem Iw:MV.aM.cells=[.aM]:=rfl
theorem Ml{e:Nat}{xs:List (List MV)}{t:Bool}:(MV.lst e xs t).cells=[.lst e xs t]:=rfl
theorem Mo{e l lo n:Nat}:(MV.vec e l lo n).cells=[.vec e l lo n]:=rfl
theorem Iu:MV.nilm.cells=[.nilm]:=rfl
theorem Ir{l:Nat}:(MV.mapv l).cells=[.mapv l]:=rfl
theorem Ff:MV.nilfn.cells=[.nilfn]:=rfl
theorem O9{fn:Fn}{a b:List MV}:(MV.fn fn a b).cells=[.fn fn a b]:=rfl
theorem aU{k k':IntKind}{a b:Int}:oZ (.int k a) (.int k' b)↔k=k'∧a=b:=⟨fun h=>by cases h;exact⟨rfl,rfl⟩,fun⟨h,g⟩=>h ▸ g ▸ .same _⟩
theorem aN{m:MV}:oZ m m↔True:=⟨fun _=>trivial,fun _=>.same m⟩
theorem all_nil{p:MV→Bool}:List.all [] p=true:=rfl
theorem Vd{α:Type}{p:α→Prop}:(∀c,c∈([]:List α)→p c)↔True:=by simp
theorem S3{α:Type}{p:α→Prop}{a:α}{l:List α}:(∀c,c∈a::l→p c)↔p a∧∀c,c∈l→p c:=by simp
theorem O4{i:IntKind}{n:Int}:(MV.int i n).aL=true:=rfl
theorem Mc{b:Bool}:(MV.bool b).aL=true:=rfl
theorem O7{s:ByteArray}:(MV.str s).aL=true:=rfl
theorem Mh:MV.nilp.aL=true:=rfl
theorem O6{l i o:Nat}:(MV.ptr l i o).aL=true:=rfl
theorem Md{cs:List MV}:(MV.cptr cs).aL=true:=rfl
theorem Mi:MV.aM.aL=true:=rfl
theorem O5{e:Nat}{xs:List (List MV)}{t:Bool}:(MV.lst e xs t).aL=true:=rfl
theorem O8{e l lo n:Nat}:(MV.vec e l lo n).aL=true:=rfl
theorem Mg:MV.nilm.aL=true:=rfl
theorem Me{l:Nat}:(MV.mapv l).aL=true:=rfl
theorem Io:MV.nilfn.aL=true:=rfl
theorem SO{fn:Fn}{a b:List MV}:(MV.fn fn a b).aL=true:=rfl
theorem Mf:MV.nili.aL=true:=rfl
theorem Im{t:TypeId}{v:MV}:(MV.iface t v).aL=true:=rfl
theorem Is:MV.nili.cells=[.nili]:=rfl
theorem Fc{t:TypeId}{v:MV}:(MV.iface t v).cells=[.iface t v]:=rfl
end
section
variable {P:Program} {f:FR} {σ:St} {k:MV→St→Prop} {K:FR→St→Prop}
theorem BA{dst:Option Tmp}{t:TypeId}:R (jB P f σ dst K (.makeMap t none))=R (oH (E σ) fun l=>K (bD f dst (.mapv l)) (σ.set l (.mp []))):=congrArg R rfl
theorem yH{dst:Option Tmp}{t:TypeId}{m x y:Operand}:R (jB P f σ dst K (.mapUpdate t m x y))=R (gO P t (E (aE f m)) (E (aE f x)) (E (aE f y)) (E (mapOf σ (aE f m))) σ fun v σ'=>K (bD f dst v) σ'):=congrArg R rfl
theorem Eb{dst:Option Tmp}{t:TypeId}{m x:Operand}{ok:Bool}:R (jB P f σ dst K (.lookup t m x ok))=R (gV P t (E (aE f m)) (E (aE f x)) ok (E (mapOf σ (aE f m))) σ fun v σ'=>K (bD f dst v) σ'):=congrArg R rfl
def Ao(P:Program)(d:TK)(l:Nat)(kd:IntKind)(n:Int)(y:MV)(es:List (MV × MV))(σ:St)(k:MV→St→Prop):Prop:=match d with
 | .map kt _=>fY ((td P kt).k=.int kd∧(es.all fun p=>isK kd p.1)=true) (bT .junk (σ.set l (.mp (dG kd n y es))) k)
 | _=>False
theorem Jp{t:TypeId}{l:Nat}{kd:IntKind}{n:Int}{y:MV}{es:List (MV × MV)}:R (gO P t (.mapv l) (.int kd n) y (some (.mp es)) σ k)=R (Ao P (E (td P t).k) l kd n y es σ k):=congrArg R (by
 unfold gO Ao fY bT E
 cases (td P t).k<;>rfl)
theorem Gr{kt et:TypeId}{l:Nat}{kd:IntKind}{n:Int}{y:MV}{es:List (MV × MV)}:R (Ao P (.map kt et) l kd n y es σ k)=R (fY (E ((td P kt).k=.int kd∧(es.all fun p=>isK kd p.1)=true)) (bT (E .junk) (σ.set l (.mp (dG kd n y es))) k)):=congrArg R rfl
def Ap(P:Program)(d:TK)(kd:IntKind)(n:Int)(ok:Bool)(es:List (MV × MV))(σ:St)(k:MV→St→Prop):Prop:=match d with
 | .map kt et=>fY ((td P kt).k=.int kd∧(td P et).zok=true∧(es.all fun p=>isK kd p.1)=true) (bT (if ok=true then .tup [(dQ n es).getD (xF (td P et)),.bool (dQ n es).isSome] else(dQ n es).getD (xF (td P et))) σ k)
 | _=>False
theorem Jv{t:TypeId}{l:Nat}{kd:IntKind}{n:Int}{ok:Bool}{es:List (MV × MV)}:R (gV P t (.mapv l) (.int kd n) ok (some (.mp es)) σ k)=R (Ap P (E (td P t).k) kd n ok es σ k):=congrArg R (by
 unfold gV Ap fY bT E
 cases (td P t).k<;>rfl)
theorem Gv{kt et:TypeId}{kd:IntKind}{n:Int}{ok:Bool}{es:List (MV × MV)}:R (Ap P (.map kt et) kd n ok es σ k)=R (fY (E ((td P kt).k=.int kd∧(td P et).zok=true∧(es.all fun p=>isK kd p.1)=true)) (bT (E (if ok=true then .tup [(dQ n es).getD (xF (td P et)),.bool (dQ n es).isSome] else(dQ n es).getD (xF (td P et)))) σ k)):=congrArg R rfl
theorem M6{l:Nat}:mapOf σ (.mapv l)=σ l:=rfl
theorem PN{kd:IntKind}{n:Int}{v:MV}:dG kd n v []=[(.int kd n,v)]:=rfl
theorem PL{n:Int}:dQ n []=none:=rfl
end
attribute [go_sem ↓] PZ P0 M0 Ji NO MG MI MH Jj Nn Je Gd Gf Ge Ks Nl Jg Jf DU Jh EV OM KC Bi Ij Ii QH NN JB GH GK GG Ea BA yH Eb QJ QD Jx QE D4 NH QF Gz D3 NK Bw Bx Ar NJ GA NI QC Jy By NL NG TQ Aq Aj QB Gy Bt I7 I9 I8 HC Rp Jr D6 D8 Bz
theorem V9{t:TypeId}:FZ t=decide (t=5):=rfl
attribute [go_sem] V9 Jp Gr Jv Gv M6 PN PL xF UX Wd Xh Xe Wc Xf Xd Jn Gn Nr Qw Nt Ns Nv Nu Gq Nz Ny Nx Nw MO NR NQ Vg QM JF NT QZ T3 T4 Q2 Q3 Q1 N6 Q0 JG TT TV GM JH Qr Jd Bu Nk Qs TL T7 JC NA Jt Gt JE Ec aD aG JN set_set Ud Ub Uc Ua T2 Rn Om Ey TG Nj Qa Qo Qh Qj Qk Qb TB Gc Qc Qi Qg Qf Qe Qd Ql Qn Nd Nh Nc Ng Nf Na Nb TC TA Tw Tz TE TF Ty Tx TK.IS OL Mv OY List.length_take List.length_drop List.length_append FC KE if_pos if_neg HN C3 Oy Fits Fp QW Bo SR KX Gb xM SP kK cF Tv I5 VO QI M8 P7 P8 TJ Vt fW M9 N9 Oa N8 Mj Mk Ip Mn Iv Mm Iq Iw Ml Mo Iu Ir Ff O9 iG pY fL lX eA An DW laid eZ pS Qy Lt Ls mun tQ fG TK.isAgg TK.gA TK.tO TK.IV TK.isBool O4 Mc O7 Mh O6 Md Mi O5 O8 Mg Me Io SO Mf Im Is Fc Vd S3 List.map_cons List.map_nil List.length_cons List.length_nil List.length_map Int.toNat_natCast List.drop_succ_cons List.drop_zero List.drop_nil List.take_succ_cons List.take_zero List.take_nil List.getD_cons_zero List.getD_cons_succ List.getElem?_cons_zero List.getElem?_cons_succ List.set_cons_zero List.set_cons_succ List.all_cons List.all_nil List.cons_append List.nil_append List.append_nil List.toList_toArray Option.map_some Option.map_none Bool.and_self Bool.and_true Bool.true_and beq_self_eq_true IntWalk.i64_in IntWalk.u8_in IntWalk.u32_in IntWalk.i32_in IntWalk.u64_in decide_true decide_false Bool.not_true Bool.not_false if_true if_false and_true true_and and_self ne_eq not_true_eq_false not_false_eq_true eq_self reduceCtorEq MV.bool.injEq Nat.zero_add Nat.add_zero
end

section
def St.le(σ1 σ:St):Prop:=∀l o,σ1 l=some o→σ l=some o
theorem St.le_refl(σ:St):σ.le σ:=fun _ _ h=>h
theorem St.none_le(σ:St):St.none.le σ:=fun _ _ h=>by simp[St.none] at h
theorem St.bM{σ1 σ:St}{l:Nat}{o:aT}(h:σ1.le σ)(hl:σ1 l=Option.none):σ1.le (σ.set l o):=fun k q hk=>by
 by_cases e:k=l
 ·subst e;rw[hl] at hk;cases hk
 ·rw[aG _ _ _ _ e];exact h k q hk
theorem St.sR{σ1 σ:St}{l:Nat}{o:aT}(h:σ1.le σ):(σ1.set l o).le (σ.set l o):=fun k q hk=>by
 by_cases e:k=l
 ·subst e;rw[aD] at hk ⊢;exact hk
 ·rw[aG _ _ _ _ e] at hk ⊢;exact h k q hk
theorem St.aB{σ1 σ:St}{l:Nat}{o:aT}(h:σ1.le σ)(hl:σ l=some o):(σ1.set l o).le σ:=fun k q hk=>by
 by_cases e:k=l
 ·subst e;rw[aD] at hk;rw[hl];exact hk
 ·rw[aG _ _ _ _ e] at hk;exact h k q hk
theorem Xg{x y:St}:R (x.le y)=x.le y:=rfl
attribute [go_sem] Xg
inductive View (σ:St):MV→MV→Prop where
 | same (m:MV):View σ m m
 | junk (m:MV):View σ m .junk
 | nil (e:Nat) (t:Bool):View σ .aM (.lst e [] t)
 | tight (e:Nat) (xs:List (List MV)):View σ (.lst e xs true) (.lst e xs false)
 | vec {l lo n:Nat} {t:TypeId} {e:Nat} {xs:List (List MV)} (h:σ l=some (.row t e xs)) (hn:lo+n≤xs.length):View σ (.vec e l lo n) (.lst e ((xs.drop lo).take n) false)
 | vecAll {l n:Nat} {t:TypeId} {e:Nat} {xs:List (List MV)} (h:σ l=some (.row t e xs)) (hn:n=xs.length):View σ (.vec e l 0 n) (.lst e xs false)
 | ptr {l i o:Nat} {t:TypeId} {e:Nat} {xs:List (List MV)} (h:σ l=some (.row t e xs)) (hn:i<xs.length):View σ (.ptr l i o) (.cptr ((xs.getD i []).drop o))
 | agg {ms ms':List MV} (h:ms.length=ms'.length) (hc:∀(i:Nat) (m:MV),ms'[i]?=some m→m.aL=true) (hv:∀(i:Nat) (m m':MV),ms[i]?=some m→ms'[i]?=some m'→View σ m m'):View σ (.agg ms) (.agg ms')
 | tup {ms ms':List MV} (h:ms.length=ms'.length) (hv:∀(i:Nat) (m m':MV),ms[i]?=some m→ms'[i]?=some m'→View σ m m'):View σ (.tup ms) (.tup ms')
 | fn {f:Fn} {ms ns ns':List MV} (h:ns.length=ns'.length) (hv:∀(i:Nat) (m m':MV),ns[i]?=some m→ns'[i]?=some m'→View σ m m'):View σ (.fn f ms ns) (.fn f ms ns')
def OW(Φ Φ':Phi)(w:World)(σ:St):Prop:=Φ.le Φ'∧∀l o p R,σ l=some o→Φ.obj l=some p→p.blk=some R→∀off v,w.cell? ⟨R,off,none⟩=some v→Φ'.snap ⟨R,off,none⟩=some v
theorem eY.cells{Φ:Phi}{w:World}{l:Nat}{t:TypeId}{e:Nat}{xs:List (List MV)}(h:eY Φ w l (.row t e xs)){p:Place}(hp:Φ.obj l=some p){R:Nat}(hR:p.blk=some R) :
  ∀(i:Nat) (x:List MV) (j:Nat) (m:MV),xs[i]?=some x→x[j]?=some m→m.aL=true∧∃v,w.cell? ⟨R,p.bo+(i * e+j),none⟩=some v∧Rel Φ v m:=by
 obtain⟨p',hp',he,h1,h2,h3,h4⟩:=h
 rw[hp] at hp';cases hp'
 rw[hR] at h4
 obtain⟨c,fz,hc,hf,hs,hv⟩:=h4
 intro i x j m hx hm
 obtain⟨hcell,v,hv1,hv2⟩:=hv i x j m hx hm
 exact⟨hcell,v,by simpa[World.cell?,hc] using hv1,hv2⟩
theorem eY.KR{Φ Φ':Phi}{w:World}{l:Nat}{t:TypeId}{e:Nat}{xs:List (List MV)}(h:eY Φ w l (.row t e xs)){p:Place}(hp:Φ.obj l=some p){R:Nat}(hR:p.blk=some R)
 (hle:Φ.le Φ')(hs:∀off v,w.cell? ⟨R,off,none⟩=some v→Φ'.snap ⟨R,off,none⟩=some v):kY Φ' R p.bo e xs:=by
 refine⟨h.U7,fun i j=>(w.cell? ⟨R,p.bo+(i * e+j),none⟩).getD undef,fun i x j m hx hm=>?_⟩
 obtain⟨hcell,v,hv1,hv2⟩:=h.cells hp hR i x j m hx hm
 have:=hs _ _ hv1
 simp only[Nat.add_assoc] at this hv1 ⊢
 refine⟨hcell,?_,?_⟩
 ·rw[this,hv1];rfl
 ·rw[hv1];exact hv2.mono hle
theorem H6{Φ Φ':Phi}{w:World}{σ:St}(hi:Inv Φ w σ)(hs:OW Φ Φ' w σ){l lo n:Nat}{t:TypeId}{e:Nat}{xs:List (List MV)}(h:σ l=some (.row t e xs))(hn:lo+n≤xs.length){v:Value}(r:Rel Φ v (.vec e l lo n)) :
  Rel Φ' v (.lst e ((xs.drop lo).take n) false):=by
 obtain⟨a,cap,p,rfl,hp,he,hcap,hn',hva⟩:=r.dR
 have own:=hi.own l _ h
 obtain⟨p',hp',he',h1,h2,h3,h4⟩:=hi.own l _ h
 rw[hp] at hp';cases hp'
 refine Rel.DZ (by simp;omega) hn' oM (by simp) (fun ha=>?_) (fun h0=>?_)
 ·rcases hva with⟨R,hR,ha'⟩|hva
  ·rw[ha'] at ha;cases ha
  ·exact hva
 ·rcases hva with⟨R,hR,ha⟩|hva
  ·subst ha
   refine⟨_,_,rfl,?_⟩
   rw[he]
   exact((own.KR hp hR hs.1 (hs.2 l _ p R h hp hR)).drop).take
  ·omega
theorem View.rel{Φ Φ':Phi}{w:World}{σ:St}(hi:Inv Φ w σ)(hs:OW Φ Φ' w σ){m m':MV}(h:View σ m m'):∀{v:Value},Rel Φ v m→Rel Φ' v m':=by
 induction h with
 | same m=>intro v r;exact r.mono hs.1
 | junk m=>intro v r;exact .junk v
 | nil e t=>intro v r;cases r;exact .lstn e t
 | tight e xs=>intro v r;exact((oZ.tight e xs).rel r).mono hs.1
 | vec h hn=>intro v r;exact H6 hi hs h hn r
 | @vecAll l n t e xs h hn =>
  intro v r
  have:=H6 hi hs h (lo:=0) (n:=n) oM r
  subst hn
  simpa using this
 | @ptr l i o t e xs h hn =>
  intro v r
  obtain⟨p,R,hp,hR,rfl⟩:=r.iZ
  have own:=hi.own l _ h
  obtain⟨p',hp',he',-⟩:=hi.own l _ h
  rw[hp] at hp';cases hp'
  obtain⟨-,vs,hv⟩:=own.KR hp hR hs.1 (hs.2 l _ p R h hp hR)
  have hx:xs[i]?=some (xs.getD i []):=by simp[List.getD,List.getElem?_eq_getElem hn]
  refine .cptr (fun j=>vs i (o+j)) (fun j m hm=>?_) (fun j m hm=>?_)
  all_goals
   rw[List.getElem?_drop] at hm
   have:=hv i _ _ m hx hm
  ·refine⟨this.1,?_⟩
   rw[he']
   simpa[Nat.add_assoc] using this.2.1
  ·exact this.2.2
 | agg h hc hv ih =>
  intro v r
  obtain⟨cs,rfl,h1,h2,h3⟩:=r.j8
  refine .agg oM hc (fun i m' hm'=>?_)
  have hlt:=(List.getElem?_eq_some_iff.1 hm').1
  rename_i ms ms'
  obtain⟨m,hm⟩:∃m,ms[i]?=some m:=⟨_,List.getElem?_eq_getElem oM⟩
  exact ih i m m' hm hm' (h3 i m hm)
 | tup h hv ih =>
  intro v r
  obtain⟨cs,rfl,h1,h3⟩:=r.DI
  refine .tup oM (fun i m' hm'=>?_)
  have hlt:=(List.getElem?_eq_some_iff.1 hm').1
  rename_i ms ms'
  obtain⟨m,hm⟩:∃m,ms[i]?=some m:=⟨_,List.getElem?_eq_getElem oM⟩
  exact ih i m m' hm hm' (h3 i m hm)
 | @fn f ms ns ns' h hv ih =>
  intro v r
  obtain⟨first,cap,rfl,h1,h2⟩:=r.sC
  refine .fn f h1.1 (h2.1.trans h) (fun i m hm=>(h1.2 i m hm).mono hs.1) (fun i m' hm'=>?_)
  have hlt:=(List.getElem?_eq_some_iff.1 hm').1
  obtain⟨m,hm⟩:∃m,ns[i]?=some m:=⟨_,List.getElem?_eq_getElem oM⟩
  exact ih i m m' hm hm' (h2.2 i m hm)
def Phi.sT(Φ:Phi)(w:World)(B:Nat→Prop)[DecidablePred B]:Phi:={ Φ with snap:=fun a=>match Φ.snap a with|some v=>some v|none=>if B a.block then w.cell? a else none }
theorem y0(Φ:Phi)(w:World)(B:Nat→Prop)[DecidablePred B]:Φ.le (Φ.sT w B):=⟨fun a v h=>by simp[Phi.sT,h],fun _ _ h=>h,rfl⟩
theorem fV{Φ:Phi}{w:World}{B:Nat→Prop}[DecidablePred B]{a:Addr}{v:Value}(h:(Φ.sT w B).snap a=some v):Φ.snap a=some v∨(B a.block∧w.cell? a=some v):=by
 simp only[Phi.sT] at h
 split at h
 ·rename_i u hu;left;rw[hu,←h]
 ·split at h
  ·rename_i hb;exact .inr ⟨hb,h⟩
  ·cases h
theorem EO{Φ:Phi}{w:World}{σ:St}(hi:Inv Φ w σ){B:Nat→Prop}[DecidablePred B]{σv:St}(hle:σv.le σ)(hB:∀R,aY Φ σv R→B R):OW Φ (Φ.sT w B) w σv:=by
 refine⟨y0 _ _ _,fun l o p R hl hp hR off v hv=>?_⟩
 have hb:B R:=hB R ⟨l,o,p,hl,hp,hR⟩
 simp only[Phi.sT]
 split
 ·rename_i u hu
  have:=hi.snap _ _ hu
  rw[hv] at this
  exact this.symm
 ·rw[if_pos hb];exact hv
theorem bA.freeze{n:Nat}{l l1:List (Nat × MV)}{d:List (FuncId × List MV)}{σ σ1:St}(σv:St)(hle:σv.le σ)(h1:σ1.le σ)(hd:∀k o,σ1 k=some o→σv k=none)
 (h:∀p,p∈l1→View σv (cQ l p.1) p.2):bA ⟨n,l,d⟩ σ ⟨n,l1,d⟩ σ1:=by
 refine⟨rfl,fun Φ w vs hi hr=>?_⟩
 classical
 have hs:=EO (Φ:=Φ) hi (B:=aY Φ σv) hle (fun R h=>h)
 refine⟨Φ.sT w (aY Φ σv),⟨?_,?_,?_,?_,hi.fresh.1,fun g i v q=>hs.1.snap _ _ (hi.fresh.2.1 g i v q),hi.fresh.2.2.mono hs.1.snap⟩,⟨hr.1,?_⟩,⟨hs.1,rfl,rfl,rfl,Nat.le_refl _,Nat.le_refl _,fun _ _ _=>rfl,?_,fun l o h=>.inl ⟨o,h1 l o h⟩,fun R hR=>.inl ?_⟩⟩
 ·exact fun k o hk=>(hi.own k o (h1 k o hk)).mono hs.1 (fun _ _ _ _=>rfl)
 ·exact fun k k' o o' p p' R a b c e=>hi.inj k k' o o' p p' R (h1 k o a) (h1 k' o' b) c e
 ·intro a v hv
  rcases fV hv with q|⟨-,q⟩
  ·exact hi.snap a v q
  ·exact q
 ·intro k o p R a v hk hp hR hv
  rcases fV hv with q|⟨⟨k2,o2,p2,q1,q2,q3⟩,-⟩
  ·exact hi.apart k o p R a v (h1 k o hk) hp hR q
  ·intro e
   rw[e] at q3
   have:=hi.inj k k2 o o2 p p2 R (h1 k o hk) (hle k2 o2 q1) hp q2 hR q3
   subst this
   rw[hd k o hk] at q1
   cases q1
 ·intro t
  show Rel _ _ (cQ l1 t)
  have key:∀l1':List (Nat × MV),(∀p,p∈l1'→View σv (cQ l p.1) p.2)→View σv (cQ l t) (cQ l1' t):=by
   intro l1'
   induction l1' with
   | nil=>intro _;exact .junk _
   | cons q r ih =>
    obtain⟨k,v⟩:=q
    intro h
    simp only[cQ]
    split
    ·rename_i ht;subst ht;exact h (t,v) (by simp)
    ·exact ih fun q hq=>h q (by simp[hq])
  exact(key l1 h).rel (hi.less hle) hs (hr.2 t)
 ·intro a v hv
  rcases fV hv with q|⟨⟨k,o,p,q1,q2,q3⟩,-⟩
  ·exact .inl q
  ·exact .inr (.inr ⟨k,o,p,hle k o q1,q2,q3⟩)
 ·obtain⟨k,o,p,q1,q2,q3⟩:=hR
  exact⟨k,o,p,h1 k o q1,q2,q3⟩
def OV(σv:St)(o o1:aT):Prop:=o1=o∨∃t e xs xs1,o=.row t e xs∧o1=.row t e xs1∧xs.length=xs1.length∧∀(i:Nat) (x x1:List MV),xs[i]?=some x→xs1[i]?=some x1→x.length=x1.length ∧
 ∀(j:Nat) (m m1:MV),x[j]?=some m→x1[j]?=some m1→m1=m∨(m1.aL=true∧View σv m m1)
theorem OV.own{Φ Φ':Phi}{w:World}{σv:St}{k:Nat}{o o1:aT}(hv:OV σv o o1)(h:eY Φ w k o)(hle:Φ.le Φ')(hi:Inv Φ w σv)(hs:OW Φ Φ' w σv):eY Φ' w k o1:=by
 rcases hv with rfl|⟨t,e,xs,xs1,rfl,rfl,hl,hx⟩
 ·exact h.mono hle (fun _ _ _ _=>rfl)
 ·obtain⟨p,hp,hpe,q1,q2,q3,q4⟩:=h
  have get:∀(i:Nat) (x1:List MV),xs1[i]?=some x1→∃x,xs[i]?=some x:=fun i x1 h1=>by
   have:=(List.getElem?_eq_some_iff.1 h1).1
   exact⟨xs[i]'oM,by simp⟩
  refine⟨p,hle.obj _ _ hp,hpe,by omega,q2,fun i x1 h1=>?_,?_⟩
  ·obtain⟨x,hx0⟩:=get i x1 h1
   rw[←(hx i x x1 hx0 h1).1]
   exact q3 i x hx0
  ·cases hb:p.blk with
   | none=>rw[hb] at q4;exact q4
   | some R =>
    rw[hb] at q4
    obtain⟨c,fz,k1,k2,k3,k4⟩:=q4
    refine⟨c,fz,k1,k2,k3,fun i x1 j m1 h1 hm1=>?_⟩
    obtain⟨x,hx0⟩:=get i x1 h1
    obtain⟨hlen,hview⟩:=hx i x x1 hx0 h1
    have hj:=(List.getElem?_eq_some_iff.1 hm1).1
    obtain⟨m,hm⟩:∃m,x[j]?=some m:=⟨x[j]'oM,by simp⟩
    obtain⟨hc0,v,hcv,hrel⟩:=k4 i x j m hx0 hm
    rcases hview j m m1 hm hm1 with rfl|⟨hc,hv⟩
    ·exact⟨hc0,v,hcv,hrel.mono hle⟩
    ·exact⟨hc,v,hcv,hv.rel hi hs hrel⟩
theorem bA.tJ{n:Nat}{l l1:List (Nat × MV)}{d:List (FuncId × List MV)}{σ σ1:St}(σv:St)(hle:σv.le σ)(h1:∀k o1,σ1 k=some o1→∃o,σ k=some o∧OV σv o o1)(hd:∀k o,σ1 k=some o→σv k=none)
 (h:∀p,p∈l1→View σv (cQ l p.1) p.2):bA ⟨n,l,d⟩ σ ⟨n,l1,d⟩ σ1:=by
 refine⟨rfl,fun Φ w vs hi hr=>?_⟩
 classical
 have hs:=EO (Φ:=Φ) hi (B:=aY Φ σv) hle (fun R h=>h)
 refine⟨Φ.sT w (aY Φ σv),⟨?_,?_,?_,?_,hi.fresh.1,fun g i v q=>hs.1.snap _ _ (hi.fresh.2.1 g i v q),hi.fresh.2.2.mono hs.1.snap⟩,⟨hr.1,?_⟩,⟨hs.1,rfl,rfl,rfl,Nat.le_refl _,Nat.le_refl _,fun _ _ _=>rfl,?_,fun l o h=>?_,fun R hR=>.inl ?_⟩⟩
 ·intro k o1 hk
  obtain⟨o,ho,hv⟩:=h1 k o1 hk
  exact hv.own (hi.own k o ho) hs.1 (hi.less hle) hs
 ·intro k k' o o' p p' R a b c e
  obtain⟨q,hq,-⟩:=h1 k o a
  obtain⟨q',hq',-⟩:=h1 k' o' b
  exact hi.inj k k' q q' p p' R hq hq' c e
 ·intro a v hv
  rcases fV hv with q|⟨-,q⟩
  ·exact hi.snap a v q
  ·exact q
 ·intro k o p R a v hk hp hR hv
  obtain⟨o0,ho0,-⟩:=h1 k o hk
  rcases fV hv with q|⟨⟨k2,o2,p2,q1,q2,q3⟩,-⟩
  ·exact hi.apart k o0 p R a v ho0 hp hR q
  ·intro e
   rw[e] at q3
   have:=hi.inj k k2 o0 o2 p p2 R ho0 (hle k2 o2 q1) hp q2 hR q3
   subst this
   rw[hd k o hk] at q1
   cases q1
 ·intro t
  show Rel _ _ (cQ l1 t)
  have key:∀l1':List (Nat × MV),(∀p,p∈l1'→View σv (cQ l p.1) p.2)→View σv (cQ l t) (cQ l1' t):=by
   intro l1'
   induction l1' with
   | nil=>intro _;exact .junk _
   | cons q r ih =>
    obtain⟨k,v⟩:=q
    intro h
    simp only[cQ]
    split
    ·rename_i ht;subst ht;exact h (t,v) (by simp)
    ·exact ih fun q hq=>h q (by simp[hq])
  exact(key l1 h).rel (hi.less hle) hs (hr.2 t)
 ·intro a v hv
  rcases fV hv with q|⟨⟨k,o,p,q1,q2,q3⟩,-⟩
  ·exact .inl q
  ·exact .inr (.inr ⟨k,o,p,hle k o q1,q2,q3⟩)
 ·obtain⟨o0,ho0,-⟩:=h1 l o h
  exact .inl ⟨o0,ho0⟩
 ·obtain⟨k,o,p,q1,q2,q3⟩:=hR
  obtain⟨o0,ho0,-⟩:=h1 k o q1
  exact⟨k,o0,p,ho0,q2,q3⟩
theorem bA.less{n:Nat}{l l1:List (Nat × MV)}{d:List (FuncId × List MV)}{σ σ1:St}(h:∀p,p∈l1→oZ (cQ l p.1) p.2)(hs:σ1.le σ):bA ⟨n,l,d⟩ σ ⟨n,l1,d⟩ σ1 :=
 (bA.Tj h).trans (bA.drop hs)
end

section
theorem Gh.row{n:Nat}{l:List (Nat × MV)}{d:List (FuncId × List MV)}{σ:St}{K:FR→St→Prop}(t:TypeId)(e:Nat)(l1:Nat→List (Nat × MV))
 (h1:∀k,∀p,p∈l1 k→cQ l p.1=p.2∨(p.2=.vec e k 0 0∧(cQ l p.1=.aM∨cQ l p.1=.lst e [] true)))
 (h:∀k,σ k=none→Gh ⟨n,l1 k,d⟩ (σ.set k (.row t e [])) K):Gh ⟨n,l,d⟩ σ K:=by
 intro Φ w vs hi hr
 obtain⟨k,hk,hk'⟩:=inv_eq hi
 obtain⟨v1,v2,-⟩:=nW hi (fun _ _ h=>h) hk t e none
 have hfr:dD (Φ.put k ⟨none,0,e,0⟩) vs ⟨n,l1 k,d⟩:=by
  refine⟨hr.1,fun s=>?_⟩
  show Rel _ _ (cQ (l1 k) s)
  have key:∀l2:List (Nat × MV),(∀p,p∈l2→cQ l p.1=p.2∨(p.2=.vec e k 0 0∧(cQ l p.1=.aM∨cQ l p.1=.lst e [] true)))→Rel (Φ.put k ⟨none,0,e,0⟩) (vs.getD s undef) (cQ l2 s):=by
   intro l2
   induction l2 with
   | nil=>intro _;exact .junk _
   | cons q r ih =>
    obtain⟨j,v⟩:=q
    intro h
    simp only[cQ]
    split
    ·rename_i ht
     subst ht
     have hs:=hr.2 s
     change Rel Φ _ (cQ l s) at hs
     rcases h (s,v) (by simp) with q|⟨q1,q2|q2⟩
     ·simp only at q;rw[←q];exact hs.mono v2.le
     ·simp only at q1 q2
      rw[q2] at hs
      have:=hs.fP
      rw[this,q1]
      exact(nW hi (fun _ _ h=>h) hk t e none).2.2
     ·simp only at q1 q2
      rw[q2] at hs
      obtain⟨a,cap,hv,-,-,h0,-⟩:=hs.lB
      have hcap:cap=0:=by simpa using h0 rfl
      subst hcap
      rw[hv,q1]
      exact(nW hi (fun _ _ h=>h) hk t e a).2.2
    ·exact ih fun q hq=>h q (by simp[hq])
  exact key _ (h1 k)
 obtain⟨f2,σ2,Φ2,e2,k2,i2,r2,s2⟩:=h k hk' _ w vs v1 hfr
 exact⟨f2,σ2,Φ2,e2,k2,i2,r2,v2.trans s2⟩
theorem Gh.LG{f:FR}{σ:St}{K:FR→St→Prop}{b:Nat}{t:TypeId}{e:Nat}{pre post:List MV}(t':TypeId)(e':Nat)(hs:σ b=some (.row t e [pre++.aM::post]))
 (h:∀k,σ k=none→Gh f ((σ.set b (.row t e [pre++.vec e' k 0 0::post])).set k (.row t' e' [])) K):Gh f σ K:=by
 intro Φ w vs hi hr
 obtain⟨k,hk,hk'⟩:=inv_eq hi
 obtain⟨v1,v2,-⟩:=nW hi (fun _ _ h=>h) hk t' e' none
 have hbk:b≠k:=fun e=>by subst e;rw[hs] at hk';cases hk'
 have hs':(σ.set k (.row t' e' [])) b=some (.row t e [pre++.aM::post]):=by rw[aG _ _ _ _ hbk];exact hs
 obtain⟨p,hp,hpe,q1,q2,q3,q4⟩:=v1.own b _ hs'
 have hown:eY (Φ.put k ⟨none,0,e',0⟩) w b (.row t e [pre++.vec e' k 0 0::post]):=by
  refine⟨p,hp,hpe,by simpa using q1,q2,fun i x hx=>?_,?_⟩
  ·match i with
   | 0 =>
    simp only[List.getElem?_cons_zero,Option.some.injEq] at hx
    subst hx
    have:=q3 0 _ rfl
    simpa using this
   | i+1=>simp at hx
  ·cases hb:p.blk with
   | none=>rw[hb] at q4;exact q4
   | some R =>
    rw[hb] at q4
    obtain⟨c,fz,k1,k2,k3,k4⟩:=q4
    refine⟨c,fz,k1,k2,k3,fun i x j m hx hm=>?_⟩
    match i with
    | 0 =>
     simp only[List.getElem?_cons_zero,Option.some.injEq] at hx
     subst hx
     by_cases hj:j=pre.length
     ·subst hj
      simp at hm
      subst hm
      obtain⟨-,v,hv,hrel⟩:=k4 0 _ pre.length .aM rfl (by simp)
      have:=hrel.fP
      subst this
      exact⟨rfl,_,hv,.vecn (p:=⟨none,0,e',0⟩) (Phi.cO _ _ _) rfl rfl⟩
     ·refine k4 0 _ j m rfl ?_
      rw[←hm]
      by_cases h:j<pre.length
      ·rw[List.getElem?_append_left h,List.getElem?_append_left h]
      ·rw[List.getElem?_append_right oM,List.getElem?_append_right oM]
       obtain⟨q,hq⟩:∃q,j - pre.length=q+1:=⟨j - pre.length - 1,by omega⟩
       rw[hq,List.getElem?_cons_succ,List.getElem?_cons_succ]
    | i+1=>simp at hx
 have i2:Inv (Φ.put k ⟨none,0,e',0⟩) w ((σ.set k (.row t' e' [])).set b (.row t e [pre++.vec e' k 0 0::post])):=by
  refine v1.upd (.refl _) (fun _=>rfl) b _ p hp (fun m o q=>St.bX q) (fun m o q R hm hs2 hq hR=>?_) (fun a v h=>?_) hown v1.fresh.1
  ·rcases St.bX hs2 with⟨_,q1⟩|⟨q1,_⟩
   ·exact⟨rfl,fun e2=>hm (v1.inj m b _ _ q p R q1 hs' hq hp hR e2)⟩
   ·exact absurd q1 hm
  ·exact⟨rfl,fun e2=>v1.apart b _ p _ a v hs' hp e2 h rfl⟩
 have hst:(σ.set k (.row t' e' [])).set b (.row t e [pre++.vec e' k 0 0::post])=(σ.set b (.row t e [pre++.vec e' k 0 0::post])).set k (.row t' e' []):=set_comm _ _ _ (Ne.symm hbk)
 rw[hst] at i2
 obtain⟨f2,σ2,Φ2,e2,k2,j2,r2,s2⟩:=h k hk' _ w vs i2 (hr.mono v2.le)
 refine⟨f2,σ2,Φ2,e2,k2,j2,r2,.trans ?_ s2⟩
 refine⟨v2.le,rfl,rfl,rfl,Nat.le_refl _,Nat.le_refl _,fun _ _ _=>rfl,fun _ _ h=>.inl h,fun m o q=>?_,fun R hR=>?_⟩
 ·rcases St.bX q with⟨_,q1⟩|⟨rfl,_⟩
  ·rcases St.bX q1 with⟨_,q2⟩|⟨rfl,_⟩
   ·exact .inl ⟨_,q2⟩
   ·exact .inl ⟨_,hs⟩
  ·exact .inr hk
 ·obtain⟨m,o1,p1,t1,t2,t3⟩:=hR
  refine v2.ownd R ?_
  rcases St.bX t1 with⟨hm,q1⟩|⟨rfl,rfl⟩
  ·rcases St.bX q1 with⟨_,q2⟩|⟨rfl,_⟩
   ·exact⟨m,o1,p1,by rw[aG _ _ _ _ hm];exact q2,t2,t3⟩
   ·exact⟨m,_,p1,hs',t2,t3⟩
  ·exact⟨m,_,p1,aD _ _ _,t2,t3⟩
theorem aA.gh{P:Program}{g:FuncId}{ms:List MV}{σ:St}{Q:MV→St→Prop}(h:aA P g ms σ fun v σ'=>Gh ⟨1,[(0,v)],[]⟩ σ' fun f1 σ1=>∃v1,f1=⟨1,[(0,v1)],[]⟩∧Q v1 σ1):aA P g ms σ Q:=by
 refine⟨h.1,fun Φ w vs hi hr=>(h.2 Φ w vs hi hr).mono ?_⟩
 rintro e w' ⟨v,mv,σ',Φ',rfl,q1,q2,q3,g⟩
 obtain⟨f1,σ1,Φ1,-,⟨v1,rfl,hq⟩,i1,r1,s1⟩:=g Φ' w' #[v] q2 ⟨rfl,fun t=>by
  simp only[FR.get,cQ]
  split
  ·rename_i ht;subst ht;exact q1
  ·exact .junk _⟩
 exact⟨v,v1,σ1,Φ1,rfl,by simpa[FR.get,cQ] using r1.2 0,i1,q3.trans s1,hq⟩
def St.over(x y:St):St:=fun l=>match x l with|some o=>some o|Option.none=>y l
def St.minus(x y:St):St:=fun l=>match y l with|some _=>Option.none|Option.none=>x l
theorem jS{x y:St}{l:Nat}{o:aT}(h:(St.over x y) l=some o):x l=some o∨(x l=none∧y l=some o):=by
 simp only[St.over] at h
 split at h
 ·rename_i q hq;exact .inl (by rw[hq,h])
 ·rename_i hq;exact .inr ⟨hq,h⟩
theorem dJ{x y:St}{l:Nat}{o:aT}(h:(St.minus x y) l=some o):y l=none∧x l=some o:=by
 simp only[St.minus] at h
 split at h
 ·cases h
 ·rename_i hq;exact⟨hq,h⟩
theorem aA.frame{P:Program}{g:FuncId}{ms:List MV}{σa σ:St}{Q:MV→St→Prop}(h:aA P g ms σa Q)(hle:σa.le σ) :
  aA P g ms σ fun v σ1=>∃σ',Q v σ'∧σ1=σ'.over (σ.minus σa)∧∀l o,σ' l=some o→σ l=none∨∃o',σa l=some o':=by
 refine⟨h.1,fun Φ w vs hi hr=>(h.2 Φ w vs (hi.less hle) hr).mono ?_⟩
 rintro e w' ⟨v,mv,σ',Φ',rfl,r1,i1,s1,hq⟩
 have rest:∀l o,(σ.minus σa) l=some o→∃p,Φ.obj l=some p∧Φ'.obj l=some p∧∀R,p.blk=some R→R<w.heap.size∧¬aY Φ σa R∧w'.heap[R]?=w.heap[R]?:=by
  intro l o hl
  obtain⟨q1,q2⟩:=dJ hl
  obtain⟨p,hp,hR⟩:=(hi.own l o q2).place
  refine⟨p,hp,s1.le.obj _ _ hp,fun R hb=>?_⟩
  have hno:¬aY Φ σa R:=by
   rintro⟨l2,o2,p2,u1,u2,u3⟩
   have:=hi.inj l l2 o o2 p p2 R q2 (hle _ _ u1) hp u2 hb u3
   subst this
   rw[q1] at u1;cases u1
  exact⟨hR R hb,hno,s1.block R (hR R hb) hno⟩
 have hdis:∀l o,σ' l=some o→σ l=none∨∃o',σa l=some o':=by
  intro l o hl
  rcases s1.locs l o hl with q|q
  ·exact .inr q
  ·exact .inl (hi.fT q)
 have hnew:∀l o p R,σ' l=some o→Φ'.obj l=some p→p.blk=some R→aY Φ σa R∨w.heap.size≤R:=fun l o p R a b c=>s1.ownd R ⟨l,o,p,a,b,c⟩
 refine⟨v,mv,σ'.over (σ.minus σa),Φ',rfl,r1,⟨?_,?_,i1.snap,?_,i1.fresh⟩,⟨s1.le,s1.os,s1.tape,s1.output,s1.drawn,s1.size,?_,?_,?_,?_⟩,σ',hq,rfl,hdis⟩
 ·intro l o hl
  rcases jS hl with q|⟨q1,q2⟩
  ·exact i1.own l o q
  ·obtain⟨p,hp,hp',hR⟩:=rest l o q2
   exact(hi.own l o (dJ q2).2).mono s1.le fun p1 R h1 h2=>by
    rw[hp] at h1;cases h1
    exact(hR R h2).2.2
 ·intro l l' o o' p p' R hl hl' hp hp' hb hb'
  rcases jS hl with q|⟨q1,q2⟩<;>rcases jS hl' with q'|⟨q1',q2'⟩
  ·exact i1.inj l l' o o' p p' R q q' hp hp' hb hb'
  ·obtain⟨p2,u1,u2,u3⟩:=rest l' o' q2'
   rw[hp'] at u2;cases u2
   rcases hnew l o p R q hp hb with k|k
   ·exact absurd k (u3 R hb').2.1
   ·have:=(u3 R hb').1;omega
  ·obtain⟨p2,u1,u2,u3⟩:=rest l o q2
   rw[hp] at u2;cases u2
   rcases hnew l' o' p' R q' hp' hb' with k|k
   ·exact absurd k (u3 R hb).2.1
   ·have:=(u3 R hb).1;omega
  ·obtain⟨p2,u1,u2,u3⟩:=rest l o q2
   rw[hp] at u2;cases u2
   obtain⟨p3,v1,v2,v3⟩:=rest l' o' q2'
   rw[hp'] at v2;cases v2
   exact hi.inj l l' o o' p p' R (dJ q2).2 (dJ q2').2 u1 v1 hb hb'
 ·intro l o p R a u hl hp hb hu
  rcases jS hl with q|⟨q1,q2⟩
  ·exact i1.apart l o p R a u q hp hb hu
  ·obtain⟨p2,u1,u2,u3⟩:=rest l o q2
   rw[hp] at u2;cases u2
   intro e
   rcases s1.snapn a u hu with k|k|k
   ·exact hi.apart l o p R a u (dJ q2).2 u1 hb k e
   ·have:=(u3 R hb).1;omega
   ·rw[e] at k;exact(u3 R hb).2.1 k
 ·exact fun k hk hno=>s1.block k hk fun q=>hno (q.less hle)
 ·intro a u hu
  rcases s1.snapn a u hu with k|k|k
  ·exact .inl k
  ·exact .inr (.inl k)
  ·exact .inr (.inr (k.less hle))
 ·intro l o hl
  rcases jS hl with q|⟨q1,q2⟩
  ·rcases s1.locs l o q with⟨o',k⟩|k
   ·exact .inl ⟨o',hle _ _ k⟩
   ·exact .inr k
  ·exact .inl ⟨o,(dJ q2).2⟩
 ·rintro R ⟨l,o,p,hl,hp,hb⟩
  rcases jS hl with q|⟨q1,q2⟩
  ·rcases hnew l o p R q hp hb with k|k
   ·exact .inl (k.less hle)
   ·exact .inr k
  ·obtain⟨p2,u1,u2,u3⟩:=rest l o q2
   rw[hp] at u2;cases u2
   exact .inl ⟨l,o,p,(dJ q2).2,u1,hb⟩
theorem aA.less{P:Program}{g:FuncId}{ms:List MV}{σ:St}{Q Q':MV→St→Prop}(h:aA P g ms σ Q')(hq:∀v σ',Q' v σ'→∃σ1,σ1.le σ'∧Q v σ1):aA P g ms σ Q:=by
 refine⟨h.1,fun Φ w vs hi hr=>(h.2 Φ w vs hi hr).mono ?_⟩
 rintro e w' ⟨v,mv,σ',Φ',rfl,r1,i1,s1,k⟩
 obtain⟨σ1,hle,hk⟩:=hq mv σ' k
 exact⟨v,mv,σ1,Φ',rfl,r1,i1.less hle,s1.trans (.less _ hle),hk⟩
theorem aA.bS{P:Program}{g:FuncId}{ms:List MV}{σ:St}{Q:MV→St→Prop}(h:aA P g ms σ fun v σ'=>∃σ1,σ1.le σ'∧Q v σ1):aA P g ms σ Q:=h.less fun _ _ k=>k
theorem lY(σ:St):σ.minus St.none=σ:=by funext l;simp[St.minus,St.none]
theorem aA.pure{P:Program}{g:FuncId}{ms:List MV}{σ:St}{q:MV→Prop}(h:aA P g ms St.none fun v _=>q v):aA P g ms σ fun v σ'=>q v∧σ'=σ:=by
 refine(h.frame (St.none_le σ)).less ?_
 rintro v σ1 ⟨σ',hq,rfl,hd⟩
 refine⟨σ,fun l o hl=>?_,hq,rfl⟩
 rw[lY]
 simp only[St.over]
 cases hs:σ' l with
 | none=>exact hl
 | some o' =>
  rcases hd l o' hs with k|⟨_,k⟩
  ·rw[hl] at k;cases k
  ·simp[St.none] at k
theorem aA.CI{P:Program}{g:FuncId}{ms:List MV}{q:MV→Prop}(h:aA P g ms St.none fun v _=>q v):aA P g ms St.none fun v σ'=>q v∧σ'=St.none:=h.pure
theorem aC{P:Program}{g:FuncId}{ms:List MV}{σ:St}{r:MV}{k:MV→St→Prop}(h:aA P g ms St.none fun v _=>v=r)(hk:R (bT r σ k)):R (cW P g ms σ k):=by
 refine(aA.pure (σ:=σ) h).mono ?_
 rintro v σ' ⟨rfl,rfl⟩
 exact hk
inductive Flat:MV→Prop where
 | junk:Flat .junk
 | bool (b:Bool):Flat (.bool b)
 | int (k:IntKind) (n:Int):Flat (.int k n)
 | str (s:ByteArray):Flat (.str s)
 | nilp:Flat .nilp
 | aM:Flat .aM
 | lst0 (e:Nat):Flat (.lst e [] true)
 | nilm:Flat .nilm
 | nilfn:Flat .nilfn
 | nili:Flat .nili
 | agg {cs:List MV} (h:∀c,c∈cs→Flat c):Flat (.agg cs)
 | tup {cs:List MV} (h:∀c,c∈cs→Flat c):Flat (.tup cs)
theorem Flat.rel{Φ Φ':Phi}{m:MV}(h:Flat m):∀{v:Value},Rel Φ v m→Rel Φ' v m:=by
 induction h with
 | junk=>intro v r;exact .junk v
 | bool b=>intro v r;cases r;exact .bool b
 | int k n=>intro v r;cases r;exact .int k n
 | str s=>intro v r;cases r;exact .str s
 | nilp=>intro v r;cases r;exact .nilp
 | aM=>intro v r;cases r;exact .aM
 | nilm=>intro v r;cases r;exact .nilm
 | nilfn=>intro v r;cases r;exact .nilfn
 | nili=>intro v r;cases r;exact .nili
 | lst0 e =>
  intro v r
  cases r with
  | lstn=>exact .lstn e true
  | lst0 a e cap t ht hm=>exact .lst0 a e cap true ht hm
  | lst hl h0=>simp at hl;omega
 | agg h ih =>
  intro v r
  cases r with
  | agg h hc hr=>exact .agg h hc (fun i m hm=>ih m (List.mem_of_getElem? hm) (hr i m hm))
 | tup h ih =>
  intro v r
  cases r with
  | tup h hr=>exact .tup h (fun i m hm=>ih m (List.mem_of_getElem? hm) (hr i m hm))
theorem aA.Xo{P:Program}{g:FuncId}{ms ms':List MV}{σ:St}{q:MV→Prop}(h:aA P g ms' St.none fun v _=>q v)(hf:∀r,q r→Flat r)(hl:ms.length=ms'.length)
 (hv:∀(i:Nat) (m m':MV),ms[i]?=some m→ms'[i]?=some m'→View σ m m'):aA P g ms σ fun v σ'=>q v∧σ'=σ:=by
 refine⟨h.1,fun Φ w vs hi hr=>?_⟩
 classical
 have hs:OW Φ (Φ.sT w (fun _=>True)) w σ:=EO hi (St.le_refl σ) (fun _ _=>trivial)
 have hi':Inv (Φ.sT w (fun _=>True)) w St.none:=by
  refine⟨fun l o hl=>by simp[St.none] at hl,fun l l' o o' p p' R hl=>by simp[St.none] at hl,fun a v hv=>?_,fun l o p R a v hl=>by simp[St.none] at hl,hi.fresh.1,fun g i v q=>(y0 _ _ _).snap _ _ (hi.fresh.2.1 g i v q),hi.fresh.2.2.mono (y0 _ _ _).snap⟩
  rcases fV hv with q|⟨-,q⟩
  ·exact hi.snap a v q
  ·exact q
 have hr':iS (Φ.sT w (fun _=>True)) vs ms':=by
  refine⟨hr.1.trans hl,fun i m' hm'=>?_⟩
  have hlt:=(List.getElem?_eq_some_iff.1 hm').1
  obtain⟨m,hm⟩:∃m,ms[i]?=some m:=⟨_,List.getElem?_eq_getElem oM⟩
  exact(hv i m m' hm hm').rel hi hs (hr.2 i m hm)
 refine(h.2 _ w vs hi' hr').mono ?_
 rintro e w' ⟨v,mv,σ',Φ',rfl,r1,i1,s1,hq⟩
 have hblk:∀k,k<w.heap.size→w'.heap[k]?=w.heap[k]?:=fun k hk=>s1.block k hk fun⟨l,o,p,a,_⟩=>by simp[St.none] at a
 have hown:∀l o,σ l=some o→eY Φ w' l o:=fun l o hl'=>by
  obtain⟨p,hp,hR⟩:=(hi.own l o hl').place
  exact(hi.own l o hl').mono (.refl Φ) fun p1 R h1 h2=>by
   rw[hp] at h1;cases h1
   exact hblk R (hR R h2)
 refine⟨v,mv,σ,Φ,rfl,(hf mv hq).rel r1,⟨hown,hi.inj,fun a u hu=>?_,hi.apart,hi.fresh⟩,⟨.refl Φ,s1.os,s1.tape,s1.output,s1.drawn,s1.size,fun k hk _=>hblk k hk,fun _ _ h=>.inl h,fun l o h=>.inl ⟨o,h⟩,fun _ h=>.inl h⟩,hq,rfl⟩
 have h1:=hi.snap a u hu
 have:=World.block_lt_of_cell? w a h1
 rw[World.gC (hblk _ this)]
 exact h1
theorem uW{P:Program}{g:FuncId}{ms:List MV}(ms':List MV){σ:St}{r:MV}{k:MV→St→Prop}(h:aA P g ms' St.none fun v _=>v=r)(hf:Flat r)(hl:ms.length=ms'.length)
 (hv:∀(i:Nat) (m m':MV),ms[i]?=some m→ms'[i]?=some m'→View σ m m')(hk:R (bT r σ k)):R (cW P g ms σ k):=by
 refine(aA.Xo (σ:=σ) h (fun _ e=>e ▸ hf) hl hv).mono ?_
 rintro v σ' ⟨rfl,rfl⟩
 exact hk
theorem bK{P:Program}{g:FuncId}{ms:List MV}{σa σ:St}{Q k:MV→St→Prop}(h:aA P g ms σa Q)(hle:σa.le σ)
 (hk:∀v σ',Q v σ'→(∀l o,σ' l=some o→σ l=none∨∃o',σa l=some o')→R (bT v (σ'.over (σ.minus σa)) k)):R (cW P g ms σ k):=by
 refine(h.frame hle).mono ?_
 rintro v σ1 ⟨σ',hq,rfl,hd⟩
 exact hk v σ' hq hd
theorem sK{σ σa:St}(h:σa.le σ):σa.over (σ.minus σa)=σ:=by
 funext l
 simp only[St.over,St.minus]
 cases ha:σa l with
 | none=>rfl
 | some o=>exact(h l o ha).symm
theorem b6{P:Program}{g:FuncId}{ms:List MV}{σa σ:St}{r:MV}{k:MV→St→Prop}(h:aA P g ms σa fun v σ'=>v=r∧σ'=σa)(hle:σa.le σ)(hk:R (bT r σ k)):R (cW P g ms σ k):=by
 refine bK h hle ?_
 rintro v σ' ⟨rfl,rfl⟩ -
 rw[sK hle]
 exact hk
theorem bE(x y:St)(l:Nat)(o:aT):(x.set l o).over y=(x.over y).set l o:=by
 funext k
 simp only[St.over,St.set]
 by_cases h:k=l
 ·simp[h]
 ·simp[h]
theorem dC(y:St):St.none.over y=y:=rfl
theorem aA.seen{P:Program}{g:FuncId}{ms:List MV}{σ:St}{r:MV}(h:aA P g ms σ fun v σ'=>View σ' v r):aA P g ms σ fun v _=>v=r:=by
 refine aA.ghost (h.mono fun v σ' hv=>⟨r,St.none,?_,rfl⟩)
 exact bA.freeze σ' (St.le_refl _) (St.none_le _) (fun k o hk=>by simp[St.none] at hk) (fun p hp=>by
  simp only[List.mem_singleton] at hp
  subst hp
  simpa[cQ] using hv)
theorem View.loose{σ:St}{e:Nat}{xs:List (List MV)}{t:Bool}:View σ (.lst e xs t) (.lst e xs false):=by
 cases t
 ·exact .same _
 ·exact .tight e xs
theorem View.two{σ:St}{a b a' b':MV}(h:View σ a a')(k:View σ b b'):View σ (.tup [a,b]) (.tup [a',b']):=by
 refine .tup rfl fun i m m' hm hm'=>?_
 match i with
 | 0=>simp only[List.getElem?_cons_zero,Option.some.injEq] at hm hm';subst hm;subst hm';exact h
 | 1=>simp only[List.getElem?_cons_succ,List.getElem?_cons_zero,Option.some.injEq] at hm hm';subst hm;subst hm';exact k
 | i+2=>simp at hm
theorem wT{σ:St}{K:Nat→Prop}(h:R (oH σ K)):R (oH σ K):=h
theorem wN{σ:St}{K:Nat→Prop}(h:∀l,σ l=none→R (K l)):R (oH σ K):=h
theorem wS{σ:St}{l k:Nat}{o:aT}{p:Prop}(h:l≠k→k≠l→σ l=none→p):(σ.set k o) l=none→p:=AZ h
theorem wI{c A B:Prop}(h1:c→R A)(h2:¬c→R B):R (mif c A B):=Vs h1 h2
theorem wF{p:Prop}[Decidable p]{A B:Prop}(h1:p→R A)(h2:¬p→R B):R (kL (.bool (decide p)) A B):=Nq h1 h2
theorem wG{p:Prop}[Decidable p]{A B:Prop}(h1:p→R A)(h2:¬p→R B):R (cG (.bool (decide p)) true A B):=Jo h1 h2
theorem wH{p:Prop}[Decidable p]{A B:Prop}(h1:¬p→R A)(h2:p→R B):R (cG (.bool (decide p)) false A B):=Gp h1 h2
theorem wL{α:Type}{β:Type}:(∀a b:List α,(a++b).length=a.length+b.length)∧(∀(a:List α) (i:Nat),(a.take i).length=min i a.length)∧(∀(a:List α) (i:Nat),(a.drop i).length=a.length - i) ∧
  (∀(x:α) (a:List α),(x::a).length=a.length+1)∧([]:List α).length=0∧(∀(g:α→β) (a:List α),(a.map g).length=a.length)∧(∀(a:List α) (i:Nat) (x:α),(a.set i x).length=a.length) ∧
  (∀(n:Nat) (x:α),(List.replicate n x).length=n) :=
 ⟨fun _ _=>List.length_append,fun _ _=>List.length_take,fun _ _=>List.length_drop,fun _ _=>rfl,rfl,fun _ _=>List.length_map _,fun _ _ _=>List.length_set,fun _ _=>List.length_replicate⟩
theorem ddL{p:Prop}(h:p:=by first|decide|assumption|omega|(simp only[wL];omega)):p:=h
theorem up{P:Program}{g:FuncId}{ms:List MV}{σ:St}{r:MV}{k:MV→St→Prop}(h:aA P g ms St.none fun v _=>v=r)(hk:R (bT r σ k)):R (cW P g ms σ k):=aC h hk
end

section
structure Eff where
 C:Prop
 kill:Option Nat
 upd:Option St
 new:Option aT
 v:Nat→MV→Prop
abbrev GF:=List Nat × (List aT→Option Eff)
def Eff.upl(e:Eff)(l:Nat):Option aT:=match e.upd with|some u=>u l|none=>none
def Eff.app(e:Eff)(σ:St):St:=fun l=>if (e.upl l).isSome=true then e.upl l else if e.kill=some l then none else σ l
theorem uV{e:Eff}{l:Nat}(h:(e.upl l).isSome=true):∃p,e.upd=some p∧p l≠none:=by
 unfold Eff.upl at h
 cases hu:e.upd with
 | none=>rw[hu] at h;cases h
 | some p=>rw[hu] at h;exact⟨p,rfl,fun q=>by simp only[q] at h;cases h⟩
theorem H4{e:Eff}{l:Nat}(h:∀p,e.upd=some p→p l=none):e.upl l=none:=by
 unfold Eff.upl
 cases hu:e.upd with
 | none=>rfl
 | some p=>exact h p hu
def Eff.out(e:Eff)(U:Nat→Prop)(σ:St)(v:MV)(U':Nat→Prop)(σ':St):Prop :=
 match e.new with
 | none=>e.v 0 v∧U'=U∧σ'=e.app σ
 | some o=>∃l,¬U l∧e.v l v∧U'=(fun x=>x=l∨U x)∧σ'=(e.app σ).set l o
def gs(U:Nat→Prop)(σ:St)(g:GF)(k:MV→(Nat→Prop)→St→Prop):Prop :=
 ∃os e,g.1.map σ=os.map some∧g.2 os=some e∧e.C∧(∀l,∃v,e.v l v)∧∀v U' σ',e.out U σ v U' σ'→k v U' σ'
def Wf(g:GF):Prop:=∀os e,os.length=g.1.length→g.2 os=some e→(∀l,e.kill=some l→l∈g.1)∧(∀p,e.upd=some p→∀l,p l≠none→l∈g.1)
def kT(g:GF):Prop:=∀os e,os.length=g.1.length→g.2 os=some e→e.upd=none
def NoW(g:GF):Prop:=∀os e,os.length=g.1.length→g.2 os=some e→e.upd=none∧e.kill=none
def Dom(U:Nat→Prop)(σ:St):Prop:=∀l,σ l≠none→U l
def Fin(U:Nat→Prop):Prop:=∃n,∀l,n≤l→¬U l
theorem eD{e:Eff}(h:e.upd=none∧e.kill=none)(σ:St):e.app σ=σ:=by
 funext l;simp[Eff.app,Eff.upl,h.1,h.2]
theorem i7{rd:List Nat}{σ:St}{os:List aT}(h:rd.map σ=os.map some):os.length=rd.length:=by
 have:=congrArg List.length h;simpa using this.symm
theorem lD{rd:List Nat}{σ:St}{os:List aT}(h:rd.map σ=os.map some){l:Nat}(hl:l∈rd):σ l≠none:=by
 have:σ l∈rd.map σ:=List.mem_map_of_mem hl
 rw[h] at this
 obtain⟨o,_,ho⟩:=List.mem_map.1 this
 rw[←ho];simp
theorem map_inj{rd:List Nat}{σ σ':St}{os os':List aT}(h:rd.map σ=os.map some)(h':rd.map σ'=os'.map some)(he:∀l,l∈rd→σ l=σ' l):os=os':=by
 have:rd.map σ=rd.map σ':=List.map_congr_left he
 rw[h,h'] at this
 clear h h' he
 induction os generalizing os' with
 | nil=>cases os' with
  | nil=>rfl
  | cons a r=>simp at this
 | cons b r ih=>cases os' with
  | nil=>simp at this
  | cons a r' =>
   simp only[List.map_cons,List.cons.injEq,Option.some.injEq] at this
   rw[this.1,ih this.2]
theorem yR{U:Nat→Prop}{σ:St}{g:GF}{k k':MV→(Nat→Prop)→St→Prop}(h:gs U σ g k)(hd:Dom U σ)(hf:Fin U)(hk:∀v U' σ',Dom U' σ'→Fin U'→(∀l,U l→U' l)→k v U' σ'→k' v U' σ')(wf:Wf g):gs U σ g k':=by
 obtain⟨os,e,h1,h2,h3,h4,h5⟩:=h
 refine⟨os,e,h1,h2,h3,h4,fun v U' σ' ho=>?_⟩
 have hw:=wf os e (i7 h1) h2
 have hdom:Dom U (e.app σ):=fun l hl=>by
  simp only[Eff.app] at hl
  split at hl
  ·rename_i hu
   obtain⟨p,hup,hp⟩:=uV hu
   exact hd l (lD h1 (hw.2 p hup l hp))
  ·split at hl
   ·exact absurd rfl hl
   ·exact hd l hl
 refine hk v U' σ' ?_ ?_ ?_ (h5 v U' σ' ho)
 all_goals
  unfold Eff.out at ho
  split at ho
 ·obtain⟨-,rfl,rfl⟩:=ho;exact hdom
 ·obtain⟨l,-,-,rfl,rfl⟩:=ho
  intro k hk
  simp only[St.set] at hk
  split at hk
  ·rename_i e;exact .inl e
  ·exact .inr (hdom k hk)
 ·obtain⟨-,rfl,rfl⟩:=ho;exact hf
 ·obtain⟨l,-,-,rfl,rfl⟩:=ho
  obtain⟨n,hn⟩:=hf
  exact⟨max n (l+1),fun k hk q=>q.elim (fun e=>by omega) (hn k oM)⟩
 ·obtain⟨-,rfl,rfl⟩:=ho;exact fun _ h=>h
 ·obtain⟨l,-,-,rfl,rfl⟩:=ho;exact fun _ h=>.inr h
theorem Td{U U':Nat→Prop}{σ:St}{g:GF}{k:MV→(Nat→Prop)→St→Prop}(h:gs U σ g k)(hu:∀l,U l→U' l)(hk:∀v V V' σ,(∀l,V l→V' l)→k v V σ→k v V' σ):gs U' σ g k:=by
 obtain⟨os,e,h1,h2,h3,h4,h5⟩:=h
 refine⟨os,e,h1,h2,h3,h4,fun v V σ' ho=>?_⟩
 unfold Eff.out at ho h5
 split at ho
 ·rename_i hn
  obtain⟨a,rfl,rfl⟩:=ho
  refine hk v U _ _ hu (h5 v U _ ?_)
  rw[hn];exact⟨a,rfl,rfl⟩
 ·rename_i o hn
  obtain⟨l,a,b,rfl,rfl⟩:=ho
  refine hk v (fun x=>x=l∨U x) _ _ (fun x hx=>hx.imp id (hu x)) (h5 v _ _ ?_)
  rw[hn];exact⟨l,fun q=>a (hu l q),b,rfl,rfl⟩
theorem Q5{e:Eff}{U:Nat→Prop}{σ:St}(hf:Fin U)(hv:∀l,∃v,e.v l v)(rd:List Nat):∃v U' σ',e.out U σ v U' σ'∧∀l,l∈rd→σ' l=(e.app σ) l:=by
 unfold Eff.out
 cases e.new with
 | none=>obtain⟨v,hv⟩:=hv 0;exact⟨v,U,e.app σ,⟨hv,rfl,rfl⟩,fun _ _=>rfl⟩
 | some o =>
  obtain⟨n,hn⟩:=hf
  have key:∃m,∀l,l∈rd→l<m:=by
   clear hv
   induction rd with
   | nil=>exact⟨0,by simp⟩
   | cons a r ih =>
    obtain⟨m,hm⟩:=ih
    refine⟨max m (a+1),fun l hl=>?_⟩
    rcases List.mem_cons.1 hl with q|q
    ·omega
    ·have:=hm l q;omega
  obtain⟨m,hm⟩:=key
  obtain⟨v,hv⟩:=hv (max n m)
  refine⟨v,_,_,⟨max n m,hn _ oM,hv,rfl,rfl⟩,fun l hl=>?_⟩
  have:=hm l hl
  exact aG _ _ _ _ oM
theorem yM{e:Eff}{σ:St}{l:Nat}{o:aT}(hk:e.kill≠some l)(hu:∀p,e.upd=some p→p l=none):e.app (σ.set l o)=(e.app σ).set l o:=by
 funext k
 simp only[Eff.app,St.set]
 by_cases h:k=l
 ·subst h
  simp[H4 hu,hk]
 ·simp only[if_neg h]
theorem Tf{U:Nat→Prop}{σ:St}{gx gy:GF}{K:MV→MV→(Nat→Prop)→St→Prop}(hd:Dom U σ)(hf:Fin U)(wx:Wf gx)(wy:Wf gy)
 (hc:((gy.1=[]∨kT gx)∧(gx.1=[]∨NoW gy)∧(NoW gx∨NoW gy))∨∀l,l∈gx.1→l∉gy.1)
 (hK:∀v u V V' σ,(∀l,V l→V' l)→K v u V σ→K v u V' σ)
 (h:gs U σ gx fun v U1 σ1=>gs U1 σ1 gy fun u U2 σ2=>K v u U2 σ2) :
  gs U σ gy fun u U1 σ1=>∀U1',(∀l,U1 l→U1' l)→gs U1' σ1 gx fun v U2 σ2=>K v u U2 σ2:=by
 obtain⟨ox,ex,x1,x2,x3,x4,x5⟩:=h
 have wx':=wx ox ex (i7 x1) x2
 -- what y reads is there already
 have agree:∀v U1 σ1,ex.out U σ v U1 σ1→∀oy:List aT,gy.1.map σ1=oy.map some→(∀l,l∈gy.1→σ1 l=(ex.app σ) l)→∀l,l∈gy.1→σ1 l=σ l:=by
  intro v U1 σ1 ho oy hoy hsame l hl
  rw[hsame l hl]
  rcases hc.imp_left (·.1) with(c|c)|c
  ·rw[c] at hl;cases hl
  ·have hu:=c ox ex (i7 x1) x2
   have hne:=lD hoy hl
   rw[hsame l hl] at hne
   have hun:ex.upl l=none:=H4 fun p hp=>by rw[hu] at hp;cases hp
   simp only[Eff.app,hun,Option.isSome_none,Bool.false_eq_true,if_false] at hne ⊢
   split at hne
   ·exact absurd rfl hne
   ·rename_i q2;rw[if_neg q2]
  ·simp only[Eff.app]
   rw[if_neg,if_neg]
   ·intro e;exact c l (wx'.1 l e) hl
   ·intro e
    obtain⟨p,hp,he⟩:=uV e
    exact c l (wx'.2 p hp l he) hl
 obtain⟨v0,V0,σ0,out0,same0⟩:=Q5 (σ:=σ) hf x4 gy.1
 obtain⟨oy,ey,y1,y2,y3,y4,y5⟩:=x5 v0 V0 σ0 out0
 have ag0:=agree v0 V0 σ0 out0 oy y1 same0
 have y1':gy.1.map σ=oy.map some:=by rw[←y1];exact(List.map_congr_left ag0).symm
 have wy':=wy oy ey (i7 y1) y2
 refine⟨oy,ey,y1',y2,y3,y4,fun u U1 σ1 hoy U1' hU1=>?_⟩
 -- what x reads is there still
 have hx1:gx.1.map σ1=ox.map some:=by
  rw[←x1]
  refine List.map_congr_left fun l hl=>?_
  rcases hc.imp_left (·.2.1) with(c|c)|c
  ·rw[c] at hl;cases hl
  ·have hw:=c oy ey (i7 y1) y2
   unfold Eff.out at hoy
   split at hoy
   ·obtain⟨-,-,rfl⟩:=hoy;rw[eD hw]
   ·obtain⟨k,q1,q2,q3,rfl⟩:=hoy
    rw[eD hw]
    refine aG _ _ _ _ (fun e=>q1 ?_)
    subst e
    exact hd l (lD x1 hl)
  ·have hap:(ey.app σ) l=σ l:=by
    simp only[Eff.app]
    rw[if_neg,if_neg]
    ·intro e;exact c l hl (wy'.1 l e)
    ·intro e
     obtain⟨p,hp,he⟩:=uV e
     exact c l hl (wy'.2 p hp l he)
   unfold Eff.out at hoy
   split at hoy
   ·obtain⟨-,-,rfl⟩:=hoy;exact hap
   ·obtain⟨k,q1,q2,q3,rfl⟩:=hoy
    rw[←hap]
    refine aG _ _ _ _ (fun e=>q1 ?_)
    subst e
    exact hd l (lD x1 hl)
 refine⟨ox,ex,hx1,x2,x3,x4,fun v U2 σ2 hox=>?_⟩
 -- the two in their old order,at the same places
 have noty:∀l,¬U l→ey.kill≠some l∧∀p,ey.upd=some p→p l=none:=fun l hl =>
  ⟨fun e=>hl (hd l (lD y1' (wy'.1 l e))),fun p hp=>Classical.byContradiction fun e=>hl (hd l (lD y1' (wy'.2 p hp l e)))⟩
 have notx:∀l,¬U l→ex.kill≠some l∧∀p,ex.upd=some p→p l=none:=fun l hl =>
  ⟨fun e=>hl (hd l (lD x1 (wx'.1 l e))),fun p hp=>Classical.byContradiction fun e=>hl (hd l (lD x1 (wx'.2 p hp l e)))⟩
 have comm:ex.app (ey.app σ)=ey.app (ex.app σ):=by
  rcases hc.imp_left (·.2.2) with(c|c)|c
  ·rw[eD (c ox ex (i7 x1) x2),eD (c ox ex (i7 x1) x2)]
  ·rw[eD (c oy ey (i7 y1) y2),eD (c oy ey (i7 y1) y2)]
  ·funext l
   by_cases hx:l∈gx.1
   ·have hy:=c l hx
    have n1:¬(ey.upl l).isSome=true:=fun e=>by
     obtain⟨p,hp,he⟩:=uV e
     exact hy (wy'.2 p hp l he)
    have n2:ey.kill≠some l:=fun e=>hy (wy'.1 l e)
    simp only[Eff.app,if_neg n1,if_neg n2]
   ·have n1:¬(ex.upl l).isSome=true:=fun e=>by
     obtain⟨p,hp,he⟩:=uV e
     exact hx (wx'.2 p hp l he)
    have n2:ex.kill≠some l:=fun e=>hx (wx'.1 l e)
    simp only[Eff.app,if_neg n1,if_neg n2]
 have finish:∀V σ',ex.out U σ v V σ'→(∀l,l∈gy.1→σ' l=(ex.app σ) l)→∀W σ'',ey.out V σ' u W σ''→K v u W σ'':=by
  intro V σ' ho hsame W σ'' hoy'
  obtain⟨oy2,ey2,z1,z2,z3,z4,z5⟩:=x5 v V σ' ho
  have ag:=agree v V σ' ho oy2 z1 hsame
  have:oy=oy2:=map_inj y1' z1 (fun l hl=>(ag l hl).symm)
  subst this
  rw[y2] at z2;cases z2
  exact z5 u W σ'' hoy'
 have hmem:∀l,¬U l→l∉gy.1:=fun l hl q=>hl (hd l (lD y1' q))
 unfold Eff.out at hox hoy
 cases hnx:ex.new with
 | none =>
  rw[hnx] at hox
  obtain⟨a1,rfl,rfl⟩:=hox
  have hout:ex.out U σ v U (ex.app σ):=by unfold Eff.out;rw[hnx];exact⟨a1,rfl,rfl⟩
  cases hny:ey.new with
  | none =>
   rw[hny] at hoy
   obtain⟨b1,rfl,rfl⟩:=hoy
   refine hK v u U1 U2 _ hU1 (finish _ _ hout (fun _ _=>rfl) _ _ ?_)
   unfold Eff.out;rw[hny];exact⟨b1,rfl,comm⟩
  | some o =>
   rw[hny] at hoy
   obtain⟨l,b0,b1,rfl,rfl⟩:=hoy
   refine hK v u _ U2 _ hU1 (finish _ _ hout (fun _ _=>rfl) _ _ ?_)
   unfold Eff.out;rw[hny]
   refine⟨l,b0,b1,rfl,?_⟩
   rw[yM (notx l b0).1 (notx l b0).2,comm]
 | some p =>
  rw[hnx] at hox
  obtain⟨k,a0,a1,rfl,rfl⟩:=hox
  have hout:∀W:Nat→Prop,(∀l,U l→W l)→¬W k→ex.out U σ v (fun x=>x=k∨U x) ((ex.app σ).set k p):=fun W hW hk=>by
   unfold Eff.out;rw[hnx];exact⟨k,fun q=>hk (hW k q),a1,rfl,rfl⟩
  cases hny:ey.new with
  | none =>
   rw[hny] at hoy
   obtain⟨b1,rfl,rfl⟩:=hoy
   have hk:¬U1 k:=fun q=>a0 (hU1 k q)
   refine hK v u (fun x=>x=k∨U1 x) _ _ (fun l q=>q.imp id (hU1 l)) (finish _ _ (hout U1' hU1 a0) (fun l hl=>aG _ _ _ _ (fun e=>hmem k hk (e ▸ hl))) _ _ ?_)
   unfold Eff.out;rw[hny]
   refine⟨b1,rfl,?_⟩
   rw[comm,yM (noty k hk).1 (noty k hk).2]
  | some o =>
   rw[hny] at hoy
   obtain⟨l,b0,b1,rfl,rfl⟩:=hoy
   have hk:¬U k:=fun q=>a0 (hU1 k (.inr q))
   have hkl:k≠l:=fun e=>a0 (hU1 k (.inl e))
   refine hK v u (fun x=>x=l∨(x=k∨U x)) _ _ (fun x q=>?_) (finish _ _ (hout U1' (fun x q=>hU1 x (.inr q)) a0) (fun x hx=>aG _ _ _ _ (fun e=>hmem k hk (e ▸ hx))) _ _ ?_)
   ·rcases q with q|q|q
    ·exact .inr (hU1 x (.inl q))
    ·exact .inl q
    ·exact .inr (hU1 x (.inr q))
   ·unfold Eff.out;rw[hny]
    refine⟨l,fun q=>q.elim (fun e=>hkl e.symm) b0,b1,rfl,?_⟩
    rw[yM (notx l b0).1 (notx l b0).2,comm,yM (noty k hk).1 (noty k hk).2,set_comm _ _ _ (Ne.symm hkl)]
end

section
def St.ofList:List Nat→List aT→St
 | l::ls,o::os=>(St.ofList ls os).set l o
 | _,_=>St.none
structure Fact where
 rd:List Nat
 q:MV→Prop
 new:Option (List aT × (Nat→MV))
abbrev cD:=FuncId→List MV→Option Fact
def bZ:GF:=([],fun _=>none)
def eI(pv:PV):GF:=([],fun _=>pv.map fun x=>⟨x.1,none,none,none,fun _ u=>u=x.2⟩)
def iA(C:Prop)(o:aT)(v:Nat→MV):GF:=([],fun _=>some ⟨C,none,none,some o,fun l u=>u=v l⟩)
def l7:MV→List Nat
 | .vec _ l _ _=>[l]
 | _=>[]
def HW(os:List aT):St:=fun _=>os.head?
def oW(P:Program)(t:TypeId):MV→GF
 | .ptr l i o=>([l],fun os=>match os with
  | [.row _ _ xs]=>some ⟨(td P t).ok=true∧i<xs.length∧o+(td P t).size≤(xs.getD i []).length∧0<(td P t).size,none,none,none,fun _ u=>u=eA (td P t) (xs.getD i []) o⟩
  | _=>none)
 | .cptr cs=>eI (some ((td P t).ok=true∧(td P t).size≤cs.length∧0<(td P t).size,eA (td P t) cs 0))
 | _=>bZ
def eE(P:Program)(t:TypeId)(x y:MV):GF :=
 match x with
 | .ptr l i o=>([l],fun os=>match os with
  | [.row tt e xs]=>some ⟨(td P t).ok=true∧i<xs.length∧y.cells.all MV.aL=true∧y.cells.length=(td P t).size∧o+y.cells.length≤(xs.getD i []).length,none,some (St.none.set l (.row tt e (xs.set i (laid (xs.getD i []) o y.cells)))),none,fun _ u=>u=.junk⟩
  | _=>none)
 | _=>bZ
def mK(P:Program)(t xt:TypeId)(s x:MV):GF :=
 match (td P t).k with
 | .slice el=>match s with
  | .aM=>(l7 x,fun os=>match fG (HW os) (td P el).size x with
   | some ys=>some ⟨(td P xt).k.gA=true∧(td P el).zok=true∧Fits ys.length (td P el).bytes,none,none,some (.row el (td P el).size ys),fun l u=>u=.vec (td P el).size l 0 ys.length⟩
   | none=>none)
  | .lst e xs true=>(l7 x,fun os=>match fG (HW os) (td P el).size x with
   | some ys=>some ⟨(td P xt).k.gA=true∧(td P el).zok=true∧e=(td P el).size∧(xs=[]∨0<ys.length)∧Fits (xs.length+ys.length) (td P el).bytes,none,none,some (.row el (td P el).size (xs++ys)),fun l u=>u=.vec (td P el).size l 0 (xs.length+ys.length)⟩
   | none=>none)
  | .vec e l lo n=>(l::l7 x,fun os=>match os with
   | .row tt e' xs::os=>match fG (HW os) (td P el).size x with
    | some ys=>some ⟨(td P xt).k.gA=true∧(td P el).zok=true∧e=(td P el).size∧e'=(td P el).size∧tt=el∧lo=0∧lo+n≤xs.length∧Fits (n+ys.length) (td P el).bytes,some l,none,some (.row el (td P el).size (fW xs lo n ys)),fun l' u=>u=.vec (td P el).size l' 0 (n+ys.length)⟩
    | none=>none
   | _=>none)
  | _=>bZ
 | _=>bZ
def eH(P:Program)(ρ:Operand→MV)(t:TypeId)(len:Nat)(parts:Array (Nat × Operand)):GF :=
 match (td P t).k with
 | .slice el=>iA ((td P el).zok=true∧parts.toList.map (·.1)=List.range len∧(parts.toList.all fun p=>(ρ p.2).cells.all MV.aL&&(ρ p.2).cells.length==(td P el).size)=true∧len * (td P el).size≤16777216∧len≤16777216)
   (.row el (td P el).size (parts.toList.map fun p=>(ρ p.2).cells)) (fun l=>.vec (td P el).size l 0 len)
 | _=>bZ
def gD(P:Program)(t:TypeId)(x y:MV):GF :=
 match (td P t).k,x,y with
 | .slice el,.int .i64 n,.int .i64 c=>iA ((td P el).zok=true∧0≤n∧n≤c∧Fits c.toNat (td P el).bytes) (.row el (td P el).size (List.replicate n.toNat (td P el).zero)) (fun l=>.vec (td P el).size l 0 n.toNat)
 | _,_,_=>bZ
def iY(P:Program)(s d:TypeId)(x:MV):GF :=
 match (td P s).k,(td P d).k,x with
 | .str,.slice el,.str b=>iA ((td P el).k=.int .u8∧FZ el=true∧b.size≤140737488355328) (.row el 1 (b.toList.map fun c=>[.int .u8 (c.toNat:Int)])) (fun l=>.vec 1 l 0 b.size)
 | .slice el,.str,.str _=>bZ
 | .slice el,.str,x=>(l7 x,fun os=>match fG (HW os) 1 x with
  | some ys=>some ⟨(td P el).k=.int .u8∧ys.all isByte=true,none,none,none,fun _ u=>u=.str (bytesOf ys)⟩
  | none=>none)
 | _,_,x=>eI (tQ P s d x)
def Tb(P:Program)(g:FuncId)(ms:List MV)(ts:List aT)(u:Nat→MV):GF:=match ts with
 | [o]=>iA (aA P g ms St.none fun v σ'=>∃l,v=u l∧σ'=St.none.set l o) o u
 | _=>bZ
def iH(P:Program)(C:cD)(g:FuncId)(ms:List MV):GF :=
 match C g ms with
 | some ⟨rd,q,none⟩=>(rd,fun os=>some ⟨aA P g ms (St.ofList rd os) (fun v σ'=>q v∧σ'=St.ofList rd os),none,none,none,fun _ u=>q u⟩)
 | some ⟨[],_,some (ts,u)⟩=>Tb P g ms ts u
 | some ⟨l::rd,_,some (ts,u)⟩=>(l::rd,fun os=>some ⟨aA P g ms (St.ofList (l::rd) os) (fun v σ'=>v=u l∧σ'=(St.ofList (l::rd) ts).over (St.ofList (l::rd) os)),none,some (St.ofList (l::rd) ts),none,fun _ w=>w=u l⟩)
 | _=>bZ
def j7(P:Program)(t:TypeId)(m x:MV)(ok:Bool):GF :=
 match (td P t).k,m,x with
 | .map kt et,.mapv l,.int kd n=>([l],fun os=>match os with
  | [.mp es]=>some ⟨(td P kt).k=.int kd∧(td P et).zok=true∧(es.all fun p=>isK kd p.1)=true,none,none,none,fun _ u=>u=if ok=true then .tup [(dQ n es).getD (xF (td P et)),.bool (dQ n es).isSome] else(dQ n es).getD (xF (td P et))⟩
  | _=>none)
 | _,_,_=>bZ
def mL(P:Program)(t:TypeId)(m x y:MV):GF :=
 match (td P t).k,m,x with
 | .map kt _,.mapv l,.int kd n=>([l],fun os=>match os with
  | [.mp es]=>some ⟨(td P kt).k=.int kd∧(es.all fun p=>isK kd p.1)=true,none,some (St.none.set l (.mp (dG kd n y es))),none,fun _ u=>u=.junk⟩
  | _=>none)
 | _,_,_=>bZ
def Pl(C:cD):Prop:=∀g ms rd q x,C g ms=some ⟨rd,q,some x⟩→rd=[]
def cD.pl(C:cD):cD:=fun g ms=>(C g ms).map fun F=>match F with
 | ⟨rd,q,none⟩=>⟨rd,q,none⟩
 | ⟨_,q,some x⟩=>⟨[],q,some x⟩
theorem cD.LD(C:cD):Pl C.pl:=by
 intro g ms rd q x h
 unfold cD.pl at h
 cases hC:C g ms with
 | none=>rw[hC] at h;cases h
 | some F =>
  rw[hC] at h
  obtain⟨rd',q',n⟩:=F
  cases n with
  | none=>simp at h
  | some y=>simp at h;exact h.1.symm ▸ rfl
inductive iT where
 | no
 | all
 | these (L:List FuncId)
def iT.stays:iT→Operand→Bool
 | .no,_=>true
 | .these L,.func g=>!L.contains g
 | _,_=>false
def iT.may:iT→FuncId→Prop
 | .no,_=>False
 | .all,_=>True
 | .these L,g=>g∈L
def PlU(u:iT)(C:cD):Prop:=∀g ms rd q x,C g ms=some ⟨rd,q,some x⟩→rd=[]∨u.may g
theorem Pl.u{C:cD}(h:Pl C){u:iT}:PlU u C:=fun g ms rd q x e=>.inl (h g ms rd q x e)
def gop(P:Program)(C:cD)(f:FR):Op→GF
 | .alloc t=>iA ((td P t).zok=true) (.row t (td P t).size [(td P t).zero]) (fun l=>.ptr l 0 0)
 | .box t x=>iA ((aE f x).cells.all MV.aL=true) (.row t (aE f x).cells.length [(aE f x).cells]) (fun l=>.ptr l 0 0)
 | .load t x=>oW P t (aE f x)
 | .store t x y=>eE P t (aE f x) (aE f y)
 | .lookup t m x ok=>j7 P t (aE f m) (aE f x) ok
 | .mapUpdate t m x y=>mL P t (aE f m) (aE f x) (aE f y)
 | .buildSlice t len parts=>eH P (aE f) t len parts
 | .makeSlice t x y=>gD P t (aE f x) (aE f y)
 | .convert s d x=>iY P s d (aE f x)
 | .call ⟨.builtin .append,args,ts⟩=>match args.toList,ts.toList with
  | [s,x],[t,xt]=>mK P t xt (aE f s) (aE f x)
  | _,_=>bZ
 | .call ⟨.builtin b,args,ts⟩=>if ts.toList.length=args.toList.length then eI (eK P b ts.toList.toArray (args.toList.map (aE f))) else bZ
 | .call ⟨.value x,args,ts⟩=>match aE f x with
  | .fn (.func g) ms ns=>iH P C g (ms++args.toList.map (aE f)++ns)
  | _=>bZ
 | .call ⟨.invoke _ _,_,_⟩=>bZ
 | .defer _=>bZ
 | op=>eI (qop P f op)
theorem AD:∀{ls:List Nat} {os:List aT} {k:Nat},St.ofList ls os k≠none→k∈ls
 | [],_,k,h=>absurd rfl h
 | l::ls,[],k,h=>absurd rfl h
 | l::ls,o::os,k,h=>by
  by_cases e:k=l
  ·subst e;exact List.mem_cons_self ..
  ·refine List.mem_cons_of_mem _ (AD (os:=os) fun q=>h ?_)
   simp only[St.ofList]
   rw[aG _ _ _ _ e];exact q
theorem SD{l:Nat}{o:aT}{rd:List Nat}:∀p:St,some (St.none.set l o)=some p→∀k,p k≠none→k∈l::rd:=fun p h k hk=>by
 cases h
 by_cases e:k=l
 ·subst e;exact List.mem_cons_self ..
 ·exact absurd (aG _ _ _ _ e) hk
theorem cZ(pv:PV):Wf (eI pv)∧NoW (eI pv)∧kT (eI pv)∧(eI pv).1=[]:=by
 have key:∀os e,(eI pv).2 os=some e→e.upd=none∧e.kill=none:=fun os e h=>by
  simp only[eI,Option.map_eq_some_iff] at h
  obtain⟨x,-,rfl⟩:=h
  exact⟨rfl,rfl⟩
 exact⟨fun os e _ h=>by simp[key os e h],fun os e _ h=>key os e h,fun os e _ h=>(key os e h).1,rfl⟩
theorem eN(C:Prop)(o:aT)(v:Nat→MV):Wf (iA C o v)∧NoW (iA C o v)∧kT (iA C o v)∧(iA C o v).1=[]:=by
 have key:∀os e,(iA C o v).2 os=some e→e.upd=none∧e.kill=none:=fun os e h=>by
  simp only[iA,Option.some.injEq] at h
  subst h;exact⟨rfl,rfl⟩
 exact⟨fun os e _ h=>by simp[key os e h],fun os e _ h=>key os e h,fun os e _ h=>(key os e h).1,rfl⟩
theorem bF:Wf bZ∧NoW bZ∧kT bZ∧bZ.1=[]:=⟨fun os e _ h=>by simp[bZ] at h,fun os e _ h=>by simp[bZ] at h,fun os e _ h=>by simp[bZ] at h,rfl⟩
def rd0:Op→Bool
 | .load ..|.store ..|.lookup ..|.mapUpdate ..|.convert ..|.call ⟨.builtin .append,_,_⟩|.call ⟨.value _,_,_⟩=>false
 | _=>true
def AA(u:iT):Op→Bool
 | .store ..|.mapUpdate ..=>false
 | .call ⟨.value x,_,_⟩=>u.stays x
 | _=>true
def noW(u:iT):Op→Bool
 | .store ..|.mapUpdate ..|.call ⟨.builtin .append,_,_⟩=>false
 | .call ⟨.value x,_,_⟩=>u.stays x
 | _=>true
theorem E2(P:Program)(t:TypeId)(x:MV):Wf (oW P t x)∧NoW (oW P t x)∧kT (oW P t x):=by
 unfold oW
 split
 ·have key:∀(os:List aT) (e:Eff) (l i o:Nat),(match os with
   | [.row _ _ xs]=>some (⟨(td P t).ok=true∧i<xs.length∧o+(td P t).size≤(xs.getD i []).length∧0<(td P t).size,none,none,none,fun _ u=>u=eA (td P t) (xs.getD i []) o⟩:Eff)
   | _=>none)=some e→e.upd=none∧e.kill=none:=by
   intro os e l i o h
   split at h
   ·cases h;exact⟨rfl,rfl⟩
   ·cases h
  exact⟨fun os e _ h=>by simp[key os e 0 _ _ h],fun os e _ h=>key os e 0 _ _ h,fun os e _ h=>(key os e 0 _ _ h).1⟩
 ·exact⟨(cZ _).1,(cZ _).2.1,(cZ _).2.2.1⟩
 ·exact⟨bF.1,bF.2.1,bF.2.2.1⟩
theorem SE(P:Program)(t:TypeId)(x y:MV):Wf (eE P t x y):=by
 unfold eE
 split
 ·intro os e _ h
  simp only at h
  split at h
  ·cases h;exact⟨fun l h=>by(cases h),SD⟩
  ·cases h
 ·exact bF.1
theorem C8(P:Program)(t xt:TypeId)(s x:MV):Wf (mK P t xt s x)∧kT (mK P t xt s x):=by
 unfold mK
 split
 ·split
  ·refine⟨fun os e _ h=>?_,fun os e _ h=>?_⟩ <;>
   ·simp only at h
    split at h
    ·cases h;simp
    ·cases h
  ·refine⟨fun os e _ h=>?_,fun os e _ h=>?_⟩ <;>
   ·simp only at h
    split at h
    ·cases h;simp
    ·cases h
  ·refine⟨fun os e _ h=>?_,fun os e _ h=>?_⟩ <;>
   ·simp only at h
    split at h
    ·split at h
     ·cases h;simp
     ·cases h
    ·cases h
  ·exact⟨bF.1,bF.2.2.1⟩
 ·exact⟨bF.1,bF.2.2.1⟩
theorem sY(P:Program)(s d:TypeId)(x:MV):Wf (iY P s d x)∧NoW (iY P s d x)∧kT (iY P s d x):=by
 unfold iY
 split
 ·exact⟨(eN _ _ _).1,(eN _ _ _).2.1,(eN _ _ _).2.2.1⟩
 ·exact⟨bF.1,bF.2.1,bF.2.2.1⟩
 ·refine⟨fun os e _ h=>?_,fun os e _ h=>?_,fun os e _ h=>?_⟩ <;>
  ·simp only at h
   split at h
   ·cases h;simp
   ·cases h
 ·exact⟨(cZ _).1,(cZ _).2.1,(cZ _).2.2.1⟩
theorem E1(P:Program)(C:cD)(g:FuncId)(ms:List MV):Wf (iH P C g ms)∧((∀rd q x,C g ms=some ⟨rd,q,some x⟩→rd=[])→NoW (iH P C g ms)∧kT (iH P C g ms)):=by
 unfold iH
 split
 ·refine⟨fun os e _ h=>?_,fun _=>⟨fun os e _ h=>?_,fun os e _ h=>?_⟩⟩ <;>
  ·simp only[Option.some.injEq] at h
   subst h;simp
 ·unfold Tb
  split
  ·exact⟨(eN _ _ _).1,fun _=>⟨(eN _ _ _).2.1,(eN _ _ _).2.2.1⟩⟩
  ·exact⟨bF.1,fun _=>⟨bF.2.1,bF.2.2.1⟩⟩
 ·rename_i l rd q ts u hC
  refine⟨fun os e _ h=>?_,fun hp=>?_⟩
  ·simp only[Option.some.injEq] at h
   subst h
   exact⟨fun l h=>by(cases h),fun p h k hk=>by cases h;exact AD hk⟩
  ·have:=hp _ _ _ hC;cases this
 ·exact⟨bF.1,fun _=>⟨bF.2.1,bF.2.2.1⟩⟩
theorem kD(P:Program)(ρ:Operand→MV)(t:TypeId)(len:Nat)(parts:Array (Nat × Operand)):Wf (eH P ρ t len parts)∧NoW (eH P ρ t len parts)∧kT (eH P ρ t len parts)∧(eH P ρ t len parts).1=[]:=by
 unfold eH
 split
 ·exact eN _ _ _
 ·exact bF
theorem lL(P:Program)(t:TypeId)(x y:MV):Wf (gD P t x y)∧NoW (gD P t x y)∧kT (gD P t x y)∧(gD P t x y).1=[]:=by
 unfold gD
 split
 ·exact eN _ _ _
 ·exact bF
theorem xE(P:Program)(t:TypeId)(m x:MV)(ok:Bool):Wf (j7 P t m x ok)∧NoW (j7 P t m x ok)∧kT (j7 P t m x ok):=by
 unfold j7
 split
 ·refine⟨fun os e _ h=>?_,fun os e _ h=>?_,fun os e _ h=>?_⟩ <;>
  ·simp only at h
   split at h
   ·cases h;simp
   ·cases h
 ·exact⟨bF.1,bF.2.1,bF.2.2.1⟩
theorem OR(P:Program)(t:TypeId)(m x y:MV):Wf (mL P t m x y):=by
 unfold mL
 split
 ·intro os e _ h
  simp only at h
  split at h
  ·cases h;exact⟨fun l h=>by(cases h),SD⟩
  ·cases h
 ·exact bF.1
theorem KI(P:Program)(C:cD){u:iT}(hu:PlU u C)(f:FR)(op:Op):Wf (gop P C f op)∧(AA u op=true→kT (gop P C f op))∧(noW u op=true→NoW (gop P C f op))∧(rd0 op=true→(gop P C f op).1=[]):=by
 cases op
 case load t x=>exact⟨(E2 _ _ _).1,fun _=>(E2 _ _ _).2.2,fun _=>(E2 _ _ _).2.1,fun h=>by simp[rd0] at h⟩
 case store t x y=>exact⟨SE _ _ _ _,fun h=>by simp[AA] at h,fun h=>by simp[noW] at h,fun h=>by simp[rd0] at h⟩
 case convert s d x=>exact⟨(sY _ _ _ _).1,fun _=>(sY _ _ _ _).2.2,fun _=>(sY _ _ _ _).2.1,fun h=>by simp[rd0] at h⟩
 case lookup t m x ok=>exact⟨(xE _ _ _ _ _).1,fun _=>(xE _ _ _ _ _).2.2,fun _=>(xE _ _ _ _ _).2.1,fun h=>by simp[rd0] at h⟩
 case mapUpdate t m x y=>exact⟨OR _ _ _ _ _,fun h=>by simp[AA] at h,fun h=>by simp[noW] at h,fun h=>by simp[rd0] at h⟩
 case alloc t=>exact⟨(eN _ _ _).1,fun _=>(eN _ _ _).2.2.1,fun _=>(eN _ _ _).2.1,fun _=>rfl⟩
 case box t x=>exact⟨(eN _ _ _).1,fun _=>(eN _ _ _).2.2.1,fun _=>(eN _ _ _).2.1,fun _=>rfl⟩
 case buildSlice t n p=>exact⟨(kD _ _ _ _ _).1,fun _=>(kD _ _ _ _ _).2.2.1,fun _=>(kD _ _ _ _ _).2.1,fun _=>(kD _ _ _ _ _).2.2.2⟩
 case makeSlice t x y=>exact⟨(lL _ _ _ _).1,fun _=>(lL _ _ _ _).2.2.1,fun _=>(lL _ _ _ _).2.1,fun _=>(lL _ _ _ _).2.2.2⟩
 case defer c=>exact⟨bF.1,fun _=>bF.2.2.1,fun _=>bF.2.1,fun _=>rfl⟩
 case call c =>
  obtain⟨callee,args,ts⟩:=c
  cases callee with
  | value x =>
   simp only[gop]
   split
   ·rename_i g ms ns hx
    have hp:u.stays x=true→∀rd q y,C g (ms++args.toList.map (aE f)++ns)=some ⟨rd,q,some y⟩→rd=[]:=fun h rd q y e=>by
     rcases hu _ _ _ _ _ e with q1|q1
     ·exact q1
     ·cases u with
      | no=>exact q1.elim
      | all=>simp[iT.stays] at h
      | these L =>
       cases x with
       | func g0 =>
        have:g0=g:=by simp[aE] at hx;exact hx.1
        subst this
        simp[iT.stays] at h
        exact absurd q1 h
       | _=>simp[iT.stays] at h
    exact⟨(E1 _ _ _ _).1,fun h=>((E1 _ _ _ _).2 (hp (by simpa[AA] using h))).2,fun h=>((E1 _ _ _ _).2 (hp (by simpa[noW] using h))).1,fun h=>by simp[rd0] at h⟩
   ·exact⟨bF.1,fun _=>bF.2.2.1,fun _=>bF.2.1,fun _=>rfl⟩
  | invoke r m=>exact⟨bF.1,fun _=>bF.2.2.1,fun _=>bF.2.1,fun _=>rfl⟩
  | builtin b =>
   by_cases hb:b=.append
   ·subst hb
    simp only[gop]
    split
    ·exact⟨(C8 _ _ _ _ _).1,fun _=>(C8 _ _ _ _ _).2,fun h=>by simp[noW] at h,fun h=>by simp[rd0] at h⟩
    ·exact⟨bF.1,fun _=>bF.2.2.1,fun _=>bF.2.1,fun _=>rfl⟩
   ·have:gop P C f (.call ⟨.builtin b,args,ts⟩)=if ts.toList.length=args.toList.length then eI (eK P b ts.toList.toArray (args.toList.map (aE f))) else bZ:=by
     cases b<;>first|rfl|exact absurd rfl hb
    rw[this]
    split
    ·exact⟨(cZ _).1,fun _=>(cZ _).2.2.1,fun _=>(cZ _).2.1,fun _=>rfl⟩
    ·exact⟨bF.1,fun _=>bF.2.2.1,fun _=>bF.2.1,fun _=>rfl⟩
 all_goals exact⟨(cZ _).1,fun _=>(cZ _).2.2.1,fun _=>(cZ _).2.1,fun _=>rfl⟩
end

section
def pT(P:Program)(C:cD)(g:FuncId)(ms:List MV)(σ:St)(k:MV→St→Prop):Prop :=
 (∃rd q os,C g ms=some ⟨rd,q,none⟩∧rd.map σ=os.map some∧aA P g ms (St.ofList rd os) (fun v σ'=>q v∧σ'=St.ofList rd os)∧(∃v,q v)∧∀v,q v→k v σ) ∨
 ∃rd q o u,C g ms=some ⟨rd,q,some ([o],u)⟩∧aA P g ms St.none (fun v σ'=>∃l,v=u l∧σ'=St.none.set l o)∧∀l,σ l=none→k (u l) (σ.set l o)
def mZ(P:Program)(C:cD)(g:FuncId)(ms:List MV)(σ:St)(k:MV→St→Prop):Prop :=
 (∃rd q os,C g ms=some ⟨rd,q,none⟩∧rd.map σ=os.map some∧aA P g ms (St.ofList rd os) (fun v σ'=>q v∧σ'=St.ofList rd os)∧(∃v,q v)∧∀v,q v→k v σ) ∨
 (∃q o u,C g ms=some ⟨[],q,some ([o],u)⟩∧aA P g ms St.none (fun v σ'=>∃l,v=u l∧σ'=St.none.set l o)∧∀l,σ l=none→k (u l) (σ.set l o)) ∨
 ∃l rd q ts os u,C g ms=some ⟨l::rd,q,some (ts,u)⟩∧(l::rd).map σ=os.map some∧aA P g ms (St.ofList (l::rd) os) (fun v σ'=>v=u l∧σ'=(St.ofList (l::rd) ts).over (St.ofList (l::rd) os))∧k (u l) ((St.ofList (l::rd) ts).over σ)
def Bv(P:Program)(MC:FuncId→List MV→St→(MV→St→Prop)→Prop)(f:FR)(σ:St)(k:MV→St→Prop):Op→Prop
 | .call ⟨.value x,args,ts⟩=>match aE f x with
  | .fn (.func g) ms ns=>MC g (ms++args.toList.map (aE f)++ns) σ k
  | _=>False
 | .defer _=>False
 | op=>mop P f σ k op
section
variable {P:Program} {C:cD} {f:FR} {σ:St} {U:Nat→Prop}
theorem vX:∀(rd:List Nat) (os:List aT),rd.map σ=os.map some→(St.ofList rd os).le σ
 | [],_,_=>by
  intro l o h
  simp[St.ofList,St.none] at h
 | l::ls,[],h=>by simp at h
 | l::ls,o::os,h=>by
  simp only[List.map_cons,List.cons.injEq] at h
  (try simp only[St.ofList])
  exact St.aB (vX ls os h.2) h.1
theorem oC{pv:PV}{k:MV→St→Prop}(h:mpure σ k pv):gs U σ (eI pv) fun v _ σ'=>k v σ':=by
 cases pv with
 | none=>exact h.elim
 | some x =>
  obtain⟨Cd,v⟩:=x
  refine⟨[],⟨Cd,none,none,none,fun _ u=>u=v⟩,rfl,rfl,h.1,fun _=>⟨v,rfl⟩,fun u U' σ' ho=>?_⟩
  obtain⟨rfl,-,rfl⟩:=ho
  rw[eD ⟨rfl,rfl⟩]
  exact h.2
theorem oN{pv:PV}{k:MV→(Nat→Prop)→St→Prop}(h:gs U σ (eI pv) k):mpure σ (fun v σ'=>∃U',(∀l,U' l→U l∨σ' l≠none)∧k v U' σ') pv:=by
 obtain⟨os,e,h1,h2,h3,h4,h5⟩:=h
 cases pv with
 | none=>simp[eI] at h2
 | some x =>
  obtain⟨Cd,v⟩:=x
  simp only[eI,Option.map_some,Option.some.injEq] at h2
  subst h2
  refine⟨h3,U,fun l h=>.inl h,h5 v U σ ⟨rfl,rfl,?_⟩⟩
  rw[eD ⟨rfl,rfl⟩]
theorem lS{Cd:Prop}{o:aT}{v:Nat→MV}{k:MV→St→Prop}(hd:Dom U σ)(h:Cd∧∀l,σ l=none→k (v l) (σ.set l o)):gs U σ (iA Cd o v) fun v _ σ'=>k v σ':=by
 refine⟨[],⟨Cd,none,none,some o,fun l u=>u=v l⟩,rfl,rfl,h.1,fun l=>⟨v l,rfl⟩,fun u U' σ' ho=>?_⟩
 obtain⟨l,hl,rfl,-,rfl⟩:=ho
 rw[eD ⟨rfl,rfl⟩]
 exact h.2 l (by
  cases hs:σ l with
  | none=>rfl
  | some x=>exact absurd (hd l (by simp[hs])) hl)
def mE(U:Nat→Prop)(σ:St)(k:MV→(Nat→Prop)→St→Prop)(v:MV)(σ':St):Prop :=
 (∀l,σ' l≠none→σ l=none→¬U l)→∃U',(∀l,U' l→U l∨σ' l≠none)∧k v U' σ'
theorem nD{Cd:Prop}{o:aT}{v:Nat→MV}{k:MV→(Nat→Prop)→St→Prop}(h:gs U σ (iA Cd o v) k):Cd∧∀l,σ l=none→mE U σ k (v l) (σ.set l o):=by
 obtain⟨os,e,h1,h2,h3,h4,h5⟩:=h
 simp only[iA,Option.some.injEq] at h2
 subst h2
 refine⟨h3,fun l hl hn=>⟨fun x=>x=l∨U x,fun x hx=>hx.elim (fun e=>.inr (by rw[e,aD];simp)) .inl,h5 _ _ _ ⟨l,hn l (by rw[aD];simp) hl,rfl,rfl,?_⟩⟩⟩
 rw[eD ⟨rfl,rfl⟩]
theorem As{pv:PV}{k k':MV→St→Prop}(h:mpure σ k pv)(hk:∀v σ',k v σ'→k' v σ'):mpure σ k' pv:=by
 cases pv with
 | none=>exact h.elim
 | some x=>exact⟨h.1,hk _ _ h.2⟩
theorem lO{e:Nat}{x:MV}{os:List aT}(h:(l7 x).map σ=os.map some):fG (HW os) e x=fG σ e x:=by
 cases x<;>try rfl
 rename_i e' l lo n
 cases os with
 | nil=>simp[l7] at h
 | cons o r =>
  simp only[l7,List.map_cons,List.map_nil,List.cons.injEq] at h
  (try simp only[fG,HW,List.head?_cons,h.1])
theorem R6{e:Nat}{x:MV}{ys:List (List MV)}(h:fG σ e x=some ys):∃os:List aT,(l7 x).map σ=os.map some:=by
 cases x<;>try exact⟨[],rfl⟩
 rename_i e' l lo n
 simp only[fG] at h
 split at h
 ·split at h
  ·rename_i t e2 xs hs;exact⟨[.row t e2 xs],by simp[l7,hs]⟩
  ·cases h
 ·cases h
theorem Te{t:TypeId}{x:MV}{k:MV→St→Prop}(h:mQ P t x σ k):gs U σ (oW P t x) fun v _ σ'=>k v σ':=by
 unfold mQ at h
 unfold oW
 split at h
 ·rename_i l i o
  split at h
  ·rename_i tt e xs hs
   refine⟨[.row tt e xs],_,by simp[hs],rfl,h.1,fun _=>⟨_,rfl⟩,fun v U' σ' ho=>?_⟩
   obtain⟨rfl,-,rfl⟩:=ho
   rw[eD ⟨rfl,rfl⟩];exact h.2
  ·exact h.elim
 ·exact oC (σ:=σ) (pv:=some (_,_)) h
 ·exact h.elim
theorem Ts{t:TypeId}{x:MV}{k:MV→(Nat→Prop)→St→Prop}(h:gs U σ (oW P t x) k):mQ P t x σ (mE U σ k):=by
 unfold oW at h
 unfold mQ
 split at h
 ·rename_i l i o
  obtain⟨os,e,h1,h2,h3,h4,h5⟩:=h
  simp only at h1 h2
  split at h2
  ·rename_i tt ee xs
   cases h2
   simp only[List.map_cons,List.map_nil,List.cons.injEq,and_true] at h1
   (try simp only[h1])
   refine⟨h3,fun _=>⟨U,fun _ h=>.inl h,h5 _ _ _ ⟨rfl,rfl,?_⟩⟩⟩
   rw[eD ⟨rfl,rfl⟩]
  ·cases h2
 ·obtain⟨h1,U',h2,h3⟩:=oN (σ:=σ) h
  exact⟨h1,fun _=>⟨U',h2,h3⟩⟩
 ·obtain⟨os,e,h1,h2,_⟩:=h
  simp[bZ] at h2
theorem zF{Cd:Prop}{u:St}{n:Option aT}{v:Nat→MV→Prop}:(Eff.app ⟨Cd,none,some u,n,v⟩ σ)=u.over σ:=by
 funext k
 (try simp only[Eff.app,Eff.upl,St.over,reduceCtorEq,if_false])
 cases u k<;>simp
theorem mF{Cd:Prop}{l:Nat}{o:aT}{n:Option aT}{v:Nat→MV→Prop}:(Eff.app ⟨Cd,none,some (St.none.set l o),n,v⟩ σ)=σ.set l o:=by
 rw[zF,bE,dC]
theorem PD{t:TypeId}{x y:MV}{k:MV→St→Prop}(h:pZ P t x y σ k):gs U σ (eE P t x y) fun v _ σ'=>k v σ':=by
 unfold pZ at h
 unfold eE
 split at h
 ·rename_i l i o
  split at h
  ·rename_i tt e xs hs
   refine⟨[.row tt e xs],_,by simp[hs],rfl,h.1,fun _=>⟨_,rfl⟩,fun v U' σ' ho=>?_⟩
   obtain⟨rfl,-,rfl⟩:=ho
   rw[mF];exact h.2
  ·exact h.elim
 ·exact h.elim
theorem R8{t:TypeId}{x y:MV}{k:MV→(Nat→Prop)→St→Prop}(h:gs U σ (eE P t x y) k):pZ P t x y σ (mE U σ k):=by
 unfold eE at h
 unfold pZ
 split at h
 ·rename_i l i o
  obtain⟨os,e,h1,h2,h3,h4,h5⟩:=h
  simp only at h1 h2
  split at h2
  ·rename_i tt ee xs
   cases h2
   simp only[List.map_cons,List.map_nil,List.cons.injEq,and_true] at h1
   (try simp only[h1])
   refine⟨h3,fun _=>⟨U,fun _ h=>.inl h,h5 _ _ _ ⟨rfl,rfl,?_⟩⟩⟩
   rw[mF]
  ·cases h2
 ·obtain⟨os,e,h1,h2,_⟩:=h
  simp[bZ] at h2
theorem MM{t:TypeId}{m x:MV}{ok:Bool}{k:MV→St→Prop}(h:gV P t m x ok (mapOf σ m) σ k):gs U σ (j7 P t m x ok) fun v _ σ'=>k v σ':=by
 unfold gV at h
 split at h
 ·rename_i kt et l kd n es h1 h2
  have hl:σ l=some (.mp es):=h2
  unfold j7
  (try simp only[h1])
  refine⟨[.mp es],_,by simp[hl],rfl,h.1,fun _=>⟨_,rfl⟩,fun v U' σ' ho=>?_⟩
  obtain⟨rfl,-,rfl⟩:=ho
  rw[eD ⟨rfl,rfl⟩];exact h.2
 ·exact h.elim
theorem M5{t:TypeId}{m x:MV}{ok:Bool}{k:MV→(Nat→Prop)→St→Prop}(h:gs U σ (j7 P t m x ok) k):gV P t m x ok (mapOf σ m) σ (mE U σ k):=by
 unfold j7 at h
 split at h
 ·rename_i kt et l kd n h1
  obtain⟨os,e,h2,h3,h4,h5,h6⟩:=h
  simp only at h2 h3
  split at h3
  ·rename_i es
   cases h3
   simp only[List.map_cons,List.map_nil,List.cons.injEq,and_true] at h2
   unfold gV
   (try simp only[h1,mapOf,h2])
   refine⟨h4,fun _=>⟨U,fun _ h=>.inl h,h6 _ _ _ ⟨rfl,rfl,?_⟩⟩⟩
   rw[eD ⟨rfl,rfl⟩]
  ·cases h3
 ·obtain⟨os,e,h1,h2,_⟩:=h
  simp[bZ] at h2
theorem MN{t:TypeId}{m x y:MV}{k:MV→St→Prop}(h:gO P t m x y (mapOf σ m) σ k):gs U σ (mL P t m x y) fun v _ σ'=>k v σ':=by
 unfold gO at h
 split at h
 ·rename_i kt et l kd n es h1 h2
  have hl:σ l=some (.mp es):=h2
  unfold mL
  (try simp only[h1])
  refine⟨[.mp es],_,by simp[hl],rfl,h.1,fun _=>⟨_,rfl⟩,fun v U' σ' ho=>?_⟩
  obtain⟨rfl,-,rfl⟩:=ho
  rw[mF];exact h.2
 ·exact h.elim
theorem M7{t:TypeId}{m x y:MV}{k:MV→(Nat→Prop)→St→Prop}(h:gs U σ (mL P t m x y) k):gO P t m x y (mapOf σ m) σ (mE U σ k):=by
 unfold mL at h
 split at h
 ·rename_i kt et l kd n h1
  obtain⟨os,e,h2,h3,h4,h5,h6⟩:=h
  simp only at h2 h3
  split at h3
  ·rename_i es
   cases h3
   simp only[List.map_cons,List.map_nil,List.cons.injEq,and_true] at h2
   unfold gO
   (try simp only[h1,mapOf,h2])
   refine⟨h4,fun _=>⟨U,fun _ h=>.inl h,h6 _ _ _ ⟨rfl,rfl,?_⟩⟩⟩
   rw[mF]
  ·cases h3
 ·obtain⟨os,e,h1,h2,_⟩:=h
  simp[bZ] at h2
theorem E6{Cd:Prop}{l:Nat}{n:Option aT}{v:Nat→MV→Prop}:(Eff.app ⟨Cd,some l,none,n,v⟩ σ)=σ.del l:=by
 funext k
 have h:Eff.upl ⟨Cd,some l,none,n,v⟩ k=none:=rfl
 (try simp only[Eff.app,St.del,h,Option.isSome_none,Bool.false_eq_true,if_false,Option.some.injEq])
 by_cases hk:k=l
 ·simp[hk]
 ·rw[if_neg (Ne.symm hk),if_neg hk]
theorem zY(hd:Dom U σ){l:Nat}(hl:¬U l):σ l=none:=by
 cases hs:σ l with
 | none=>rfl
 | some x=>exact absurd (hd l (by simp[hs])) hl
theorem ML{t xt:TypeId}{s x:MV}{k:MV→St→Prop}(hd:Dom U σ)(h:lF P t xt s x σ k):gs U σ (mK P t xt s x) fun v _ σ'=>k v σ':=by
 unfold lF at h
 unfold mK
 split at h
 ·rename_i el hk
  (try simp only[hk])
  split at h
  ·rename_i ys hy
   obtain⟨os,hos⟩:=R6 hy
   have hsrc:=lO (e:=(td P el).size) hos
   rw[hy] at hsrc
   split at h
   ·refine⟨os,⟨(td P xt).k.gA=true∧(td P el).zok=true∧Fits ys.length (td P el).bytes,none,none,some (.row el (td P el).size ys),fun l u=>u=.vec (td P el).size l 0 ys.length⟩,hos,by simp only[hsrc],h.1,fun l=>⟨_,rfl⟩,fun u U' σ' ho=>?_⟩
    obtain⟨l,hl,rfl,-,rfl⟩:=ho
    rw[eD ⟨rfl,rfl⟩]
    exact h.2 l (zY hd hl)
   ·rename_i e xs
    refine⟨os,⟨(td P xt).k.gA=true∧(td P el).zok=true∧e=(td P el).size∧(xs=[]∨0<ys.length)∧Fits (xs.length+ys.length) (td P el).bytes,none,none,some (.row el (td P el).size (xs++ys)),fun l u=>u=.vec (td P el).size l 0 (xs.length+ys.length)⟩,hos,by simp only[hsrc],h.1,fun l=>⟨_,rfl⟩,fun u U' σ' ho=>?_⟩
    obtain⟨l,hl,rfl,-,rfl⟩:=ho
    rw[eD ⟨rfl,rfl⟩]
    exact h.2 l (zY hd hl)
   ·rename_i e l lo n
    split at h
    ·rename_i tt e' xs hs
     refine⟨.row tt e' xs::os,⟨(td P xt).k.gA=true∧(td P el).zok=true∧e=(td P el).size∧e'=(td P el).size∧tt=el∧lo=0∧lo+n≤xs.length∧Fits (n+ys.length) (td P el).bytes,some l,none,some (.row el (td P el).size (fW xs lo n ys)),fun l' u=>u=.vec (td P el).size l' 0 (n+ys.length)⟩,by simp[hs,hos],by simp only[hsrc],h.1,fun l=>⟨_,rfl⟩,fun u U' σ' ho=>?_⟩
     obtain⟨l',hl,rfl,-,rfl⟩:=ho
     rw[E6]
     exact h.2 l' (zY hd hl)
    ·exact h.elim
   ·exact h.elim
  ·exact h.elim
 ·exact h.elim
theorem L5{t xt:TypeId}{s x:MV}{k:MV→(Nat→Prop)→St→Prop}(h:gs U σ (mK P t xt s x) k):lF P t xt s x σ (mE U σ k):=by
 unfold mK at h
 unfold lF
 split at h
 ·rename_i el hk
  split at h
  ·obtain⟨os,e,h1,h2,h3,h4,h5⟩:=h
   simp only at h1 h2
   split at h2
   ·rename_i ys hy
    cases h2
    rw[lO h1] at hy
    (try simp only[hk,hy])
    refine⟨h3,fun l hl hn=>⟨fun x=>x=l∨U x,fun x hx=>hx.elim (fun e=>.inr (by rw[e,aD];simp)) .inl,h5 _ _ _ ⟨l,hn l (by rw[aD];simp) hl,rfl,rfl,?_⟩⟩⟩
    rw[eD ⟨rfl,rfl⟩]
   ·cases h2
  ·obtain⟨os,e,h1,h2,h3,h4,h5⟩:=h
   simp only at h1 h2
   split at h2
   ·rename_i ys hy
    cases h2
    rw[lO h1] at hy
    (try simp only[hk,hy])
    refine⟨h3,fun l hl hn=>⟨fun x=>x=l∨U x,fun x hx=>hx.elim (fun e=>.inr (by rw[e,aD];simp)) .inl,h5 _ _ _ ⟨l,hn l (by rw[aD];simp) hl,rfl,rfl,?_⟩⟩⟩
    rw[eD ⟨rfl,rfl⟩]
   ·cases h2
  ·obtain⟨os,e,h1,h2,h3,h4,h5⟩:=h
   simp only at h1 h2
   split at h2
   ·rename_i tt e' xs os'
    simp only[List.map_cons,List.cons.injEq] at h1
    split at h2
    ·rename_i ys hy
     cases h2
     rw[lO h1.2] at hy
     (try simp only[hk,hy,h1.1])
     refine⟨h3,fun l hl hn=>⟨fun x=>x=l∨U x,fun x hx=>hx.elim (fun e=>.inr (by rw[e,aD];simp)) .inl,h5 _ _ _ ⟨l,hn l (by rw[aD];simp) hl,rfl,rfl,?_⟩⟩⟩
     rw[E6]
    ·cases h2
   ·cases h2
  ·obtain⟨os,e,h1,h2,_⟩:=h
   simp[bZ] at h2
 ·obtain⟨os,e,h1,h2,_⟩:=h
  simp[bZ] at h2
theorem gB{k:MV→(Nat→Prop)→St→Prop}(h:gs U σ bZ k):False:=by
 obtain⟨os,e,h1,h2,_⟩:=h
 simp[bZ] at h2
theorem Vi{D:Prop}{x:MV}{k:MV→St→Prop}(h:match fG σ 1 x with|some ys=>(D∧ys.all isByte=true)∧k (.str (bytesOf ys)) σ|none=>False) :
  gs U σ (l7 x,fun os=>match fG (HW os) 1 x with
  | some ys=>some ⟨D∧ys.all isByte=true,none,none,none,fun _ u=>u=.str (bytesOf ys)⟩
  | none=>none) fun v _ σ'=>k v σ':=by
 split at h
 ·rename_i ys hy
  obtain⟨os,hos⟩:=R6 hy
  have hsrc:=lO (e:=1) hos
  rw[hy] at hsrc
  refine⟨os,⟨D∧ys.all isByte=true,none,none,none,fun _ u=>u=.str (bytesOf ys)⟩,hos,by simp only[hsrc],h.1,fun _=>⟨_,rfl⟩,fun u U' σ' ho=>?_⟩
  obtain⟨rfl,-,rfl⟩:=ho
  rw[eD ⟨rfl,rfl⟩];exact h.2
 ·exact h.elim
theorem VP{D:Prop}{x:MV}{k:MV→(Nat→Prop)→St→Prop}(h:gs U σ (l7 x,fun os=>match fG (HW os) 1 x with
  | some ys=>some ⟨D∧ys.all isByte=true,none,none,none,fun _ u=>u=.str (bytesOf ys)⟩
  | none=>none) k):match fG σ 1 x with|some ys=>(D∧ys.all isByte=true)∧mE U σ k (.str (bytesOf ys)) σ|none=>False:=by
 obtain⟨os,e,h1,h2,h3,h4,h5⟩:=h
 simp only at h1 h2
 split at h2
 ·rename_i ys hy
  cases h2
  rw[lO h1] at hy
  (try simp only[hy])
  refine⟨h3,fun _=>⟨U,fun _ h=>.inl h,h5 _ _ _ ⟨rfl,rfl,?_⟩⟩⟩
  rw[eD ⟨rfl,rfl⟩]
 ·cases h2
theorem IM{s d:TypeId}{x:MV}{k:MV→St→Prop}(hd:Dom U σ)(h:jA P s d x σ k):gs U σ (iY P s d x) fun v _ σ'=>k v σ':=by
 unfold jA at h
 unfold iY
 cases hs:(td P s).k<;>cases hk:(td P d).k<;>simp only[hs,hk] at h ⊢<;>first
  | exact oC h
  | (cases x<;>first|exact oC h|exact lS hd h|exact h.elim|exact Vi h)
theorem IA{s d:TypeId}{x:MV}{k:MV→(Nat→Prop)→St→Prop}(h:gs U σ (iY P s d x) k):jA P s d x σ (mE U σ k):=by
 unfold iY at h
 unfold jA
 have hp:∀{pv:PV},gs U σ (eI pv) k→mpure σ (mE U σ k) pv:=fun h=>As (oN h) fun v σ' hh _=>hh
 cases hs:(td P s).k<;>cases hk:(td P d).k<;>simp only[hs,hk] at h ⊢<;>first
  | exact hp h
  | (cases x<;>first|exact hp h|exact nD h|exact(gB h).elim|exact VP h)
theorem FF{g:FuncId}{ms:List MV}{k:MV→St→Prop}{rd:List Nat}{q:MV→Prop}{os:List aT}(h1:C g ms=some ⟨rd,q,none⟩)(h2:rd.map σ=os.map some)(h3:aA P g ms (St.ofList rd os) (fun v σ'=>q v∧σ'=St.ofList rd os))(h4:∃v,q v)(h5:∀v,q v→k v σ):gs U σ (iH P C g ms) fun v _ σ'=>k v σ':=by
 unfold iH
 rw[h1]
 refine⟨os,⟨aA P g ms (St.ofList rd os) (fun v σ'=>q v∧σ'=St.ofList rd os),none,none,none,fun _ u=>q u⟩,h2,rfl,h3,fun _=>h4,fun u U' σ' ho=>?_⟩
 obtain⟨hq,-,rfl⟩:=ho
 rw[eD ⟨rfl,rfl⟩]
 exact h5 u hq
theorem yQ{g:FuncId}{ms:List MV}{k:MV→St→Prop}(hd:Dom U σ)(h:pT P C g ms σ k):gs U σ (iH P C.pl g ms) fun v _ σ'=>k v σ':=by
 rcases h with⟨rd,q,os,h1,h2,h3,h4,h5⟩|⟨rd,q,o,u,h1,h2,h3⟩
 ·exact FF (by unfold cD.pl;rw[h1];rfl) h2 h3 h4 h5
 ·have hC:C.pl g ms=some ⟨[],q,some ([o],u)⟩:=by unfold cD.pl;rw[h1];rfl
  unfold iH
  rw[hC]
  exact lS hd ⟨h2,h3⟩
theorem Pz{g:FuncId}{ms:List MV}{k:MV→St→Prop}(hd:Dom U σ)(h:mZ P C g ms σ k):gs U σ (iH P C g ms) fun v _ σ'=>k v σ':=by
 rcases h with⟨rd,q,os,h1,h2,h3,h4,h5⟩|⟨q,o,u,h1,h2,h3⟩|⟨l,rd,q,ts,os,u,h1,h2,h3,h4⟩
 ·exact FF h1 h2 h3 h4 h5
 ·unfold iH
  rw[h1]
  exact lS hd ⟨h2,h3⟩
 ·unfold iH
  rw[h1]
  refine⟨os,⟨aA P g ms (St.ofList (l::rd) os) (fun v σ'=>v=u l∧σ'=(St.ofList (l::rd) ts).over (St.ofList (l::rd) os)),none,some (St.ofList (l::rd) ts),none,fun _ w=>w=u l⟩,h2,rfl,h3,fun _=>⟨_,rfl⟩,fun v U' σ' ho=>?_⟩
  obtain⟨hv,-,rfl⟩:=ho
  rw[zF,hv]
  exact h4
theorem SN{g:FuncId}{ms:List MV}{k:MV→(Nat→Prop)→St→Prop}(h:gs U σ (iH P C g ms) k):aA P g ms σ (mE U σ k):=by
 unfold iH at h
 split at h
 ·rename_i rd q hC
  obtain⟨os,e,h1,h2,h3,h4,h5⟩:=h
  simp only[Option.some.injEq] at h2
  subst h2
  simp only at h1 h3
  have hle:=vX rd os h1
  refine(h3.frame hle).mono ?_
  rintro v σ1 ⟨σ',⟨hq,rfl⟩,rfl,-⟩
  rw[sK hle]
  refine fun _=>⟨U,fun _ h=>.inl h,h5 _ _ _ ⟨hq,rfl,?_⟩⟩
  rw[eD ⟨rfl,rfl⟩]
 ·rename_i rd q ts u hC
  unfold Tb at h
  split at h
  ·rename_i o
   obtain⟨h1,h2⟩:=nD h
   refine(h1.frame (St.none_le σ)).mono ?_
   rintro v σ1 ⟨σ',⟨l,rfl,rfl⟩,rfl,hf⟩
   rw[lY,bE,dC]
   refine h2 l ?_
   rcases hf l o (aD _ _ _) with h|⟨o',h⟩
   ·exact h
   ·simp[St.none] at h
  ·exact(gB h).elim
 ·rename_i l rd q ts u hC
  obtain⟨os,e,h1,h2,h3,h4,h5⟩:=h
  simp only[Option.some.injEq] at h2
  subst h2
  have hle:=vX (l::rd) os h1
  refine(aA.frame h3 hle).mono ?_
  rintro v σ1 ⟨σ',⟨hv,rfl⟩,rfl,-⟩
  have e:((St.ofList (l::rd) ts).over (St.ofList (l::rd) os)).over (σ.minus (St.ofList (l::rd) os))=(St.ofList (l::rd) ts).over σ:=by
   funext j
   (try simp only[St.over,St.minus])
   cases St.ofList (l::rd) ts j with
   | some o=>rfl
   | none =>
    cases ht:St.ofList (l::rd) os j with
    | none=>rfl
    | some o1=>simp only[hle j o1 ht]
  rw[e]
  exact fun _=>⟨U,fun _ h=>.inl h,h5 _ _ _ ⟨hv,rfl,zF.symm⟩⟩
 ·exact(gB h).elim
theorem Vh{MC:FuncId→List MV→St→(MV→St→Prop)→Prop}(hMC:∀g ms k,MC g ms σ k→gs U σ (iH P C g ms) fun v _ σ'=>k v σ'){op:Op}{k:MV→St→Prop}(hd:Dom U σ)(h:Bv P MC f σ k op):gs U σ (gop P C f op) fun v _ σ'=>k v σ':=by
 cases op
 case alloc t=>exact lS hd h
 case box t x=>exact lS hd h
 case load t x=>exact Te h
 case store t x y=>exact PD h
 case lookup t m x ok=>exact MM h
 case mapUpdate t m x y=>exact MN h
 case convert s d x=>exact IM hd h
 case buildSlice t n p =>
  have h:eJ P f t n p σ k:=h
  (try simp only[gop])
  unfold eJ at h
  unfold eH
  split at h
  ·rename_i el hk;(try simp only[hk]);exact lS hd h
  ·exact h.elim
 case makeSlice t x y =>
  have h:jN P t (aE f x) (aE f y) σ k:=h
  (try simp only[gop])
  unfold jN at h
  unfold gD
  split at h
  ·rename_i el n c hk hx hy;(try simp only[hk,hx,hy]);exact lS hd h
  ·exact h.elim
 case defer c=>exact h.elim
 case call c =>
  obtain⟨callee,args,ts⟩:=c
  cases callee with
  | value x =>
   simp only[Bv] at h
   (try simp only[gop])
   split at h
   ·rename_i g ms ns hx;first|(simp only[hx];exact hMC _ _ _ h)|exact hMC _ _ _ h
   ·exact h.elim
  | invoke r m=>exact h.elim
  | builtin b =>
   by_cases hb:b=.append
   ·subst hb
    have h:gF P f .append args.toList ts.toList σ k:=h
    (try simp only[gop])
    simp only[gF] at h
    split at h
    ·rename_i s x t xt ha ht;(try simp only[ha,ht]);exact ML hd h
    ·exact h.elim
   ·have h:gF P f b args.toList ts.toList σ k:=h
    have e1:gop P C f (.call ⟨.builtin b,args,ts⟩)=if ts.toList.length=args.toList.length then eI (eK P b ts.toList.toArray (args.toList.map (aE f))) else bZ:=by
     cases b<;>first|rfl|exact absurd rfl hb
    have e2:gF P f b args.toList ts.toList σ k=(ts.toList.length=args.toList.length∧mpure σ k (eK P b ts.toList.toArray (args.toList.map (aE f)))):=by
     cases b<;>first|rfl|exact absurd rfl hb
    rw[e2] at h
    rw[e1,if_pos h.1]
    exact oC h.2
 all_goals exact oC h
theorem UM{op:Op}{k:MV→(Nat→Prop)→St→Prop}(h:gs U σ (gop P C f op) k):mop P f σ (mE U σ k) op:=by
 have hp:∀{pv:PV},gs U σ (eI pv) k→mpure σ (mE U σ k) pv:=fun h=>As (oN h) fun v σ' hh _=>hh
 cases op
 case alloc t=>exact nD h
 case box t x=>exact nD h
 case load t x=>exact Ts h
 case store t x y=>exact R8 h
 case lookup t m x ok=>exact M5 h
 case mapUpdate t m x y=>exact M7 h
 case convert s d x=>exact IA h
 case buildSlice t n p =>
  simp only[gop] at h
  show eJ P f t n p σ _
  unfold eJ
  unfold eH at h
  split at h
  ·rename_i el hk;(try simp only[hk]);exact nD h
  ·exact(gB h).elim
 case makeSlice t x y =>
  simp only[gop] at h
  show jN P t (aE f x) (aE f y) σ _
  unfold jN
  unfold gD at h
  split at h
  ·rename_i el n c hk hx hy;(try simp only[hk,hx,hy]);exact nD h
  ·exact(gB h).elim
 case defer c=>exact(gB h).elim
 case call c =>
  obtain⟨callee,args,ts⟩:=c
  cases callee with
  | value x =>
   simp only[gop] at h
   show Ln P f ⟨.value x,args,ts⟩ σ _
   (try simp only[Ln])
   split at h
   ·rename_i g ms ns hx;(try simp only[hx]);exact SN h
   ·exact(gB h).elim
  | invoke r m=>exact(gB h).elim
  | builtin b =>
   show gF P f b args.toList ts.toList σ _
   by_cases hb:b=.append
   ·subst hb
    simp only[gop] at h
    (try simp only[gF])
    split at h
    ·rename_i s x t xt ha ht;(try simp only[ha,ht]);exact L5 h
    ·exact(gB h).elim
   ·have e1:gop P C f (.call ⟨.builtin b,args,ts⟩)=if ts.toList.length=args.toList.length then eI (eK P b ts.toList.toArray (args.toList.map (aE f))) else bZ:=by
     cases b<;>first|rfl|exact absurd rfl hb
    have e2:gF P f b args.toList ts.toList σ (mE U σ k)=(ts.toList.length=args.toList.length∧mpure σ (mE U σ k) (eK P b ts.toList.toArray (args.toList.map (aE f)))):=by
     cases b<;>first|rfl|exact absurd rfl hb
    rw[e1] at h
    rw[e2]
    split at h
    ·rename_i hl;exact⟨hl,hp h⟩
    ·exact(gB h).elim
 all_goals exact hp h
end
end

section
section
variable {P:Program} {C:cD} {ops:Array Oper}
def FEq(f f':FR):Prop:=f.n=f'.n∧f.d=f'.d∧∀t,f.get t=f'.get t
theorem FEq.refl(f:FR):FEq f f:=⟨rfl,rfl,fun _=>rfl⟩
theorem FEq.symm{f f':FR}(h:FEq f f'):FEq f' f:=⟨h.1.symm,h.2.1.symm,fun t=>(h.2.2 t).symm⟩
theorem FEq.trans{f f' f'':FR}(h:FEq f f')(k:FEq f' f''):FEq f f'':=⟨h.1.trans k.1,h.2.1.trans k.2.1,fun t=>(h.2.2 t).trans (k.2.2 t)⟩
theorem lA(f:FR)(dst:Option Tmp)(v:MV)(t:Nat):(bD f dst v).get t=if dst=some t∧t<f.n then v else f.get t:=by
 cases dst with
 | none=>simp[bD]
 | some d =>
  (try simp only[bD])
  split
  ·rename_i hd
   (try simp only[FR.get,cQ])
   by_cases ht:t=d
   ·subst ht;simp[hd]
   ·rw[if_neg ht,if_neg (by simp;intro e;exact absurd e.symm ht)]
  ·rename_i hd
   rw[if_neg]
   rintro⟨e,h⟩
   cases e
   exact hd h
theorem LF(f:FR)(dst:Option Tmp)(v:MV):(bD f dst v).n=f.n:=by
 unfold bD
 split<;>(try split)<;>rfl
theorem FEq.put{f f':FR}(h:FEq f f')(dst:Option Tmp)(v:MV):FEq (bD f dst v) (bD f' dst v) :=
 ⟨by rw[LF,LF];exact h.1,by rw[dZ,dZ];exact h.2.1,fun t=>by rw[lA,lA,h.1,h.2.2 t]⟩
theorem FEq.comm(f:FR){x y:Option Tmp}(v u:MV)(h:∀d,x=some d→y≠some d):FEq (bD (bD f x v) y u) (bD (bD f y u) x v) :=
 ⟨by simp only[LF],by simp only[dZ],fun t=>by
  (try simp only[lA,LF])
  by_cases hx:x=some t
  ·have:=h t hx
   simp[hx,this]
  ·simp[hx]⟩
theorem FEq.aE{f f':FR}(h:FEq f f'):aE f=aE f':=by
 funext x
 cases x with
 | tmp t=>exact h.2.2 t
 | _=>rfl
theorem QL{f:FR}{dst:Option Tmp}{v:MV}{x:Operand}(h:∀d,dst=some d→x≠.tmp d):aE (bD f dst v) x=aE f x:=by
 cases x with
 | tmp t =>
  show(bD f dst v).get t=f.get t
  rw[lA,if_neg]
  rintro⟨e,_⟩
  exact h t e rfl
 | _=>rfl
theorem yF{f f':FR}{place:Nat→Option (Nat × TypeId)}:∀(parts:List (Nat × Operand)) (cs:List MV),(∀p,p∈parts→aE f p.2=aE f' p.2)→eZ P f place parts cs=eZ P f' place parts cs:=by
 intro parts
 induction parts with
 | nil=>intro cs _;rfl
 | cons p r ih =>
  intro cs h
  obtain⟨i,x⟩:=p
  (try simp only[eZ])
  have hx:aE f x=aE f' x:=h (i,x) (by simp)
  rw[hx]
  cases place i with
  | none=>rfl
  | some q=>simp only[];rw[ih _ (fun p hp=>h p (by simp[hp]))]
theorem DQ{f f':FR}{t:TypeId}{parts:Array (Nat × Operand)}(h:∀p,p∈parts.toList→aE f p.2=aE f' p.2):pS P f t parts=pS P f' t parts:=by
 unfold pS
 cases (td P t).k<;>simp only[]<;>rw[yF _ _ h]
theorem sG{f f':FR}{xs:List Operand}(h:∀x,x∈xs→aE f x=aE f' x):xs.map (aE f)=xs.map (aE f'):=List.map_congr_left h
theorem Cr{f f':FR}{op:Op}(h:∀x,x∈op.operands→aE f x=aE f' x):gop P C f op=gop P C f' op:=by
 cases op<;>simp only[Op.operands] at h
 case buildSlice t n ps =>
  (try simp only[gop,eH])
  have hp:∀p,p∈ps.toList→aE f p.2=aE f' p.2:=fun p hp=>h p.2 (by simpa using⟨p.1,by simpa using hp⟩)
  have e1:(ps.toList.all fun p=>(aE f p.2).cells.all MV.aL&&(aE f p.2).cells.length==0)=(ps.toList.all fun p=>(aE f' p.2).cells.all MV.aL&&(aE f' p.2).cells.length==0):=by
   rw[Bool.eq_iff_iff];(try simp only[List.all_eq_true])
   exact⟨fun q x hx=>by rw[←hp x hx];exact q x hx,fun q x hx=>by rw[hp x hx];exact q x hx⟩
  have e2:∀z,(ps.toList.all fun p=>(aE f p.2).cells.all MV.aL&&(aE f p.2).cells.length==z)=(ps.toList.all fun p=>(aE f' p.2).cells.all MV.aL&&(aE f' p.2).cells.length==z):=fun z=>by
   rw[Bool.eq_iff_iff];(try simp only[List.all_eq_true])
   exact⟨fun q x hx=>by rw[←hp x hx];exact q x hx,fun q x hx=>by rw[hp x hx];exact q x hx⟩
  have e3:(ps.toList.map fun p=>(aE f p.2).cells)=(ps.toList.map fun p=>(aE f' p.2).cells):=List.map_congr_left fun p hq=>by rw[hp p hq]
  (try simp only[e2,e3])
 case build t ps =>
  (try simp only[gop,qop])
  rw[DQ fun p hp=>h p.2 (by simpa using⟨p.1,by simpa using hp⟩)]
 case makeFunc fn first captured =>
  (try simp only[gop,qop])
  rw[sG (xs:=first.toList) fun x hx=>h x (by simp at hx ⊢;exact .inl hx),sG (xs:=captured.toList) fun x hx=>h x (by simp at hx ⊢;exact .inr hx)]
 case indexAddr t x i =>
  have h1:=h x (by simp)
  have h2:=h i (by simp)
  (try simp only[gop])
  cases x<;>simp only[qop]<;>simp[h1,h2]
 case slice t x lo hi mx =>
  (try simp only[gop,qop])
  rw[h x (by simp)]
  cases lo<;>cases hi<;>cases mx<;>simp_all
 case call c =>
  obtain⟨callee,args,ts⟩:=c
  have ha:args.toList.map (aE f)=args.toList.map (aE f'):=sG fun x hx=>h x (by simp[Call.operands];exact .inr (by simpa using hx))
  cases callee with
  | value x=>simp only[gop];rw[h x (by simp[Call.operands]),ha]
  | invoke r m=>rfl
  | builtin b =>
   by_cases hb:b=.append
   ·subst hb
    (try simp only[gop])
    have hm:∀y,y∈args.toList→aE f y=aE f' y:=fun y hy=>h y (by simp[Call.operands];simpa using hy)
    split
    ·rename_i s x t xt hl _
     rw[hm s (by simp[hl]),hm x (by simp[hl])]
    ·rfl
   ·have e1:∀f,gop P C f (.call ⟨.builtin b,args,ts⟩)=if ts.toList.length=args.toList.length then eI (eK P b ts.toList.toArray (args.toList.map (aE f))) else bZ:=fun f=>by
     cases b<;>first|rfl|exact absurd rfl hb
    rw[e1,e1,ha]
 all_goals first
  | rfl
  | (simp_all [gop,qop];done)
def gfo(P:Program)(C:cD)(ops:Array Oper)(f:FR)(o:Oper):GF :=
 match o.guard with
 | none=>gop P C f o.op
 | some (j,want)=>match (ops[j]?).bind (·.dst) with
  | some t=>match f.get t with
   | .bool b=>if b=want then gop P C f o.op else eI (some (True,.tup []))
   | .tup []=>eI (some (True,.tup []))
   | _=>bZ
  | none=>bZ
theorem SC{u:iT}(hu:PlU u C)(f:FR)(o:Oper):Wf (gfo P C ops f o)∧(AA u o.op=true→kT (gfo P C ops f o))∧(noW u o.op=true→NoW (gfo P C ops f o))∧(rd0 o.op=true→(gfo P C ops f o).1=[]):=by
 have hf:Wf bZ∧(AA u o.op=true→kT bZ)∧(noW u o.op=true→NoW bZ)∧(rd0 o.op=true→bZ.1=[]):=⟨bF.1,fun _=>bF.2.2.1,fun _=>bF.2.1,fun _=>rfl⟩
 unfold gfo
 split
 ·exact KI P C hu f o.op
 ·split
  ·split
   ·split
    ·exact KI P C hu f o.op
    ·exact⟨(cZ _).1,fun _=>(cZ _).2.2.1,fun _=>(cZ _).2.1,fun _=>rfl⟩
   ·exact⟨(cZ _).1,fun _=>(cZ _).2.2.1,fun _=>(cZ _).2.1,fun _=>rfl⟩
   ·exact hf
  ·exact hf
theorem MK{f f':FR}(h:FEq f f')(o:Oper):gfo P C ops f o=gfo P C ops f' o:=by
 unfold gfo
 rw[Cr (f:=f) (f':=f') fun x _=>by rw[h.aE]]
 (try simp only[h.2.2])
theorem Lc{f:FR}{dst:Option Tmp}{v:MV}{o:Oper}(h:∀d,dst=some d→d∉o.looksAt ops):gfo P C ops (bD f dst v) o=gfo P C ops f o:=by
 have h1:gop P C (bD f dst v) o.op=gop P C f o.op:=Cr fun x hx=>QL fun d hd e=>h d hd (by
  subst e
  exact List.mem_append_left _ (List.mem_filterMap.2 ⟨.tmp d,by simpa using hx,rfl⟩))
 unfold gfo
 rw[h1]
 split
 ·rfl
 ·rename_i j want hg
  split
  ·rename_i t ht
   have:(bD f dst v).get t=f.get t:=by
    rw[lA,if_neg]
    rintro⟨e,-⟩
    exact h t e (by simp[Oper.looksAt,hg,ht])
   rw[this]
  ·rfl
def gl(P:Program)(C:cD)(ops:Array Oper)(K:FR→(Nat→Prop)→St→Prop):List Oper→FR→(Nat→Prop)→St→Prop
 | [],f,U,σ=>K f U σ
 | o::r,f,U,σ=>gs U σ (gfo P C ops f o) fun v U' σ'=>gl P C ops K r (bD f o.dst v) U' σ'
def KOk(K:FR→(Nat→Prop)→St→Prop):Prop:=∀f f' U U' σ,FEq f f'→(∀l,U l→U' l)→K f U σ→K f' U' σ
theorem vL{U:Nat→Prop}{σ:St}{g:GF}{k k':MV→(Nat→Prop)→St→Prop}(h:gs U σ g k)(hk:∀v U' σ',k v U' σ'→k' v U' σ'):gs U σ g k':=by
 obtain⟨os,e,h1,h2,h3,h4,h5⟩:=h
 exact⟨os,e,h1,h2,h3,h4,fun v U' σ' ho=>hk v U' σ' (h5 v U' σ' ho)⟩
theorem Ld{K:FR→(Nat→Prop)→St→Prop}(hK:KOk K):∀l,KOk (gl P C ops K l)
 | []=>hK
 | o::r=>fun f f' U U' σ hf hu h=>by
  simp only[gl] at h ⊢
  rw[←MK hf]
  refine Td (vL h fun v U' σ' hh=>Ld hK r _ (bD f' o.dst v) U' U' σ' (hf.put o.dst v) (fun _ h=>h) hh) hu fun v V V' σ hv hh=>Ld hK r _ _ V V' σ (.refl _) hv hh
def R9(u:iT)(ops:Array Oper)(x y:Oper):Bool:=x.apart ops y&&((rd0 y.op || AA u x.op)&&(rd0 x.op || noW u y.op)&&(noW u x.op || noW u y.op))
structure FX where
 t:Nat
 s:Nat
 ty:TypeId
 k:Nat
 off:Nat
 st:TypeId
 n:Nat
structure RX where
 Ds:List Nat
 Rs:List (Nat × Nat)
 dr:Option Nat
 u:iT
 Fs:List FX
def Wa(P:Program)(X:RX)(f:FR):Prop:=∀p,p∈X.Fs→(td P p.st).size=p.n∧(∀x c v,fL P p.ty x p.k=some (c,v)→∀l i o,v=.ptr l i o→∃o0,x=.ptr l i o0∧o=o0+p.off)∧∀l i o,f.get p.t=.ptr l i o→∃o0,f.get p.s=.ptr l i o0∧o=o0+p.off
def DOk(P:Program)(X:RX)(loc:Nat→Nat→Prop)(f:FR):Prop:=(∀t,t∈X.Ds→∃l i o,f.get t=.ptr l i o∧loc t l)∧(∀t t',t∈X.Ds→t'∈X.Ds→t≠t'→∀l,loc t l→¬loc t' l)∧(∀p,p∈X.Rs→p.2∈X.Ds∧∀l i o,f.get p.1=.ptr l i o→loc p.2 l)∧Wa P X f
theorem DOk.eq{X:RX}{loc:Nat→Nat→Prop}{f f':FR}(h:DOk P X loc f)(e:∀t,f.get t=f'.get t):DOk P X loc f' :=
 ⟨fun t ht=>by rw[←e t];exact h.1 t ht,h.2.1,fun p hp=>⟨(h.2.2.1 p hp).1,fun l i o q=>(h.2.2.1 p hp).2 l i o (by rw[e];exact q)⟩,fun p hp=>⟨(h.2.2.2 p hp).1,(h.2.2.2 p hp).2.1,fun l i o q=>by rw[←e p.s];exact(h.2.2.2 p hp).2.2 l i o (by rw[e];exact q)⟩⟩
def oV(X:RX)(loc:Nat→Nat→Prop)(C:cD):Prop:=PlU X.u C∧match X.dr with
 | none=>True
 | some d=>d∈X.Ds∧∀g ms F,C g ms=some F→∀l,l∈F.rd→loc d l
def x0(X:RX)(t:Nat):Option Nat:=if X.Ds.contains t then some t else(X.Rs.find? fun p=>p.1==t).map (·.2)
def dsr(X:RX):Op→Option Nat
 | .load _ (.tmp t)=>x0 X t
 | .store _ (.tmp t) _=>x0 X t
 | .call ⟨.value _,_,_⟩=>X.dr
 | _=>none
def UD(X:RX)(x y:Op):Bool:=match dsr X x,dsr X y with
 | some a,some b=>a != b
 | _,_=>false
def FV:Op→Option Bool
 | .load ..|.store ..=>some false
 | .lookup ..|.mapUpdate ..=>some true
 | _=>none
def UH(x y:Op):Bool:=match FV x,FV y with
 | some a,some b=>a != b
 | _,_=>false
def IU:aT→Bool
 | .mp _=>true
 | _=>false
def B5(b:Bool)(g:GF):Prop:=∀os e,os.length=g.1.length→g.2 os=some e→(∀o,o∈os→IU o=b)∧e.kill=none∧e.new=none∧∀p,e.upd=some p→∀l o,p l=some o→IU o=b
theorem Dn{b:Bool}(pv:PV):B5 b (eI pv):=fun os e hl he=>by
 obtain rfl:os=[]:=List.eq_nil_of_length_eq_zero hl
 simp only[eI,Option.map_eq_some_iff] at he
 obtain⟨x,-,rfl⟩:=he
 exact⟨fun o ho=>(by cases ho),rfl,rfl,fun p hp=>by cases hp⟩
theorem qR{b:Bool}:B5 b bZ:=fun os e hl he=>by cases he
theorem KT{b:Bool}{os:List aT}{e:Eff}{q:aT}(h1:os=[q])(hq:IU q=b)(h2:e.kill=none)(h3:e.new=none)(h4:e.upd=none∨∃l q',e.upd=some (St.none.set l q')∧IU q'=b) :
  (∀o,o∈os→IU o=b)∧e.kill=none∧e.new=none∧∀p,e.upd=some p→∀l o,p l=some o→IU o=b:=by
 refine⟨fun o ho=>?_,h2,h3,fun p hp l o hl=>?_⟩
 ·rw[h1,List.mem_singleton] at ho;rw[ho];exact hq
 ·rcases h4 with h4|⟨l',q',h4,hq'⟩
  ·rw[h4] at hp;cases hp
  ·rw[h4] at hp
   cases hp
   unfold St.set at hl
   split at hl
   ·cases hl;exact hq'
   ·cases hl
theorem Pn{op:Op}{b:Bool}(h:FV op=some b)(f:FR):B5 b (gop P C f op):=by
 unfold FV at h
 split at h
 ·cases h
  (try simp only[gop])
  unfold oW
  split
  ·intro os e hl he
   simp only at he
   split at he
   ·cases he;exact KT rfl rfl rfl rfl (.inl rfl)
   ·cases he
  ·exact Dn _
  ·exact qR
 ·cases h
  (try simp only[gop])
  unfold eE
  split
  ·intro os e hl he
   simp only at he
   split at he
   ·cases he;exact KT rfl rfl rfl rfl (.inr ⟨_,_,rfl,rfl⟩)
   ·cases he
  ·exact qR
 ·cases h
  (try simp only[gop])
  unfold j7
  split
  ·intro os e hl he
   simp only at he
   split at he
   ·cases he;exact KT rfl rfl rfl rfl (.inl rfl)
   ·cases he
  ·exact qR
 ·cases h
  (try simp only[gop])
  unfold mL
  split
  ·intro os e hl he
   simp only at he
   split at he
   ·cases he;exact KT rfl rfl rfl rfl (.inr ⟨_,_,rfl,rfl⟩)
   ·cases he
  ·exact qR
 ·cases h
theorem Pm{o:Oper}{b:Bool}(h:FV o.op=some b)(f:FR):B5 b (gfo P C ops f o):=by
 unfold gfo
 split
 ·exact Pn h f
 ·split
  ·split
   ·split
    ·exact Pn h f
    ·exact Dn _
   ·exact Dn _
   ·exact qR
  ·exact qR
theorem U5{b b':Bool}(hb:b≠b'){g g':GF}(hg:B5 b g)(hg':B5 b' g'){U:Nat→Prop}{σ:St}{K:MV→MV→(Nat→Prop)→St→Prop}(h:gs U σ g fun v U1 σ1=>gs U1 σ1 g' (K v)):∀l,l∈g.1→l∉g'.1:=by
 intro l hl hl'
 obtain⟨os,e,h1,h2,-,h4,h5⟩:=h
 obtain⟨k1,k2,k3,k4⟩:=hg os e (i7 h1) h2
 obtain⟨v,hv⟩:=h4 0
 obtain⟨os',e',q1,q2,-,-,-⟩:=h5 v U (e.app σ) (by unfold Eff.out;rw[k3];exact⟨hv,rfl,rfl⟩)
 obtain⟨w1,-⟩:=hg' os' e' (i7 q1) q2
 have at_:∀{os:List aT} {rd:List Nat} {τ:St},rd.map τ=os.map some→l∈rd→∃o,o∈os∧τ l=some o:=fun {os rd τ} hm hin=>by
  have:τ l∈os.map some:=by rw[←hm];exact List.mem_map.2 ⟨l,hin,rfl⟩
  obtain⟨o,ho,e⟩:=List.mem_map.1 this
  exact⟨o,ho,e.symm⟩
 obtain⟨o1,m1,e1⟩:=at_ h1 hl
 obtain⟨o2,m2,e2⟩:=at_ q1 hl'
 have r2:=w1 o2 m2
 have:IU o2=b:=by
  unfold Eff.app at e2
  split at e2
  ·unfold Eff.upl at e2
   split at e2
   ·rename_i u hu
    exact k4 u hu l o2 e2
   ·cases e2
  ·rw[if_neg (by rw[k2];simp),e1] at e2
   cases e2
   exact k1 o1 m1
 exact hb (this.symm.trans r2)
def sta:Op→Option (TypeId × Nat)
 | .store t (.tmp a) _=>some (t,a)
 | _=>none
def Vf(X:RX)(x y:Op):Bool:=match sta x,sta y with
 | some (t,a),some (t',b)=>X.Fs.any fun p=>(p.t==a&&p.st==t)&&X.Fs.any fun q=>(q.t==b&&q.st==t')&&(p.s==q.s&&(decide (p.off+p.n≤q.off) || decide (q.off+q.n≤p.off)))
 | _,_=>false
def yB(X:RX)(ops:Array Oper)(x y:Oper):Bool:=R9 X.u ops x y || (x.apart ops y&&((UD X x.op y.op || UH x.op y.op) || Vf X x.op y.op))
def Dm(X:RX)(r:Nat):Op→Bool
 | .fieldAddr _ (.tmp s) _|.move (.tmp s)=>x0 X s==some r
 | _=>false
def Vl(p:FX):Op→Bool
 | .fieldAddr ty (.tmp s) k=>(ty==p.ty&&s==p.s)&&k==p.k
 | _=>false
def DN(X:RX)(o:Oper):Bool:=match o.dst with
 | some d=>!X.Ds.contains d&&X.Rs.all fun p=>p.1 != d || Dm X p.2 o.op
 | none=>true
def DM(X:RX)(o:Oper):Bool:=match o.dst with
 | some d=>X.Fs.all fun p=>p.s != d&&(p.t != d || Vl p o.op)
 | none=>true
def vP(X:RX)(o:Oper):Bool:=DN X o&&DM X o
def GV(g:GF)(v:MV):Prop:=∃os e l,g.2 os=some e∧e.v l v
theorem IN{U:Nat→Prop}{σ:St}{g:GF}{k:MV→(Nat→Prop)→St→Prop}(h:gs U σ g k):gs U σ g fun v U' σ'=>GV g v∧k v U' σ':=by
 obtain⟨os,e,h1,h2,h3,h4,h5⟩:=h
 refine⟨os,e,h1,h2,h3,h4,fun v U' σ' ho=>⟨?_,h5 v U' σ' ho⟩⟩
 unfold Eff.out at ho
 split at ho
 ·exact⟨os,e,0,h2,ho.1⟩
 ·obtain⟨l,-,hv,-⟩:=ho
  exact⟨os,e,l,h2,hv⟩
theorem AS{X:RX}{loc:Nat→Nat→Prop}{f:FR}(h:DOk P X loc f){t r:Nat}(hr:x0 X t=some r):r∈X.Ds∧∀l i o,f.get t=.ptr l i o→loc r l:=by
 unfold x0 at hr
 split at hr
 ·rename_i hm
  cases hr
  have hm:t∈X.Ds:=by simpa using hm
  refine⟨hm,fun l i o e=>?_⟩
  obtain⟨l',i',o',e',hl⟩:=h.1 t hm
  rw[e] at e'
  cases e'
  exact hl
 ·obtain⟨p,hp,rfl⟩:=Option.map_eq_some_iff.1 hr
  have h1:=List.find?_some hp
  have h2:=List.mem_of_find?_eq_some hp
  obtain⟨h3,h4⟩:=h.2.2.1 p h2
  refine⟨h3,fun l i o e=>h4 l i o ?_⟩
  have:p.1=t:=by simpa using h1
  rw[this];exact e
theorem oD{pv:PV}{v:MV}(h:GV (eI pv) v):∃c,pv=some (c,v):=by
 obtain⟨os,e,l,h1,h2⟩:=h
 simp only[eI,Option.map_eq_some_iff] at h1
 obtain⟨x,hx,rfl⟩:=h1
 exact⟨x.1,by rw[hx];congr 1;exact Prod.ext rfl h2.symm⟩
theorem ID{X:RX}{loc:Nat→Nat→Prop}{f:FR}(h:DOk P X loc f){r:Nat}{o:Oper}(hd:Dm X r o.op=true){v:MV}(hv:GV (gfo P C ops f o) v){l i j:Nat}(e:v=.ptr l i j):loc r l:=by
 subst e
 have key:GV (gop P C f o.op) (.ptr l i j)→loc r l:=by
  intro hv
  unfold Dm at hd
  split at hd
  ·rename_i ty s k hop
   rw[hop] at hv
   obtain⟨c,hc⟩:=oD hv
   have hr:x0 X s=some r:=by simpa using hd
   simp only[qop,fL,aE] at hc
   split at hc
   ·split at hc
    ·rename_i l' i' o' hs
     simp only[Option.some.injEq,Prod.mk.injEq,MV.ptr.injEq] at hc
     rw[←hc.2.1]
     exact(AS h hr).2 _ _ _ (by assumption)
    ·simp at hc
    ·cases hc
   ·cases hc
  ·rename_i s hop
   rw[hop] at hv
   obtain⟨c,hc⟩:=oD hv
   have hr:x0 X s=some r:=by simpa using hd
   simp only[qop,aE,Option.some.injEq,Prod.mk.injEq] at hc
   exact(AS h hr).2 _ _ _ hc.2
  ·cases hd
 unfold gfo at hv
 split at hv
 ·exact key hv
 ·split at hv
  ·split at hv
   ·split at hv
    ·exact key hv
    ·obtain⟨c,hc⟩:=oD hv;simp at hc
   ·obtain⟨c,hc⟩:=oD hv;simp at hc
   ·obtain⟨os,e,l,h1,h2⟩:=hv;simp[bZ] at h1
  ·obtain⟨os,e,l,h1,h2⟩:=hv;simp[bZ] at h1
theorem Wz{f:FR}{p:FX}{o:Oper}(ho:Vl p o.op=true){v:MV}(hv:GV (gfo P C ops f o) v){l i j:Nat}(e:v=.ptr l i j):∃c,fL P p.ty (f.get p.s) p.k=some (c,v):=by
 have key:GV (gop P C f o.op) v→∃c,fL P p.ty (f.get p.s) p.k=some (c,v):=by
  intro hv
  unfold Vl at ho
  split at ho
  ·rename_i ty s k hop
   simp only[Bool.and_eq_true,beq_iff_eq] at ho
   obtain⟨⟨rfl,rfl⟩,rfl⟩:=ho
   rw[hop] at hv
   exact oD hv
  ·cases ho
 subst e
 unfold gfo at hv
 split at hv
 ·exact key hv
 ·split at hv
  ·split at hv
   ·split at hv
    ·exact key hv
    ·obtain⟨c,hc⟩:=oD hv;simp at hc
   ·obtain⟨c,hc⟩:=oD hv;simp at hc
   ·obtain⟨os,e,l,h1,h2⟩:=hv;simp[bZ] at h1
  ·obtain⟨os,e,l,h1,h2⟩:=hv;simp[bZ] at h1
theorem DOk.put{X:RX}{loc:Nat→Nat→Prop}{f:FR}(h:DOk P X loc f){o:Oper}(hk:vP X o=true){v:MV}(hv:GV (gfo P C ops f o) v):DOk P X loc (bD f o.dst v):=by
 obtain⟨hk,hkf⟩:DN X o=true∧DM X o=true:=by simpa only[vP,Bool.and_eq_true] using hk
 refine⟨fun t ht=>?_,h.2.1,fun p hp=>⟨(h.2.2.1 p hp).1,fun l i j e=>?_⟩,fun p hp=>⟨(h.2.2.2 p hp).1,(h.2.2.2 p hp).2.1,fun l i j e=>?_⟩⟩
 ·rw[lA,if_neg]
  ·exact h.1 t ht
  ·rintro⟨e,-⟩
   simp only[DN,e,Bool.and_eq_true,Bool.not_eq_true',List.contains_iff_mem] at hk
   simp[ht] at hk
 ·rw[lA] at e
  split at e
  ·rename_i hd
   simp only[DN,hd.1,Bool.and_eq_true,List.all_eq_true,Bool.or_eq_true,bne_iff_ne,ne_eq] at hk
   rcases hk.2 p hp with hn|hn
   ·exact absurd rfl hn
   ·exact ID h hn hv e
  ·exact(h.2.2.1 p hp).2 l i j e
 ·have hs:(bD f o.dst v).get p.s=f.get p.s:=by
   rw[lA,if_neg]
   rintro⟨q,-⟩
   simp only[DM,q,List.all_eq_true,Bool.and_eq_true,bne_iff_ne,ne_eq] at hkf
   exact(hkf p hp).1 rfl
  rw[hs]
  rw[lA] at e
  split at e
  ·rename_i hd
   simp only[DM,hd.1,List.all_eq_true,Bool.and_eq_true,Bool.or_eq_true,bne_iff_ne,ne_eq] at hkf
   rcases (hkf p hp).2 with hn|hn
   ·exact absurd rfl hn
   ·obtain⟨c,hc⟩:=Wz hn hv e
    exact(h.2.2.2 p hp).2.1 _ c v hc l i j e
  ·exact(h.2.2.2 p hp).2.2 l i j e
def Calm(g:GF):Prop:=g.1=[]∧kT g∧NoW g
theorem Ca(pv:PV):Calm (eI pv):=⟨rfl,(cZ pv).2.2.1,(cZ pv).2.1⟩
theorem vE:Calm bZ:=⟨rfl,bF.2.2.1,bF.2.1⟩
theorem FD(f:FR)(o:Oper):gfo P C ops f o=gop P C f o.op∨Calm (gfo P C ops f o):=by
 unfold gfo
 split
 ·exact .inl rfl
 ·split
  ·split
   ·split
    ·exact .inl rfl
    ·exact .inr (Ca _)
   ·exact .inr (Ca _)
   ·exact .inr vE
  ·exact .inr vE
theorem xJ(t:TypeId)(x y:MV):(∃l i o,x=.ptr l i o)∨Calm (eE P t x y):=by
 cases x<;>first|exact .inl ⟨_,_,_,rfl⟩|exact .inr vE
theorem R7{f:FR}{op:Op}{t:TypeId}{a:Nat}(h:sta op=some (t,a)):∃y,gop P C f op=eE P t (f.get a) y:=by
 unfold sta at h
 split at h
 ·cases h;exact⟨_,rfl⟩
 ·cases h
theorem Pt{X:RX}{loc:Nat→Nat→Prop}{f:FR}(h:DOk P X loc f){x o:Oper}(hf:Vf X x.op o.op=true):(Calm (gfo P C ops f x)∨Calm (gfo P C ops f o)) ∨
  ∃t t' l i a b y y',gfo P C ops f x=eE P t (.ptr l i a) y∧gfo P C ops f o=eE P t' (.ptr l i b) y'∧(a+(td P t).size≤b∨b+(td P t').size≤a):=by
 unfold Vf at hf
 split at hf
 ·rename_i t a t' b hx ho
  simp only[List.any_eq_true,Bool.and_eq_true,Bool.or_eq_true,beq_iff_eq,decide_eq_true_eq] at hf
  obtain⟨p,hp,⟨rfl,rfl⟩,q,hq,⟨rfl,rfl⟩,hs,hd⟩:=hf
  rcases FD (P:=P) (C:=C) (ops:=ops) f x with ex|ex
  ·rcases FD (P:=P) (C:=C) (ops:=ops) f o with eo|eo
   ·obtain⟨y,ey⟩:=R7 (P:=P) (C:=C) (f:=f) hx
    obtain⟨y',ey'⟩:=R7 (P:=P) (C:=C) (f:=f) ho
    rw[ex,eo,ey,ey']
    rcases xJ (P:=P) p.st (f.get p.t) y with⟨l,i,a,ea⟩|c
    ·rcases xJ (P:=P) q.st (f.get q.t) y' with⟨l',i',b,eb⟩|c
     ·obtain⟨o1,g1,r1⟩:=(h.2.2.2 p hp).2.2 l i a ea
      obtain⟨o2,g2,r2⟩:=(h.2.2.2 q hq).2.2 l' i' b eb
      rw[←hs,g1] at g2
      cases g2
      refine .inr ⟨p.st,q.st,l,i,a,b,y,y',by rw[ea],by rw[eb],?_⟩
      rw[(h.2.2.2 p hp).1,(h.2.2.2 q hq).1]
      omega
     ·exact .inl (.inr c)
    ·exact .inl (.inl c)
   ·exact .inl (.inr eo)
  ·exact .inl (.inl ex)
 ·cases hf
theorem MT{cs xs ys:List MV}{o o':Nat}(h:o+xs.length≤cs.length)(h':o'+ys.length≤cs.length)(hd:o+xs.length≤o'∨o'+ys.length≤o):laid (laid cs o xs) o' ys=laid (laid cs o' ys) o xs:=by
 apply List.ext_getElem?
 intro i
 rw[nL (by rw[kJ h];exact h'),nL h,nL (by rw[kJ h'];exact h),nL h']
 by_cases a:o≤i∧i<o+xs.length
 ·by_cases b:o'≤i∧i<o'+ys.length
  ·omega
  ·(try simp only[if_pos a,if_neg b])
 ·by_cases b:o'≤i∧i<o'+ys.length
  ·(try simp only[if_neg a,if_pos b])
  ·(try simp only[if_neg a,if_neg b])
theorem Ky{U:Nat→Prop}{σ:St}{t t':TypeId}{l i o o':Nat}{y y':MV}{K:MV→MV→(Nat→Prop)→St→Prop}(hd:o+(td P t).size≤o'∨o'+(td P t').size≤o)
 (hK:∀v u V V' σ,(∀l,V l→V' l)→K v u V σ→K v u V' σ)
 (h:gs U σ (eE P t (.ptr l i o) y) fun v U1 σ1=>gs U1 σ1 (eE P t' (.ptr l i o') y') fun u U2 σ2=>K v u U2 σ2) :
  gs U σ (eE P t' (.ptr l i o') y') fun u U1 σ1=>∀U1',(∀l,U1 l→U1' l)→gs U1' σ1 (eE P t (.ptr l i o) y) fun v U2 σ2=>K v u U2 σ2:=by
 obtain⟨os,e,h1,h2,h3,-,h5⟩:=h
 simp only[eE] at h1 h2
 split at h2
 ·rename_i tt ee xs
  cases h2
  simp only[List.map_cons,List.map_nil,List.cons.injEq,and_true] at h1
  obtain⟨c1,c2,c3,c4,c5⟩:=h3
  have hg:∀A,(xs.set i A).getD i []=A:=fun A=>by simp[List.getD,List.getElem?_set,c2]
  have g:=h5 .junk U (σ.set l (.row tt ee (xs.set i (laid (xs.getD i []) o y.cells)))) ⟨rfl,rfl,by rw[mF]⟩
  obtain⟨os',e',k1,k2,k3,-,k5⟩:=g
  simp only[eE] at k1 k2
  split at k2
  ·rename_i tt' ee' xs'
   cases k2
   simp only[List.map_cons,List.map_nil,List.cons.injEq,and_true,aD,Option.some.injEq,aT.row.injEq] at k1
   obtain⟨rfl,rfl,rfl⟩:=k1
   obtain⟨d1,d2,d3,d4,d5⟩:=k3
   rw[hg,kJ c5] at d5
   refine⟨[.row tt ee xs],⟨_,none,some (St.none.set l (.row tt ee (xs.set i (laid (xs.getD i []) o' y'.cells)))),none,fun _ u=>u=.junk⟩,by simp[eE,h1],rfl,⟨d1,c2,d3,d4,d5⟩,fun _=>⟨.junk,rfl⟩,fun u U1 σ1 ho U1' hu=>?_⟩
   obtain⟨rfl,rfl,rfl⟩:=ho
   rw[mF]
   refine⟨[.row tt ee (xs.set i (laid (xs.getD i []) o' y'.cells))],⟨_,none,some (St.none.set l (.row tt ee ((xs.set i (laid (xs.getD i []) o' y'.cells)).set i (laid ((xs.set i (laid (xs.getD i []) o' y'.cells)).getD i []) o y.cells)))),none,fun _ u=>u=.junk⟩,by simp[eE,aD],rfl,⟨c1,by simpa using c2,c3,c4,by rw[hg,kJ d5];exact c5⟩,fun _=>⟨.junk,rfl⟩,fun v U2 σ2 ho=>?_⟩
   obtain⟨rfl,rfl,rfl⟩:=ho
   rw[mF]
   refine hK _ _ U1 _ _ hu ?_
   have r:=k5 .junk U1 _ ⟨rfl,rfl,rfl⟩
   rw[mF] at r
   have es:∀A B:aT,(σ.set l A).set l B=σ.set l B:=fun A B=>by
    funext k
    (try simp only[St.set])
    split<;>rfl
   rw[es] at r ⊢
   rw[hg] at r ⊢
   rw[List.set_set] at r ⊢
   rw[MT d5 c5 oM]
   exact r
  ·cases k2
 ·cases h2
theorem Cg{X:RX}{loc:Nat→Nat→Prop}{f:FR}(h:DOk P X loc f)(hC:oV X loc C){o:Oper}{r:Nat}(ho:dsr X o.op=some r):r∈X.Ds∧∀l,l∈(gfo P C ops f o).1→loc r l:=by
 have ld:∀{t:Nat},x0 X t=some r→r∈X.Ds∧∀g:MV→GF,(∀v,(∀l i j,v≠.ptr l i j)→(g v).1=[])→(∀l i j,(g (.ptr l i j)).1=[l])→∀l,l∈(g (f.get t)).1→loc r l:=by
  intro t ht
  obtain⟨h1,h2⟩:=AS h ht
  refine⟨h1,fun g hg1 hg2 l hl=>?_⟩
  by_cases hp:∃l' i j,f.get t=.ptr l' i j
  ·obtain⟨l',i,j,e⟩:=hp
   rw[e,hg2] at hl
   rw[List.mem_singleton.1 hl]
   exact h2 _ _ _ e
  ·rw[hg1 _ (fun l i j e=>hp ⟨l,i,j,e⟩)] at hl
   cases hl
 have key:r∈X.Ds∧∀l,l∈(gop P C f o.op).1→loc r l:=by
  unfold dsr at ho
  split at ho
  ·rename_i ty u hop
   obtain⟨h1,h2⟩:=ld ho
   refine⟨h1,fun l hl=>?_⟩
   rw[hop] at hl
   exact h2 (oW P ty) (fun v hv=>by unfold oW;split<;>first|rfl|exact absurd rfl (hv _ _ _)) (fun l i j=>rfl) l hl
  ·rename_i ty u y hop
   obtain⟨h1,h2⟩:=ld ho
   refine⟨h1,fun l hl=>?_⟩
   rw[hop] at hl
   exact h2 (fun v=>eE P ty v (aE f y)) (fun v hv=>by unfold eE;split<;>first|rfl|exact absurd rfl (hv _ _ _)) (fun l i j=>rfl) l hl
  ·rename_i x args ts hop
   unfold oV at hC
   replace hC:=hC.2
   rw[ho] at hC
   simp only at hC
   refine⟨hC.1,fun l hl=>?_⟩
   rw[hop] at hl
   simp only[gop] at hl
   split at hl
   ·unfold iH at hl
    split at hl
    ·rename_i hc;exact hC.2 _ _ _ hc l hl
    ·unfold Tb at hl;split at hl<;>cases hl
    ·rename_i hc;exact hC.2 _ _ _ hc l hl
    ·cases hl
   ·cases hl
  ·cases ho
 refine⟨key.1,fun l hl=>?_⟩
 unfold gfo at hl
 split at hl
 ·exact key.2 l hl
 ·split at hl
  ·split at hl
   ·split at hl
    ·exact key.2 l hl
    ·simp[eI] at hl
   ·simp[eI] at hl
   ·simp[bZ] at hl
  ·simp[bZ] at hl
theorem oV.u{X:RX}{loc:Nat→Nat→Prop}(h:oV X loc C):PlU X.u C:=h.1
theorem pull{K:FR→(Nat→Prop)→St→Prop}(hK:KOk K){X:RX}{loc:Nat→Nat→Prop}(hC:oV X loc C)(l2:List Oper)(o:Oper):∀(l1:List Oper) (f:FR) (U:Nat→Prop) (σ:St),Dom U σ→Fin U→DOk P X loc f→(∀x,x∈l1→yB X ops x o=true)→(∀x,x∈l1→vP X x=true) →
  gl P C ops K (l1++o::l2) f U σ→gs U σ (gfo P C ops f o) fun v U1 σ1=>∀U1',(∀l,U1 l→U1' l)→gl P C ops K (l1++l2) (bD f o.dst v) U1' σ1:=by
 intro l1
 induction l1 with
 | nil =>
  intro f U σ hd hf _ _ _ h
  exact vL h fun v U' σ' hh U1' hu=>Ld hK _ _ _ U' U1' σ' (.refl _) hu hh
 | cons x l1 ih =>
  intro f U σ hd hf hD hsw hkp h
  have hx:=hsw x (by simp)
  have wx:=SC (P:=P) (C:=C) (ops:=ops) hC.u f x
  have wo:=SC (P:=P) (C:=C) (ops:=ops) hC.u f o
  have hap:x.apart ops o=true:=by
   simp only[yB,R9,Bool.or_eq_true,Bool.and_eq_true] at hx
   rcases hx with⟨hap,-⟩|⟨hap,-⟩<;>exact hap
  obtain⟨a1,a2,a3⟩:=Oper.apart_spec hap
  simp only[List.cons_append,gl] at h
  have h':=yR (IN h) hd hf (k':=fun v U1 σ1=>gs U1 σ1 (gfo P C ops f o) fun u U2 σ2=>∀U2',(∀l,U2 l→U2' l)→gl P C ops K (l1++l2) (bD (bD f x.dst v) o.dst u) U2' σ2) (fun v U1 σ1 hd1 hf1 _ ⟨hgv,hh⟩=>by
   have:=ih (bD f x.dst v) U1 σ1 hd1 hf1 (hD.put (hkp x (by simp)) hgv) (fun y hy=>hsw y (by simp[hy])) (fun y hy=>hkp y (by simp[hy])) hh
   rwa [Lc a1] at this) wx.1
  have hK':∀(v u:MV) (V V':Nat→Prop) (σ:St),(∀l,V l→V' l)→(∀U2':Nat→Prop,(∀l,V l→U2' l)→gl P C ops K (l1++l2) (bD (bD f x.dst v) o.dst u) U2' σ)→∀U2':Nat→Prop,(∀l,V' l→U2' l)→gl P C ops K (l1++l2) (bD (bD f x.dst v) o.dst u) U2' σ:=fun v u V V' σ hv hh U2' hu=>hh U2' fun l hl=>hu l (hv l hl)
  have hc:((((gfo P C ops f o).1=[]∨kT (gfo P C ops f x))∧((gfo P C ops f x).1=[]∨NoW (gfo P C ops f o))∧(NoW (gfo P C ops f x)∨NoW (gfo P C ops f o)))∨∀l,l∈(gfo P C ops f x).1→l∉(gfo P C ops f o).1) ∨
    gs U σ (gfo P C ops f o) fun u U1 σ1=>∀U1',(∀l,U1 l→U1' l)→gs U1' σ1 (gfo P C ops f x) fun v U2 σ2=>∀U2',(∀l,U2 l→U2' l)→gl P C ops K (l1++l2) (bD (bD f x.dst v) o.dst u) U2' σ2:=by
   simp only[yB,R9,Bool.or_eq_true,Bool.and_eq_true] at hx
   rcases hx with⟨-,⟨c1,c2⟩,c3⟩|⟨-,(hdj|hdj)|hdj⟩
   ·exact .inl (.inl ⟨c1.imp wo.2.2.2 wx.2.1,c2.imp wx.2.2.2 wo.2.2.1,c3.imp wx.2.2.1 wo.2.2.1⟩)
   ·refine .inl (.inr ?_)
    unfold UD at hdj
    split at hdj
    ·rename_i a b ha hb
     obtain⟨m1,r1⟩:=Cg (P:=P) (C:=C) (ops:=ops) hD hC ha
     obtain⟨m2,r2⟩:=Cg (P:=P) (C:=C) (ops:=ops) hD hC hb
     intro l h1 h2
     have e1:=r1 l h1
     have e2:=r2 l h2
     exact hD.2.1 a b m1 m2 (by simpa using hdj) l e1 e2
    ·cases hdj
   ·refine .inl (.inr ?_)
    unfold UH at hdj
    split at hdj
    ·rename_i a b ha hb
     exact U5 (by simpa using hdj) (Pm ha f) (Pm hb f) h'
    ·cases hdj
   ·rcases Pt (P:=P) (C:=C) (ops:=ops) hD hdj with(q|q)|⟨t,t',l,i,a,b,y,y',q1,q2,q3⟩
    ·exact .inl (.inl ⟨.inr q.2.1,.inl q.1,.inl q.2.2⟩)
    ·exact .inl (.inl ⟨.inl q.1,.inr q.2.2,.inr q.2.2⟩)
    ·refine .inr ?_
     rw[q1,q2] at h' ⊢
     exact Ky q3 hK' h'
  have h2:gs U σ (gfo P C ops f o) fun u U1 σ1=>∀U1',(∀l,U1 l→U1' l)→gs U1' σ1 (gfo P C ops f x) fun v U2 σ2=>∀U2',(∀l,U2 l→U2' l)→gl P C ops K (l1++l2) (bD (bD f x.dst v) o.dst u) U2' σ2:=hc.elim (fun hc=>Tf (K:=fun v u U2 σ2=>∀U2',(∀l,U2 l→U2' l)→gl P C ops K (l1++l2) (bD (bD f x.dst v) o.dst u) U2' σ2) hd hf wx.1 wo.1 hc hK' h') fun h=>h
  refine vL h2 fun u U1 σ1 hh U1' hu=>?_
  (try simp only[List.cons_append,gl])
  rw[Lc a3]
  refine vL (hh U1' hu) fun v U2 σ2 hk=>?_
  exact Ld hK _ _ _ U2 U2 σ2 (FEq.comm f v u a2) (fun _ h=>h) (hk U2 fun _ h=>h)
end
end
end Go.Proofs.YtppdgejjmhdjhaaGreatDoor
