/- Parts of the proof; conditions: as its theorems name them. -/
import Derived.Test.YtppdgejjmhdjhaaGreatDoorM9a
import Derived.MapKept
import Derived.Maps.RangeRun
import Derived.RangeFuncLeaves
import Derived.RangeFuncRecord
import Derived.Test.YtppdgejjmhdjhaaGreatDoorRows
import Derived.KernelRfl
import Derived.Conc.MuLone
set_option linter.unusedVariables false
set_option linter.unusedSimpArgs false
set_option maxHeartbeats 8000000
set_option maxRecDepth 100000
namespace Go.Proofs.YtppdgejjmhdjhaaGreatDoor
section
open Go.MapKept
def isK(k:IntKind):MV→Bool
 | .int k' _=>decide (k'=k)
 | _=>false
def dT(n:Int):List (MV × MV)→Option MV
 | []=>none
 | (.int _ m,v)::r=>if m=n then some v else dT n r
 | _::r=>dT n r
def dG(k:IntKind)(n:Int)(v:MV):List (MV × MV)→List (MV × MV)
 | []=>[(.int k n,v)]
 | (.int k' m,u)::r=>if m=n then(.int k' m,v)::r else(.int k' m,u)::dG k n v r
 | x::r=>x::dG k n v r
theorem mH{k:IntKind}{m:MV}(h:isK k m=true):∃n,m=.int k n:=by
 cases m<;>simp[isK] at h
 subst h;exact⟨_,rfl⟩
theorem vK{k:IntKind}{n:Int}{Φ:Phi}(v':MV):∀(l:List MapEntry) (es:List (MV × MV)) (i0:Nat),l.length=es.length→(es.all fun x=>isK k x.1)=true→(∀(i:Nat) (x:MV × MV),es[i]?=some x→∃e:MapEntry,l[i]?=some e∧Rel Φ e.key x.1) →
  (∀x:MapEntry,x∈l→IsKey (.int k) x.key)∧((dT n es=none∧Instr.findNow (.int k) (.int k n) l i0=some none∧dG k n v' es=es++[(.int k n,v')]) ∨
   ∃(j:Nat) (e:MapEntry) (v:MV),dT n es=some v∧Instr.findNow (.int k) (.int k n) l i0=some (some (i0+j,e.val))∧l[j]?=some e∧e.key=.int k n∧es[j]?=some (.int k n,v)∧dG k n v' es=es.set j (.int k n,v'))
 | [],[],_,_,_,_=>⟨by simp,.inl ⟨rfl,rfl,rfl⟩⟩
 | [],_::_,_,h,_,_=>by simp at h
 | _::_,[],_,h,_,_=>by simp at h
 | e::l,(x,u)::es,i0,hl,hk,hr=>by
  simp only[List.all_cons,Bool.and_eq_true] at hk
  obtain⟨m,rfl⟩:=mH hk.1
  obtain⟨e',he',hrel⟩:=hr 0 _ rfl
  simp only[List.getElem?_cons_zero,Option.some.injEq] at he'
  subst he'
  have hkey:=hrel.aT
  obtain⟨q1,q2⟩:=vK (n:=n) v' l es (i0+1) (by simpa using hl) hk.2 fun i x hx=>hr (i+1) x (by simpa using hx)
  refine⟨?_,?_⟩
  ·intro y hy
   rcases List.mem_cons.1 hy with rfl|hy
   ·rw[hkey];exact rfl
   ·exact q1 y hy
  ·by_cases hmn:m=n
   ·subst hmn
    right
    refine⟨0,e,u,by simp[dT],?_,rfl,hkey,rfl,by simp[dG]⟩
    simp[Instr.findNow,Instr.sameNow,hkey]
   ·have hf:Instr.findNow (.int k) (.int k n) (e::l) i0=Instr.findNow (.int k) (.int k n) l (i0+1):=by
     have:(n==m)=false:=by simpa using Ne.symm hmn
     simp[Instr.findNow,Instr.sameNow,hkey,this]
    rw[hf]
    rcases q2 with⟨a,b,c⟩|⟨j,e2,v,a,b,c,d,e3,f⟩
    ·exact .inl ⟨by simp[dT,hmn,a],b,by simp[dG,hmn,c]⟩
    ·refine .inr ⟨j+1,e2,v,by simp[dT,hmn,a],?_,by simpa using c,d,by simpa using e3,by simp[dG,hmn,f]⟩
     rw[b];simp;omega
theorem Fo{Φ:Phi}{k:IntKind}{n:Int}:∀{es:List (MV × MV)} {x:MV × MV} {v:Value},dT n es=none→(es.all fun p=>isK k p.1)=true→x∈es→Rel Φ v x.1→v≠.int k n
 | [],_,_,_,_,hx,_=>by cases hx
 | (y,u)::es,x,v,h0,hk,hx,hr=>by
  simp only[List.all_cons,Bool.and_eq_true] at hk
  obtain⟨m,rfl⟩:=mH hk.1
  by_cases hm:m=n
  ·simp[dT,hm] at h0
  ·simp only[dT,if_neg hm] at h0
   rcases List.mem_cons.1 hx with rfl|hx
   ·rw[hr.aT]
    intro e;cases e;exact hm rfl
   ·exact Fo h0 hk.2 hx hr
theorem eX.FH{Φ:Phi}{w:World}{l:Nat}{es:List (MV × MV)}(h:eX Φ w l (.mp es)):∃(p:Place) (R:Nat) (c:Array MapEntry) (clock:Nat),Φ.obj l=some p∧p.blk=some R∧w.heap[R]?=some (.map c clock)∧c.size=es.length∧Stamped c clock ∧
  ∀(i:Nat) (x:MV × MV),es[i]?=some x→∃e,c.toList[i]?=some e∧Rel Φ e.key x.1∧Rel Φ e.val x.2:=by
 obtain⟨p,R,hp,hR,c,clock,hh,⟨hs,hst⟩,hr⟩:=h
 refine⟨p,R,c,clock,hp,hR,hh,hs,hst,fun i x hx=>?_⟩
 have hi:=(List.getElem?_eq_some_iff.1 hx).1
 have hic:i<c.size:=by omega
 have:=hr i x hx
 rw[show c.getD i default=c[i] by simp[Array.getD,hic]] at this
 exact⟨c[i],by simp[hic],this⟩
theorem HM{P:Program}{o:Oper}{f:FR}{σ:St}{k:MV→St→Prop}{t:TypeId}(ho:o.op=.makeMap t none)(hk:∀l,σ l=none→k (.mapv l) (σ.set l (.mp []))):sop P o f σ k:=by
 intro Φ w a K Q' hi hr hK
 obtain⟨n,hn⟩:=hi.fresh.1.1
 have hl:=hn n (Nat.le_refl _)
 have hrun:(execOp a.eval o).run P w=.ok (.value (.map (some w.heap.size))) (w.alloc (.map #[] 0)):=by
  unfold execOp
  simp only[ho,Instr.makeMap,Option.map_none,Sem.run_bind,run_newObj,Result.andThen_ok,Sem.run_pure]
  rfl
 obtain⟨i1,s1⟩:=hi.alloc (w':=w.alloc (.map #[] 0)) n hl (.mp []) (.map #[] 0) ⟨some w.heap.size,0,1,1⟩ rfl rfl rfl rfl rfl (by first|exact Nat.le_refl _|exact kM (Nat.le_succ _))
  ⟨_,w.heap.size,Phi.cR _ _ _,rfl,#[],0,heap_alloc_new w _,⟨rfl,stamped_empty 0⟩,fun i x hx=>by simp at hx⟩
 exact bL hrun (hK _ (.mapv n) _ _ _ (Rel.mapv (Phi.cR _ _ _) rfl) i1 s1 (hk n (hi.fV hl)))
theorem Kn{P:Program}{o:Oper}{f:FR}{σ:St}{k:MV→St→Prop}{t kt et:TypeId}{m x y:Operand}(ho:o.op=.insert t m x y∨o.op=.mapUpdate t m x y)(ht:(td P t).k=.map kt et){kd:IntKind}(hkt:(td P kt).k=.int kd)
 {l:Nat}{es:List (MV × MV)}(hm:aH f m=.mapv l)(hl:σ l=some (.mp es)){n:Int}(hx:aH f x=.int kd n)(he:(es.all fun p=>isK kd p.1)=true)
 (hk:k .junk (σ.set l (.mp (dG kd n (aH f y) es)))):sop P o f σ k:=by
 intro Φ w a K Q' hi hr hK
 have hum:=rF ht
 have huk:=j6 hkt
 have rm:=aJ hr m
 have rx:=aJ hr x
 have ry:=aJ hr y
 rw[hm] at rm
 rw[hx] at rx
 obtain⟨p,R,hp,hR,hmv⟩:=rm.nE
 have hxv:=rx.aT
 obtain⟨p',R',c,clock,hp',hR',hh,hs,hst,hrel⟩:=(hi.own l _ hl).FH
 rw[hp] at hp';cases hp'
 rw[hR] at hR';cases hR'
 obtain⟨hkeys,hfind⟩:=vK (n:=n) (aH f y) c.toList es 0 (by simpa using hs) he fun i z hz=>by
  obtain⟨e,h1,h2,_⟩:=hrel i z hz
  exact⟨e,h1,h2⟩
 have hrt:=(Array.getElem?_eq_some_iff.1 hh).1
 rcases hfind with⟨h0,h1,h2⟩|⟨j,e,v,_,h1,hj,hek,hes,h2⟩
 ·obtain⟨c',hc'⟩:∃c',c'=c.push { key:=a.eval x,val:=a.eval y,born:=clock }:=⟨_,rfl⟩
  have hrun:(execOp a.eval o).run P w=.ok .skip (fW w R (.map c' (clock+1))):=by
   unfold execOp
   rcases ho with ho|ho<;>simp only[ho] <;>
    simp[hmv,hxv,Instr.mapUpdate,run_underlying hum,Go.MapKept.run_getObj_map hh,run_checkKey (d:=.int kd) (k:=.int kd n) huk rfl,run_findKey (d:=.int kd) huk h1,run_setObj_map _ hh,Result.andThen,fW,hc']
  obtain⟨i1,s1⟩:=hi.EC (w':=fW w R (.map c' (clock+1))) l hl (.mp (es++[(.int kd n,aH f y)])) hp hR iS (fun q hq=>eU hq) rfl rfl rfl (Nat.le_refl _)
   ⟨p,R,hp,hR,c',clock+1,gX hrt,⟨by rw[hc'];simp[hs],by
    rw[hc']
    refine stamped_push hst fun e1 he1=>?_
    obtain⟨i,hi1,rfl⟩:=List.mem_iff_getElem.1 he1
    have hi':i<es.length:=by rw[←hs];simpa using hi1
    obtain⟨e',q1,q2,_⟩:=hrel i es[i] (List.getElem?_eq_getElem hi')
    rw[List.getElem?_eq_getElem hi1] at q1
    cases q1
    rw[hxv]
    exact Fo h0 he (List.getElem_mem hi') q2⟩,fun i z hz=>by
    rw[hc']
    by_cases hlt:i<es.length
    ·rw[List.getElem?_append_left hlt] at hz
     obtain⟨e,q1,q2,q3⟩:=hrel i z hz
     have:(c.push { key:=a.eval x,val:=a.eval y,born:=clock }).getD i default=e:=by
      have hic:i<c.size:=by omega
      have q1':c[i]?=some e:=by simpa using q1
      rw[Array.getD_eq_getD_getElem?,Array.getElem?_push,if_neg oM,q1'];rfl
     rw[this];exact⟨q2,q3⟩
    ·have hie:i=es.length:=by
      have:=(List.getElem?_eq_some_iff.1 hz).1
      simp at this;omega
     subst hie
     rw[List.getElem?_append_right (Nat.le_refl _)] at hz
     simp only[Nat.sub_self,List.getElem?_cons_zero,Option.some.injEq] at hz
     subst hz
     have:(c.push { key:=a.eval x,val:=a.eval y,born:=clock }).getD es.length default={ key:=a.eval x,val:=a.eval y,born:=clock }:=by
      rw[Array.getD_eq_getD_getElem?,Array.getElem?_push,if_pos oM];rfl
     rw[this]
     exact⟨by simp only;rw[hxv];exact .int _ _,ry⟩⟩
  rw[←h2] at i1 s1
  exact EL hrun (hK _ .junk _ _ _ (.junk _) i1 s1 hk)
 ·have hjc:c[j]?=some e:=by simpa using hj
  obtain⟨c',hc'⟩:∃c',c'=c.modify j fun e=>{ e with key:=a.eval x,val:=a.eval y }:=⟨_,rfl⟩
  have hrun:(execOp a.eval o).run P w=.ok .skip (fW w R (.map c' clock)):=by
   unfold execOp
   rcases ho with ho|ho<;>simp only[ho] <;>
    simp[hmv,hxv,Instr.mapUpdate,run_underlying hum,Go.MapKept.run_getObj_map hh,run_checkKey (d:=.int kd) (k:=.int kd n) huk rfl,run_findKey (d:=.int kd) huk h1,hjc,hek,run_keyThatStays (d:=.int kd) (k:=.int kd n) rfl,run_setObj_map _ hh,Result.andThen,fW,hc']
  have hjlt:=(Array.getElem?_eq_some_iff.1 hjc).1
  obtain⟨i1,s1⟩:=hi.EC (w':=fW w R (.map c' clock)) l hl (.mp (es.set j (.int kd n,aH f y))) hp hR iS (fun q hq=>eU hq) rfl rfl rfl (Nat.le_refl _)
   ⟨p,R,hp,hR,c',clock,gX hrt,⟨by rw[hc'];simp[hs],by
    rw[hc']
    exact stamped_modify hst j _ (fun _ _=>rfl) fun e' _ he'=>by rw[hjc] at he';cases he';exact hxv.trans hek.symm⟩,fun i z hz=>by
    rw[hc',Array.getD_eq_getD_getElem?,Array.getElem?_modify]
    by_cases hij:j=i
    ·subst hij
     rw[List.getElem?_set_self oM] at hz
     cases hz
     rw[if_pos rfl,hjc]
     exact⟨by simp only[Option.map_some,Option.getD_some];rw[hxv];exact .int _ _,ry⟩
    ·rw[List.getElem?_set_ne hij] at hz
     obtain⟨e,q1,q2,q3⟩:=hrel i z hz
     have q1':c[i]?=some e:=by simpa using q1
     rw[if_neg hij,q1'];exact⟨q2,q3⟩⟩
  rw[←h2] at i1 s1
  exact EL hrun (hK _ .junk _ _ _ (.junk _) i1 s1 hk)
def xD(d:TD):MV:=if d.k.isAgg=true then .agg d.zero else d.zero.headD .junk
theorem Ko{P:Program}{o:Oper}{f:FR}{σ:St}{k:MV→St→Prop}{t kt et:TypeId}{m x:Operand}{ok:Bool}(ho:o.op=.lookup t m x ok)(ht:(td P t).k=.map kt et){kd:IntKind}(hkt:(td P kt).k=.int kd)(hz:(td P et).zok=true)
 {l:Nat}{es:List (MV × MV)}(hm:aH f m=.mapv l)(hl:σ l=some (.mp es)){n:Int}(hx:aH f x=.int kd n)(he:(es.all fun p=>isK kd p.1)=true)
 (hk:k (if ok=true then .tup [(dT n es).getD (xD (td P et)),.bool (dT n es).isSome] else(dT n es).getD (xD (td P et))) σ):sop P o f σ k:=by
 intro Φ w a K Q' hi hr hK
 have hum:=rF ht
 have huk:=j6 hkt
 have rm:=aJ hr m
 have rx:=aJ hr x
 rw[hm] at rm
 rw[hx] at rx
 obtain⟨p,R,hp,hR,hmv⟩:=rm.nE
 have hxv:=rx.aT
 obtain⟨p',R',c,clock,hp',hR',hh,hs,hst,hrel⟩:=(hi.own l _ hl).FH
 rw[hp] at hp';cases hp'
 rw[hR] at hR';cases hR'
 obtain⟨hkeys,hfind⟩:=vK (n:=n) .junk c.toList es 0 (by simpa using hs) he fun i z hz=>by
  obtain⟨e,h1,h2,_⟩:=hrel i z hz
  exact⟨e,h1,h2⟩
 obtain⟨z,hz0,hz1,hz2,hok,hz3,hz4,hz5⟩:=dI hz w
 have fin:∀(v:Value) (u:MV) (b:Bool),Rel Φ v u→(Instr.lookup t (a.eval m) (a.eval x) ok).run P w=.ok (if ok=true then .tuple #[v,.bool b] else v) w→k (if ok=true then .tup [u,.bool b] else u) σ→o.wp P a w K Q':=fun v u b hv hrun hk=>by
  have hrun2:(execOp a.eval o).run P w=.ok (.value (if ok=true then .tuple #[v,.bool b] else v)) w:=by
   unfold execOp
   simp only[ho,Sem.run_bind,hrun,Result.andThen_ok,Sem.run_pure]
  refine bL hrun2 (hK _ _ _ _ _ ?_ hi (.refl _ _ _) hk)
  cases ok
  ·exact hv
  ·refine .tup rfl fun i q hq=>?_
   match i with
   | 0=>simp at hq;subst hq;exact hv
   | 1=>simp at hq;subst hq;exact .bool _
   | i+2=>simp at hq
 rcases hfind with⟨h0,h1,h2⟩|⟨j,e,v,h0,h1,hj,hek,hes,h2⟩
 ·rw[h0] at hk
  refine fin z (xD (td P et)) false ?_ ?_ hk
  ·unfold xD
   by_cases hag:(td P et).k.isAgg=true
   ·rw[if_pos hag]
    obtain⟨cs,rfl⟩:=hz4 hag
    exact(jT (Φ:=Φ) hz1 hz3).agg
   ·rw[if_neg hag]
    have h5:=hz5 (by simpa using hag)
    have rc:=jT (Φ:=Φ) hz1 hz3
    rw[h5] at rc
    have hlen:=rc.1
    match hzz:(td P et).zero with
    | []=>rw[hzz] at hlen;simp at hlen
    | q::_ =>
     rw[hzz] at rc
     have:=rc.2.2 0 q rfl
     simpa using this
  ·simp[hmv,hxv,Instr.lookup,run_underlying hum,Go.MapKept.run_getObj_map hh,run_checkKey (d:=.int kd) (k:=.int kd n) huk rfl,run_findKey (d:=.int kd) huk h1,hz0,Result.andThen]
 ·rw[h0] at hk
  obtain⟨e',q1,q2,q3⟩:=hrel j _ hes
  rw[hj] at q1;cases q1
  refine fin e.val v true q3 ?_ hk
  simp[hmv,hxv,Instr.lookup,run_underlying hum,Go.MapKept.run_getObj_map hh,run_checkKey (d:=.int kd) (k:=.int kd n) huk rfl,run_findKey (d:=.int kd) huk h1,Result.andThen]
end

section
open Go.MapKept
theorem OD{P:Program}{o:Oper}{f:FR}{σ:St}{k:MV→St→Prop}{t kt et:TypeId}{m:Operand}(ho:o.op=.range t m)(ht:(td P t).k=.map kt et)
 {l:Nat}{es:List (MV × MV)}(hm:aH f m=.mapv l)(hl:σ l=some (.mp es))
 (hk:∀q st ck,σ q=none→st.length=es.length→st.Nodup→(∀s,s∈st→s<ck)→k (.ptr q 0 0) ((σ.set l (.mk es st ck)).set q (.it l ck []))):sop P o f σ k:=by
 intro Φ w a K Q' hi hr hK
 have hum:=rF ht
 have rm:=aJ hr m
 rw[hm] at rm
 obtain⟨p,R,hp,hR,hmv⟩:=rm.nE
 obtain⟨p',R',hp',hR',c,clock,hh,⟨hs,hst⟩,hrel⟩:=hi.own l _ hl
 rw[hp] at hp';cases hp'
 rw[hR] at hR';cases hR'
 have hst':=(stamped_iff c clock).1 hst
 obtain⟨i1,s1⟩:=hi.EC (w':=w) l hl (.mk es (c.toList.map (·.born)) clock) hp hR rfl (fun _ _=>rfl) rfl rfl rfl (Nat.le_refl _) ⟨p,R,hp,hR,c,hh,⟨hs,hst,rfl⟩,hrel⟩
 obtain⟨n,hn⟩:=i1.fresh.1.1
 have hfr:=hn n (Nat.le_refl _)
 have hrun:(execOp a.eval o).run P w=.ok (.value (.pointer (some ⟨w.heap.size,0,none⟩))) (w.alloc (.mapIter (some R) clock #[] clock)):=by
  unfold execOp
  simp only[ho,hmv,Sem.run_bind,run_range_map w t kt et R c clock hum hh,Result.andThen_ok,Sem.run_pure]
 have hln:l≠n:=fun e=>by subst e;rw[hp] at hfr;cases hfr
 obtain⟨i2,s2⟩:=i1.alloc (w':=w.alloc (.mapIter (some R) clock #[] clock)) n hfr (.it l clock []) (.mapIter (some R) clock #[] clock) ⟨some w.heap.size,0,1,1⟩ rfl rfl rfl rfl rfl (by first|exact Nat.le_refl _|exact kM (Nat.le_succ _))
  ⟨_,w.heap.size,p,R,Phi.cR _ _ _,rfl,rfl,(Phi.sU _ hfr).obj _ _ hp,hR,heap_alloc_new w _⟩
 refine bL hrun (hK _ (.ptr n 0 0) _ _ _ ?_ i2 (s1.trans s2) (hk n _ clock (hi.fV hfr) (by simp[hs]) ?_ fun s h=>?_))
 ·have:=Rel.ptr (Φ:=Φ.put n ⟨some w.heap.size,0,1,1⟩) (l:=n) (i:=0) (o:=0) (Phi.cR _ _ _) rfl
  simpa using this
 ·exact hst'.2.1
 ·obtain⟨x,hx,rfl⟩:=List.mem_map.1 h
  exact hst'.1 x hx
theorem RZ{P:Program}{o:Oper}{f:FR}{σ:St}{k:MV→St→Prop}{x:Operand}(ho:o.op=.next x false){q l ck:Nat}{seen st:List Nat}{es:List (MV × MV)}(hx:aH f x=.ptr q 0 0)
 (hq:σ q=some (.it l ck seen))(hl:σ l=some (.mk es st ck))(h0:(∀s,s∈st→s∈seen)→k (.tup [.bool false]) σ)
 (h1:∀(i:Nat) (z:MV × MV) (s:Nat),es[i]?=some z→st[i]?=some s→s∉seen→k (.tup [.bool true,z.1,z.2]) (σ.set q (.it l ck (seen++[s])))):sop P o f σ k:=by
 intro Φ w a K Q' hi hr hK
 have rx:=aJ hr x
 rw[hx] at rx
 obtain⟨p,R,hp,hR,hv⟩:=rx.i6
 obtain⟨p',R',pm,Rm,hp',hR',hbo,hpm,hRm,hit⟩:=hi.own q _ hq
 rw[hp] at hp';cases hp'
 rw[hR] at hR';cases hR'
 obtain⟨pl,Rl,hpl,hRl,c,hh,⟨hs,hst,hbn⟩,hrel⟩:=hi.own l _ hl
 rw[hpm] at hpl;cases hpl
 rw[hRm] at hRl;cases hRl
 have hst':=(stamped_iff c ck).1 hst
 rw[hbo,Nat.zero_mul] at hv
 have hv:a.eval x=.pointer (some ⟨R,0,none⟩):=by simpa using hv
 rcases run_next_at (P:=P) w o.type R Rm ck ck seen.toArray c ck hit hh hst'.1 (Nat.le_refl _) with⟨h2,hrun⟩|⟨e,he,w1,hw1,hrun⟩
 ·have hrun':(execOp a.eval o).run P w=.ok (.value (.tuple #[.bool false])) w:=by
   unfold execOp
   simp only[ho,hv,Sem.run_bind,hrun,Result.andThen_ok,Sem.run_pure]
  refine bL hrun' (hK _ (.tup [.bool false]) _ _ _ ?_ hi (.refl _ _ _) (h0 fun s h=>?_))
  ·refine .tup rfl fun i z hz=>?_
   match i with
   | 0=>simp at hz;subst hz;exact .bool _
   | i+1=>simp at hz
  ·rw[←hbn] at h
   obtain⟨y,hy,rfl⟩:=List.mem_map.1 h
   have:=all_seen c seen.toArray h2 y hy
   simpa using this
 ·obtain⟨hem,hes⟩:=mem_left he
  obtain⟨i,hi1,hie⟩:=List.mem_iff_getElem.1 hem
  have hic:i<c.size:=by simpa using hi1
  have hie':c.toList[i]?=some e:=by rw[List.getElem?_eq_getElem hi1,hie]
  have hz:es[i]?=some (es[i]'oM):=List.getElem?_eq_getElem oM
  obtain⟨z,hzz⟩:∃z,es[i]'oM=z:=⟨_,rfl⟩
  rw[hzz] at hz
  have hrz:=hrel i z hz
  rw[show c.getD i default=e by
   have:c[i]=e:=by rw[←hie];simp
   simp[Array.getD,hic,this]] at hrz
  have hsi:st[i]?=some e.born:=by rw[←hbn,List.getElem?_map,hie'];rfl
  have hns:e.born∉seen:=by simpa using hes
  have hrun':(execOp a.eval o).run P w=.ok (.value (.tuple #[.bool true,e.key,e.val])) (Go.ChangeMaps.setBlock w1 R (.mapIter (some Rm) ck (seen.toArray.push e.born) ck)):=by
   unfold execOp
   simp only[ho,hv,Sem.run_bind,hrun,Result.andThen_ok,Sem.run_pure]
  have hRlt:=(Array.getElem?_eq_some_iff.1 hit).1
  have hheap:(Go.ChangeMaps.setBlock w1 R (.mapIter (some Rm) ck (seen.toArray.push e.born) ck)).heap=w.heap.setIfInBounds R (.mapIter (some Rm) ck (seen.toArray.push e.born) ck):=by
   rcases hw1 with rfl|rfl<;>rfl
  have hdr:drw w≤drw (Go.ChangeMaps.setBlock w1 R (.mapIter (some Rm) ck (seen.toArray.push e.born) ck)):=by
   rcases hw1 with rfl|rfl
   ·exact Nat.le_refl _
   ·exact kM (Nat.le_succ _)
  obtain⟨i1,s1⟩:=hi.EC (w':=Go.ChangeMaps.setBlock w1 R (.mapIter (some Rm) ck (seen.toArray.push e.born) ck)) q hq (.it l ck (seen++[e.born])) hp hR (by rw[hheap];simp) (fun j hj=>by
    rw[hheap,Array.getElem?_setIfInBounds,if_neg (Ne.symm hj)]) (by rcases hw1 with rfl|rfl<;>rfl) (by rcases hw1 with rfl|rfl<;>rfl) (by rcases hw1 with rfl|rfl<;>rfl) hdr
   ⟨p,R,pm,Rm,hp,hR,hbo,hpm,hRm,by
    rw[hheap,Array.getElem?_setIfInBounds,if_pos rfl,if_pos hRlt]
    simp⟩
  refine bL hrun' (hK _ (.tup [.bool true,z.1,z.2]) _ _ _ ?_ i1 s1 (h1 i z e.born hz hsi hns))
  refine .tup rfl fun j m hm=>?_
  match j with
  | 0=>simp at hm;subst hm;exact .bool _
  | 1=>simp at hm;subst hm;exact hrz.1
  | 2=>simp at hm;subst hm;exact hrz.2
  | j+3=>simp at hm
theorem OB{P:Program}{o:Oper}{f:FR}{σ:St}{k:MV→St→Prop}{x:Operand}(ho:o.op=.entry x){q l ck:Nat}{seen st:List Nat}{es:List (MV × MV)}(hx:aH f x=.ptr q 0 0)
 {i s:Nat}{z:MV × MV}(hq:σ q=some (.it l ck (seen++[s])))(hl:σ l=some (.mk es st ck))(hz:es[i]?=some z)(hsi:st[i]?=some s)(hk:k (.tup [z.1,z.2]) σ):sop P o f σ k:=by
 intro Φ w a K Q' hi hr hK
 have rx:=aJ hr x
 rw[hx] at rx
 obtain⟨p,R,hp,hR,hv⟩:=rx.i6
 obtain⟨p',R',pm,Rm,hp',hR',hbo,hpm,hRm,hit⟩:=hi.own q _ hq
 rw[hp] at hp';cases hp'
 rw[hR] at hR';cases hR'
 obtain⟨pl,Rl,hpl,hRl,c,hh,⟨hs,hst,hbn⟩,hrel⟩:=hi.own l _ hl
 rw[hpm] at hpl;cases hpl
 rw[hRm] at hRl;cases hRl
 have hst':=(stamped_iff c ck).1 hst
 rw[hbo,Nat.zero_mul] at hv
 have hv:a.eval x=.pointer (some ⟨R,0,none⟩):=by simpa using hv
 have hil:i<es.length:=(List.getElem?_eq_some_iff.1 hz).1
 have hic:i<c.size:=by omega
 have hci:c.toList[i]?=some c[i]:=by simp[hic]
 have hbi:c[i].born=s:=by
  rw[←hbn,List.getElem?_map,hci] at hsi
  simpa using hsi
 have hrz:=hrel i z hz
 rw[show c.getD i default=c[i] by simp[Array.getD,hic]] at hrz
 have hrun:(execOp a.eval o).run P w=.ok (.value (.tuple #[c[i].key,c[i].val])) w:=by
  unfold execOp
  simp only[ho,hv,Sem.run_bind,run_entry_at (P:=P) w R Rm ck seen.toArray c ck c[i] (by rw[hbi];simpa using hit) hh (List.mem_of_getElem? hci) (hst'.2.1),Result.andThen_ok,Sem.run_pure]
 refine bL hrun (hK _ (.tup [z.1,z.2]) _ _ _ ?_ hi (.refl _ _ _) hk)
 refine .tup rfl fun j m hm=>?_
 match j with
 | 0=>simp at hm;subst hm;exact hrz.1
 | 1=>simp at hm;subst hm;exact hrz.2
 | j+2=>simp at hm
end

section
def Fits(n b:Nat):Prop:=n≤140737488355328∧n * b≤140737488355328
def mpure(σ:St)(k:MV→St→Prop):PV→Prop
  | some (C,v)=>C∧k v σ
  | none=>False
def mJ(P:Program)(t:TypeId)(x:MV)(σ:St)(k:MV→St→Prop):Prop :=
  match x with
  | .ptr l i o=>match σ l with
    | some (.row _ _ xs)=>((td P t).ok=true∧i<xs.length∧o+(td P t).size≤(xs.getD i []).length∧0<(td P t).size)∧k (dY (td P t) (xs.getD i []) o) σ
    | _=>False
  | .cptr cs=>((td P t).ok=true∧(td P t).size≤cs.length∧0<(td P t).size)∧k (dY (td P t) cs 0) σ
  | _=>False
def pY(P:Program)(t:TypeId)(x y:MV)(σ:St)(k:MV→St→Prop):Prop :=
  match x with
  | .ptr l i o=>match σ l with
    | some (.row tt e xs)=>((td P t).ok=true∧i<xs.length∧y.cells.all MV.aL=true∧y.cells.length=(td P t).size∧o+y.cells.length≤(xs.getD i []).length)∧k .junk (σ.set l (.row tt e (xs.set i (laid (xs.getD i []) o y.cells))))
    | _=>False
  | _=>False
def kY(P:Program)(t xt:TypeId)(s x:MV)(σ:St)(k:MV→St→Prop):Prop :=
  match (td P t).k with
  | .slice el=>match fJ σ (td P el).size x with
    | some ys=>match s with
      | .aN=>((td P xt).k.gC=true∧(td P el).zok=true∧Fits ys.length (td P el).bytes)∧∀l,σ l=none→k (.vec (td P el).size l 0 ys.length) (σ.set l (.row el (td P el).size ys))
      | .lst e xs true=>((td P xt).k.gC=true∧(td P el).zok=true∧e=(td P el).size∧(xs=[]∨0<ys.length)∧Fits (xs.length+ys.length) (td P el).bytes) ∧
          ∀l,σ l=none→k (.vec (td P el).size l 0 (xs.length+ys.length)) (σ.set l (.row el (td P el).size (xs++ys)))
      | .vec e l lo n=>match σ l with
        | some (.row tt e' xs)=>((td P xt).k.gC=true∧(td P el).zok=true∧e=(td P el).size∧e'=(td P el).size∧tt=el∧lo=0∧lo+n≤xs.length∧Fits (n+ys.length) (td P el).bytes) ∧
            ∀l',σ l'=none→k (.vec (td P el).size l' 0 (n+ys.length)) ((σ.del l).set l' (.row el (td P el).size (fY xs lo n ys)))
        | _=>False
      | _=>False
    | none=>False
  | _=>False
def eL(P:Program)(f:FR)(t:TypeId)(len:Nat)(parts:Array (Nat × Operand))(σ:St)(k:MV→St→Prop):Prop :=
  match (td P t).k with
  | .slice el=>((td P el).zok=true∧parts.toList.map (·.1)=List.range len∧(parts.toList.all fun p=>(aH f p.2).cells.all MV.aL&&(aH f p.2).cells.length==(td P el).size)=true∧len * (td P el).size≤16777216∧len≤16777216) ∧
      ∀l,σ l=none→k (.vec (td P el).size l 0 len) (σ.set l (.row el (td P el).size (parts.toList.map fun p=>(aH f p.2).cells)))
  | _=>False
def jN(P:Program)(t:TypeId)(x y:MV)(σ:St)(k:MV→St→Prop):Prop :=
  match (td P t).k,x,y with
  | .slice el,.int .i64 n,.int .i64 c=>((td P el).zok=true∧0≤n∧n≤c∧Fits c.toNat (td P el).bytes)∧∀l,σ l=none→k (.vec (td P el).size l 0 n.toNat) (σ.set l (.row el (td P el).size (List.replicate n.toNat (td P el).zero)))
  | _,_,_=>False
def jA(P:Program)(s d:TypeId)(x:MV)(σ:St)(k:MV→St→Prop):Prop :=
  match (td P s).k,(td P d).k,x with
  | .str,.slice el,.str b=>((td P el).k=.int .u8∧FZ el=true∧b.size≤140737488355328)∧∀l,σ l=none→k (.vec 1 l 0 b.size) (σ.set l (.row el 1 (b.toList.map fun c=>[.int .u8 (c.toNat:Int)])))
  | .slice el,.str,.str _=>False
  | .slice el,.str,x=>match fJ σ 1 x with
    | some ys=>((td P el).k=.int .u8∧ys.all isByte=true)∧k (.str (bytesOf ys)) σ
    | none=>False
  | _,_,x=>mpure σ k (uA P s d x)
def gI(P:Program)(f:FR)(b:Builtin)(args:List Operand)(ts:List TypeId)(σ:St)(k:MV→St→Prop):Prop :=
  match b with
  | .append=>match args,ts with
    | [s,x],[t,xt]=>kY P t xt (aH f s) (aH f x) σ k
    | _,_=>False
  | b=>ts.length=args.length∧mpure σ k (eM P b ts.toArray (args.map (aH f)))
def Lh(P:Program)(f:FR)(c:Call)(σ:St)(k:MV→St→Prop):Prop :=
  match c.callee with
  | .builtin b=>gI P f b c.args.toList c.argTypes.toList σ k
  | .value x=>match aH f x with
    | .fn (.func g) ms ns=>aA P g (ms++c.args.toList.map (aH f)++ns) σ k
    | _=>False
  | .invoke _ _=>False
def mapOf(σ:St):MV→Option aW
  | .mapv l=>σ l
  | _=>none
def gS(P:Program)(t:TypeId)(m x y:MV)(o:Option aW)(σ:St)(k:MV→St→Prop):Prop :=
  match (td P t).k,m,x,o with
  | .map kt _,.mapv l,.int kd n,some (.mp es)=>((td P kt).k=.int kd∧(es.all fun p=>isK kd p.1)=true)∧k .junk (σ.set l (.mp (dG kd n y es)))
  | _,_,_,_=>False
def iA(P:Program)(t:TypeId)(m x:MV)(ok:Bool)(o:Option aW)(σ:St)(k:MV→St→Prop):Prop :=
  match (td P t).k,m,x,o with
  | .map kt et,.mapv _,.int kd n,some (.mp es)=>((td P kt).k=.int kd∧(td P et).zok=true∧(es.all fun p=>isK kd p.1)=true)∧k (if ok=true then .tup [(dT n es).getD (xD (td P et)),.bool (dT n es).isSome] else(dT n es).getD (xD (td P et))) σ
  | _,_,_,_=>False
def Jw(P:Program)(t:TypeId)(m:MV)(o:Option aW)(σ:St)(k:MV→St→Prop):Prop :=
  match (td P t).k,m,o with
  | .map _ _,.mapv l,some (.mp es)=>∀q st ck,σ q=none→st.length=es.length→st.Nodup→(∀s,s∈st→s<ck)→k (.ptr q 0 0) ((σ.set l (.mk es st ck)).set q (.it l ck []))
  | _,_,_=>False
def Qy(x:MV)(σ:St)(k:MV→St→Prop):Prop :=
  match x with
  | .ptr q 0 0=>∃l ck seen es st,σ q=some (.it l ck seen)∧σ l=some (.mk es st ck)∧((∀s,s∈st→s∈seen)→k (.tup [.bool false]) σ) ∧
      ∀(i:Nat) (z:MV × MV) (s:Nat),es[i]?=some z→st[i]?=some s→s∉seen→k (.tup [.bool true,z.1,z.2]) (σ.set q (.it l ck (seen++[s])))
  | _=>False
def Jd(x:MV)(σ:St)(k:MV→St→Prop):Prop :=
  match x with
  | .ptr q 0 0=>∃l ck seen es st,∃(i:Nat) (z:MV × MV) (s:Nat),σ q=some (.it l ck (seen++[s]))∧σ l=some (.mk es st ck)∧es[i]?=some z∧st[i]?=some s∧k (.tup [z.1,z.2]) σ
  | _=>False
def mop(P:Program)(f:FR)(σ:St)(k:MV→St→Prop):Op→Prop
  | .alloc t=>(td P t).zok=true∧∀l,σ l=none→k (.ptr l 0 0) (σ.set l (.row t (td P t).size [(td P t).zero]))
  | .box t x=>(aH f x).cells.all MV.aL=true∧∀l,σ l=none→k (.ptr l 0 0) (σ.set l (.row t (aH f x).cells.length [(aH f x).cells]))
  | .load t x=>mJ P t (aH f x) σ k
  | .store t x y=>pY P t (aH f x) (aH f y) σ k
  | .buildSlice t len parts=>eL P f t len parts σ k
  | .makeSlice t x y=>jN P t (aH f x) (aH f y) σ k
  | .convert s d x=>jA P s d (aH f x) σ k
  | .call c=>Lh P f c σ k
  | .lookup t m x ok=>iA P t (aH f m) (aH f x) ok (mapOf σ (aH f m)) σ k
  | .mapUpdate t m x y=>gS P t (aH f m) (aH f x) (aH f y) (mapOf σ (aH f m)) σ k
  | op=>mpure σ k (qop P f op)
theorem pW{P:Program}{o:Oper}{f:FR}{σ:St}{k:MV→St→Prop}(h:mpure σ k (qop P f o.op))(hot:uE o.op=true):sop P o f σ k:=by
  cases hq:qop P f o.op with
  | none=>rw[hq] at h;exact h.elim
  | some q=>obtain⟨C,v⟩:=q;rw[hq] at h;exact R2 hq hot h.1 h.2
theorem nH{n:Nat}(h:n≤140737488355328):n≤maxLen:=Nat.le_trans h (by unfold maxLen;omega)
theorem C5{l:List MV}(h:l.all MV.aL=true):∀c,c∈l→c.aL=true:=by simpa using h
theorem Gd{P:Program}{o:Oper}{f:FR}{σ:St}{k:MV→St→Prop}{t:TypeId}{x:Operand}(ho:o.op=.load t x)(h:mJ P t (aH f x) σ k):sop P o f σ k:=by
  unfold mJ at h
  split at h
  · rename_i l i of hx
    split at h
    · rename_i tt e xs hs
      exact RY ho hx hs h.1.1 h.1.2.1 h.1.2.2.1 h.1.2.2.2 h.2
    · exact h.elim
  · rename_i cs hx
    exact OA ho hx h.1.1 h.1.2.1 h.1.2.2 h.2
  · exact h.elim
theorem mX{P:Program}{o:Oper}{f:FR}{σ:St}{k:MV→St→Prop}{t:TypeId}{m x y:Operand}(ho:o.op=.insert t m x y∨o.op=.mapUpdate t m x y)(h:gS P t (aH f m) (aH f x) (aH f y) (mapOf σ (aH f m)) σ k):sop P o f σ k:=by
  unfold gS at h
  split at h
  · rename_i kt et l kd n es h1 h2 h3 h4
    rw[h2] at h4
    exact Kn ho h1 h.1.1 h2 h4 h3 h.1.2 h.2
  · exact h.elim
theorem rW{P:Program}{o:Oper}{f:FR}{σ:St}{k:MV→St→Prop}{t:TypeId}{m x:Operand}{ok:Bool}(ho:o.op=.lookup t m x ok)(h:iA P t (aH f m) (aH f x) ok (mapOf σ (aH f m)) σ k):sop P o f σ k:=by
  unfold iA at h
  split at h
  · rename_i kt et l kd n es h1 h2 h3 h4
    rw[h2] at h4
    exact Ko ho h1 h.1.1 h.1.2.1 h2 h4 h3 h.1.2.2 h.2
  · exact h.elim
theorem DJ{P:Program}{o:Oper}{f:FR}{σ:St}{k:MV→St→Prop}{t:TypeId}{m:Operand}(ho:o.op=.range t m)(h:Jw P t (aH f m) (mapOf σ (aH f m)) σ k):sop P o f σ k:=by
  unfold Jw at h
  split at h
  · rename_i kt et l es h1 h2 h3
    rw[h2] at h3
    exact OD ho h1 h2 h3 h
  · exact h.elim
theorem Gf{P:Program}{o:Oper}{f:FR}{σ:St}{k:MV→St→Prop}{x:Operand}(ho:o.op=.next x false)(h:Qy (aH f x) σ k):sop P o f σ k:=by
  unfold Qy at h
  split at h
  · rename_i q hx
    obtain⟨l,ck,seen,es,st,h1,h2,h3,h4⟩:=h
    exact RZ ho hx h1 h2 h3 h4
  · exact h.elim
theorem DA{P:Program}{o:Oper}{f:FR}{σ:St}{k:MV→St→Prop}{x:Operand}(ho:o.op=.entry x)(h:Jd (aH f x) σ k):sop P o f σ k:=by
  unfold Jd at h
  split at h
  · rename_i q hx
    obtain⟨l,ck,seen,es,st,i,z,s,h1,h2,h3,h4,h5⟩:=h
    exact OB ho hx h1 h2 h3 h4 h5
  · exact h.elim
theorem nK{P:Program}{o:Oper}{f:FR}{σ:St}{k:MV→St→Prop}(h:mop P f σ k o.op):sop P o f σ k:=by
  cases ho:o.op<;>rw[ho] at h<;>simp only[mop] at h
  case alloc t=>exact Oy ho h.1 h.2
  case box t x=>exact Ub ho (C5 h.1) h.2
  case load t x=>exact Gd ho h
  case lookup t m x ok=>exact rW ho h
  case mapUpdate t m x y=>exact mX (.inr ho) h
  case store t x y =>
    unfold pY at h
    split at h
    · rename_i l i of hx
      split at h
      · rename_i tt e xs hs
        obtain⟨⟨h1,h2,h3,h4,h5⟩,h6⟩:=h
        exact OE ho hx hs h1 h2 (C5 h3) h4 h5 h6
      · exact h.elim
    · exact h.elim
  case buildSlice t len parts =>
    unfold eL at h
    split at h
    · rename_i el hk
      obtain⟨⟨h1,h2,h3,h4,h5⟩,h6⟩:=h
      refine AZ ho hk h1 h2 (fun p hp=>?_) h4 (nH oM) h6
      have:=List.all_eq_true.1 h3 p hp
      simp only[Bool.and_eq_true,beq_iff_eq] at this
      exact⟨C5 this.1,this.2⟩
    · exact h.elim
  case makeSlice t x y =>
    unfold jN at h
    split at h
    · rename_i el n c hk hx hy
      obtain⟨⟨h1,h2,h3,h4⟩,h6⟩:=h
      obtain⟨h7,h8⟩:=h4
      refine BW ho hk h1 hx hy h2 h3 oM ?_ h6
      have:c=(c.toNat:Int):=by omega
      rw[this,Int.mul_comm,←Int.natCast_mul]
      exact Int.ofNat_le.2 h8
    · exact h.elim
  case convert s d x =>
    unfold jA at h
    split at h
    · rename_i el b hs hd hx
      exact OC ho hs hd h.1.1 h.1.2.1 hx (nH h.1.2.2) h.2
    · exact h.elim
    · rename_i el hs hd hne
      split at h
      · rename_i ys hy
        exact OF ho hs h.1.1 hd hy (fun b hb=>hne b hb) h.1.2 h.2
      · exact h.elim
    · refine pW ?_ (by rw[ho];rfl)
      rw[ho]
      exact h
  case call c =>
    obtain⟨callee,args,ts⟩:=c
    unfold Lh at h
    cases callee with
    | builtin b =>
      simp only[gI] at h
      split at h
      · split at h
        · rename_i s x t xt ha hts
          have ha':args=#[s,x]:=by rw[←Array.toArray_toList (xs:=args),ha]
          have hts':ts=#[t,xt]:=by rw[←Array.toArray_toList (xs:=ts),hts]
          subst ha';subst hts'
          unfold kY at h
          split at h
          · rename_i el hk
            split at h
            · rename_i ys hy
              split at h
              · rename_i hs
                obtain⟨⟨h1,h2,h3⟩,h4⟩:=h
                have:=qH (P:=P) (f:=f) (σ:=σ) (k:=k) ho hk h1 h2 (xs:=[]) (ys:=ys) (.inl ⟨hs,rfl⟩) hy (.inl rfl) (nH (by simpa using h3.1)) (by simpa using h3.2) (by simpa using h4)
                exact this
              · rename_i e xs hs
                obtain⟨⟨h1,h2,rfl,h3,h4⟩,h5⟩:=h
                exact qH (P:=P) (f:=f) (σ:=σ) (k:=k) ho hk h1 h2 (.inr hs) hy h3 (nH h4.1) h4.2 h5
              · rename_i e l lo n hs
                split at h
                · rename_i tt e' xs hsl
                  obtain⟨⟨h1,h2,rfl,rfl,h3,hlo,h4,h5⟩,h6⟩:=h
                  exact AY (P:=P) (f:=f) (σ:=σ) (k:=k) ho hk h1 h2 hs hsl h3 hlo h4 hy (nH h5.1) h5.2 h6
                · exact h.elim
              · exact h.elim
            · exact h.elim
          · exact h.elim
        · exact h.elim
      · rename_i b' hne
        refine pW (P:=P) (f:=f) ?_ (by rw[ho];simp only[uE,beq_iff_eq];simpa using h.1)
        rw[ho]
        simpa[qop] using h.2
    | value x =>
      simp only at h
      split at h
      · rename_i g ms ns hx
        exact RV ho hx h
      · exact h.elim
    | invoke r m=>exact h.elim
  all_goals first
    | exact pW (by rw[ho];exact h) (by rw[ho];rfl)
    | exact h.elim
def bM(f:FR)(dst:Option Tmp)(v:MV):FR :=
  match dst with
  | some d=>if d<f.n then⟨f.n,(d,v)::f.l,f.d⟩ else f
  | none=>f
theorem cO{Φ:Phi}{a:Act}{f:FR}(hr:dD Φ a.tmps f)(dst:Option Tmp){v:Value}{m:MV}(h:Rel Φ v m):dD Φ (a.put dst v).tmps (bM f dst m):=by
  cases dst with
  | none=>exact hr
  | some d =>
    have e1:=hr.1
    simp only[bM]
    split
    · rename_i hd
      refine⟨by simp[Act.put,e1],fun t=>?_⟩
      simp only[Act.put,Array.getD_eq_getD_getElem?,Array.getElem?_setIfInBounds,FR.get,cT]
      by_cases ht:t=d
      · subst ht
        rw[if_pos rfl,if_pos rfl,if_pos (show t<a.tmps.size by rw[e1];exact hd)]
        exact h
      · rw[if_neg (Ne.symm ht),if_neg ht]
        have:=hr.2 t
        rwa [Array.getD_eq_getD_getElem?] at this
    · rename_i hd
      refine⟨by simp[Act.put,e1],fun t=>?_⟩
      have hd':¬d<a.tmps.size:=by rw[e1];exact hd
      have:(a.put (some d) v).tmps=a.tmps:=by simp only[Act.put,Array.setIfInBounds,dif_neg hd']
      rw[this]
      exact hr.2 t
theorem bT{a:Act}(dst:Option Tmp)(v:Value):(a.put dst v).defers=a.defers:=by cases dst<;>rfl
theorem gU{Φ:Phi}:Rel Φ undef (.tup []):=.tup rfl (fun i m h=>by simp at h)
def fZ(ops:Array Oper)(f:FR)(o:Oper)(yes no:Prop):Prop :=
  match o.guard with
  | none=>yes
  | some (j,want)=>match (ops[j]?).bind (·.dst) with
    | some t=>match f.get t with
      | .bool b=>(b=want→yes)∧(b=(!want)→no)
      | .tup []=>no
      | _=>False
    | none=>False
theorem cL{Φ:Phi}{ops:Array Oper}{f:FR}{o:Oper}{yes no:Prop}(h:fZ ops f o yes no){a:Act}(hr:dD Φ a.tmps f) :
    (Region.wanted o (yielded ops a.tmps)=true∧yes)∨(Region.wanted o (yielded ops a.tmps)=false∧no):=by
  unfold fZ at h
  unfold Region.wanted
  split at h
  · rename_i hg;rw[hg];exact .inl ⟨rfl,h⟩
  · rename_i j want hg
    rw[hg]
    simp only
    split at h
    · rename_i t ht
      split at h
      · rename_i b hb
        have hy:yielded ops a.tmps j=some b:=by
          unfold yielded
          rw[ht]
          have hrel:=hr.2 t
          rw[hb] at hrel
          have hrel:=hrel.lR
          have hlt2:t<a.tmps.size:=by
            rcases Nat.lt_or_ge t a.tmps.size with q|q
            · exact q
            · simp[Array.getD_eq_getD_getElem?,Array.getElem?_eq_none q,undef] at hrel
          rw[Array.getD_eq_getD_getElem?,Array.getElem?_eq_getElem hlt2] at hrel
          simp only[Option.getD_some] at hrel
          simp[Array.getElem?_eq_getElem hlt2,hrel]
        rw[hy]
        by_cases hw:b=want
        · left;subst hw;exact⟨by simp,h.1 rfl⟩
        · right
          have hb':b=!want:=by cases b<;>cases want<;>simp at hw ⊢
          exact⟨by simp[hw],h.2 hb'⟩
      · rename_i hb
        right
        have hrel:=hr.2 t
        rw[hb] at hrel
        obtain⟨cs,e,hs,_⟩:=hrel.Dp
        have hy:yielded ops a.tmps j=none:=by
          unfold yielded
          rw[ht]
          rcases Nat.lt_or_ge t a.tmps.size with q|q
          · rw[Array.getD_eq_getD_getElem?,Array.getElem?_eq_getElem q] at e
            simp only[Option.getD_some] at e
            simp[Array.getElem?_eq_getElem q,e]
          · simp[Array.getElem?_eq_none q]
        rw[hy]
        exact⟨by simp,h⟩
      · exact h.elim
    · exact h.elim
def vT(f:FR)(c:Call)(K:FR→Prop):Prop:=match c.callee with
  | .value x=>match aH f x with
    | .fn (.func g) ms ns=>K ⟨f.n,f.l,(g,ms++c.args.toList.map (aH f)++ns)::f.d⟩
    | _=>False
  | _=>False
def qZ(P:Program)(t:TypeId)(x lo hi:MV)(o:Option aW)(σ:St)(k:MV→St→Prop):Prop :=
  match x,lo,hi,o,(td P t).k with
  | .vec e l l0 _,.int _ a,.int _ h,some (.row _ e' xs),.slice el=>((td P el).ok=true∧e=(td P el).size∧e'=(td P el).size∧0≤a∧a≤h∧l0+h.toNat≤xs.length)∧k (.vec e l (l0+a.toNat) (h.toNat - a.toNat)) σ
  | _,_,_,_,_=>False
def Lg(σ:St):MV→Option aW
  | .vec _ l _ _=>σ l
  | _=>none
def beyond:MV→MV→Prop
  | .vec _ _ _ n,.int _ h=>(n:Int)<h
  | _,_=>False
instance (x y:MV):Decidable (beyond x y):=by unfold beyond;split<;>infer_instance
def mclear(P:Program)(t:TypeId)(x:MV)(o:Option aW)(σ:St)(k:MV→St→Prop):Prop :=
  match x,o,(td P t).k with
  | .vec e l l0 n,some (.row tt e' xs),.slice el=>((td P el).zok=true∧0<(td P el).size∧e=(td P el).size∧e'=(td P el).size∧l0+n≤xs.length)∧k .junk (σ.set l (.row tt e' (bB xs l0 (List.replicate n (td P el).zero))))
  | _,_,_=>False
def QQ(P:Program)(t:TypeId)(s x:MV)(σ:St)(k:MV→St→Prop):Prop :=
  match (td P t).k,s,x with
  | .slice el,.aN,.int .i64 n=>((td P el).zok=true∧0<(td P el).size∧0<n∧Fits n.toNat (td P el).bytes)∧∀l,σ l=none→k (.vec (td P el).size l 0 n.toNat) (σ.set l (.row el (td P el).size (List.replicate n.toNat (td P el).zero)))
  | _,_,_=>False
def TF(b:Bool)(A B:Prop):Prop:=if b=true then A else B
def jB(P:Program)(f:FR)(σ:St)(dst:Option Tmp)(K:FR→St→Prop):Op→Prop
  | .defer c=>vT f c fun f'=>K (bM f' dst .junk) σ
  | .makeMap _ none=>∀l,σ l=none→K (bM f dst (.mapv l)) (σ.set l (.mp []))
  | .insert t m x y=>gS P t (aH f m) (aH f x) (aH f y) (mapOf σ (aH f m)) σ (fun v σ'=>K (bM f dst v) σ')
  | .mapUpdate t m x y=>gS P t (aH f m) (aH f x) (aH f y) (mapOf σ (aH f m)) σ (fun v σ'=>K (bM f dst v) σ')
  | .lookup t m x ok=>iA P t (aH f m) (aH f x) ok (mapOf σ (aH f m)) σ (fun v σ'=>K (bM f dst v) σ')
  | .range t m=>Jw P t (aH f m) (mapOf σ (aH f m)) σ (fun v σ'=>K (bM f dst v) σ')
  | .next x false=>Qy (aH f x) σ (fun v σ'=>K (bM f dst v) σ')
  | .entry x=>Jd (aH f x) σ (fun v σ'=>K (bM f dst v) σ')
  | .slice t x (some y) (some z) none=>if beyond (aH f x) (aH f z) then qZ P t (aH f x) (aH f y) (aH f z) (Lg σ (aH f x)) σ (fun v σ'=>K (bM f dst v) σ')
      else mop P f σ (fun v σ'=>K (bM f dst v) σ') (.slice t x (some y) (some z) none)
  | .call ⟨.builtin .clear,args,ts⟩=>match args.toList,ts.toList with
    | [x],[t]=>mclear P t (aH f x) (Lg σ (aH f x)) σ (fun v σ'=>K (bM f dst v) σ')
    | _,_=>False
  | .call ⟨.builtin .append,args,ts⟩=>match args.toList,ts.toList with
    | [s,x],[t,xt]=>TF (td P xt).k.isInt (QQ P t (aH f s) (aH f x) σ (fun v σ'=>K (bM f dst v) σ')) (mop P f σ (fun v σ'=>K (bM f dst v) σ') (.call ⟨.builtin .append,args,ts⟩))
    | _,_=>False
  | op=>mop P f σ (fun v σ'=>K (bM f dst v) σ') op
def dP(P:Program)(ops:Array Oper)(K:FR→St→Prop):List Oper→FR→St→Prop
  | [],f,σ=>K f σ
  | o::rest,f,σ=>fZ ops f o (jB P f σ o.dst (dP P ops K rest) o.op) (dP P ops K rest (bM f o.dst (.tup [])) σ)
theorem eE(f:FR)(dst:Option Tmp)(v:MV):(bM f dst v).d=f.d:=by
  unfold bM
  split<;>(try split)<;>rfl
def eN:Op→Bool
  | .defer _|.makeMap _ none|.insert ..|.mapUpdate ..|.lookup ..|.range ..|.next _ false|.entry ..|.slice _ _ (some _) (some _) none|.call ⟨.builtin .clear,_,_⟩|.call ⟨.builtin .append,_,_⟩=>false
  | _=>true
theorem Gr{P:Program}{f:FR}{σ:St}{dst:Option Tmp}{K:FR→St→Prop}{op:Op}(h:eN op=true):jB P f σ dst K op=mop P f σ (fun v σ'=>K (bM f dst v) σ') op:=by
  cases op<;>first|rfl|skip
  case slice t x lo hi mx=>cases lo<;>cases hi<;>cases mx<;>first|rfl|(simp[eN] at h;done)
  case defer c=>simp[eN] at h
  case makeMap t r=>cases r<;>first|rfl|(simp[eN] at h;done)
  case insert=>simp[eN] at h
  case range=>simp[eN] at h
  case entry=>simp[eN] at h
  case next x b=>cases b<;>first|rfl|(simp[eN] at h;done)
  case call c =>
    obtain⟨callee,args,ts⟩:=c
    cases callee<;>first|rfl|skip
    rename_i b
    cases b<;>first|rfl|(simp[eN] at h;done)
theorem kH{P:Program}{o:Oper}{f:FR}{σ:St}{K:FR→St→Prop}(hd:∀c,o.op≠.defer c)(h:jB P f σ o.dst K o.op):sop P o f σ fun v σ'=>K (bM f o.dst v) σ':=by
  by_cases hp:eN o.op=true
  · rw[Gr hp] at h
    exact nK h
  · cases ho:o.op<;>rw[ho] at h hp<;>(try simp[eN] at hp)
    case slice t x lo hi mx =>
      cases lo<;>cases hi<;>cases mx<;>(try simp[eN] at hp)
      rename_i y z
      simp only[jB] at h
      split at h
      · unfold qZ at h
        split at h
        · rename_i e l l0 n k1 a k2 hh tt e' xs el hx hy hz hl hk
          obtain⟨⟨h1,rfl,rfl,h3,h4,h5⟩,h6⟩:=h
          rw[hx] at hl
          exact Kq ho hk h1 hx hl hy hz h3 h4 h5 h6
        · exact h.elim
      · rw[←ho] at h
        exact nK h
    case defer c=>exact absurd ho (hd c)
    case makeMap t r =>
      cases r<;>(try simp[eN] at hp)
      exact HM ho h
    case insert t m x y=>exact mX (.inl ho) h
    case mapUpdate t m x y=>exact mX (.inr ho) h
    case lookup t m x ok=>exact rW ho h
    case range t m=>exact DJ ho h
    case next x b =>
      cases b<;>(try simp[eN] at hp)
      exact Gf ho h
    case entry x=>exact DA ho h
    case call c =>
      obtain⟨callee,args,ts⟩:=c
      cases callee<;>(try simp[eN] at hp)
      rename_i b
      cases b<;>(try simp[eN] at hp)
      case append =>
        simp only[jB] at h
        split at h
        · rename_i s x t xt ha ht
          have ha':args=#[s,x]:=by rw[←Array.toArray_toList (xs:=args),ha]
          have ht':ts=#[t,xt]:=by rw[←Array.toArray_toList (xs:=ts),ht]
          subst ha';subst ht'
          unfold TF at h
          split at h
          · rename_i hxt
            unfold QQ at h
            split at h
            · rename_i el n hk hs hx
              obtain⟨⟨h1,h2,h3,h4,h5⟩,h6⟩:=h
              exact wQ ho hk hxt h1 h2 hs hx h3 h4 h5 h6
            · exact h.elim
          · rw[←ho] at h
            exact nK h
        · exact h.elim
      case clear =>
        simp only[jB] at h
        split at h
        · rename_i x t ha ht
          have ha':args=#[x]:=by rw[←Array.toArray_toList (xs:=args),ha]
          have ht':ts=#[t]:=by rw[←Array.toArray_toList (xs:=ts),ht]
          subst ha';subst ht'
          unfold mclear at h
          split at h
          · rename_i e l l0 n tt e' xs el hx hl hk
            obtain⟨⟨h1,h2,rfl,rfl,h3⟩,h4⟩:=h
            rw[hx] at hl
            exact Oz ho hk h1 h2 hx hl h3 h4
          · exact h.elim
        · exact h.elim
theorem Hp{Φ:Phi}{x y:Array Value}{m n:List MV}(h1:iU Φ x m)(h2:iU Φ y n):iU Φ (x++y) (m++n):=by
  refine⟨by simp[h1.1,h2.1],fun i q hq=>?_⟩
  have e1:=h1.1
  by_cases h:i<m.length
  · rw[List.getElem?_append_left h] at hq
    have:=h1.2 i q hq
    simpa[Array.getD_eq_getD_getElem?,Array.getElem?_append_left (show i<x.size by omega)] using this
  · rw[List.getElem?_append_right oM] at hq
    have:=h2.2 _ q hq
    simpa[Array.getD_eq_getD_getElem?,Array.getElem?_append_right (show x.size≤i by omega),e1] using this
theorem oF{P:Program}{o:Oper}{c:Call}(ho:o.op=.defer c){f:FR}{K:FR→Prop}(h:vT f c K){Φ:Phi}{a:Act}{w:World}(hr:dD Φ a.tmps f)(hd:eG Φ w a.defers f.d) :
    ∃d f',(execOp a.eval o).run P w=.ok (.defer d) w∧dD Φ a.tmps f'∧eG Φ w (d::a.defers) f'.d∧K f':=by
  unfold vT at h
  obtain⟨callee,args,ts⟩:=c
  simp only at h
  split at h
  · rename_i x
    split at h
    · rename_i g ms ns hx
      have rx:=aJ hr x
      rw[hx] at rx
      obtain⟨first,cap,he,r1,r2⟩:=rx.sI
      refine⟨⟨.fn (.func g) cap,first++args.map a.eval⟩,_,?_,?_,?_,h⟩
      · unfold execOp
        simp only[ho,resolve,he,Deferred.ofValue,Sem.run_bind,Sem.run_pure,Result.andThen_ok]
      · exact hr
      · exact .inr ⟨_,_,_,cap,rfl,rfl,Hp (Hp r1 (nL hr args)) r2,hd⟩
    · exact h.elim
  · exact h.elim
theorem Ek{F:Fence}(hF:F=Fence.wide∨∃l,F=Fence.wide.inRound l){n:Nat}{P:Program}{row:String}{args:Array Value}{w:World}{R:Value→World→Prop}(h:Rows P row args w R):RowsIn F n P row args w R:=by
  intro c cs _
  obtain⟨v,w',r,s⟩:=h c cs
  refine⟨v,w',r,?_⟩
  rcases hF with rfl|⟨l,rfl⟩
  · exact stepsIn_wide.2 s
  · rw[fenced_inRound];exact stepsIn_wide.2 s
theorem Bi{F:Fence}(hF:F=Fence.wide∨∃l,F=Fence.wide.inRound l){n:Nat}{P:Program}{f:FuncId}{args:Array Value}{w:World}{R:Ending→World→Prop}(h:Calls P f args w R):CallsIn F n P f args w R:=by
  rcases hF with rfl|⟨l,rfl⟩
  · exact callsIn_wide.2 h
  · exact CallsIn.inRound l (callsIn_wide.2 h)
theorem eT{F:Fence}{n:Nat}{P:Program}{o:Oper}{a:Act}{w:World}{K:Act→World→Prop}{Q:Exit→Act→World→Prop}
   (hF:F=Fence.wide∨∃l,F=Fence.wide.inRound l∧∀c,o.op≠.defer c)(h:o.wp P a w K Q):o.wpIn F n P a w K Q:=by
  have hF':F=Fence.wide∨∃l,F=Fence.wide.inRound l:=hF.imp id fun⟨l,e,_⟩=>⟨l,e⟩
  have hfn:∀g,F.fn g:=fun g=>by rcases hF' with rfl|⟨l,rfl⟩<;>trivial
  have hd:F.depth.isSome=true→1≤n:=fun q=>by rcases hF' with rfl|⟨l,rfl⟩<;>cases q
  have hs:o.semAt F.round a.eval=execOp a.eval o:=by
    rcases hF with rfl|⟨l,rfl,hc⟩
    · exact Oper.semAt_none _ _
    · exact Oper.semAt_eq _ _ _ hc
  refine⟨fun f _=>hfn f,?_⟩
  rw[hs]
  unfold Oper.wp at h
  generalize (execOp a.eval o).run P w=r at h ⊢
  cases r with
  | ok x w' =>
    cases x with
    | value v=>exact h
    | skip=>exact h
    | defer d=>exact h
    | enter f args=>exact⟨hd,(Bi hF' h).mono fun e w'' q=>by cases e<;>exact q⟩
    | row row args=>exact⟨hd,Ek hF' h⟩
    | _=>exact h.elim
  | halt x w' =>
    cases x with
    | panic v=>exact h
    | _=>exact h.elim
theorem sO{P:Program}{ops:Array Oper}{Q:MQ}{Φ0:Phi}{σ0:St}{w0:World}{F:Fence}:∀(l:List Oper),(F=Fence.wide∨∃l0,F=Fence.wide.inRound l0∧∀o,o∈l→∀c,o.op≠.defer c)→∀(f:FR) (σ:St) (Φ:Phi) (w:World) (a:Act),dP P ops (Q .normal) l f σ→Inv Φ w σ→dD Φ a.tmps f→eG Φ w a.defers f.d →
    Step Φ0 σ0 w0 Φ σ w→wpListIn F 0 P ops (lift Φ0 σ0 w0 Q) l a w:=by
  intro l
  induction l with
  | nil=>intro _ f σ Φ w a h hi hr hd hs;exact⟨f,σ,Φ,hd,hr,hi,hs,h⟩
  | cons o rest ih =>
    intro hF f σ Φ w a h hi hr hd hs
    have hFr:F=Fence.wide∨∃l0,F=Fence.wide.inRound l0∧∀o,o∈rest→∀c,o.op≠.defer c:=hF.imp id fun⟨l0,e,q⟩=>⟨l0,e,fun o ho=>q o (by simp[ho])⟩
    have hFo:F=Fence.wide∨∃l0,F=Fence.wide.inRound l0∧∀c,o.op≠.defer c:=hF.imp id fun⟨l0,e,q⟩=>⟨l0,e,q o (by simp)⟩
    have hfn:∀g,F.fn g:=fun g=>by rcases hF with rfl|⟨l,rfl,_⟩<;>trivial
    simp only[dP] at h
    unfold wpListIn
    rcases cL h hr with⟨hw,hy⟩|⟨hw,hn⟩
    · rw[if_pos hw]
      refine eT hFo ?_
      by_cases hdef:∃c,o.op=.defer c
      · obtain⟨c,hc⟩:=hdef
        rw[hc] at hy
        have hy:vT f c fun f'=>dP P ops (Q .normal) rest (bM f' o.dst .junk) σ:=hy
        obtain⟨d,f',h1,h2,h3,h4⟩:=oF (P:=P) (w:=w) hc hy hr hd
        unfold Oper.wp
        rw[h1]
        refine ih hFr _ _ Φ w _ h4 hi (cO (a:={ a with defers:=d::a.defers }) h2 o.dst (.junk _)) ?_ hs
        rw[bT,eE]
        exact h3
      · exact kH (fun c hc=>hdef ⟨c,hc⟩) hy Φ w a _ _ hi hr (fun v mv σ' Φ' w' r1 i1 s1 hk=>ih hFr _ _ Φ' w' (a.put o.dst v) hk i1 (cO (hr.mono s1.le) o.dst r1) (by rw[bT,eE];exact hd.step hi s1) (hs.trans s1))
    · rw[if_neg (by simp[hw])]
      exact⟨fun f _=>hfn f,ih hFr _ _ Φ w (a.put o.dst undef) hn hi (cO hr o.dst gU) (by rw[bT,eE];exact hd) hs⟩
theorem FOk.ops{F:Fence}{id:Nat}{ops:Array Oper}{dr:Bool}(h:FOk F (.region id ops dr)):F=Fence.wide∨∃l0,F=Fence.wide.inRound l0∧∀o,o∈ops.toList→∀c,o.op≠.defer c :=
  Or.imp (fun q=>q) (fun⟨l0,e,q⟩=>⟨l0,e,fun o ho c hc=>by
    have:=List.all_eq_true.1 q o ho
    rw[hc] at this
    cases this⟩) h
theorem JB{P:Program}{id:Nat}{ops:Array Oper}{f:FR}{σ:St}{Q:MQ}(h:dP P ops (Q .normal) ops.toList f σ):mwp P (.region id ops false) f σ Q :=
  fun F hF Φ w a hi hr hd=>wpIn_region_list (sO ops.toList hF.ops f σ Φ w a h hi hr hd (.refl _ _ _))
def Gn(P:Program)(f:FR)(σ:St):ResultVar→(MV→Prop)→Prop
  | .tmp t,k=>k (f.get t)
  | .cell a t,k=>mJ P t (f.get a) σ (fun v _=>k v)
def fE(P:Program)(f:FR)(σ:St):List ResultVar→(List MV→Prop)→Prop
  | [],k=>k []
  | r::rs,k=>Gn P f σ r fun v=>fE P f σ rs fun vs=>k (v::vs)
def oneOf:List MV→MV
  | [v]=>v
  | vs=>.tup vs
def C0(P:Program)(g:FuncId)(ms:List MV)(σ:St)(Q:St→Prop):Prop :=
  ∃fn,P.funcs[g]?=some fn∧fn.body.isNone=false∧(fn.name == "runtime.NumGoroutine")=false ∧
    ∀Φ w vs,Inv Φ w σ→iU Φ vs ms→CallsD P g vs .returning w fun e u' w'=>u'=.returning∧∃v σ' Φ',e=.returned v∧Inv Φ' w' σ'∧Step Φ σ w Φ' σ' w'∧Q σ'
def mleave(P:Program)(n:Nat)(l:List (Nat × MV))(rs:List ResultVar)(Q:MV→St→Prop):List (FuncId × List MV)→St→Prop
  | [],σ=>fE P ⟨n,l,[]⟩ σ rs fun vs=>Q (oneOf vs) σ
  | (g,ms)::d,σ=>C0 P g ms σ fun σ'=>mleave P n l rs Q d σ'
def Ol(P:Program)(rs:List ResultVar)(Q:MV→St→Prop):MQ
  | .normal,f,σ|.ret,f,σ=>mleave P f.n f.l rs Q f.d σ
  | _,_,_=>False
theorem Nv{P:Program}{t:TypeId}{x:MV}{σ:St}{k:MV→St→Prop}(h:mJ P t x σ k){Φ:Phi}{w:World}(hi:Inv Φ w σ){v:Value}(r:Rel Φ v x):∃ad u m,v=.pointer (some ad)∧(loadVar t ad).run P w=.ok u w∧Rel Φ u m∧k m σ:=by
  unfold mJ at h
  split at h
  · rename_i l i of
    split at h
    · rename_i tt e xs hs
      obtain⟨⟨hok,hi',h1,h0⟩,hk⟩:=h
      obtain⟨p,R,hp,hR,he⟩:=r.i6
      obtain⟨p',hp',hpe,hlen,R',hR',hcells⟩:=(hi.own l _ hs).elem (jW hi' (d:=[]))
      rw[hp] at hp';cases hp'
      rw[hR] at hR';cases hR'
      obtain⟨v2,hv,hrel⟩:=lA (P:=P) (Φ:=Φ) (w:=w) (t:=t) (b:=R) (off:=p.bo+i * p.e+of) (ms:=(xs.getD i []).drop of) hok (by rw[List.length_drop];omega) h0 (fun j m hm=>by
        rw[List.getElem?_drop] at hm
        have:=hcells _ m hm
        rw[Nat.add_assoc (p.bo+i * p.e),hpe]
        exact this)
      have e2:dY (td P t) ((xs.getD i []).drop of) 0=dY (td P t) (xs.getD i []) of:=by
        unfold dY
        simp[List.getD,List.getElem?_drop]
      rw[e2] at hrel
      exact⟨_,v2,_,he,hv,hrel,hk⟩
    · exact h.elim
  · rename_i cs
    obtain⟨⟨hok,h1,h0⟩,hk⟩:=h
    obtain⟨b,off,vs,he,hc,hrr⟩:=r.nD
    obtain⟨v2,hv,hrel⟩:=lA (P:=P) (Φ:=Φ) (w:=w) (t:=t) (b:=b) (off:=off) (ms:=cs) hok h1 h0 (fun j m hm=>⟨(hc j m hm).1,vs j,hi.snap _ _ (hc j m hm).2,hrr j m hm⟩)
    exact⟨_,v2,_,he,hv,hrel,hk⟩
  · exact h.elim
theorem Ho{Φ:Phi}{tmps:Array Value}{f:FR}(hr:dD Φ tmps f)(t:Nat):Rel Φ (tmps.getD t undef) (f.get t):=hr.2 t
def CO(tmps:Array Value):ResultVar→Sem Value
  | .tmp t=>pure (tmps.getD t undef)
  | .cell a t=>do loadVar t (←asAddr (tmps.getD a undef))
theorem oP(fn:Func)(tmps:Array Value):results fn tmps=(do
    let vs ←fn.results.mapM (CO tmps)
    pure (if h:vs.size=1 then vs[0] else .tuple vs)):=rfl
theorem DM{P:Program}{f:FR}{σ:St}{Φ:Phi}{w:World}(hi:Inv Φ w σ){tmps:Array Value}(hr:dD Φ tmps f):∀(rs:List ResultVar) (k:List MV→Prop),fE P f σ rs k →
    ∃vs ms,(rs.mapM (m:=Sem) (CO tmps)).run P w=.ok vs w∧vs.length=ms.length∧(∀(i:Nat) v m,vs[i]?=some v→ms[i]?=some m→Rel Φ v m)∧k ms:=by
  intro rs
  induction rs with
  | nil=>intro k h;exact⟨[],[],by simp,rfl,by simp,h⟩
  | cons r rs ih =>
    intro k h
    simp only[fE] at h
    cases r with
    | tmp t =>
      obtain⟨vs,ms,h1,h2,h3,h4⟩:=ih _ h
      refine⟨tmps.getD t undef::vs,f.get t::ms,?_,by simp[h2],fun i v m hv hm=>?_,h4⟩
      · rw[List.mapM_cons]
        simp only[CO,Sem.run_bind,Sem.run_pure,Result.andThen_ok]
        rw[h1]
        rfl
      · cases i with
        | zero=>simp only[List.getElem?_cons_zero,Option.some.injEq] at hv hm;subst hv;subst hm;exact Ho hr t
        | succ i=>exact h3 i v m (by simpa using hv) (by simpa using hm)
    | cell a t =>
      simp only[Gn] at h
      obtain⟨ad,u,m1,he,hl,hrel,hk⟩:=Nv h hi (Ho hr a)
      obtain⟨vs,ms,h1,h2,h3,h4⟩:=ih _ hk
      refine⟨u::vs,m1::ms,?_,by simp[h2],fun i v m hv hm=>?_,h4⟩
      · rw[List.mapM_cons]
        simp only[CO,Sem.run_bind,he,asAddr,Sem.run_pure,Result.andThen_ok,hl]
        rw[h1]
        rfl
      · cases i with
        | zero=>simp only[List.getElem?_cons_zero,Option.some.injEq] at hv hm;subst hv;subst hm;exact hrel
        | succ i=>exact h3 i v m (by simpa using hv) (by simpa using hm)
theorem Hq{P:Program}{fn:Func}{f:FR}{σ:St}{Φ:Phi}{w:World}(hi:Inv Φ w σ){tmps:Array Value}(hr:dD Φ tmps f){Q:MV→St→Prop}(h:fE P f σ fn.results.toList fun vs=>Q (oneOf vs) σ) :
    ∃v m,(results fn tmps).run P w=.ok v w∧Rel Φ v m∧Q m σ:=by
  obtain⟨vs,ms,h1,h2,h3,h4⟩:=DM (P:=P) hi hr fn.results.toList _ h
  have hm:∃va:Array Value,(fn.results.mapM (m:=Sem) (CO tmps)).run P w=.ok va w∧va.toList=vs:=by
    rw[←Array.toList_mapM] at h1
    simp only[Sem.run_map] at h1
    generalize hg:(fn.results.mapM (m:=Sem) (CO tmps)).run P w=res at h1 ⊢
    cases res with
    | halt x w'=>simp at h1
    | ok va w' =>
      simp only[Result.andThen_ok,Result.ok.injEq] at h1
      obtain⟨h1,rfl⟩:=h1
      exact⟨va,rfl,h1⟩
  obtain⟨va,hva,rfl⟩:=hm
  by_cases hs:va.size=1
  · match ms,h2 with
    | [m],h2 =>
      refine⟨va[0],m,?_,h3 0 _ m (by simp[hs]) rfl,h4⟩
      rw[oP]
      simp only[Sem.run_bind,hva,Result.andThen_ok,Sem.run_pure,dif_pos hs]
    | [],h2=>simp[hs] at h2
    | _::_::_,h2=>simp[hs] at h2
  · refine⟨.tuple va,oneOf ms,?_,?_,h4⟩
    · rw[oP]
      simp only[Sem.run_bind,hva,Result.andThen_ok,Sem.run_pure,dif_neg hs]
    · have:oneOf ms=.tup ms:=by
        match ms,h2 with
        | [],_=>rfl
        | [m],h2=>exact absurd (by simpa using h2) hs
        | _::_::_,_=>rfl
      rw[this]
      refine .tup (by simpa using h2) (fun i m hm'=>?_)
      have hlt:i<va.size:=by have:=(List.getElem?_eq_some_iff.1 hm').1;simp at h2;omega
      have hv:va.toList[i]?=some (va.getD i undef):=by
        rw[Array.getElem?_toList]
        simp[Array.getD_eq_getD_getElem?,Array.getElem?_eq_getElem hlt]
      exact h3 i _ m hv hm'
def gZ:Nat→List MV→List (Nat × MV)
  | _,[]=>[]
  | i,m::ms=>(i,m)::gZ (i+1) ms
theorem qM:∀(ms:List MV) (i t:Nat),cT (gZ i ms) t=if i≤t then(ms[t - i]?).getD .junk else .junk:=by
  intro ms
  induction ms with
  | nil=>intro i t;simp[gZ,cT]
  | cons m ms ih =>
    intro i t
    simp only[gZ,cT,ih]
    by_cases h:t=i
    · subst h;simp
    · rw[if_neg h]
      by_cases h2:i≤t
      · obtain⟨k,rfl⟩:∃k,t=i+1+k:=⟨t - (i+1),by omega⟩
        rw[if_pos oM,if_pos h2,show i+1+k - (i+1)=k from by omega,show i+1+k - i=k+1 from by omega]
        rfl
      · rw[if_neg oM,if_neg h2]
def jU(P:Program)(fn:Func)(tmps:Array Value)(R:Ending→World→Prop):List Deferred→World→Prop
  | [],w=>∃v,(results fn tmps).run P w=.ok v w∧R (.returned v) w
  | d::ds,w=>(∃r w',d.target=.collected r∧(Instr.takeDeferred r).run P w=.ok [] w'∧jU P fn tmps R ds w') ∨
      ∃fv cap f args,d.target=.fn fv cap∧(invoke d.target d.args).run P w=.ok (.enter f args) w∧CallsD P f args .returning w fun e u' w'=>(∃v,e=.returned v)∧u'=.returning∧jU P fn tmps R ds w'
theorem rT{P:Program}{fn:Func}{tmps:Array Value}{R:Ending→World→Prop}:∀(ds:List Deferred) (w:World) (fr:Frame) (cs:List Frame),fr.mode=.returning→fr.defers=ds→fr.tmps=tmps→P.funcs[fr.fn]?=some fn→fr.kind=.normal →
    jU P fn tmps R ds w→∃e w' fr',R e w'∧Comes P (lone fr cs w) (lone fr' cs w') e∧fr'.fn=fr.fn∧fr'.leaving P w' e:=by
  intro ds
  induction ds with
  | nil =>
    intro w fr cs hu hd ht hf hk h
    obtain⟨v,hr,hR⟩:=h
    exact⟨.returned v,w,fr,hR,Steps.refl P _,rfl,hu,hd,hk,fn,hf,ht ▸ hr⟩
  | cons d ds ih =>
    intro w fr cs hu hd ht hf hk h
    have hrun:fr.mode≠.run:=by rw[hu];simp
    rcases h with⟨r,w',h1,h2,h3⟩|⟨fv,cap,f,args,h1,h2,h3⟩
    · have s1:=step_collected (cs:=cs) hrun hd h1 h2
      obtain⟨e,w2,fr',q1,q2,q3,q4⟩:=ih w' { fr with defers:=[]++ds } cs hu rfl ht hf hk h3
      exact⟨e,w2,fr',q1,Comes.of_steps (.one s1) q2,q3,q4⟩
    · have s1:=step_defer (cs:=cs) hrun hd h1 h2
      obtain⟨e,u',w',frX,hR,hsteps,hkX,hgo⟩:=h3 { fr with defers:=ds } cs hu
      obtain⟨⟨v,rfl⟩,rfl,hR⟩:=hR
      have s2:=step_going_returned (c:={ { fr with defers:=ds } with mode:=.returning }) (cs:=cs) hkX hgo
      obtain⟨e,w2,fr',q1,q2,q3,q4⟩:=ih w' { { { fr with defers:=ds } with mode:=.returning } with mode:=settle .returning } cs rfl rfl ht hf hk hR
      exact⟨e,w2,fr',q1,Comes.of_steps (.head s1 (Steps.trans hsteps (.one s2))) q2,q3,q4⟩
theorem nW{P:Program}{f:FuncId}{fn:Func}{c:Code}{args:Array Value}{w:World}{R:Ending→World→Prop}(hf:P.funcs[f]?=some fn)(hb:fn.body=some c)
   (h:c.wp P (fun e a w=>(e=.normal∨e=.ret)∧jU P fn a.tmps R a.defers w) { tmps:=args++Array.replicate (fn.ntmps - args.size) undef,defers:=[] } w):Calls P f args w R:=by
  intro cs
  let b:Frame:={ (default:Frame) with fn:=f,kind:=.normal }
  have henter:Frame.enter P f args .normal=b.at { tmps:=args++Array.replicate (fn.ntmps - args.size) undef,defers:=[] } [.code c]:=by
    simp[Frame.enter,Frame.at,hf,hb,b]
  obtain⟨e,a',w',⟨he,hq⟩,harr⟩:=h b [] cs
  rw[←henter] at harr
  rcases he with rfl|rfl
  · obtain⟨e',w'',fr',hR,hs,hfn,hl⟩:=rT a'.defers w' { b.at a' [] with mode:=.returning } cs rfl rfl rfl hf rfl hq
    exact⟨e',w'',fr',hR,Comes.of_steps (Steps.trans harr (.one step_end)) hs,hfn,hl⟩
  · obtain⟨todo,hs₀⟩:=harr
    obtain⟨e',w'',fr',hR,hs,hfn,hl⟩:=rT a'.defers w' { b.at a' todo with mode:=.returning } cs rfl rfl rfl hf rfl hq
    exact⟨e',w'',fr',hR,Comes.of_steps hs₀ hs,hfn,hl⟩
theorem Inv.putObj{Φ:Phi}{w:World}{σ:St}(hi:Inv Φ w σ){D:Nat}{o:Obj}(o':Obj)(hD:w.heap[D]?=some o)(h:∀c t fz,o≠.cells c t fz)(h':∀c k,o≠.map c k)(h2':∀m a b c,o≠.mapIter m a b c:=by intro _ _ _ _ e;cases e):Inv Φ (w.putObj D o') σ:=by
  have hno:¬a8 Φ σ D:=hi.Au (fun c t fz e=>h c t fz (by rw[hD] at e;exact Option.some.inj e)) (fun c k e=>h' c k (by rw[hD] at e;exact Option.some.inj e)) (fun m a b c e=>h2' m a b c (by rw[hD] at e;exact Option.some.inj e))
  refine⟨fun l ob hl=>(hi.own l ob hl).mono (.refl _) fun p R h1 h2=>World.putObj_heap_other fun e=>hno ⟨l,ob,p,hl,h1,e ▸ h2⟩,hi.inj,fun a v hv=>?_,hi.apart,hi.fresh⟩
  have hc:=hi.snap a v hv
  rw[←hc]
  refine World.gF (World.putObj_heap_other fun e=>?_)
  rw[World.cell?,e,hD] at hc
  cases o with
  | cells c t fz=>exact h _ _ _ rfl
  | map c k=>exact h' _ _ rfl
  | _=>simp at hc
theorem Cp{P:Program}{fn:Func}{tmps:Array Value}{n:Nat}{l:List (Nat × MV)}{Q:MV→St→Prop}{Φ0:Phi}{σ0:St}{w0:World}(h0:Φ0.base=w0.heap.size) :
    ∀(ds:List Deferred) (d:List (FuncId × List MV)) (Φ:Phi) (w:World) (σ:St),eG Φ w ds d→dD Φ tmps ⟨n,l,[]⟩→Inv Φ w σ→Step Φ0 σ0 w0 Φ σ w→mleave P n l fn.results.toList Q d σ →
    jU P fn tmps (fun e w'=>∃v mv σ' Φ',e=.returned v∧Rel Φ' v mv∧Inv Φ' w' σ'∧Step Φ0 σ0 w0 Φ' σ' w'∧Q mv σ') ds w:=by
  intro ds
  induction ds with
  | nil =>
    intro d Φ w σ hd hr hi hs h
    obtain⟨rfl,-⟩:=hd
    obtain⟨v,m,h1,h2,h3⟩:=Hq (P:=P) (fn:=fn) hi hr h
    exact⟨v,h1,v,m,σ,Φ,rfl,h2,hi,hs,h3⟩
  | cons x ds ih =>
    intro d Φ w σ hd hr hi hs h
    rcases hd with⟨D,h1,h2,h3,h4,h5⟩|⟨g,ms,r,cap,rfl,h1,h2,h3⟩
    · refine .inl ⟨D,_,h1,run_takeDeferred h3,?_⟩
      have hi':=hi.putObj (.deferred none) h3 (fun _ _ _ e=>by cases e) (fun _ _ e=>by cases e)
      have hDb:w0.heap.size≤D:=by rw[←h0,←hs.le.base];exact h2
      have hs':Step Φ0 σ0 w0 Φ σ (w.putObj D (.deferred none)) :=
        ⟨hs.le,hs.os,hs.tape,hs.output,hs.drawn,by rw[World.putObj_size];exact hs.size,fun k hk hn=>(World.putObj_heap_other oM).trans (hs.block k hk hn),hs.snapn,hs.locs,hs.ownd⟩
      refine ih d Φ _ σ ?_ hr hi' hs' h
      have:∀(xs:List Deferred) (d:List (FuncId × List MV)),(∀y,y∈xs→y.target≠.collected D)→eG Φ w xs d→eG Φ (w.putObj D (.deferred none)) xs d:=by
        intro xs
        induction xs with
        | nil=>intro d _ h;exact⟨h.1,by rw[World.putObj_size];exact h.2⟩
        | cons y xs ihx =>
          intro d hy h
          rcases h with⟨D',k1,k2,k3,k4,k5⟩|⟨g,ms,r,cap,k1,k2,k3,k4⟩
          · refine .inl ⟨D',k1,k2,?_,k4,ihx d (fun z hz=>hy z (by simp[hz])) k5⟩
            rw[World.putObj_heap_other]
            · exact k3
            · intro e;exact hy y (by simp) (by rw[k1,e])
          · exact .inr ⟨g,ms,r,cap,k1,k2,k3,ihx r (fun z hz=>hy z (by simp[hz])) k4⟩
      exact this ds d h4 h5
    · obtain⟨fn',hf,hb,hn,hc⟩:=h
      obtain⟨t,ags⟩:=x
      simp only at h1 h2
      subst h1
      refine .inr ⟨.func g,cap,g,ags++cap,rfl,?_,?_⟩
      · simp only[invoke,callFunc,Sem.run_bind,run_program,hf,hn,hb,Result.andThen_ok,Bool.false_eq_true,if_false,Sem.run_pure]
      · intro c cs hcu
        obtain⟨e,u',w',fr,⟨rfl,v,σ',Φ',rfl,i1,s1,q⟩,q2,q3,q4⟩:=hc Φ w _ hi h2 c cs hcu
        exact⟨_,_,w',fr,⟨⟨v,rfl⟩,rfl,ih r Φ' w' σ' (h3.step hi s1) (hr.mono s1.le) i1 (hs.trans s1) q⟩,q2,q3,q4⟩
theorem L4{P:Program}{fn:Func}{Q:MV→St→Prop}{Φ0:Phi}{σ0:St}{w0:World}{e:Exit}{a':Act}{w':World}(h0:Φ0.base=w0.heap.size)
   (h:lift Φ0 σ0 w0 (Ol P fn.results.toList Q) e a' w'):(e=.normal∨e=.ret)∧jU P fn a'.tmps (fun e w'=>∃v mv σ' Φ',e=.returned v∧Rel Φ' v mv∧Inv Φ' w' σ'∧Step Φ0 σ0 w0 Φ' σ' w'∧Q mv σ') a'.defers w':=by
  obtain⟨f',σ',Φ',x1,x2,x3,x4,q⟩:=h
  obtain⟨n,l,d⟩:=f'
  cases e with
  | normal=>exact⟨.inl rfl,Cp h0 _ d Φ' w' σ' x1 x2 x3 x4 q⟩
  | ret=>exact⟨.inr rfl,Cp h0 _ d Φ' w' σ' x1 x2 x3 x4 q⟩
  | _=>exact q.elim
theorem vL{Φ:Phi}{fn:Func}{vs:Array Value}{ms:List MV}(hr:iU Φ vs ms):dD Φ (vs++Array.replicate (fn.ntmps - vs.size) undef) ⟨max fn.ntmps ms.length,gZ 0 ms,[]⟩:=by
  refine⟨by simp[hr.1];omega,fun t=>?_⟩
  simp only[FR.get,qM,Nat.sub_zero,Nat.zero_le,if_true]
  cases hm:ms[t]? with
  | none=>exact .junk _
  | some m =>
    have hlt:=(List.getElem?_eq_some_iff.1 hm).1
    have e1:=hr.1
    have:=hr.2 t m hm
    simpa[Array.getD_eq_getD_getElem?,Array.getElem?_append_left (show t<vs.size by omega)] using this
def Phi.aZ(Φ:Phi)(n:Nat):Phi:={ Φ with base:=n }
theorem Rel.aZ{Φ:Phi}{v:Value}{m:MV}(h:Rel Φ v m)(n:Nat):Rel (Φ.aZ n) v m:=Rel.Gg (Φ:=Φ) (Φ':=Φ.aZ n) (fun _ _ q=>q) (fun _ _ q=>q) h
theorem Inv.aZ{Φ:Phi}{w:World}{σ:St}(hi:Inv Φ w σ)(n:Nat):Inv (Φ.aZ n) w σ:=by
  refine⟨fun l o hl=>?_,hi.inj,hi.snap,hi.apart,hi.fresh⟩
  have:=hi.own l o hl
  cases o with
  | row t e xs =>
    obtain⟨p,h1,h2,h3,h4,h5,h6⟩:=this
    refine⟨p,h1,h2,h3,h4,h5,?_⟩
    split
    · rename_i hb;rw[hb] at h6;exact h6
    · rename_i R hb
      rw[hb] at h6
      obtain⟨c,fz,k1,k2,k3,k4⟩:=h6
      exact⟨c,fz,k1,k2,k3,fun i x j m hx hm=>⟨(k4 i x j m hx hm).1,(k4 i x j m hx hm).2.imp fun v hv=>⟨hv.1,hv.2.aZ n⟩⟩⟩
  | mp es =>
    obtain⟨p,R,h1,h2,c,k,h3,h4,h5⟩:=this
    exact⟨p,R,h1,h2,c,k,h3,h4,fun i x hx=>⟨(h5 i x hx).1.aZ n,(h5 i x hx).2.aZ n⟩⟩
  | mk es st ck =>
    obtain⟨p,R,h1,h2,c,h3,h4,h5⟩:=this
    exact⟨p,R,h1,h2,c,h3,h4,fun i x hx=>⟨(h5 i x hx).1.aZ n,(h5 i x hx).2.aZ n⟩⟩
  | it m ck seen=>exact this
theorem Step.aZ{Φ Φ':Phi}{σ σ':St}{w w':World}{n:Nat}(h:Step (Φ.aZ n) σ w Φ' σ' w'):Step Φ σ w (Φ'.aZ Φ.base) σ' w' :=
  ⟨⟨h.le.snap,h.le.obj,rfl⟩,h.os,h.tape,h.output,h.drawn,h.size,h.block,h.snapn,h.locs,h.ownd⟩
theorem aA.iB{P:Program}{g:FuncId}{fn:Func}{c:Code}{ms:List MV}{σ:St}{Q:MV→St→Prop}(n:Nat)(rs:List ResultVar)(hf:P.funcs[g]?=some fn)(hb:fn.body=some c)(hn:(fn.name == "runtime.NumGoroutine")=false)
   (hn':max fn.ntmps ms.length=n)(hrs:fn.results.toList=rs)(h:mwp P c ⟨n,gZ 0 ms,[]⟩ σ (Ol P rs Q)):aA P g ms σ Q:=by
  subst hn';subst hrs
  refine⟨⟨fn,hf,by simp[hb],hn⟩,fun Φ w vs hi hr=>?_⟩
  have hr':iU (Φ.aZ w.heap.size) vs ms:=⟨hr.1,fun i m hm=>(hr.2 i m hm).aZ _⟩
  refine(nW hf hb (wp_mono (wpIn_wide.1 (h _ .wide (Φ.aZ w.heap.size) w { tmps:=vs++Array.replicate (fn.ntmps - vs.size) undef,defers:=[] } (hi.aZ _) (vL hr') ⟨rfl,Nat.le_refl _⟩)) fun e a' w' hq=>L4 rfl hq)).mono ?_
  rintro e w' ⟨v,mv,σ',Φ',q1,q2,q3,q4,q5⟩
  exact⟨v,mv,σ',Φ'.aZ Φ.base,q1,q2.aZ _,q3.aZ _,q4.aZ,q5⟩
theorem aA.ghost{P:Program}{g:FuncId}{ms:List MV}{σ:St}{Q:MV→St→Prop}(h:aA P g ms σ fun v σ'=>∃v1 σ1,aV ⟨1,[(0,v)],[]⟩ σ' ⟨1,[(0,v1)],[]⟩ σ1∧Q v1 σ1):aA P g ms σ Q:=by
  refine⟨h.1,fun Φ w vs hi hr=>(h.2 Φ w vs hi hr).mono ?_⟩
  rintro e w' ⟨v,mv,σ',Φ',rfl,q1,q2,q3,v1,σ1,g,hq⟩
  obtain⟨Φ1,i1,r1,s1⟩:=g.2 Φ' w' #[v] q2 ⟨rfl,fun t=>by
    simp only[FR.get,cT]
    split
    · rename_i ht;subst ht;exact q1
    · exact .junk _⟩
  exact⟨v,v1,σ1,Φ1,rfl,by simpa[FR.get,cT] using r1.2 0,i1,q3.trans s1,hq⟩
end

section
def E{α:Sort _}(x:α):α:=x
theorem WX{α:Sort _}(x:α):E x=x:=rfl
def R(p:Prop):Prop:=p
theorem UM:R True=True:=rfl
theorem WY{α:Sort _}{a b:α}:R (a=b)=(a=b):=rfl
theorem VZ{a b:Prop}:R (a∧b)=(R a∧R b):=rfl
theorem WZ{α:Sort _}{p:α→Prop}:R (∃x,p x)=∃x,R (p x):=rfl
theorem V4{p:Prop}:R (¬p)=¬p:=rfl
theorem W3{a b:Prop}:R (a∨b)=(R a∨R b):=rfl
theorem bO{p:Prop}(h:p):R p:=h
def oG(σ:St)(K:Nat→Prop):Prop:=∀l,σ l=none→K l
def kF(x:MV)(A B:Prop):Prop:=match x with
 | .bool b=>(b=true→A)∧(b=false→B)
 | _=>False
def gA(C:Prop)(A:Prop):Prop:=C∧A
theorem Jg(A B:Prop):R (kF (.bool true) A B)=R A:=by simp[kF]
theorem FY(A B:Prop):R (kF (.bool false) A B)=R B:=by simp[kF]
theorem Nk{p:Prop}[Decidable p]{A B:Prop}(h:p):R (kF (.bool (decide p)) A B)=R A:=by simp[kF,h]
theorem Qu{p:Prop}[Decidable p]{A B:Prop}(h:¬p):R (kF (.bool (decide p)) A B)=R B:=by simp[kF,h]
theorem Nj{p:Prop}[Decidable p]{A B:Prop}(h1:p→R A)(h2:¬p→R B):R (kF (.bool (decide p)) A B):=by
 simp only[R,kF,decide_eq_true_eq,decide_eq_false_iff_not];exact⟨h1,h2⟩
theorem cG{b:Bool}{A B:Prop}(h1:b=true→R A)(h2:b=false→R B):R (kF (.bool b) A B):=⟨h1,h2⟩
def rV(P:Program)(id:Nat)(ops:List Oper)(f:FR)(σ:St)(Q:MQ):Prop:=mwp P (.region id ops.toArray true) f σ Q
def Qw(P:Program)(c:Code)(f:FR)(σ:St)(Q:MQ):Prop:=mwp P (.loop c) f σ Q
def Wu(P:Program)(c:Code)(f:FR)(σ:St)(Q:MQ):Prop:=mwp P c f σ Q
def dR(P:Program):Code→FR→St→MQ→Prop
 | .skip,f,σ,Q=>Q .normal f σ
 | .seq a b,f,σ,Q=>dR P a f σ (uY (fun f' σ'=>dR P b f' σ' Q) Q)
 | .cond c a b,f,σ,Q=>kF (aH f c) (dR P a f σ Q) (dR P b f σ Q)
 | .block id b,f,σ,Q=>dR P b f σ (pB id Q)
 | .scope b,f,σ,Q=>dR P b f σ (Er Q)
 | .label _,f,σ,Q=>Q .normal f σ
 | .ret,f,σ,Q=>Q .ret f σ
 | .exit id,f,σ,Q=>Q (.exit id) f σ
 | .region id ops true,f,σ,Q=>rV P id ops.toList f σ Q
 | .region _ ops false,f,σ,Q=>dP P ops (Q .normal) ops.toList f σ
 | .loop b,f,σ,Q=>Qw P b f σ Q
 | c,f,σ,Q=>Wu P c f σ Q
theorem mI{P:Program}:∀(c:Code) (f:FR) (σ:St) (Q:MQ),dR P c f σ Q→mwp P c f σ Q:=by
 intro c
 induction c with
 | skip=>intro f σ Q h;exact QP h
 | region id ops draw=>intro f σ Q h;cases draw with
  | true=>exact h
  | false=>exact JB h
 | seq a b iha ihb =>
  intro f σ Q h
  refine bA (QO (iha f σ _ h) fun e f' σ' hq=>?_)
  cases e with
  | normal=>exact ihb f' σ' Q hq
  | _=>exact hq
 | cond c a b iha ihb =>
  intro f σ Q h
  simp only[dR,kF] at h
  split at h
  ·rename_i t ht
   exact QL ht (fun hh=>iha f σ Q (h.1 hh)) (fun hh=>ihb f σ Q (h.2 hh))
  ·exact h.elim
 | block id b ih=>intro f σ Q h;exact NM (ih f σ _ h)
 | scope b ih=>intro f σ Q h;exact NR (ih f σ _ h)
 | label l=>intro f σ Q h;exact NQ h
 | loop b _=>intro f σ Q h;exact h
 | ret=>intro f σ Q h;exact TP h
 | exit id=>intro f σ Q h;exact QM h
 | _=>intro f σ Q h;exact h
theorem aA.body{P:Program}{g:FuncId}{fn:Func}{c:Code}{ms:List MV}{σ:St}{Q:MV→St→Prop}(n:Nat)(rs:List ResultVar)(hf:P.funcs[g]?=some fn)(hb:fn.body=some c)(hn:(fn.name == "runtime.NumGoroutine")=false)
 (hn':max fn.ntmps ms.length=n)(hrs:fn.results.toList=rs)(h:R (dR P (@OfNat.ofNat Code (nat_lit 0) (@_root_.id (OfNat Code (nat_lit 0)) (OfNat.mk c))) ⟨n,gZ 0 ms,[]⟩ σ (Ol P rs Q))):aA P g ms σ Q :=
 aA.iB n rs hf hb hn hn' hrs (mI c _ σ _ h)
theorem aE{P:Program}{c:Code}{f:FR}{σ:St}{Q:MQ}{α:Type}(F:α→FR)(S:α→St)(p:α→Prop)(μ:α→Nat)(h0:Gh f σ fun f1 σ1=>∃a,f1=F a∧σ1=S a∧p a)
 (round:∀a,p a→R (dR P c (F a) (S a) (uY (fun f' σ'=>Gh f' σ' fun f1 σ1=>∃b,f1=F b∧σ1=S b∧p b∧μ b<μ a) Q))):R (Qw P c f σ Q) :=
 QN F S p μ h0 fun a ha=>mI c _ _ _ (round a ha)
section
variable {P:Program} {f:FR} {σ:St} {Q:MQ} {k:MV→St→Prop} {K:FR→St→Prop} {ops:Array Oper} {rest:List Oper}
theorem Jc:R (dR P .skip f σ Q)=R (Q .normal f σ):=rfl
theorem Jb{c:Code}:R (dR P (@OfNat.ofNat Code (nat_lit 0) (@_root_.id (OfNat Code (nat_lit 0)) (OfNat.mk c))) f σ Q)=R (dR P c f σ Q):=congrArg R rfl
theorem Ng{a b:Code}:R (dR P (.seq a b) f σ Q)=R (dR P (@OfNat.ofNat Code (nat_lit 0) (@_root_.id (OfNat Code (nat_lit 0)) (OfNat.mk a))) f σ (uY (fun f' σ'=>dR P (@OfNat.ofNat Code (nat_lit 0) (@_root_.id (OfNat Code (nat_lit 0)) (OfNat.mk b))) f' σ' Q) Q)):=congrArg R rfl
theorem I7{c:Operand}{a b:Code}:R (dR P (.cond c a b) f σ Q)=R (kF (E (aH f c)) (dR P (@OfNat.ofNat Code (nat_lit 0) (@_root_.id (OfNat Code (nat_lit 0)) (OfNat.mk a))) f σ Q) (dR P (@OfNat.ofNat Code (nat_lit 0) (@_root_.id (OfNat Code (nat_lit 0)) (OfNat.mk b))) f σ Q)):=congrArg R rfl
theorem FL{id:Nat}{b:Code}:R (dR P (.block id b) f σ Q)=R (dR P (@OfNat.ofNat Code (nat_lit 0) (@_root_.id (OfNat Code (nat_lit 0)) (OfNat.mk b))) f σ (pB id Q)):=congrArg R rfl
theorem FN{b:Code}:R (dR P (.scope b) f σ Q)=R (dR P (@OfNat.ofNat Code (nat_lit 0) (@_root_.id (OfNat Code (nat_lit 0)) (OfNat.mk b))) f σ (Er Q)):=congrArg R rfl
theorem FM{l:Nat}:R (dR P (.label l) f σ Q)=R (Q .normal f σ):=congrArg R rfl
theorem Kl:R (Er Q .ret f σ)=R (Q .ret f σ):=congrArg R rfl
theorem Nf:R (dR P .ret f σ Q)=R (Q .ret f σ):=rfl
theorem I9{id:Nat}:R (dR P (.exit id) f σ Q)=R (Q (.exit id) f σ):=congrArg R rfl
theorem I8{id:Nat}{l:List Oper}:R (dR P (.region id l.toArray true) f σ Q)=R (rV P id (@OfNat.ofNat (List Oper) (nat_lit 0) (@_root_.id (OfNat (List Oper) (nat_lit 0)) (OfNat.mk l))) (E f) σ Q):=congrArg R rfl
theorem Dz{id:Nat}{l:List Oper}:R (dR P (.region id l.toArray false) f σ Q)=R (dP P (@OfNat.ofNat (Array Oper) (nat_lit 0) (@_root_.id (OfNat (Array Oper) (nat_lit 0)) (OfNat.mk (l.toArray)))) (Q .normal) (@OfNat.ofNat (List Oper) (nat_lit 0) (@_root_.id (OfNat (List Oper) (nat_lit 0)) (OfNat.mk l))) f σ):=congrArg R rfl
theorem NH{l:List Oper}:R (dP P ops K (@OfNat.ofNat (List Oper) (nat_lit 0) (@_root_.id (OfNat (List Oper) (nat_lit 0)) (OfNat.mk l))) f σ)=R (dP P ops K l f σ):=congrArg R rfl
theorem Ja{b:Code}:R (dR P (.loop b) f σ Q)=R (Qw P (@OfNat.ofNat Code (nat_lit 0) (@_root_.id (OfNat Code (nat_lit 0)) (OfNat.mk b))) (E f) σ Q):=congrArg R rfl
theorem EA{next:FR→St→Prop}:R (uY next Q .normal f σ)=R (next f σ):=congrArg R rfl
theorem OK{next:FR→St→Prop}:R (uY next Q .ret f σ)=R (Q .ret f σ):=congrArg R rfl
theorem Kt{next:FR→St→Prop}{id:Nat}:R (uY next Q (.exit id) f σ)=R (Q (.exit id) f σ):=congrArg R rfl
theorem Bg{id:Nat}:R (pB id Q .normal f σ)=R (Q .normal f σ):=congrArg R rfl
theorem Ia{id:Nat}:R (pB id Q .ret f σ)=R (Q .ret f σ):=congrArg R rfl
theorem H9{id:Nat}:R (pB id Q (.exit id) f σ)=R (Q .normal f σ):=by simp[pB]
theorem QF:R (dP P ops K [] f σ)=R (K f σ):=rfl
theorem NG{dst:Option Tmp}{op:Op}{ty:TypeId}{pos:String}{after:Array Edge}:R (dP P ops K (⟨dst,op,ty,pos,after,none⟩::rest) f σ)=R (jB P f σ dst (dP P ops K (@OfNat.ofNat (List Oper) (nat_lit 0) (@_root_.id (OfNat (List Oper) (nat_lit 0)) (OfNat.mk rest)))) op):=congrArg R rfl
theorem QH{dst:Option Tmp}{op:Op}(h:eN op=true):R (jB P f σ dst K op)=R (mop P f σ (fun v σ'=>K (bM f dst v) σ') op):=by
 rw[Gr h]
def UA(f:FR)(x:MV)(args:List MV)(K:FR→Prop):Prop:=match x with
 | .fn (.func g) ms ns=>K ⟨f.n,f.l,(g,ms++args++ns)::f.d⟩
 | _=>False
theorem Gq{dst:Option Tmp}{x:Operand}{args:Array Operand}{ts:Array TypeId}:R (jB P f σ dst K (.defer ⟨.value x,args,ts⟩))=R (UA f (E (aH f x)) (E (args.toList.map (aH f))) fun f'=>K (bM f' dst .junk) σ):=congrArg R rfl
theorem Qp{n:Nat}{l:List (Nat × MV)}{d:List (FuncId × List MV)}{g:FuncId}{ms ns args:List MV}{H:FR→Prop}:R (UA ⟨n,l,d⟩ (.fn (.func g) ms ns) args H)=R (H ⟨n,l,(g,ms++args++ns)::d⟩):=congrArg R rfl
def rH:List Oper→Nat→Option Tmp
 | [],_=>none
 | o::_,0=>o.dst
 | _::r,n+1=>rH r n
theorem KY:∀(l:List Oper) (j:Nat),(l.toArray[j]?).bind (·.dst)=rH l j:=by
 intro l
 induction l with
 | nil=>intro j;simp[rH]
 | cons o r ih =>
  intro j
  cases j with
  | zero=>simp[rH]
  | succ j=>simpa[rH] using ih j
def cK(x:MV)(want:Bool)(yes no:Prop):Prop:=match x with
 | .bool b=>(b=want→yes)∧(b=(!want)→no)
 | .tup []=>no
 | _=>False
theorem F9(want:Bool)(A B:Prop):R (cK (.tup []) want A B)=R (B):=congrArg R (by simp[cK])
theorem Nt(A B:Prop):R (cK (.bool true) true A B)=R (A):=congrArg R (by simp[cK])
theorem Ns(A B:Prop):R (cK (.bool true) false A B)=R (B):=congrArg R (by simp[cK])
theorem Nr(A B:Prop):R (cK (.bool false) true A B)=R (B):=congrArg R (by simp[cK])
theorem Nq(A B:Prop):R (cK (.bool false) false A B)=R (A):=congrArg R (by simp[cK])
theorem bZ{b want:Bool}{A B:Prop}(h1:b=want→R A)(h2:b=(!want)→R B):R (cK (.bool b) want A B):=⟨h1,h2⟩
theorem Jh{p:Prop}[Decidable p]{A B:Prop}(h1:p→R A)(h2:¬p→R B):R (cK (.bool (decide p)) true A B):=by
 simp only[R,cK,decide_eq_true_eq,Bool.not_true,decide_eq_false_iff_not];exact⟨h1,h2⟩
theorem F0{p:Prop}[Decidable p]{A B:Prop}(h1:¬p→R A)(h2:p→R B):R (cK (.bool (decide p)) false A B):=by
 simp only[R,cK,decide_eq_true_eq,Bool.not_false,decide_eq_false_iff_not];exact⟨h1,h2⟩
theorem Nn{p:Prop}[Decidable p]{A B:Prop}(h:p):R (cK (.bool (decide p)) true A B)=R A:=by simp[cK,h]
theorem Nl{p:Prop}[Decidable p]{A B:Prop}(h:¬p):R (cK (.bool (decide p)) true A B)=R B:=by simp[cK,h]
theorem Np{p:Prop}[Decidable p]{A B:Prop}(h:¬p):R (cK (.bool (decide p)) false A B)=R A:=by simp[cK,h]
theorem No{p:Prop}[Decidable p]{A B:Prop}(h:p):R (cK (.bool (decide p)) false A B)=R B:=by simp[cK,h]
def PD(f:FR):Option Tmp→MV
 | some t=>f.get t
 | none=>.junk
theorem Ju{l:List Oper}{dst:Option Tmp}{op:Op}{ty:TypeId}{pos:String}{after:Array Edge}{j:Nat}{want:Bool}:R (dP P (@OfNat.ofNat (Array Oper) (nat_lit 0) (@_root_.id (OfNat (Array Oper) (nat_lit 0)) (OfNat.mk (l.toArray)))) K (⟨dst,op,ty,pos,after,some (j,want)⟩::rest) f σ)=R (cK (E (PD f (rH (@OfNat.ofNat (List Oper) (nat_lit 0) (@_root_.id (OfNat (List Oper) (nat_lit 0)) (OfNat.mk l))) j))) want (jB P f σ dst (dP P (@OfNat.ofNat (Array Oper) (nat_lit 0) (@_root_.id (OfNat (Array Oper) (nat_lit 0)) (OfNat.mk (l.toArray)))) K (@OfNat.ofNat (List Oper) (nat_lit 0) (@_root_.id (OfNat (List Oper) (nat_lit 0)) (OfNat.mk rest)))) op) (dP P (@OfNat.ofNat (Array Oper) (nat_lit 0) (@_root_.id (OfNat (Array Oper) (nat_lit 0)) (OfNat.mk (l.toArray)))) K (@OfNat.ofNat (List Oper) (nat_lit 0) (@_root_.id (OfNat (List Oper) (nat_lit 0)) (OfNat.mk rest))) (bM f dst (.tup [])) σ)):=congrArg R (by
 show dP P l.toArray K (⟨dst,op,ty,pos,after,some (j,want)⟩::rest) f σ=cK (PD f (rH l j)) want (jB P f σ dst (dP P l.toArray K rest) op) (dP P l.toArray K rest (bM f dst (.tup [])) σ)
 simp only[dP,fZ,KY]
 cases rH l j<;>rfl)
theorem MG{t:Tmp}:PD f (some t)=f.get t:=rfl
theorem Mx{l:List Oper}{j:Nat}:rH (@OfNat.ofNat (List Oper) (nat_lit 0) (@_root_.id (OfNat (List Oper) (nat_lit 0)) (OfNat.mk l))) j=rH l j:=rfl
theorem Mz{o:Oper}{r:List Oper}:rH (o::r) 0=o.dst:=rfl
theorem My{o:Oper}{r:List Oper}{n:Nat}:rH (o::r) (n+1)=rH r n:=rfl
theorem NJ{n:Nat}{l:List (Nat × MV)}{d:Nat}{v:MV}{ds:List (FuncId × List MV)}(h:d<n):bM ⟨n,l,ds⟩ (some d) v=⟨n,(d,v)::l,ds⟩:=by simp[bM,h]
theorem NI{v:MV}:bM f none v=f:=rfl
theorem U5{n:Nat}{l:List (Nat × MV)}{t:Nat}{ds:List (FuncId × List MV)}:FR.get ⟨n,l,ds⟩ t=cT l t:=rfl
theorem PY{t:Nat}:cT [] t=.junk:=rfl
theorem PX{k:Nat}{v:MV}{r:List (Nat × MV)}:cT ((k,v)::r) k=v:=by simp[cT]
theorem MT{k:Nat}{v:MV}{r:List (Nat × MV)}{t:Nat}(h:t≠k):cT ((k,v)::r) t=cT r t:=by simp[cT,h]
theorem QK{n:Nat}{l:List (Nat × MV)}{t:Nat}{ds:List (FuncId × List MV)}:aH ⟨n,l,ds⟩ (.tmp t)=cT l t:=rfl
theorem Jy{v:Value}:aH f (.const v)=ofV v:=rfl
theorem NL{g:FuncId}:aH f (.func g)=.fn (.func g) [] []:=rfl
theorem QX{b:Bool}:ofV (.bool b)=.bool b:=rfl
theorem TW{i:IntKind}{n:Int}:ofV (.int i n)=.int i n:=rfl
theorem TX{s:ByteArray}:ofV (.string s)=.str s:=rfl
theorem Q0:ofV (.pointer none)=.nilp:=rfl
theorem Q1:ofV (.slice none 0 0)=.aN:=rfl
theorem QZ:ofV (.map none)=.nilm:=rfl
theorem NY:ofV .nilFunc=.nilfn:=rfl
theorem QY:ofV .nilIface=.nili:=rfl
def cU(P:Program)(g:FuncId)(ms:List MV)(σ:St)(Q:MV→St→Prop):Prop:=aA P g ms σ Q
def Qn(P:Program)(x:MV)(args:List MV)(σ:St)(k:MV→St→Prop):Prop :=
 match x with
 | .fn (.func g) ms ns=>aA P g (ms++args++ns) σ k
 | _=>False
theorem Nd{g:FuncId}{ms ns args:List MV}:R (Qn P (.fn (.func g) ms ns) args σ k)=R (cU P g (E (ms++args++ns)) σ k):=congrArg R rfl
def bY(v:MV)(σ:St)(k:MV→St→Prop):Prop:=k v σ
theorem TE{v:MV}:R (bY v σ k)=R (k v σ):=congrArg R rfl
theorem TY{C A:Prop}(h:C):R (gA C A)=R A:=by simp[gA,h]
theorem Jv{C:Prop}{v:MV}:R (mpure σ k (some (C,v)))=R (gA (E C) (bY (E v) σ k)):=congrArg R rfl
def Ll(P:Program)(t:TypeId)(o:Option aW)(i of:Nat)(σ:St)(k:MV→St→Prop):Prop :=
 match o with
 | some (.row _ _ xs)=>gA ((td P t).ok=true∧i<xs.length∧of+(td P t).size≤(xs.getD i []).length∧0<(td P t).size) (bY (dY (td P t) (xs.getD i []) of) σ k)
 | _=>False
theorem Nu{t:TypeId}{l i o:Nat}:R (mJ P t (.ptr l i o) σ k)=R (Ll P t (E (σ l)) i o σ k):=congrArg R rfl
theorem Jm{t:TypeId}{cs:List MV}:R (mJ P t (.cptr cs) σ k)=R (gA (E ((td P t).ok=true∧(td P t).size≤cs.length∧0<(td P t).size)) (bY (E (dY (td P t) cs 0)) σ k)):=congrArg R rfl
theorem Gc{t tt:TypeId}{e i o:Nat}{xs:List (List MV)}:R (Ll P t (some (.row tt e xs)) i o σ k)=R (gA (E ((td P t).ok=true∧i<xs.length∧o+(td P t).size≤(xs.getD i []).length∧0<(td P t).size)) (bY (E (dY (td P t) (xs.getD i []) o)) σ k)):=congrArg R rfl
def Gt(P:Program)(t:TypeId)(o:Option aW)(l i of:Nat)(y:MV)(σ:St)(k:MV→St→Prop):Prop :=
 match o with
 | some (.row tt e xs)=>gA ((td P t).ok=true∧i<xs.length∧y.cells.all MV.aL=true∧y.cells.length=(td P t).size∧of+y.cells.length≤(xs.getD i []).length) (bY .junk (σ.set l (.row tt e (xs.set i (laid (xs.getD i []) of y.cells)))) k)
 | _=>False
theorem Jx{t:TypeId}{l i o:Nat}{y:MV}:R (pY P t (.ptr l i o) y σ k)=R (Gt P t (E (σ l)) l i o y σ k):=congrArg R rfl
theorem DS{t tt:TypeId}{e l i o:Nat}{y:MV}{xs:List (List MV)}:R (Gt P t (some (.row tt e xs)) l i o y σ k)=R (gA (E ((td P t).ok=true∧i<xs.length∧y.cells.all MV.aL=true∧y.cells.length=(td P t).size∧o+y.cells.length≤(xs.getD i []).length)) (bY (E .junk) (σ.set l (.row tt e (xs.set i (laid (xs.getD i []) o y.cells)))) k)):=congrArg R rfl
theorem JF(k:Nat):St.none k=Option.none:=rfl
theorem set_set(σ:St)(l:Nat)(o o':aW):(σ.set l o).set l o'=σ.set l o':=by
 funext k;simp only[St.set];split<;>rfl
theorem set_comm(σ:St){l k:Nat}(o o':aW)(h:l≠k):(σ.set l o).set k o'=(σ.set k o').set l o:=by
 funext j;simp only[St.set]
 by_cases h1:j=k
 ·subst h1;simp[Ne.symm h]
 ·simp[h1]
theorem Bm(σ:St){l k:Nat}(o:aW)(h:k≠l):(σ.set k o).del l=(σ.del l).set k o:=by
 funext j;simp only[St.set,St.del]
 by_cases h1:j=l
 ·subst h1;simp[Ne.symm h]
 ·simp[h1]
theorem aD(σ:St)(l:Nat)(o:aW):(σ.set l o) l=some o:=by simp[St.set]
theorem aF(σ:St)(l k:Nat)(o:aW)(h:k≠l):(σ.set l o) k=σ k:=by simp[St.set,h]
theorem RP(σ:St)(l k:Nat)(o:aW):(σ.set l o) k=none↔k≠l∧σ k=none:=by
 simp only[St.set];split<;>simp_all
theorem QB{x:Operand}:R (mop P f σ k (.move x))=R (bY (E (aH f x)) σ k):=congrArg R (by simp[mop,qop,mpure,bY,E])
theorem Jq{x:Operand}:R (mop P f σ k (.assign x))=R (bY (E (aH f x)) σ k):=congrArg R (by simp[mop,qop,mpure,bY,E])
def AI(c a b:MV):PV:=match c with
 | .bool t=>some (True,if t=true then a else b)
 | _=>none
theorem QC{c a b:Operand}:R (mop P f σ k (.pick c a b))=R (mpure σ k (E (AI (aH f c) (aH f a) (aH f b)))):=congrArg R rfl
theorem T5{p:Prop}[Decidable p]{a b:MV}(h:p):AI (.bool (decide p)) a b=some (True,a):=by simp[AI,h]
theorem T3{p:Prop}[Decidable p]{a b:MV}(h:¬p):AI (.bool (decide p)) a b=some (True,b):=by simp[AI,h]
theorem T4{a b:MV}:AI (.bool true) a b=some (True,a):=rfl
theorem T2{a b:MV}:AI (.bool false) a b=some (True,b):=rfl
theorem TV{p:Prop}[Decidable p]:(!decide p)=decide (¬p):=by simp
def Vx(x:MV):PV:=match x with
 | .ptr l i o=>some (True,.ptr l i o)
 | .cptr cs=>some (True,.cptr cs)
 | _=>none
theorem DI{x:Operand}:R (mop P f σ k (.nilCheck x))=R (mpure σ k (E (Vx (aH f x)))):=congrArg R rfl
theorem Rj{l i o:Nat}:Vx (.ptr l i o)=some (True,.ptr l i o):=rfl
theorem Of{cs:List MV}:Vx (.cptr cs)=some (True,.cptr cs):=rfl
theorem Ny{op:BinOp}{t yt:TypeId}{x y:Operand}:R (mop P f σ k (.binOp op t x y yt))=R (mpure σ k (E (cJ P t op (aH f x) (aH f y)))):=congrArg R rfl
theorem QD{op:UnOp}{t:TypeId}{x:Operand}:R (mop P f σ k (.unOp op t x))=R (mpure σ k (E (mun op (aH f x)))):=congrArg R rfl
theorem Gj{s d:TypeId}{x:Operand}:R (mop P f σ k (.convert s d x))=R (jA P s d (E (aH f x)) σ k):=congrArg R rfl
theorem DH{fn:Fn}{a b:Array Operand}:R (mop P f σ k (.makeFunc fn a b))=R (bY (E (.fn fn (a.toList.map (aH f)) (b.toList.map (aH f)))) σ k):=congrArg R (by simp[mop,qop,mpure,bY,E])
theorem NB{t:TypeId}{x:Operand}{lo hi mx:Option Operand}:R (mop P f σ k (.slice t x lo hi mx))=R (mpure σ k (E (pX P t (aH f x) (lo.map (aH f)) (hi.map (aH f)) (mx.map (aH f))))):=congrArg R rfl
theorem Bu{t:TypeId}{x:Operand}{i:Nat}:R (mop P f σ k (.fieldAddr t x i))=R (mpure σ k (E (jM P t (aH f x) i))):=congrArg R rfl
theorem Bv{t:TypeId}{x:Tmp}{i:Operand}:R (mop P f σ k (.indexAddr t (.tmp x) i))=R (mpure σ k (E (lU P t (aH f (.tmp x)) (aH f i)))):=congrArg R rfl
theorem Al{t:TypeId}{g:Nat}{i:Operand}:R (mop P f σ k (.indexAddr t (.global g) i))=R (mpure σ k (IF P t g (E (aH f i)))):=congrArg R rfl
theorem NA{t:TypeId}{x i:Operand}:R (mop P f σ k (.index t x i))=R (mpure σ k (E (Ah P t (aH f x) (aH f i)))):=congrArg R rfl
def AH(x:MV)(i:Nat):PV:=match x with
 | .tup vs=>match vs[i]? with|some v=>some (True,v)|none=>none
 | _=>none
theorem Gk{x:Operand}{i:Nat}:R (mop P f σ k (.extract x i))=R (mpure σ k (E (AH (aH f x) i))):=congrArg R rfl
theorem Ef{vs:List MV}{i:Nat}:AH (.tup vs) i=(vs[i]?).map fun v=>(True,v):=by simp only[AH];cases vs[i]?<;>rfl
theorem Nz{t:TypeId}{parts:Array (Nat × Operand)}:R (mop P f σ k (.build t parts))=R (mpure σ k (E (pT P f t parts))):=congrArg R rfl
theorem Jr{t:TypeId}{m x:Operand}{ok:Bool}:R (mop P f σ k (.lookup t m x ok))=R (iA P t (E (aH f m)) (E (aH f x)) ok (E (mapOf σ (aH f m))) σ k):=congrArg R rfl
theorem Bw{t:TypeId}{m x y:Operand}:R (mop P f σ k (.mapUpdate t m x y))=R (gS P t (E (aH f m)) (E (aH f x)) (E (aH f y)) (E (mapOf σ (aH f m))) σ k):=congrArg R rfl
theorem QA{t:TypeId}{x:Operand}:R (mop P f σ k (.load t x))=R (mJ P t (E (aH f x)) σ k):=congrArg R rfl
theorem NC{t:TypeId}{x y:Operand}:R (mop P f σ k (.store t x y))=R (pY P t (E (aH f x)) (E (aH f y)) σ k):=congrArg R rfl
theorem Nx{t:TypeId}:R (mop P f σ k (.alloc t))=R (gA (E ((td P t).zok=true)) (oG (E σ) (fun l=>bY (E (.ptr l 0 0)) (σ.set l (.row t (td P t).size [(td P t).zero])) k))):=congrArg R rfl
def Ws(t:TypeId)(x:MV)(σ:St)(k:MV→St→Prop):Prop:=x.cells.all MV.aL=true∧∀l,σ l=none→k (.ptr l 0 0) (σ.set l (.row t x.cells.length [x.cells]))
theorem TH{t:TypeId}{x:Operand}:R (mop P f σ k (.box t x))=R (Ws t (E (aH f x)) σ k):=congrArg R rfl
theorem Tz{t:TypeId}{x:MV}:R (Ws t x σ k)=R (gA (E (x.cells.all MV.aL=true)) (oG (E σ) (fun l=>bY (E (.ptr l 0 0)) (σ.set l (.row t x.cells.length [x.cells])) k))):=congrArg R rfl
theorem Ak{t:TypeId}{n:Nat}{parts:Array (Nat × Operand)}:R (mop P f σ k (.buildSlice t n parts))=R (eL P f t n parts σ k):=congrArg R rfl
def mbs(P:Program)(d:TK)(len:Nat)(parts:List (Nat × MV))(σ:St)(k:MV→St→Prop):Prop :=
 match d with
 | .slice el=>gA ((td P el).zok=true∧parts.map (·.1)=List.range len∧(parts.all fun p=>p.2.cells.all MV.aL&&p.2.cells.length==(td P el).size)=true∧len * (td P el).size≤16777216∧len≤16777216)
   (oG σ fun l=>bY (.vec (td P el).size l 0 len) (σ.set l (.row el (td P el).size (parts.map fun p=>p.2.cells))) k)
 | _=>False
theorem Ad{t:TypeId}{n:Nat}{parts:Array (Nat × Operand)}:R (eL P f t n parts σ k)=R (mbs P (E (td P t).k) n (E (parts.toList.map fun p=>(p.1,aH f p.2))) σ k):=congrArg R (by
 unfold eL mbs gA oG bY E
 cases (td P t).k<;>first|rfl|(simp only[List.map_map,List.all_map];rfl))
theorem Nc{el:TypeId}{len:Nat}{parts:List (Nat × MV)}:R (mbs P (.slice el) len parts σ k)=R (gA (E ((td P el).zok=true∧parts.map (·.1)=List.range len∧(parts.all fun p=>p.2.cells.all MV.aL&&p.2.cells.length==(td P el).size)=true∧len * (td P el).size≤16777216∧len≤16777216))
   (oG (E σ) (fun l=>bY (E (.vec (td P el).size l 0 len)) (σ.set l (.row el (td P el).size (parts.map fun p=>p.2.cells))) k))):=rfl
theorem Qz{x:Operand}{args:Array Operand}{ts:Array TypeId}:R (mop P f σ k (.call ⟨.value x,args,ts⟩))=R (Qn P (E (aH f x)) (E (args.toList.map (aH f))) σ k):=congrArg R rfl
theorem Gi{b:Builtin}{args:Array Operand}{ts:Array TypeId}:R (mop P f σ k (.call ⟨.builtin b,args,ts⟩))=R (gI P f b args.toList ts.toList σ k):=congrArg R rfl
def mvs(P:Program)(t:TypeId)(x lo hi:MV)(σ:St)(k:MV→St→Prop):Prop:=if beyond x hi then qZ P t x lo hi (Lg σ x) σ k else mpure σ k (pX P t x (some lo) (some hi) none)
theorem Gs{dst:Option Tmp}{t:TypeId}{x y z:Operand}:R (jB P f σ dst K (.slice t x (some y) (some z) none))=R (mvs P t (E (aH f x)) (E (aH f y)) (E (aH f z)) σ (fun v σ'=>K (bM f dst v) σ')):=congrArg R rfl
theorem Jz{t:TypeId}{e l l0 n:Nat}{lo:MV}{i:IntKind}{h:Int}(hb:(n:Int)<h):R (mvs P t (.vec e l l0 n) lo (.int i h) σ k)=R (qZ P t (.vec e l l0 n) lo (.int i h) (E (σ l)) σ k):=by
 apply congrArg R;unfold mvs;rw[if_pos (show beyond (.vec e l l0 n) (.int i h) from hb)];rfl
theorem TL{t:TypeId}{e:Nat}{xs:List (List MV)}{tt:Bool}{lo hi:MV}:R (mvs P t (.lst e xs tt) lo hi σ k)=R (mpure σ k (E (pX P t (.lst e xs tt) (some lo) (some hi) none))):=by
 apply congrArg R;unfold mvs;rw[if_neg (show ¬beyond (.lst e xs tt) hi by simp[beyond])];rfl
theorem TM{t:TypeId}{s:ByteArray}{lo hi:MV}:R (mvs P t (.str s) lo hi σ k)=R (mpure σ k (E (pX P t (.str s) (some lo) (some hi) none))):=by
 apply congrArg R;unfold mvs;rw[if_neg (show ¬beyond (.str s) hi by simp[beyond])];rfl
def Vm(P:Program)(d:TK)(e l l0:Nat)(a h:Int)(e':Nat)(xs:List (List MV))(σ:St)(k:MV→St→Prop):Prop:=match d with
 | .slice el=>gA ((td P el).ok=true∧e=(td P el).size∧e'=(td P el).size∧0≤a∧a≤h∧l0+h.toNat≤xs.length) (bY (.vec e l (l0+a.toNat) (h.toNat - a.toNat)) σ k)
 | _=>False
theorem Gu{t tt:TypeId}{e l l0 n:Nat}{i j:IntKind}{a h:Int}{e':Nat}{xs:List (List MV)}:R (qZ P t (.vec e l l0 n) (.int i a) (.int j h) (some (.row tt e' xs)) σ k)=R (Vm P (E (td P t).k) e l l0 a h e' xs σ k):=by
 apply congrArg R;unfold qZ Vm E;cases (td P t).k<;>rfl
theorem JA{el:TypeId}{e l l0:Nat}{a h:Int}{e':Nat}{xs:List (List MV)}:R (Vm P (.slice el) e l l0 a h e' xs σ k)=R (gA (E ((td P el).ok=true∧e=(td P el).size∧e'=(td P el).size∧0≤a∧a≤h∧l0+h.toNat≤xs.length)) (bY (E (.vec e l (l0+a.toNat) (h.toNat - a.toNat))) σ k)):=congrArg R rfl
def Wt(P:Program)(t:TypeId)(x:MV)(σ:St)(k:MV→St→Prop):Prop:=mclear P t x (Lg σ x) σ k
theorem Gp{dst:Option Tmp}{x:Operand}{t:TypeId}:R (jB P f σ dst K (.call ⟨.builtin .clear,#[x],#[t]⟩))=R (Wt P t (E (aH f x)) σ (fun v σ'=>K (bM f dst v) σ')):=congrArg R rfl
theorem DP{dst:Option Tmp}{s x:Operand}{t xt:TypeId}:R (jB P f σ dst K (.call ⟨.builtin .append,#[s,x],#[t,xt]⟩))=R (TF (E (td P xt).k.isInt) (QQ P t (aH f s) (aH f x) σ (fun v σ'=>K (bM f dst v) σ')) (mop P f σ (fun v σ'=>K (bM f dst v) σ') (.call ⟨.builtin .append,#[s,x],#[t,xt]⟩))):=congrArg R rfl
theorem Vl{A B:Prop}:R (TF false A B)=R B:=congrArg R rfl
theorem Qo{t:TypeId}{e l l0 n:Nat}:R (Wt P t (.vec e l l0 n) σ k)=R (mclear P t (.vec e l l0 n) (E (σ l)) σ k):=congrArg R rfl
def Dy(P:Program)(d:TK)(e l l0 n:Nat)(tt:TypeId)(e':Nat)(xs:List (List MV))(σ:St)(k:MV→St→Prop):Prop:=match d with
 | .slice el=>gA ((td P el).zok=true∧0<(td P el).size∧e=(td P el).size∧e'=(td P el).size∧l0+n≤xs.length) (bY .junk (σ.set l (.row tt e' (bB xs l0 (List.replicate n (td P el).zero)))) k)
 | _=>False
theorem I6{t tt:TypeId}{e l l0 n e':Nat}{xs:List (List MV)}:R (mclear P t (.vec e l l0 n) (some (.row tt e' xs)) σ k)=R (Dy P (E (td P t).k) e l l0 n tt e' xs σ k):=by
 apply congrArg R;unfold mclear Dy E;cases (td P t).k<;>rfl
theorem Bs{el tt:TypeId}{e l l0 n e':Nat}{xs:List (List MV)}:R (Dy P (.slice el) e l l0 n tt e' xs σ k)=R (gA (E ((td P el).zok=true∧0<(td P el).size∧e=(td P el).size∧e'=(td P el).size∧l0+n≤xs.length)) (bY (E .junk) (σ.set l (.row tt e' (bB xs l0 (List.replicate n (td P el).zero)))) k)):=congrArg R rfl
end
end

section
section
variable {P:Program} {f:FR} {σ:St} {k:MV→St→Prop} {t:TypeId}
theorem P6{i:IntKind}{a b:Int}:cJ P t .add (.int i a) (.int i b)=some (True,.int i (i.wrap (a+b))):=by simp[cJ,gH]
theorem Qj{i:IntKind}{a b:Int}:cJ P t .sub (.int i a) (.int i b)=some (True,.int i (i.wrap (a - b))):=by simp[cJ,gH]
theorem Qd{i:IntKind}{a b:Int}:cJ P t .mul (.int i a) (.int i b)=some (True,.int i (i.wrap (a * b))):=by simp[cJ,gH]
theorem Qf{i:IntKind}{a b:Int}:cJ P t .quo (.int i a) (.int i b)=some (b≠0,.int i (i.wrap (a.tdiv b))):=by simp[cJ,gH]
theorem Qg{i:IntKind}{a b:Int}:cJ P t .rem (.int i a) (.int i b)=some (b≠0,.int i (a.tmod b)):=by simp[cJ,gH]
theorem P7{i:IntKind}{a b:Int}:cJ P t .and (.int i a) (.int i b)=some (True,.int i (nU i a b)):=by simp only[cJ,if_true,gH]
theorem Tv{i:IntKind}{a b:Int}:cJ P t .or (.int i a) (.int i b)=some (True,.int i (orK i a b)):=by simp only[cJ,if_true,gH]
theorem FK{i:IntKind}{a b:Int}:cJ P t .andNot (.int i a) (.int i b)=some (True,.int i (tG i a b)):=by simp only[cJ,if_true,gH]
theorem P8{i:IntKind}{a b:Int}:cJ P t .eql (.int i a) (.int i b)=some (True,.bool (decide (a=b))):=by simp[cJ,gH];rfl
theorem Qe{i:IntKind}{a b:Int}:cJ P t .neq (.int i a) (.int i b)=some (True,.bool (decide (¬a=b))):=by simp[cJ,gH];rfl
theorem Qc{i:IntKind}{a b:Int}:cJ P t .lss (.int i a) (.int i b)=some (True,.bool (decide (a<b))):=by simp[cJ,gH]
theorem Qb{i:IntKind}{a b:Int}:cJ P t .leq (.int i a) (.int i b)=some (True,.bool (decide (a≤b))):=by simp[cJ,gH]
theorem Qa{i:IntKind}{a b:Int}:cJ P t .gtr (.int i a) (.int i b)=some (True,.bool (decide (b<a))):=by simp[cJ,gH]
theorem P9{i:IntKind}{a b:Int}:cJ P t .geq (.int i a) (.int i b)=some (True,.bool (decide (b≤a))):=by simp[cJ,gH]
theorem Qh{i j:IntKind}{a b:Int}:cJ P t .shl (.int i a) (.int j b)=some (0≤b,.int i (i.wrap (a * 2 ^ (min b.toNat i.bits)))):=by simp[cJ,pQ]
theorem Qi{i j:IntKind}{a b:Int}:cJ P t .shr (.int i a) (.int j b)=some (0≤b,.int i (a.fdiv (2 ^ (min b.toNat i.bits)))):=by simp[cJ,pQ]
theorem r7(x y:ByteArray):x.toList=y.toList↔x=y:=by
 rw[ByteArray.toList_eq,ByteArray.toList_eq]
 obtain⟨⟨a⟩⟩:=x
 obtain⟨⟨b⟩⟩:=y
 simp
theorem s8(x y:ByteArray):(x.toList==y.toList)=decide (x=y):=by
 rw[Bool.eq_iff_iff];simp[r7]
theorem M7{x y:ByteArray}:cJ P t .eql (.str x) (.str y)=some (True,.bool (decide (x=y))):=by simp only[cJ,qI,s8]
theorem Na{x y:ByteArray}:cJ P t .neq (.str x) (.str y)=some (True,.bool (decide (¬x=y))):=by simp only[cJ,qI,s8];simp
theorem M6{x y:ByteArray}:cJ P t .add (.str x) (.str y)=some (((x.size+y.size:Nat):Int)≤9223372036854775807,.str (x++y)):=by simp only[cJ,qI]
theorem M9{x y:ByteArray}:cJ P t .lss (.str x) (.str y)=some (True,.bool (Op.bytesLess x.toList y.toList)):=by simp only[cJ,qI]
theorem M8{x y:ByteArray}:cJ P t .gtr (.str x) (.str y)=some (True,.bool (!(Op.bytesLess x.toList y.toList || decide (x=y)))):=by simp only[cJ,qI,s8]
theorem M4{x y:Bool}:cJ P t .eql (.bool x) (.bool y)=some ((td P t).k.isBool=true,.bool (x==y)):=rfl
theorem M5{x y:Bool}:cJ P t .neq (.bool x) (.bool y)=some ((td P t).k.isBool=true,.bool (!(x==y))):=rfl
theorem Tw{op:BinOp}{l i o:Nat}:cJ P t op (.ptr l i o) .nilp=eqV op ((td P t).k.tY=true) false:=rfl
theorem Tu{op:BinOp}{l i o:Nat}:cJ P t op .nilp (.ptr l i o)=eqV op ((td P t).k.tY=true) false:=rfl
theorem Tq{op:BinOp}{cs:List MV}:cJ P t op (.cptr cs) .nilp=eqV op ((td P t).k.tY=true) false:=rfl
theorem Tx{op:BinOp}{e:Nat}{x:List MV}{xs:List (List MV)}{b:Bool}:cJ P t op (.lst e (x::xs) b) .aN=eqV op ((td P t).k.IP=true) false:=rfl
theorem Ty{op:BinOp}:cJ P t op .aN .aN=eqV op ((td P t).k.IP=true) true:=rfl
theorem Ts{op:BinOp}:cJ P t op .nilfn .nilfn=eqV op ((td P t).k.IM=true) true:=rfl
theorem Tr{op:BinOp}{f:Fn}{a b:List MV}:cJ P t op (.fn f a b) .nilfn=eqV op ((td P t).k.IM=true) false:=rfl
theorem Tt{op:BinOp}:cJ P t op .nilp .nilp=eqV op ((td P t).k.tY=true) true:=rfl
def P0(P:Program)(op:BinOp)(t:TypeId)(o:Option Bool):PV:=match o with
 | some b=>eqV op (dH P t=true) b
 | none=>none
theorem FJ{op:BinOp}{xs ys:List MV}:cJ P t op (.agg xs) (.agg ys)=P0 P op t (jH P 6 t (.agg xs) (.agg ys)):=rfl
theorem xI{op:BinOp}{b:Bool}:P0 P op t (some b)=eqV op (dH P t=true) b:=rfl
theorem AV{σ:St}{l k:Nat}{o:aW}{p:Prop}(h:l≠k→k≠l→σ l=none→p):(σ.set k o) l=none→p:=fun hn =>
 have e:l≠k∧σ l=none:=(RP σ k l o).mp hn
 h e.1 (Ne.symm e.1) e.2
theorem E2(σ:St)(l:Nat)(o:aW):(σ.set l o).del l=σ.del l:=by
 funext k;simp only[St.set,St.del];split<;>rfl
theorem QU(l:Nat):St.none.del l=St.none:=by
 funext k;simp only[St.none,St.del];split<;>rfl
theorem OJ{α β:Type}{f:α→β}{l:List α}{n:Nat}:(l.map f).take n=(l.take n).map f:=by rw[List.map_take]
theorem Mn{α β:Type}{f:α→β}{l:List α}{n:Nat}:(l.map f).drop n=(l.drop n).map f:=by rw[List.map_drop]
theorem OX{α β:Type}{f:α→β}{l r:List α}:l.map f++r.map f=(l++r).map f:=by rw[List.map_append]
theorem HF(σ:St){l a:Nat}(o o' oa:aW)(h:l≠a):((σ.set l o).set a oa).set l o'=(σ.set l o').set a oa:=by rw[set_comm _ _ _ (Ne.symm h),set_set]
theorem CS(σ:St){l a b:Nat}(o o' oa ob:aW)(h:l≠a)(h2:l≠b):(((σ.set l o).set a oa).set b ob).set l o'=((σ.set l o').set a oa).set b ob:=by rw[set_comm _ _ _ (Ne.symm h2),HF _ _ _ _ h]
theorem Ow(σ:St){l a b c:Nat}(o o' oa ob oc:aW)(h:l≠a)(h2:l≠b)(h3:l≠c):((((σ.set l o).set a oa).set b ob).set c oc).set l o'=(((σ.set l o').set a oa).set b ob).set c oc:=by rw[set_comm _ _ _ (Ne.symm h3),CS _ _ _ _ _ h h2]
theorem Ff{α:Type}{l r:List α}{n:Nat}{d:α}(h:n<l.length):(l++r).getD n d=l.getD n d:=by simp[List.getD,List.getElem?_append_left h]
theorem Kv(n:Nat):((n:Int)+1).toNat=n+1:=by omega
theorem SM{p q:Prop}[Decidable p][Decidable q]:(decide p&&decide q)=decide (p∧q):=by simp
theorem Tp{b:Bool}{o:Bool}:(some o).map (fun c=>b&&c)=some (b&&o):=rfl
theorem SO{C:Prop}{b:Bool}:eqV .eql C b=some (C,.bool b):=rfl
theorem KN{C:Prop}{b:Bool}:eqV .neq C b=some (C,.bool (!b)):=rfl
theorem Br{s x:Operand}{t xt:TypeId}:R (gI P f .append [s,x] [t,xt] σ k)=R (kY P t xt (E (aH f s)) (E (aH f x)) σ k):=congrArg R rfl
theorem IZ{x:Operand}{t:TypeId}:R (gI P f .len [x] [t] σ k)=R (mpure σ k (E (Qv P t (aH f x)))):=congrArg R (by simp[gI,eM,E])
theorem I2{x y:Operand}{t u:TypeId}:R (gI P f .min [x,y] [t,u] σ k)=R (mpure σ k (E (Ln (aH f x) (aH f y)))):=congrArg R (by simp[gI,eM,E])
theorem I0{x y:Operand}{t u:TypeId}:R (gI P f .max [x,y] [t,u] σ k)=R (mpure σ k (E (Lm (aH f x) (aH f y)))):=congrArg R (by simp[gI,eM,E])
def mcv(P:Program)(s d:TypeId)(ks kd:TK)(x:MV)(σ:St)(k:MV→St→Prop):Prop :=
 match ks,kd,x with
 | .str,.slice el,.str b=>((td P el).k=.int .u8∧FZ el=true∧b.size≤140737488355328)∧∀l,σ l=none→k (.vec 1 l 0 b.size) (σ.set l (.row el 1 (b.toList.map fun c=>[.int .u8 (c.toNat:Int)])))
 | .slice el,.str,.str _=>False
 | .slice el,.str,x=>match fJ σ 1 x with
  | some ys=>((td P el).k=.int .u8∧ys.all isByte=true)∧k (.str (bytesOf ys)) σ
  | none=>False
 | _,_,x=>mpure σ k (uA P s d x)
theorem FP{s d:TypeId}{x:MV}:R (jA P s d x σ k)=R (mcv P s d (E (td P s).k) (E (td P d).k) x σ k):=congrArg R (by unfold jA mcv E;rfl)
theorem TB{s d:TypeId}{i j j':IntKind}{n:Int}:R (mcv P s d (.int j) (.int i) (.int j' n) σ k)=R (mpure σ k (E (uA P s d (.int j' n)))):=congrArg R rfl
theorem Ve{s d el:TypeId}{b:ByteArray}:R (mcv P s d .str (.slice el) (.str b) σ k)=R (gA (E ((td P el).k=.int .u8∧FZ el=true∧b.size≤140737488355328)) (oG (E σ) (fun l=>bY (E (.vec 1 l 0 b.size)) (σ.set l (.row el 1 (b.toList.map fun c=>[.int .u8 (c.toNat:Int)]))) k))):=congrArg R rfl
def Vf(P:Program)(el:TypeId)(o:Option (List (List MV)))(σ:St)(k:MV→St→Prop):Prop:=match o with
 | some ys=>gA ((td P el).k=.int .u8∧ys.all isByte=true) (bY (.str (bytesOf ys)) σ k)
 | none=>False
theorem Vd{s d el:TypeId}{e l lo n:Nat}:R (mcv P s d (.slice el) .str (.vec e l lo n) σ k)=R (Vf P el (E (fJ σ 1 (.vec e l lo n))) σ k):=congrArg R (by unfold mcv Vf E;simp only;split<;>rfl)
theorem Nh{el:TypeId}{ys:List (List MV)}:R (Vf P el (some ys) σ k)=R (gA (E ((td P el).k=.int .u8∧ys.all isByte=true)) (bY (E (.str (bytesOf ys))) σ k)):=congrArg R rfl
attribute [go_sem] Vl TK.isInt FP TB Ve Vd Nh uA TA
def P2(P:Program)(d:TK)(xt:TypeId)(s:MV)(ys:Option (List (List MV)))(σ:St)(k:MV→St→Prop):Prop :=
 match d with
 | .slice el=>match ys with
  | some ys=>match s with
   | .aN=>gA ((td P xt).k.gC=true∧(td P el).zok=true∧Fits ys.length (td P el).bytes) (oG σ fun l=>bY (.vec (td P el).size l 0 ys.length) (σ.set l (.row el (td P el).size ys)) k)
   | .lst e xs true=>gA ((td P xt).k.gC=true∧(td P el).zok=true∧e=(td P el).size∧(xs=[]∨0<ys.length)∧Fits (xs.length+ys.length) (td P el).bytes)
     (oG σ fun l=>bY (.vec (td P el).size l 0 (xs.length+ys.length)) (σ.set l (.row el (td P el).size (xs++ys))) k)
   | .vec e l lo n=>match σ l with
    | some (.row tt e' xs)=>gA ((td P xt).k.gC=true∧(td P el).zok=true∧e=(td P el).size∧e'=(td P el).size∧tt=el∧lo=0∧lo+n≤xs.length∧Fits (n+ys.length) (td P el).bytes)
      (oG σ fun l'=>bY (.vec (td P el).size l' 0 (n+ys.length)) ((σ.del l).set l' (.row el (td P el).size (fY xs lo n ys))) k)
    | _=>False
   | _=>False
  | none=>False
 | _=>False
def VE:TK→Option TypeId
 | .slice el=>some el
 | _=>none
def QG(P:Program)(σ:St)(x:MV):Option TypeId→Option (List (List MV))
 | some el=>fJ σ (td P el).size x
 | none=>none
theorem IY{t xt:TypeId}{s x:MV}:R (kY P t xt s x σ k)=R (P2 P (E (td P t).k) xt s (E (QG P σ x (VE (td P t).k))) σ k):=congrArg R (by
 unfold kY P2 QG VE gA oG bY E
 cases (td P t).k<;>rfl)
theorem M0{el xt:TypeId}{ys:List (List MV)}:R (P2 P (.slice el) xt .aN (some ys) σ k)=R (gA (E ((td P xt).k.gC=true∧(td P el).zok=true∧Fits ys.length (td P el).bytes)) (oG (E σ) (fun l=>bY (E (.vec (td P el).size l 0 ys.length)) (σ.set l (.row el (td P el).size ys)) k))):=congrArg R rfl
theorem P3{el xt:TypeId}{ys xs:List (List MV)}{e:Nat}:R (P2 P (.slice el) xt (.lst e xs true) (some ys) σ k)=R (gA (E ((td P xt).k.gC=true∧(td P el).zok=true∧e=(td P el).size∧(xs=[]∨0<ys.length)∧Fits (xs.length+ys.length) (td P el).bytes))
     (oG (E σ) (fun l=>bY (E (.vec (td P el).size l 0 (xs.length+ys.length))) (σ.set l (.row el (td P el).size (xs++ys))) k))):=rfl
def P5(P:Program)(el xt:TypeId)(e l lo n:Nat)(o:Option aW)(ys:List (List MV))(σ:St)(k:MV→St→Prop):Prop :=
 match o with
 | some (.row tt e' xs)=>gA ((td P xt).k.gC=true∧(td P el).zok=true∧e=(td P el).size∧e'=(td P el).size∧tt=el∧lo=0∧lo+n≤xs.length∧Fits (n+ys.length) (td P el).bytes)
      (oG σ fun l'=>bY (.vec (td P el).size l' 0 (n+ys.length)) ((σ.del l).set l' (.row el (td P el).size (fY xs lo n ys))) k)
 | _=>False
theorem P4{el xt:TypeId}{ys:List (List MV)}{e l lo n:Nat}:R (P2 P (.slice el) xt (.vec e l lo n) (some ys) σ k)=R (P5 P el xt e l lo n (E (σ l)) ys σ k):=congrArg R rfl
def mif(c:Prop)(A B:Prop):Prop:=(c→A)∧(¬c→B)
theorem TC{c A B:Prop}(h:c):R (mif c A B)=R A:=by simp[mif,h]
theorem Vh{c A B:Prop}(h:¬c):R (mif c A B)=R B:=by simp[mif,h]
theorem Vg{c A B:Prop}(h1:c→R A)(h2:¬c→R B):R (mif c A B):=⟨h1,h2⟩
theorem M3{el xt tt:TypeId}{ys xs:List (List MV)}{e e' l lo n:Nat}:R (P5 P el xt e l lo n (some (.row tt e' xs)) ys σ k)=R (mif (E (lo+n=xs.length))
      (gA (E ((td P xt).k.gC=true∧(td P el).zok=true∧e=(td P el).size∧e'=(td P el).size∧tt=el∧lo=0∧Fits (n+ys.length) (td P el).bytes))
       (oG (E σ) (fun l'=>bY (E (.vec (td P el).size l' 0 (n+ys.length))) ((σ.del l).set l' (.row el (td P el).size (xs.drop lo++ys))) k)))
      (gA (E ((td P xt).k.gC=true∧(td P el).zok=true∧e=(td P el).size∧e'=(td P el).size∧tt=el∧lo=0∧lo+n≤xs.length∧Fits (n+ys.length) (td P el).bytes))
       (oG (E σ) (fun l'=>bY (E (.vec (td P el).size l' 0 (n+ys.length))) ((σ.del l).set l' (.row el (td P el).size (fY xs lo n ys))) k)))):=by
 apply congrArg R
 simp only[P5,mif,E]
 by_cases h:lo+n=xs.length
 ·simp only[h,true_implies,not_true_eq_false,false_implies,and_true,Nat.le_refl,true_and,H4 h]
 ·simp only[h,false_implies,not_false_eq_true,true_implies,true_and]
theorem Hr{rs:List ResultVar}{Q:MV→St→Prop}{n:Nat}{l:List (Nat × MV)}:R (Ol P rs Q .normal ⟨n,l,[]⟩ σ)=R (fE P ⟨n,l,[]⟩ σ rs fun vs=>Q (oneOf vs) σ):=congrArg R rfl
theorem Rn{rs:List ResultVar}{Q:MV→St→Prop}{n:Nat}{l:List (Nat × MV)}:R (Ol P rs Q .ret ⟨n,l,[]⟩ σ)=R (fE P ⟨n,l,[]⟩ σ rs fun vs=>Q (oneOf vs) σ):=congrArg R rfl
theorem Jk{rs:List ResultVar}{Q:MV→St→Prop}{n:Nat}{l:List (Nat × MV)}:R (mleave P n l rs Q [] σ)=R (fE P ⟨n,l,[]⟩ σ rs fun vs=>Q (oneOf vs) σ):=congrArg R rfl
theorem DL{K:List MV→Prop}:R (fE P f σ [] K)=R (K []):=congrArg R rfl
theorem DN{K:List MV→Prop}{t:Nat}{rs:List ResultVar}:R (fE P f σ (.tmp t::rs) K)=R (bY (E (f.get t)) σ (fun v _=>fE P f σ rs fun vs=>K (v::vs))):=congrArg R rfl
theorem Bx{K:List MV→Prop}{a:Nat}{t:TypeId}{rs:List ResultVar}:R (fE P f σ (.cell a t::rs) K)=R (mJ P t (E (f.get a)) σ (fun v _=>fE P f σ rs fun vs=>K (v::vs))):=congrArg R rfl
theorem N2{v:MV}:oneOf [v]=v:=rfl
theorem N3{v w:MV}{vs:List MV}:oneOf (v::w::vs)=.tup (v::w::vs):=rfl
theorem N0:oneOf []=.tup []:=rfl
theorem Me{cs:List MV}:(MV.agg cs).cells=cs:=rfl
theorem Mf{i:IntKind}{n:Int}:(MV.int i n).cells=[.int i n]:=rfl
theorem Ih{b:Bool}:(MV.bool b).cells=[.bool b]:=rfl
theorem Mi{s:ByteArray}:(MV.str s).cells=[.str s]:=rfl
theorem Im:MV.nilp.cells=[.nilp]:=rfl
theorem Mh{l i o:Nat}:(MV.ptr l i o).cells=[.ptr l i o]:=rfl
theorem Ii{cs:List MV}:(MV.cptr cs).cells=[.cptr cs]:=rfl
theorem Io:MV.aN.cells=[.aN]:=rfl
theorem Mg{e:Nat}{xs:List (List MV)}{t:Bool}:(MV.lst e xs t).cells=[.lst e xs t]:=rfl
theorem Mj{e l lo n:Nat}:(MV.vec e l lo n).cells=[.vec e l lo n]:=rfl
theorem Il:MV.nilm.cells=[.nilm]:=rfl
theorem Ij{l:Nat}:(MV.mapv l).cells=[.mapv l]:=rfl
theorem EU:MV.nilfn.cells=[.nilfn]:=rfl
theorem O8{fn:Fn}{a b:List MV}:(MV.fn fn a b).cells=[.fn fn a b]:=rfl
theorem bC{k k':IntKind}{a b:Int}:nT (.int k a) (.int k' b)↔k=k'∧a=b:=⟨fun h=>by cases h;exact⟨rfl,rfl⟩,fun⟨h,g⟩=>h ▸ g ▸ .same _⟩
theorem aS{m:MV}:nT m m↔True:=⟨fun _=>trivial,fun _=>.same m⟩
theorem all_nil{p:MV→Bool}:List.all [] p=true:=rfl
theorem U3{α:Type}{p:α→Prop}:(∀c,c∈([]:List α)→p c)↔True:=by simp
theorem SW{α:Type}{p:α→Prop}{a:α}{l:List α}:(∀c,c∈a::l→p c)↔p a∧∀c,c∈l→p c:=by simp
theorem O3{i:IntKind}{n:Int}:(MV.int i n).aL=true:=rfl
theorem L7{b:Bool}:(MV.bool b).aL=true:=rfl
theorem O6{s:ByteArray}:(MV.str s).aL=true:=rfl
theorem Mc:MV.nilp.aL=true:=rfl
theorem O5{l i o:Nat}:(MV.ptr l i o).aL=true:=rfl
theorem L8{cs:List MV}:(MV.cptr cs).aL=true:=rfl
theorem Md:MV.aN.aL=true:=rfl
theorem O4{e:Nat}{xs:List (List MV)}{t:Bool}:(MV.lst e xs t).aL=true:=rfl
theorem O7{e l lo n:Nat}:(MV.vec e l lo n).aL=true:=rfl
theorem Mb:MV.nilm.aL=true:=rfl
theorem L9{l:Nat}:(MV.mapv l).aL=true:=rfl
theorem Ig:MV.nilfn.aL=true:=rfl
theorem SL{fn:Fn}{a b:List MV}:(MV.fn fn a b).aL=true:=rfl
theorem Ma:MV.nili.aL=true:=rfl
theorem Ie{t:TypeId}{v:MV}:(MV.iface t v).aL=true:=rfl
theorem Ik:MV.nili.cells=[.nili]:=rfl
theorem ET{t:TypeId}{v:MV}:(MV.iface t v).cells=[.iface t v]:=rfl
end
section
variable {P:Program} {f:FR} {σ:St} {k:MV→St→Prop} {K:FR→St→Prop}
theorem By{dst:Option Tmp}{t:TypeId}:R (jB P f σ dst K (.makeMap t none))=R (oG (E σ) fun l=>K (bM f dst (.mapv l)) (σ.set l (.mp []))):=congrArg R rfl
theorem yG{dst:Option Tmp}{t:TypeId}{m x y:Operand}:R (jB P f σ dst K (.mapUpdate t m x y))=R (gS P t (E (aH f m)) (E (aH f x)) (E (aH f y)) (E (mapOf σ (aH f m))) σ fun v σ'=>K (bM f dst v) σ'):=congrArg R rfl
theorem DQ{dst:Option Tmp}{t:TypeId}{m x:Operand}{ok:Bool}:R (jB P f σ dst K (.lookup t m x ok))=R (iA P t (E (aH f m)) (E (aH f x)) ok (E (mapOf σ (aH f m))) σ fun v σ'=>K (bM f dst v) σ'):=congrArg R rfl
def Ai(P:Program)(d:TK)(l:Nat)(kd:IntKind)(n:Int)(y:MV)(es:List (MV × MV))(σ:St)(k:MV→St→Prop):Prop:=match d with
 | .map kt _=>gA ((td P kt).k=.int kd∧(es.all fun p=>isK kd p.1)=true) (bY .junk (σ.set l (.mp (dG kd n y es))) k)
 | _=>False
theorem Ji{t:TypeId}{l:Nat}{kd:IntKind}{n:Int}{y:MV}{es:List (MV × MV)}:R (gS P t (.mapv l) (.int kd n) y (some (.mp es)) σ k)=R (Ai P (E (td P t).k) l kd n y es σ k):=congrArg R (by
 unfold gS Ai gA bY E
 cases (td P t).k<;>rfl)
theorem Ga{kt et:TypeId}{l:Nat}{kd:IntKind}{n:Int}{y:MV}{es:List (MV × MV)}:R (Ai P (.map kt et) l kd n y es σ k)=R (gA (E ((td P kt).k=.int kd∧(es.all fun p=>isK kd p.1)=true)) (bY (E .junk) (σ.set l (.mp (dG kd n y es))) k)):=congrArg R rfl
def Aj(P:Program)(d:TK)(kd:IntKind)(n:Int)(ok:Bool)(es:List (MV × MV))(σ:St)(k:MV→St→Prop):Prop:=match d with
 | .map kt et=>gA ((td P kt).k=.int kd∧(td P et).zok=true∧(es.all fun p=>isK kd p.1)=true) (bY (if ok=true then .tup [(dT n es).getD (xD (td P et)),.bool (dT n es).isSome] else(dT n es).getD (xD (td P et))) σ k)
 | _=>False
theorem Jo{t:TypeId}{l:Nat}{kd:IntKind}{n:Int}{ok:Bool}{es:List (MV × MV)}:R (iA P t (.mapv l) (.int kd n) ok (some (.mp es)) σ k)=R (Aj P (E (td P t).k) kd n ok es σ k):=congrArg R (by
 unfold iA Aj gA bY E
 cases (td P t).k<;>rfl)
theorem Ge{kt et:TypeId}{kd:IntKind}{n:Int}{ok:Bool}{es:List (MV × MV)}:R (Aj P (.map kt et) kd n ok es σ k)=R (gA (E ((td P kt).k=.int kd∧(td P et).zok=true∧(es.all fun p=>isK kd p.1)=true)) (bY (E (if ok=true then .tup [(dT n es).getD (xD (td P et)),.bool (dT n es).isSome] else(dT n es).getD (xD (td P et)))) σ k)):=congrArg R rfl
theorem MY{l:Nat}:mapOf σ (.mapv l)=σ l:=rfl
theorem PM{kd:IntKind}{n:Int}{v:MV}:dG kd n v []=[(.int kd n,v)]:=rfl
theorem PK{n:Int}:dT n []=none:=rfl
end
attribute [go_sem ↓] PX PY MT Jb NH Mx Mz My Jc Ng I7 FL FN FM Kl Nf I9 I8 Dz Ja EA OK Kt Bg Ia H9 QF NG Ju Gq Gs Gp DP By yG DQ QH QB Jq QC DI Ny QD Gj DH NB Bu Bv Al NA Gk Nz QA Jr Bw NC Nx TH Ak Ad Qz Gi Br IZ I2 I0 Hr Rn Jk DL DN Bx
theorem VX{t:TypeId}:FZ t=decide (t=5):=rfl
attribute [go_sem] VX Ji Ga Jo Ge MY PM PK xD UM V4 W3 WY VZ WZ WX Jg FY Nk Qu Nn Nl Np No F9 Nt Ns Nr Nq MG NJ NI U5 QK Jy NL QX TW TX Q0 Q1 QZ NY QY Jz TL TM Gu JA Qo I6 Bs Nd Qp TE TY Jv Nu Jm Gc Jx DS aD aF JF set_set T5 T3 T4 T2 TV Rj Of Ef Tz Nc P6 Qj Qd Qf Qg P7 Tv FK P8 Qe Qc Qb Qa P9 Qh Qi M7 Na M6 M9 M8 M4 M5 Tw Tu Tq Tt Tx Ty Ts Tr TK.IM OJ Mn OX List.length_take List.length_drop List.length_append Ff Kv if_pos if_neg HF CS Ow Fits E2 QU Bm SO KN FJ xI SM jH cE Tp IY VE QG M0 P3 P4 TC Vh fY M3 N2 N3 N0 Me Mf Ih Mi Im Mh Ii Io Mg Mj Il Ij EU O8 gZ pX jM lU dY Ah DB laid eY pT Qv Ln Lm mun uA fJ TK.isAgg TK.gC TK.tY TK.IP TK.isBool O3 L7 O6 Mc O5 L8 Md O4 O7 Mb L9 Ig SL Ma Ie Ik ET U3 SW List.map_cons List.map_nil List.length_cons List.length_nil List.length_map Int.toNat_natCast List.drop_succ_cons List.drop_zero List.drop_nil List.take_succ_cons List.take_zero List.take_nil List.getD_cons_zero List.getD_cons_succ List.getElem?_cons_zero List.getElem?_cons_succ List.set_cons_zero List.set_cons_succ List.all_cons List.all_nil List.cons_append List.nil_append List.append_nil List.toList_toArray Option.map_some Option.map_none Bool.and_self Bool.and_true Bool.true_and beq_self_eq_true IntWalk.i64_in IntWalk.u8_in IntWalk.u32_in IntWalk.i32_in IntWalk.u64_in decide_true decide_false Bool.not_true Bool.not_false if_true if_false and_true true_and and_self ne_eq not_true_eq_false not_false_eq_true eq_self reduceCtorEq MV.bool.injEq Nat.zero_add Nat.add_zero
end

section
def St.le(σ1 σ:St):Prop:=∀l o,σ1 l=some o→σ l=some o
theorem St.le_refl(σ:St):σ.le σ:=fun _ _ h=>h
theorem St.none_le(σ:St):St.none.le σ:=fun _ _ h=>by simp[St.none] at h
theorem St.bQ{σ1 σ:St}{l:Nat}{o:aW}(h:σ1.le σ)(hl:σ1 l=Option.none):σ1.le (σ.set l o):=fun k q hk=>by
 by_cases e:k=l
 ·subst e;rw[hl] at hk;cases hk
 ·rw[aF _ _ _ _ e];exact h k q hk
theorem St.sZ{σ1 σ:St}{l:Nat}{o:aW}(h:σ1.le σ):(σ1.set l o).le (σ.set l o):=fun k q hk=>by
 by_cases e:k=l
 ·subst e;rw[aD] at hk ⊢;exact hk
 ·rw[aF _ _ _ _ e] at hk ⊢;exact h k q hk
theorem St.aB{σ1 σ:St}{l:Nat}{o:aW}(h:σ1.le σ)(hl:σ l=some o):(σ1.set l o).le σ:=fun k q hk=>by
 by_cases e:k=l
 ·subst e;rw[aD] at hk;rw[hl];exact hk
 ·rw[aF _ _ _ _ e] at hk;exact h k q hk
theorem W0{x y:St}:R (x.le y)=x.le y:=rfl
attribute [go_sem] W0
inductive View (σ:St):MV→MV→Prop where
 | same (m:MV):View σ m m
 | junk (m:MV):View σ m .junk
 | nil (e:Nat) (t:Bool):View σ .aN (.lst e [] t)
 | tight (e:Nat) (xs:List (List MV)):View σ (.lst e xs true) (.lst e xs false)
 | vec {l lo n:Nat} {t:TypeId} {e:Nat} {xs:List (List MV)} (h:σ l=some (.row t e xs)) (hn:lo+n≤xs.length):View σ (.vec e l lo n) (.lst e ((xs.drop lo).take n) false)
 | vecAll {l n:Nat} {t:TypeId} {e:Nat} {xs:List (List MV)} (h:σ l=some (.row t e xs)) (hn:n=xs.length):View σ (.vec e l 0 n) (.lst e xs false)
 | ptr {l i o:Nat} {t:TypeId} {e:Nat} {xs:List (List MV)} (h:σ l=some (.row t e xs)) (hn:i<xs.length):View σ (.ptr l i o) (.cptr ((xs.getD i []).drop o))
 | agg {ms ms':List MV} (h:ms.length=ms'.length) (hc:∀(i:Nat) (m:MV),ms'[i]?=some m→m.aL=true) (hv:∀(i:Nat) (m m':MV),ms[i]?=some m→ms'[i]?=some m'→View σ m m'):View σ (.agg ms) (.agg ms')
 | tup {ms ms':List MV} (h:ms.length=ms'.length) (hv:∀(i:Nat) (m m':MV),ms[i]?=some m→ms'[i]?=some m'→View σ m m'):View σ (.tup ms) (.tup ms')
 | fn {f:Fn} {ms ns ns':List MV} (h:ns.length=ns'.length) (hv:∀(i:Nat) (m m':MV),ns[i]?=some m→ns'[i]?=some m'→View σ m m'):View σ (.fn f ms ns) (.fn f ms ns')
def OV(Φ Φ':Phi)(w:World)(σ:St):Prop:=Φ.le Φ'∧∀l o p R,σ l=some o→Φ.obj l=some p→p.blk=some R→∀off v,w.cell? ⟨R,off,none⟩=some v→Φ'.snap ⟨R,off,none⟩=some v
theorem eX.cells{Φ:Phi}{w:World}{l:Nat}{t:TypeId}{e:Nat}{xs:List (List MV)}(h:eX Φ w l (.row t e xs)){p:Place}(hp:Φ.obj l=some p){R:Nat}(hR:p.blk=some R) :
  ∀(i:Nat) (x:List MV) (j:Nat) (m:MV),xs[i]?=some x→x[j]?=some m→m.aL=true∧∃v,w.cell? ⟨R,p.bo+(i * e+j),none⟩=some v∧Rel Φ v m:=by
 obtain⟨p',hp',he,h1,h2,h3,h4⟩:=h
 rw[hp] at hp';cases hp'
 rw[hR] at h4
 obtain⟨c,fz,hc,hf,hs,hv⟩:=h4
 intro i x j m hx hm
 obtain⟨hcell,v,hv1,hv2⟩:=hv i x j m hx hm
 exact⟨hcell,v,by simpa[World.cell?,hc] using hv1,hv2⟩
theorem eX.KG{Φ Φ':Phi}{w:World}{l:Nat}{t:TypeId}{e:Nat}{xs:List (List MV)}(h:eX Φ w l (.row t e xs)){p:Place}(hp:Φ.obj l=some p){R:Nat}(hR:p.blk=some R)
 (hle:Φ.le Φ')(hs:∀off v,w.cell? ⟨R,off,none⟩=some v→Φ'.snap ⟨R,off,none⟩=some v):kR Φ' R p.bo e xs:=by
 refine⟨h.UT,fun i j=>(w.cell? ⟨R,p.bo+(i * e+j),none⟩).getD undef,fun i x j m hx hm=>?_⟩
 obtain⟨hcell,v,hv1,hv2⟩:=h.cells hp hR i x j m hx hm
 have:=hs _ _ hv1
 simp only[Nat.add_assoc] at this hv1 ⊢
 refine⟨hcell,?_,?_⟩
 ·rw[this,hv1];rfl
 ·rw[hv1];exact hv2.mono hle
theorem HY{Φ Φ':Phi}{w:World}{σ:St}(hi:Inv Φ w σ)(hs:OV Φ Φ' w σ){l lo n:Nat}{t:TypeId}{e:Nat}{xs:List (List MV)}(h:σ l=some (.row t e xs))(hn:lo+n≤xs.length){v:Value}(r:Rel Φ v (.vec e l lo n)) :
  Rel Φ' v (.lst e ((xs.drop lo).take n) false):=by
 obtain⟨a,cap,p,rfl,hp,he,hcap,hn',hva⟩:=r.dU
 have own:=hi.own l _ h
 obtain⟨p',hp',he',h1,h2,h3,h4⟩:=hi.own l _ h
 rw[hp] at hp';cases hp'
 refine Rel.DG (by simp;omega) hn' oM (by simp) (fun ha=>?_) (fun h0=>?_)
 ·rcases hva with⟨R,hR,ha'⟩|hva
  ·rw[ha'] at ha;cases ha
  ·exact hva
 ·rcases hva with⟨R,hR,ha⟩|hva
  ·subst ha
   refine⟨_,_,rfl,?_⟩
   rw[he]
   exact((own.KG hp hR hs.1 (hs.2 l _ p R h hp hR)).drop).take
  ·omega
theorem View.rel{Φ Φ':Phi}{w:World}{σ:St}(hi:Inv Φ w σ)(hs:OV Φ Φ' w σ){m m':MV}(h:View σ m m'):∀{v:Value},Rel Φ v m→Rel Φ' v m':=by
 induction h with
 | same m=>intro v r;exact r.mono hs.1
 | junk m=>intro v r;exact .junk v
 | nil e t=>intro v r;cases r;exact .lstn e t
 | tight e xs=>intro v r;exact((nT.tight e xs).rel r).mono hs.1
 | vec h hn=>intro v r;exact HY hi hs h hn r
 | @vecAll l n t e xs h hn =>
  intro v r
  have:=HY hi hs h (lo:=0) (n:=n) oM r
  subst hn
  simpa using this
 | @ptr l i o t e xs h hn =>
  intro v r
  obtain⟨p,R,hp,hR,rfl⟩:=r.i6
  have own:=hi.own l _ h
  obtain⟨p',hp',he',-⟩:=hi.own l _ h
  rw[hp] at hp';cases hp'
  obtain⟨-,vs,hv⟩:=own.KG hp hR hs.1 (hs.2 l _ p R h hp hR)
  have hx:xs[i]?=some (xs.getD i []):=by simp[List.getD,List.getElem?_eq_getElem hn]
  refine .cptr (fun j=>vs i (o+j)) (fun j m hm=>?_) (fun j m hm=>?_)
  all_goals
   rw[List.getElem?_drop] at hm
   have:=hv i _ _ m hx hm
  ·refine⟨this.1,?_⟩
   rw[he']
   simpa[Nat.add_assoc] using this.2.1
  ·exact this.2.2
 | agg h hc hv ih =>
  intro v r
  obtain⟨cs,rfl,h1,h2,h3⟩:=r.jY
  refine .agg oM hc (fun i m' hm'=>?_)
  have hlt:=(List.getElem?_eq_some_iff.1 hm').1
  rename_i ms ms'
  obtain⟨m,hm⟩:∃m,ms[i]?=some m:=⟨_,List.getElem?_eq_getElem oM⟩
  exact ih i m m' hm hm' (h3 i m hm)
 | tup h hv ih =>
  intro v r
  obtain⟨cs,rfl,h1,h3⟩:=r.Dp
  refine .tup oM (fun i m' hm'=>?_)
  have hlt:=(List.getElem?_eq_some_iff.1 hm').1
  rename_i ms ms'
  obtain⟨m,hm⟩:∃m,ms[i]?=some m:=⟨_,List.getElem?_eq_getElem oM⟩
  exact ih i m m' hm hm' (h3 i m hm)
 | @fn f ms ns ns' h hv ih =>
  intro v r
  obtain⟨first,cap,rfl,h1,h2⟩:=r.sI
  refine .fn f h1.1 (h2.1.trans h) (fun i m hm=>(h1.2 i m hm).mono hs.1) (fun i m' hm'=>?_)
  have hlt:=(List.getElem?_eq_some_iff.1 hm').1
  obtain⟨m,hm⟩:∃m,ns[i]?=some m:=⟨_,List.getElem?_eq_getElem oM⟩
  exact ih i m m' hm hm' (h2.2 i m hm)
def Phi.s6(Φ:Phi)(w:World)(B:Nat→Prop)[DecidablePred B]:Phi:={ Φ with snap:=fun a=>match Φ.snap a with|some v=>some v|none=>if B a.block then w.cell? a else none }
theorem y6(Φ:Phi)(w:World)(B:Nat→Prop)[DecidablePred B]:Φ.le (Φ.s6 w B):=⟨fun a v h=>by simp[Phi.s6,h],fun _ _ h=>h,rfl⟩
theorem fX{Φ:Phi}{w:World}{B:Nat→Prop}[DecidablePred B]{a:Addr}{v:Value}(h:(Φ.s6 w B).snap a=some v):Φ.snap a=some v∨(B a.block∧w.cell? a=some v):=by
 simp only[Phi.s6] at h
 split at h
 ·rename_i u hu;left;rw[hu,←h]
 ·split at h
  ·rename_i hb;exact .inr ⟨hb,h⟩
  ·cases h
theorem Eu{Φ:Phi}{w:World}{σ:St}(hi:Inv Φ w σ){B:Nat→Prop}[DecidablePred B]{σv:St}(hle:σv.le σ)(hB:∀R,a8 Φ σv R→B R):OV Φ (Φ.s6 w B) w σv:=by
 refine⟨y6 _ _ _,fun l o p R hl hp hR off v hv=>?_⟩
 have hb:B R:=hB R ⟨l,o,p,hl,hp,hR⟩
 simp only[Phi.s6]
 split
 ·rename_i u hu
  have:=hi.snap _ _ hu
  rw[hv] at this
  exact this.symm
 ·rw[if_pos hb];exact hv
theorem aV.freeze{n:Nat}{l l1:List (Nat × MV)}{d:List (FuncId × List MV)}{σ σ1:St}(σv:St)(hle:σv.le σ)(h1:σ1.le σ)(hd:∀k o,σ1 k=some o→σv k=none)
 (h:∀p,p∈l1→View σv (cT l p.1) p.2):aV ⟨n,l,d⟩ σ ⟨n,l1,d⟩ σ1:=by
 refine⟨rfl,fun Φ w vs hi hr=>?_⟩
 classical
 have hs:=Eu (Φ:=Φ) hi (B:=a8 Φ σv) hle (fun R h=>h)
 refine⟨Φ.s6 w (a8 Φ σv),⟨?_,?_,?_,?_,hi.fresh.1,fun g i v q=>hs.1.snap _ _ (hi.fresh.2.1 g i v q),hi.fresh.2.2.mono hs.1.snap⟩,⟨hr.1,?_⟩,⟨hs.1,rfl,rfl,rfl,Nat.le_refl _,Nat.le_refl _,fun _ _ _=>rfl,?_,fun l o h=>.inl ⟨o,h1 l o h⟩,fun R hR=>.inl ?_⟩⟩
 ·exact fun k o hk=>(hi.own k o (h1 k o hk)).mono hs.1 (fun _ _ _ _=>rfl)
 ·exact fun k k' o o' p p' R a b c e=>hi.inj k k' o o' p p' R (h1 k o a) (h1 k' o' b) c e
 ·intro a v hv
  rcases fX hv with q|⟨-,q⟩
  ·exact hi.snap a v q
  ·exact q
 ·intro k o p R a v hk hp hR hv
  rcases fX hv with q|⟨⟨k2,o2,p2,q1,q2,q3⟩,-⟩
  ·exact hi.apart k o p R a v (h1 k o hk) hp hR q
  ·intro e
   rw[e] at q3
   have:=hi.inj k k2 o o2 p p2 R (h1 k o hk) (hle k2 o2 q1) hp q2 hR q3
   subst this
   rw[hd k o hk] at q1
   cases q1
 ·intro t
  show Rel _ _ (cT l1 t)
  have key:∀l1':List (Nat × MV),(∀p,p∈l1'→View σv (cT l p.1) p.2)→View σv (cT l t) (cT l1' t):=by
   intro l1'
   induction l1' with
   | nil=>intro _;exact .junk _
   | cons q r ih =>
    obtain⟨k,v⟩:=q
    intro h
    simp only[cT]
    split
    ·rename_i ht;subst ht;exact h (t,v) (by simp)
    ·exact ih fun q hq=>h q (by simp[hq])
  exact(key l1 h).rel (hi.less hle) hs (hr.2 t)
 ·intro a v hv
  rcases fX hv with q|⟨⟨k,o,p,q1,q2,q3⟩,-⟩
  ·exact .inl q
  ·exact .inr (.inr ⟨k,o,p,hle k o q1,q2,q3⟩)
 ·obtain⟨k,o,p,q1,q2,q3⟩:=hR
  exact⟨k,o,p,h1 k o q1,q2,q3⟩
def OU(σv:St)(o o1:aW):Prop:=o1=o∨∃t e xs xs1,o=.row t e xs∧o1=.row t e xs1∧xs.length=xs1.length∧∀(i:Nat) (x x1:List MV),xs[i]?=some x→xs1[i]?=some x1→x.length=x1.length ∧
 ∀(j:Nat) (m m1:MV),x[j]?=some m→x1[j]?=some m1→m1=m∨(m1.aL=true∧View σv m m1)
theorem OU.own{Φ Φ':Phi}{w:World}{σv:St}{k:Nat}{o o1:aW}(hv:OU σv o o1)(h:eX Φ w k o)(hle:Φ.le Φ')(hi:Inv Φ w σv)(hs:OV Φ Φ' w σv):eX Φ' w k o1:=by
 rcases hv with rfl|⟨t,e,xs,xs1,rfl,rfl,hl,hx⟩
 ·exact h.mono hle (fun _ _ _ _=>rfl)
 ·obtain⟨p,hp,hpe,q1,q2,q3,q4⟩:=h
  have get:∀(i:Nat) (x1:List MV),xs1[i]?=some x1→∃x,xs[i]?=some x:=fun i x1 h1=>by
   have:=(List.getElem?_eq_some_iff.1 h1).1
   exact⟨xs[i]'oM,by simp⟩
  refine⟨p,hle.obj _ _ hp,hpe,by omega,q2,fun i x1 h1=>?_,?_⟩
  ·obtain⟨x,hx0⟩:=get i x1 h1
   rw[←(hx i x x1 hx0 h1).1]
   exact q3 i x hx0
  ·cases hb:p.blk with
   | none=>rw[hb] at q4;exact q4
   | some R =>
    rw[hb] at q4
    obtain⟨c,fz,k1,k2,k3,k4⟩:=q4
    refine⟨c,fz,k1,k2,k3,fun i x1 j m1 h1 hm1=>?_⟩
    obtain⟨x,hx0⟩:=get i x1 h1
    obtain⟨hlen,hview⟩:=hx i x x1 hx0 h1
    have hj:=(List.getElem?_eq_some_iff.1 hm1).1
    obtain⟨m,hm⟩:∃m,x[j]?=some m:=⟨x[j]'oM,by simp⟩
    obtain⟨hc0,v,hcv,hrel⟩:=k4 i x j m hx0 hm
    rcases hview j m m1 hm hm1 with rfl|⟨hc,hv⟩
    ·exact⟨hc0,v,hcv,hrel.mono hle⟩
    ·exact⟨hc,v,hcv,hv.rel hi hs hrel⟩
theorem aV.pO{n:Nat}{l l1:List (Nat × MV)}{d:List (FuncId × List MV)}{σ σ1:St}(σv:St)(hle:σv.le σ)(h1:∀k o1,σ1 k=some o1→∃o,σ k=some o∧OU σv o o1)(hd:∀k o,σ1 k=some o→σv k=none)
 (h:∀p,p∈l1→View σv (cT l p.1) p.2):aV ⟨n,l,d⟩ σ ⟨n,l1,d⟩ σ1:=by
 refine⟨rfl,fun Φ w vs hi hr=>?_⟩
 classical
 have hs:=Eu (Φ:=Φ) hi (B:=a8 Φ σv) hle (fun R h=>h)
 refine⟨Φ.s6 w (a8 Φ σv),⟨?_,?_,?_,?_,hi.fresh.1,fun g i v q=>hs.1.snap _ _ (hi.fresh.2.1 g i v q),hi.fresh.2.2.mono hs.1.snap⟩,⟨hr.1,?_⟩,⟨hs.1,rfl,rfl,rfl,Nat.le_refl _,Nat.le_refl _,fun _ _ _=>rfl,?_,fun l o h=>?_,fun R hR=>.inl ?_⟩⟩
 ·intro k o1 hk
  obtain⟨o,ho,hv⟩:=h1 k o1 hk
  exact hv.own (hi.own k o ho) hs.1 (hi.less hle) hs
 ·intro k k' o o' p p' R a b c e
  obtain⟨q,hq,-⟩:=h1 k o a
  obtain⟨q',hq',-⟩:=h1 k' o' b
  exact hi.inj k k' q q' p p' R hq hq' c e
 ·intro a v hv
  rcases fX hv with q|⟨-,q⟩
  ·exact hi.snap a v q
  ·exact q
 ·intro k o p R a v hk hp hR hv
  obtain⟨o0,ho0,-⟩:=h1 k o hk
  rcases fX hv with q|⟨⟨k2,o2,p2,q1,q2,q3⟩,-⟩
  ·exact hi.apart k o0 p R a v ho0 hp hR q
  ·intro e
   rw[e] at q3
   have:=hi.inj k k2 o0 o2 p p2 R ho0 (hle k2 o2 q1) hp q2 hR q3
   subst this
   rw[hd k o hk] at q1
   cases q1
 ·intro t
  show Rel _ _ (cT l1 t)
  have key:∀l1':List (Nat × MV),(∀p,p∈l1'→View σv (cT l p.1) p.2)→View σv (cT l t) (cT l1' t):=by
   intro l1'
   induction l1' with
   | nil=>intro _;exact .junk _
   | cons q r ih =>
    obtain⟨k,v⟩:=q
    intro h
    simp only[cT]
    split
    ·rename_i ht;subst ht;exact h (t,v) (by simp)
    ·exact ih fun q hq=>h q (by simp[hq])
  exact(key l1 h).rel (hi.less hle) hs (hr.2 t)
 ·intro a v hv
  rcases fX hv with q|⟨⟨k,o,p,q1,q2,q3⟩,-⟩
  ·exact .inl q
  ·exact .inr (.inr ⟨k,o,p,hle k o q1,q2,q3⟩)
 ·obtain⟨o0,ho0,-⟩:=h1 l o h
  exact .inl ⟨o0,ho0⟩
 ·obtain⟨k,o,p,q1,q2,q3⟩:=hR
  obtain⟨o0,ho0,-⟩:=h1 k o q1
  exact⟨k,o0,p,ho0,q2,q3⟩
theorem aV.less{n:Nat}{l l1:List (Nat × MV)}{d:List (FuncId × List MV)}{σ σ1:St}(h:∀p,p∈l1→nT (cT l p.1) p.2)(hs:σ1.le σ):aV ⟨n,l,d⟩ σ ⟨n,l1,d⟩ σ1 :=
 (aV.Td h).trans (aV.drop hs)
end

section
theorem Gh.row{n:Nat}{l:List (Nat × MV)}{d:List (FuncId × List MV)}{σ:St}{K:FR→St→Prop}(t:TypeId)(e:Nat)(l1:Nat→List (Nat × MV))
 (h1:∀k,∀p,p∈l1 k→cT l p.1=p.2∨(p.2=.vec e k 0 0∧(cT l p.1=.aN∨cT l p.1=.lst e [] true)))
 (h:∀k,σ k=none→Gh ⟨n,l1 k,d⟩ (σ.set k (.row t e [])) K):Gh ⟨n,l,d⟩ σ K:=by
 intro Φ w vs hi hr
 obtain⟨k,hk,hk'⟩:=inv_eq hi
 obtain⟨v1,v2,-⟩:=nS hi (fun _ _ h=>h) hk t e none
 have hfr:dD (Φ.put k ⟨none,0,e,0⟩) vs ⟨n,l1 k,d⟩:=by
  refine⟨hr.1,fun s=>?_⟩
  show Rel _ _ (cT (l1 k) s)
  have key:∀l2:List (Nat × MV),(∀p,p∈l2→cT l p.1=p.2∨(p.2=.vec e k 0 0∧(cT l p.1=.aN∨cT l p.1=.lst e [] true)))→Rel (Φ.put k ⟨none,0,e,0⟩) (vs.getD s undef) (cT l2 s):=by
   intro l2
   induction l2 with
   | nil=>intro _;exact .junk _
   | cons q r ih =>
    obtain⟨j,v⟩:=q
    intro h
    simp only[cT]
    split
    ·rename_i ht
     subst ht
     have hs:=hr.2 s
     change Rel Φ _ (cT l s) at hs
     rcases h (s,v) (by simp) with q|⟨q1,q2|q2⟩
     ·simp only at q;rw[←q];exact hs.mono v2.le
     ·simp only at q1 q2
      rw[q2] at hs
      have:=hs.fS
      rw[this,q1]
      exact(nS hi (fun _ _ h=>h) hk t e none).2.2
     ·simp only at q1 q2
      rw[q2] at hs
      obtain⟨a,cap,hv,-,-,h0,-⟩:=hs.kV
      have hcap:cap=0:=by simpa using h0 rfl
      subst hcap
      rw[hv,q1]
      exact(nS hi (fun _ _ h=>h) hk t e a).2.2
    ·exact ih fun q hq=>h q (by simp[hq])
  exact key _ (h1 k)
 obtain⟨f2,σ2,Φ2,e2,k2,i2,r2,s2⟩:=h k hk' _ w vs v1 hfr
 exact⟨f2,σ2,Φ2,e2,k2,i2,r2,v2.trans s2⟩
theorem Gh.Lw{f:FR}{σ:St}{K:FR→St→Prop}{b:Nat}{t:TypeId}{e:Nat}{pre post:List MV}(t':TypeId)(e':Nat)(hs:σ b=some (.row t e [pre++.aN::post]))
 (h:∀k,σ k=none→Gh f ((σ.set b (.row t e [pre++.vec e' k 0 0::post])).set k (.row t' e' [])) K):Gh f σ K:=by
 intro Φ w vs hi hr
 obtain⟨k,hk,hk'⟩:=inv_eq hi
 obtain⟨v1,v2,-⟩:=nS hi (fun _ _ h=>h) hk t' e' none
 have hbk:b≠k:=fun e=>by subst e;rw[hs] at hk';cases hk'
 have hs':(σ.set k (.row t' e' [])) b=some (.row t e [pre++.aN::post]):=by rw[aF _ _ _ _ hbk];exact hs
 obtain⟨p,hp,hpe,q1,q2,q3,q4⟩:=v1.own b _ hs'
 have hown:eX (Φ.put k ⟨none,0,e',0⟩) w b (.row t e [pre++.vec e' k 0 0::post]):=by
  refine⟨p,hp,hpe,by simpa using q1,q2,fun i x hx=>?_,?_⟩
  ·match i with
   | 0 =>
    simp only[List.getElem?_cons_zero,Option.some.injEq] at hx
    subst hx
    have:=q3 0 _ rfl
    simpa using this
   | i+1=>simp at hx
  ·cases hb:p.blk with
   | none=>rw[hb] at q4;exact q4
   | some R =>
    rw[hb] at q4
    obtain⟨c,fz,k1,k2,k3,k4⟩:=q4
    refine⟨c,fz,k1,k2,k3,fun i x j m hx hm=>?_⟩
    match i with
    | 0 =>
     simp only[List.getElem?_cons_zero,Option.some.injEq] at hx
     subst hx
     by_cases hj:j=pre.length
     ·subst hj
      simp at hm
      subst hm
      obtain⟨-,v,hv,hrel⟩:=k4 0 _ pre.length .aN rfl (by simp)
      have:=hrel.fS
      subst this
      exact⟨rfl,_,hv,.vecn (p:=⟨none,0,e',0⟩) (Phi.cR _ _ _) rfl rfl⟩
     ·refine k4 0 _ j m rfl ?_
      rw[←hm]
      by_cases h:j<pre.length
      ·rw[List.getElem?_append_left h,List.getElem?_append_left h]
      ·rw[List.getElem?_append_right oM,List.getElem?_append_right oM]
       obtain⟨q,hq⟩:∃q,j - pre.length=q+1:=⟨j - pre.length - 1,by omega⟩
       rw[hq,List.getElem?_cons_succ,List.getElem?_cons_succ]
    | i+1=>simp at hx
 have i2:Inv (Φ.put k ⟨none,0,e',0⟩) w ((σ.set k (.row t' e' [])).set b (.row t e [pre++.vec e' k 0 0::post])):=by
  refine v1.upd (.refl _) (fun _=>rfl) b _ p hp (fun m o q=>St.b7 q) (fun m o q R hm hs2 hq hR=>?_) (fun a v h=>?_) hown v1.fresh.1
  ·rcases St.b7 hs2 with⟨_,q1⟩|⟨q1,_⟩
   ·exact⟨rfl,fun e2=>hm (v1.inj m b _ _ q p R q1 hs' hq hp hR e2)⟩
   ·exact absurd q1 hm
  ·exact⟨rfl,fun e2=>v1.apart b _ p _ a v hs' hp e2 h rfl⟩
 have hst:(σ.set k (.row t' e' [])).set b (.row t e [pre++.vec e' k 0 0::post])=(σ.set b (.row t e [pre++.vec e' k 0 0::post])).set k (.row t' e' []):=set_comm _ _ _ (Ne.symm hbk)
 rw[hst] at i2
 obtain⟨f2,σ2,Φ2,e2,k2,j2,r2,s2⟩:=h k hk' _ w vs i2 (hr.mono v2.le)
 refine⟨f2,σ2,Φ2,e2,k2,j2,r2,.trans ?_ s2⟩
 refine⟨v2.le,rfl,rfl,rfl,Nat.le_refl _,Nat.le_refl _,fun _ _ _=>rfl,fun _ _ h=>.inl h,fun m o q=>?_,fun R hR=>?_⟩
 ·rcases St.b7 q with⟨_,q1⟩|⟨rfl,_⟩
  ·rcases St.b7 q1 with⟨_,q2⟩|⟨rfl,_⟩
   ·exact .inl ⟨_,q2⟩
   ·exact .inl ⟨_,hs⟩
  ·exact .inr hk
 ·obtain⟨m,o1,p1,t1,t2,t3⟩:=hR
  refine v2.ownd R ?_
  rcases St.b7 t1 with⟨hm,q1⟩|⟨rfl,rfl⟩
  ·rcases St.b7 q1 with⟨_,q2⟩|⟨rfl,_⟩
   ·exact⟨m,o1,p1,by rw[aF _ _ _ _ hm];exact q2,t2,t3⟩
   ·exact⟨m,_,p1,hs',t2,t3⟩
  ·exact⟨m,_,p1,aD _ _ _,t2,t3⟩
theorem aA.gh{P:Program}{g:FuncId}{ms:List MV}{σ:St}{Q:MV→St→Prop}(h:aA P g ms σ fun v σ'=>Gh ⟨1,[(0,v)],[]⟩ σ' fun f1 σ1=>∃v1,f1=⟨1,[(0,v1)],[]⟩∧Q v1 σ1):aA P g ms σ Q:=by
 refine⟨h.1,fun Φ w vs hi hr=>(h.2 Φ w vs hi hr).mono ?_⟩
 rintro e w' ⟨v,mv,σ',Φ',rfl,q1,q2,q3,g⟩
 obtain⟨f1,σ1,Φ1,-,⟨v1,rfl,hq⟩,i1,r1,s1⟩:=g Φ' w' #[v] q2 ⟨rfl,fun t=>by
  simp only[FR.get,cT]
  split
  ·rename_i ht;subst ht;exact q1
  ·exact .junk _⟩
 exact⟨v,v1,σ1,Φ1,rfl,by simpa[FR.get,cT] using r1.2 0,i1,q3.trans s1,hq⟩
def St.over(x y:St):St:=fun l=>match x l with|some o=>some o|Option.none=>y l
def St.minus(x y:St):St:=fun l=>match y l with|some _=>Option.none|Option.none=>x l
theorem jQ{x y:St}{l:Nat}{o:aW}(h:(St.over x y) l=some o):x l=some o∨(x l=none∧y l=some o):=by
 simp only[St.over] at h
 split at h
 ·rename_i q hq;exact .inl (by rw[hq,h])
 ·rename_i hq;exact .inr ⟨hq,h⟩
theorem dN{x y:St}{l:Nat}{o:aW}(h:(St.minus x y) l=some o):y l=none∧x l=some o:=by
 simp only[St.minus] at h
 split at h
 ·cases h
 ·rename_i hq;exact⟨hq,h⟩
theorem aA.frame{P:Program}{g:FuncId}{ms:List MV}{σa σ:St}{Q:MV→St→Prop}(h:aA P g ms σa Q)(hle:σa.le σ) :
  aA P g ms σ fun v σ1=>∃σ',Q v σ'∧σ1=σ'.over (σ.minus σa)∧∀l o,σ' l=some o→σ l=none∨∃o',σa l=some o':=by
 refine⟨h.1,fun Φ w vs hi hr=>(h.2 Φ w vs (hi.less hle) hr).mono ?_⟩
 rintro e w' ⟨v,mv,σ',Φ',rfl,r1,i1,s1,hq⟩
 have rest:∀l o,(σ.minus σa) l=some o→∃p,Φ.obj l=some p∧Φ'.obj l=some p∧∀R,p.blk=some R→R<w.heap.size∧¬a8 Φ σa R∧w'.heap[R]?=w.heap[R]?:=by
  intro l o hl
  obtain⟨q1,q2⟩:=dN hl
  obtain⟨p,hp,hR⟩:=(hi.own l o q2).place
  refine⟨p,hp,s1.le.obj _ _ hp,fun R hb=>?_⟩
  have hno:¬a8 Φ σa R:=by
   rintro⟨l2,o2,p2,u1,u2,u3⟩
   have:=hi.inj l l2 o o2 p p2 R q2 (hle _ _ u1) hp u2 hb u3
   subst this
   rw[q1] at u1;cases u1
  exact⟨hR R hb,hno,s1.block R (hR R hb) hno⟩
 have hdis:∀l o,σ' l=some o→σ l=none∨∃o',σa l=some o':=by
  intro l o hl
  rcases s1.locs l o hl with q|q
  ·exact .inr q
  ·exact .inl (hi.fV q)
 have hnew:∀l o p R,σ' l=some o→Φ'.obj l=some p→p.blk=some R→a8 Φ σa R∨w.heap.size≤R:=fun l o p R a b c=>s1.ownd R ⟨l,o,p,a,b,c⟩
 refine⟨v,mv,σ'.over (σ.minus σa),Φ',rfl,r1,⟨?_,?_,i1.snap,?_,i1.fresh⟩,⟨s1.le,s1.os,s1.tape,s1.output,s1.drawn,s1.size,?_,?_,?_,?_⟩,σ',hq,rfl,hdis⟩
 ·intro l o hl
  rcases jQ hl with q|⟨q1,q2⟩
  ·exact i1.own l o q
  ·obtain⟨p,hp,hp',hR⟩:=rest l o q2
   exact(hi.own l o (dN q2).2).mono s1.le fun p1 R h1 h2=>by
    rw[hp] at h1;cases h1
    exact(hR R h2).2.2
 ·intro l l' o o' p p' R hl hl' hp hp' hb hb'
  rcases jQ hl with q|⟨q1,q2⟩<;>rcases jQ hl' with q'|⟨q1',q2'⟩
  ·exact i1.inj l l' o o' p p' R q q' hp hp' hb hb'
  ·obtain⟨p2,u1,u2,u3⟩:=rest l' o' q2'
   rw[hp'] at u2;cases u2
   rcases hnew l o p R q hp hb with k|k
   ·exact absurd k (u3 R hb').2.1
   ·have:=(u3 R hb').1;omega
  ·obtain⟨p2,u1,u2,u3⟩:=rest l o q2
   rw[hp] at u2;cases u2
   rcases hnew l' o' p' R q' hp' hb' with k|k
   ·exact absurd k (u3 R hb).2.1
   ·have:=(u3 R hb).1;omega
  ·obtain⟨p2,u1,u2,u3⟩:=rest l o q2
   rw[hp] at u2;cases u2
   obtain⟨p3,v1,v2,v3⟩:=rest l' o' q2'
   rw[hp'] at v2;cases v2
   exact hi.inj l l' o o' p p' R (dN q2).2 (dN q2').2 u1 v1 hb hb'
 ·intro l o p R a u hl hp hb hu
  rcases jQ hl with q|⟨q1,q2⟩
  ·exact i1.apart l o p R a u q hp hb hu
  ·obtain⟨p2,u1,u2,u3⟩:=rest l o q2
   rw[hp] at u2;cases u2
   intro e
   rcases s1.snapn a u hu with k|k|k
   ·exact hi.apart l o p R a u (dN q2).2 u1 hb k e
   ·have:=(u3 R hb).1;omega
   ·rw[e] at k;exact(u3 R hb).2.1 k
 ·exact fun k hk hno=>s1.block k hk fun q=>hno (q.less hle)
 ·intro a u hu
  rcases s1.snapn a u hu with k|k|k
  ·exact .inl k
  ·exact .inr (.inl k)
  ·exact .inr (.inr (k.less hle))
 ·intro l o hl
  rcases jQ hl with q|⟨q1,q2⟩
  ·rcases s1.locs l o q with⟨o',k⟩|k
   ·exact .inl ⟨o',hle _ _ k⟩
   ·exact .inr k
  ·exact .inl ⟨o,(dN q2).2⟩
 ·rintro R ⟨l,o,p,hl,hp,hb⟩
  rcases jQ hl with q|⟨q1,q2⟩
  ·rcases hnew l o p R q hp hb with k|k
   ·exact .inl (k.less hle)
   ·exact .inr k
  ·obtain⟨p2,u1,u2,u3⟩:=rest l o q2
   rw[hp] at u2;cases u2
   exact .inl ⟨l,o,p,(dN q2).2,u1,hb⟩
theorem aA.less{P:Program}{g:FuncId}{ms:List MV}{σ:St}{Q Q':MV→St→Prop}(h:aA P g ms σ Q')(hq:∀v σ',Q' v σ'→∃σ1,σ1.le σ'∧Q v σ1):aA P g ms σ Q:=by
 refine⟨h.1,fun Φ w vs hi hr=>(h.2 Φ w vs hi hr).mono ?_⟩
 rintro e w' ⟨v,mv,σ',Φ',rfl,r1,i1,s1,k⟩
 obtain⟨σ1,hle,hk⟩:=hq mv σ' k
 exact⟨v,mv,σ1,Φ',rfl,r1,i1.less hle,s1.trans (.less _ hle),hk⟩
theorem aA.bR{P:Program}{g:FuncId}{ms:List MV}{σ:St}{Q:MV→St→Prop}(h:aA P g ms σ fun v σ'=>∃σ1,σ1.le σ'∧Q v σ1):aA P g ms σ Q:=h.less fun _ _ k=>k
theorem lV(σ:St):σ.minus St.none=σ:=by funext l;simp[St.minus,St.none]
theorem aA.pure{P:Program}{g:FuncId}{ms:List MV}{σ:St}{q:MV→Prop}(h:aA P g ms St.none fun v _=>q v):aA P g ms σ fun v σ'=>q v∧σ'=σ:=by
 refine(h.frame (St.none_le σ)).less ?_
 rintro v σ1 ⟨σ',hq,rfl,hd⟩
 refine⟨σ,fun l o hl=>?_,hq,rfl⟩
 rw[lV]
 simp only[St.over]
 cases hs:σ' l with
 | none=>exact hl
 | some o' =>
  rcases hd l o' hs with k|⟨_,k⟩
  ·rw[hl] at k;cases k
  ·simp[St.none] at k
theorem aA.Cw{P:Program}{g:FuncId}{ms:List MV}{q:MV→Prop}(h:aA P g ms St.none fun v _=>q v):aA P g ms St.none fun v σ'=>q v∧σ'=St.none:=h.pure
theorem aC{P:Program}{g:FuncId}{ms:List MV}{σ:St}{r:MV}{k:MV→St→Prop}(h:aA P g ms St.none fun v _=>v=r)(hk:R (bY r σ k)):R (cU P g ms σ k):=by
 refine(aA.pure (σ:=σ) h).mono ?_
 rintro v σ' ⟨rfl,rfl⟩
 exact hk
inductive Flat:MV→Prop where
 | junk:Flat .junk
 | bool (b:Bool):Flat (.bool b)
 | int (k:IntKind) (n:Int):Flat (.int k n)
 | str (s:ByteArray):Flat (.str s)
 | nilp:Flat .nilp
 | aN:Flat .aN
 | lst0 (e:Nat):Flat (.lst e [] true)
 | nilm:Flat .nilm
 | nilfn:Flat .nilfn
 | nili:Flat .nili
 | agg {cs:List MV} (h:∀c,c∈cs→Flat c):Flat (.agg cs)
 | tup {cs:List MV} (h:∀c,c∈cs→Flat c):Flat (.tup cs)
theorem Flat.rel{Φ Φ':Phi}{m:MV}(h:Flat m):∀{v:Value},Rel Φ v m→Rel Φ' v m:=by
 induction h with
 | junk=>intro v r;exact .junk v
 | bool b=>intro v r;cases r;exact .bool b
 | int k n=>intro v r;cases r;exact .int k n
 | str s=>intro v r;cases r;exact .str s
 | nilp=>intro v r;cases r;exact .nilp
 | aN=>intro v r;cases r;exact .aN
 | nilm=>intro v r;cases r;exact .nilm
 | nilfn=>intro v r;cases r;exact .nilfn
 | nili=>intro v r;cases r;exact .nili
 | lst0 e =>
  intro v r
  cases r with
  | lstn=>exact .lstn e true
  | lst0 a e cap t ht hm=>exact .lst0 a e cap true ht hm
  | lst hl h0=>simp at hl;omega
 | agg h ih =>
  intro v r
  cases r with
  | agg h hc hr=>exact .agg h hc (fun i m hm=>ih m (List.mem_of_getElem? hm) (hr i m hm))
 | tup h ih =>
  intro v r
  cases r with
  | tup h hr=>exact .tup h (fun i m hm=>ih m (List.mem_of_getElem? hm) (hr i m hm))
theorem aA.Xa{P:Program}{g:FuncId}{ms ms':List MV}{σ:St}{q:MV→Prop}(h:aA P g ms' St.none fun v _=>q v)(hf:∀r,q r→Flat r)(hl:ms.length=ms'.length)
 (hv:∀(i:Nat) (m m':MV),ms[i]?=some m→ms'[i]?=some m'→View σ m m'):aA P g ms σ fun v σ'=>q v∧σ'=σ:=by
 refine⟨h.1,fun Φ w vs hi hr=>?_⟩
 classical
 have hs:OV Φ (Φ.s6 w (fun _=>True)) w σ:=Eu hi (St.le_refl σ) (fun _ _=>trivial)
 have hi':Inv (Φ.s6 w (fun _=>True)) w St.none:=by
  refine⟨fun l o hl=>by simp[St.none] at hl,fun l l' o o' p p' R hl=>by simp[St.none] at hl,fun a v hv=>?_,fun l o p R a v hl=>by simp[St.none] at hl,hi.fresh.1,fun g i v q=>(y6 _ _ _).snap _ _ (hi.fresh.2.1 g i v q),hi.fresh.2.2.mono (y6 _ _ _).snap⟩
  rcases fX hv with q|⟨-,q⟩
  ·exact hi.snap a v q
  ·exact q
 have hr':iU (Φ.s6 w (fun _=>True)) vs ms':=by
  refine⟨hr.1.trans hl,fun i m' hm'=>?_⟩
  have hlt:=(List.getElem?_eq_some_iff.1 hm').1
  obtain⟨m,hm⟩:∃m,ms[i]?=some m:=⟨_,List.getElem?_eq_getElem oM⟩
  exact(hv i m m' hm hm').rel hi hs (hr.2 i m hm)
 refine(h.2 _ w vs hi' hr').mono ?_
 rintro e w' ⟨v,mv,σ',Φ',rfl,r1,i1,s1,hq⟩
 have hblk:∀k,k<w.heap.size→w'.heap[k]?=w.heap[k]?:=fun k hk=>s1.block k hk fun⟨l,o,p,a,_⟩=>by simp[St.none] at a
 have hown:∀l o,σ l=some o→eX Φ w' l o:=fun l o hl'=>by
  obtain⟨p,hp,hR⟩:=(hi.own l o hl').place
  exact(hi.own l o hl').mono (.refl Φ) fun p1 R h1 h2=>by
   rw[hp] at h1;cases h1
   exact hblk R (hR R h2)
 refine⟨v,mv,σ,Φ,rfl,(hf mv hq).rel r1,⟨hown,hi.inj,fun a u hu=>?_,hi.apart,hi.fresh⟩,⟨.refl Φ,s1.os,s1.tape,s1.output,s1.drawn,s1.size,fun k hk _=>hblk k hk,fun _ _ h=>.inl h,fun l o h=>.inl ⟨o,h⟩,fun _ h=>.inl h⟩,hq,rfl⟩
 have h1:=hi.snap a u hu
 have:=World.block_lt_of_cell? w a h1
 rw[World.gF (hblk _ this)]
 exact h1
theorem nQ{P:Program}{g:FuncId}{ms:List MV}(ms':List MV){σ:St}{r:MV}{k:MV→St→Prop}(h:aA P g ms' St.none fun v _=>v=r)(hf:Flat r)(hl:ms.length=ms'.length)
 (hv:∀(i:Nat) (m m':MV),ms[i]?=some m→ms'[i]?=some m'→View σ m m')(hk:R (bY r σ k)):R (cU P g ms σ k):=by
 refine(aA.Xa (σ:=σ) h (fun _ e=>e ▸ hf) hl hv).mono ?_
 rintro v σ' ⟨rfl,rfl⟩
 exact hk
theorem bJ{P:Program}{g:FuncId}{ms:List MV}{σa σ:St}{Q k:MV→St→Prop}(h:aA P g ms σa Q)(hle:σa.le σ)
 (hk:∀v σ',Q v σ'→(∀l o,σ' l=some o→σ l=none∨∃o',σa l=some o')→R (bY v (σ'.over (σ.minus σa)) k)):R (cU P g ms σ k):=by
 refine(h.frame hle).mono ?_
 rintro v σ1 ⟨σ',hq,rfl,hd⟩
 exact hk v σ' hq hd
theorem sQ{σ σa:St}(h:σa.le σ):σa.over (σ.minus σa)=σ:=by
 funext l
 simp only[St.over,St.minus]
 cases ha:σa l with
 | none=>rfl
 | some o=>exact(h l o ha).symm
theorem cQ{P:Program}{g:FuncId}{ms:List MV}{σa σ:St}{r:MV}{k:MV→St→Prop}(h:aA P g ms σa fun v σ'=>v=r∧σ'=σa)(hle:σa.le σ)(hk:R (bY r σ k)):R (cU P g ms σ k):=by
 refine bJ h hle ?_
 rintro v σ' ⟨rfl,rfl⟩ -
 rw[sQ hle]
 exact hk
theorem bE(x y:St)(l:Nat)(o:aW):(x.set l o).over y=(x.over y).set l o:=by
 funext k
 simp only[St.over,St.set]
 by_cases h:k=l
 ·simp[h]
 ·simp[h]
theorem dC(y:St):St.none.over y=y:=rfl
theorem aA.seen{P:Program}{g:FuncId}{ms:List MV}{σ:St}{r:MV}(h:aA P g ms σ fun v σ'=>View σ' v r):aA P g ms σ fun v _=>v=r:=by
 refine aA.ghost (h.mono fun v σ' hv=>⟨r,St.none,?_,rfl⟩)
 exact aV.freeze σ' (St.le_refl _) (St.none_le _) (fun k o hk=>by simp[St.none] at hk) (fun p hp=>by
  simp only[List.mem_singleton] at hp
  subst hp
  simpa[cT] using hv)
theorem View.loose{σ:St}{e:Nat}{xs:List (List MV)}{t:Bool}:View σ (.lst e xs t) (.lst e xs false):=by
 cases t
 ·exact .same _
 ·exact .tight e xs
theorem View.two{σ:St}{a b a' b':MV}(h:View σ a a')(k:View σ b b'):View σ (.tup [a,b]) (.tup [a',b']):=by
 refine .tup rfl fun i m m' hm hm'=>?_
 match i with
 | 0=>simp only[List.getElem?_cons_zero,Option.some.injEq] at hm hm';subst hm;subst hm';exact h
 | 1=>simp only[List.getElem?_cons_succ,List.getElem?_cons_zero,Option.some.injEq] at hm hm';subst hm;subst hm';exact k
 | i+2=>simp at hm
theorem wT{σ:St}{K:Nat→Prop}(h:R (oG σ K)):R (oG σ K):=h
theorem wN{σ:St}{K:Nat→Prop}(h:∀l,σ l=none→R (K l)):R (oG σ K):=h
theorem wS{σ:St}{l k:Nat}{o:aW}{p:Prop}(h:l≠k→k≠l→σ l=none→p):(σ.set k o) l=none→p:=AV h
theorem wI{c A B:Prop}(h1:c→R A)(h2:¬c→R B):R (mif c A B):=Vg h1 h2
theorem wF{p:Prop}[Decidable p]{A B:Prop}(h1:p→R A)(h2:¬p→R B):R (kF (.bool (decide p)) A B):=Nj h1 h2
theorem wG{p:Prop}[Decidable p]{A B:Prop}(h1:p→R A)(h2:¬p→R B):R (cK (.bool (decide p)) true A B):=Jh h1 h2
theorem wH{p:Prop}[Decidable p]{A B:Prop}(h1:¬p→R A)(h2:p→R B):R (cK (.bool (decide p)) false A B):=F0 h1 h2
theorem wL{α:Type}{β:Type}:(∀a b:List α,(a++b).length=a.length+b.length)∧(∀(a:List α) (i:Nat),(a.take i).length=min i a.length)∧(∀(a:List α) (i:Nat),(a.drop i).length=a.length - i) ∧
  (∀(x:α) (a:List α),(x::a).length=a.length+1)∧([]:List α).length=0∧(∀(g:α→β) (a:List α),(a.map g).length=a.length)∧(∀(a:List α) (i:Nat) (x:α),(a.set i x).length=a.length) ∧
  (∀(n:Nat) (x:α),(List.replicate n x).length=n) :=
 ⟨fun _ _=>List.length_append,fun _ _=>List.length_take,fun _ _=>List.length_drop,fun _ _=>rfl,rfl,fun _ _=>List.length_map _,fun _ _ _=>List.length_set,fun _ _=>List.length_replicate⟩
theorem ddL{p:Prop}(h:p:=by first|decide|assumption|omega|(simp only[wL];omega)):p:=h
theorem up{P:Program}{g:FuncId}{ms:List MV}{σ:St}{r:MV}{k:MV→St→Prop}(h:aA P g ms St.none fun v _=>v=r)(hk:R (bY r σ k)):R (cU P g ms σ k):=aC h hk
end

section
structure VA where
 kd:Int
 n:Int
 s:ByteArray
 deriving DecidableEq
abbrev VA.c(v:VA):List MV:=[.int .i64 v.kd,.int .i64 v.n,.str v.s]
def va0:VA:=⟨0,0,⟨#[]⟩⟩
structure ND where
 op:Int
 n:Int
 v:VA
 deriving DecidableEq
abbrev ND.c(x:ND):List MV:=[.int .i64 x.op,.int .i64 x.n,.int .i64 x.v.kd,.int .i64 x.v.n,.str x.v.s]
def nd0:ND:=⟨0,0,va0⟩
theorem bN{α:Type}{f:α→List MV}{l:List α}{n:Nat}(d:α)(h:n<l.length):(l.map f).getD n []=f (l.getD n d):=by simp[List.getD,h]
theorem gP{α:Sort _}[DecidableEq α]{a:α}:decide (¬a=a)=false:=by simp
theorem Vo{x y:ND}(h:x.op=y.op∧x.n=y.n∧x.v.kd=y.v.kd∧x.v.n=y.v.n∧x.v.s=y.v.s):x=y:=by
 obtain⟨a,b,c,d,e⟩:=x
 obtain⟨a',b',c',d',e'⟩:=y
 simp only at h
 obtain⟨rfl,rfl,rfl,rfl,rfl⟩:=h
 rfl
theorem bP{α:Type}{l:List α}{n:Nat}(d:α)(h:n<l.length):l.getD n d=l[n]:=by simp[List.getD,h]
theorem fR{α:Type}{l:List α}{n:Nat}(d:α)(h:n<l.length):l.getD n d∈l:=by rw[bP d h];exact List.getElem_mem h
theorem Bf{α:Type}{p:α→Bool}{l:List α}{i:Nat}(h:i<l.length):(l.take (i+1)).all p=((l.take i).all p&&p l[i]):=by
 rw[List.take_succ_eq_append_getElem h,List.all_append];simp
theorem rL{α:Type}{p:α→Bool}{l:List α}{i:Nat}(h:i<l.length):(l.take (i+1)).any p=((l.take i).any p || p l[i]):=by
 rw[List.take_succ_eq_append_getElem h,List.any_append];simp
def VA.key(v:VA):List Int:=v.kd::v.n::v.s.toList.map fun b=>(b.toNat:Int)
def ND.key(x:ND):List Int:=x.op::x.n::x.v.key
theorem bytes_inj{a b:ByteArray}(h:a.toList.map (fun b=>(b.toNat:Int))=b.toList.map fun b=>(b.toNat:Int)):a=b:=by
 refine(r7 a b).1 ?_
 exact(List.map_inj_right (fun x y h=>by
  have:x.toNat=y.toNat:=by exact_mod_cast h
  exact UInt8.toNat_inj.1 this)).1 h
def oJ:Ordering→Int
 | .lt=>-1
 | .eq=>0
 | .gt=>1
def cmpL:List Int→List Int→Ordering
 | [],[]=>.eq
 | [],_::_=>.lt
 | _::_,[]=>.gt
 | a::x,b::y=>if a<b then .lt else if b<a then .gt else cmpL x y
theorem cmpL_eq:∀{a b:List Int},cmpL a b=.eq↔a=b
 | [],[]=>by simp[cmpL]
 | [],_::_=>by simp[cmpL]
 | _::_,[]=>by simp[cmpL]
 | a::x,b::y=>by
  unfold cmpL
  split
  ·simp;intro h;omega
  ·split
   ·simp;intro h;omega
   ·rw[cmpL_eq]
    constructor
    ·rintro rfl;have:a=b:=by omega
     rw[this]
    ·intro h;cases h;rfl
theorem vI(a:List Int):cmpL a a=.eq:=cmpL_eq.2 rfl
theorem tM{a b:Int}{x y:List Int}(h:a≠b):cmpL (a::x) (b::y)=cmpL [a] [b]:=by
 unfold cmpL
 by_cases h1:a<b
 ·rw[if_pos h1,if_pos h1]
 ·have h2:b<a:=by omega
  rw[if_neg h1,if_neg h1,if_pos h2,if_pos h2]
theorem lD{a:Int}{x y:List Int}:cmpL (a::x) (a::y)=cmpL x y:=by
 rw[cmpL,if_neg oM,if_neg oM]
def bk(s:ByteArray):List Int:=s.toList.map fun b=>(b.toNat:Int)
theorem qN(s:ByteArray):(bk s).length=s.size:=by
 rw[bk,List.length_map]
 refine Nat.le_antisymm (Nat.le_of_not_lt fun h=>?_) (Nat.le_of_not_lt fun h=>?_)
 ·have h1:=s9 s s.size
  rw[List.getElem?_eq_getElem h] at h1
  have h2:s[s.size]?=none:=by simp
  rw[h2] at h1
  cases h1
 ·have h1:=s9 s s.toList.length
  rw[List.getElem?_eq_none (Nat.le_refl _)] at h1
  have h2:s[s.toList.length]?=some s[s.toList.length]:=by simp[h]
  rw[h2] at h1
  cases h1
theorem SJ{s:ByteArray}{n:Nat}(h:n<s.size):((s.toList.getD n 0).toNat:Int)=(bk s)[n]'(by rw[qN];exact h):=by
 have hl:n<s.toList.length:=by have:=qN s;rw[bk,List.length_map] at this;omega
 simp[bk,List.getD,hl]
theorem yN{s:ByteArray}{n:Nat}(h:n<s.size):(bk s).drop n=((s.toList.getD n 0).toNat:Int)::(bk s).drop (n+1):=by
 rw[List.drop_eq_getElem_cons (by rw[qN];exact h),SJ h]
theorem pA{s:ByteArray}{n:Nat}(h:s.size≤n):(bk s).drop n=[]:=List.drop_eq_nil_of_le (by rw[qN];exact h)
theorem rM:∀(x y:List UInt8),Op.bytesLess x y=decide (cmpL (x.map fun b=>(b.toNat:Int)) (y.map fun b=>(b.toNat:Int))=.lt)
 | [],[]=>by simp[Op.bytesLess,cmpL]
 | _::_,[]=>by simp[Op.bytesLess,cmpL]
 | [],_::_=>by simp[Op.bytesLess,cmpL]
 | a::x,b::y=>by
  simp only[Op.bytesLess,List.map_cons,cmpL]
  rw[rM x y]
  have hlt:(a<b)↔(a.toNat:Int)<b.toNat:=by
   rw[UInt8.lt_iff_toNat_lt];omega
  have heq:(a=b)↔(a.toNat:Int)=b.toNat:=by
   constructor
   ·rintro rfl;rfl
   ·intro h;exact UInt8.toNat_inj.1 (by exact_mod_cast h)
  by_cases h1:(a.toNat:Int)<b.toNat
  ·have:=hlt.2 h1
   rw[if_pos h1];simp[this]
  ·have h1':¬a<b:=fun h=>h1 (hlt.1 h)
   rw[if_neg h1]
   by_cases h2:(b.toNat:Int)<a.toNat
   ·have:a≠b:=fun h=>by have:=heq.1 h;omega
    rw[if_pos h2];simp[h1',this]
   ·have:a=b:=heq.2 oM
    rw[if_neg h2];simp[h1',this]
end

section
abbrev BL:=List UInt8
def big:Int:=1099511627776
def nxF:Nat→Bool→BL→Int × Nat × Nat
 | 0,_,_=>(3,0,0)
 | _+1,_,[]=>(2,0,0)
 | k+1,first,c::l=>if 128≤c.toNat then(if (nxF k false l).1=0 then(0,c.toNat % 128+128 * (nxF k false l).2.1,(nxF k false l).2.2+1) else((nxF k false l).1,0,0))
  else if c.toNat=0∧first=false then(3,0,0) else(0,c.toNat,1)
def nx(l:BL)(most:Int):Int × Nat × Int :=
 if (nxF 6 true l).1=0 then(if ((nxF 6 true l).2.1:Int) > big∨((nxF 6 true l).2.1:Int) > most then(0,0,4) else((nxF 6 true l).2.1,(nxF 6 true l).2.2,0)) else(0,0,(nxF 6 true l).1)
end

section
theorem Ml{α:Type}{l:List α}{i:Nat}(d:α)(h:i<l.length):l.drop i=l.getD i d::l.drop (i+1):=by
 rw[List.drop_eq_getElem_cons h,bP d h]
theorem CH{o:Ordering}:oJ o=0↔o=.eq:=by cases o<;>simp[oJ]
def parts(op:Int):Nat:=if op=10 then 1 else if op=11∨op=12 then 2 else 0
def jG:Nat→List ND→Option Nat
 | 0,_=>some 0
 | _+1,[]=>none
 | n+1,x::r=>(jG (n+parts x.op) r).map (·+1)
def iT(l:List ND)(i:Int):Int:=if i<0 then -1 else match jG 1 (l.drop i.toNat) with
 | none=>-1
 | some k=>i+k
inductive T where
 | leaf (x:ND)
 | one (x:ND) (a:T)
 | two (x:ND) (a b:T)
def T.fl:T→List ND
 | .leaf x=>[x]
 | .one x a=>x::a.fl
 | .two x a b=>x::(a.fl++b.fl)
def T.ok:T→Prop
 | .leaf x=>parts x.op=0
 | .one x a=>parts x.op=1∧a.ok
 | .two x a b=>parts x.op=2∧a.ok∧b.ok
theorem T.Dk:∀t:T,0<t.fl.length
 | .leaf _=>by simp[T.fl]
 | .one _ _=>by simp[T.fl]
 | .two _ _ _=>by simp[T.fl]
theorem qS:∀(t:T),t.ok→∀(n:Nat) (r:List ND),jG (n+1) (t.fl++r)=(jG n r).map (·+t.fl.length)
 | .leaf x,h,n,r=>by
  simp only[T.ok] at h
  simp[T.fl,jG,h]
 | .one x a,h,n,r=>by
  obtain⟨h1,h2⟩:=h
  simp only[T.fl,List.cons_append,jG,h1]
  rw[qS a h2]
  cases jG n r<;>simp
  omega
 | .two x a b,h,n,r=>by
  obtain⟨h1,h2,h3⟩:=h
  simp only[T.fl,List.cons_append,List.append_assoc,jG,h1]
  rw[show n+2=(n+1)+1 from rfl,qS a h2,qS b h3]
  cases jG n r<;>simp
  omega
theorem kJ(op:Int):parts op=0∨parts op=1∨parts op=2:=by
 unfold parts
 split
 ·simp
 ·split<;>simp
theorem rA:∀(m:Nat) (l:List ND),l.length≤m→∀(n k:Nat),jG (n+1) l=some k→∃(t:T) (r:List ND),t.ok∧l=t.fl++r
 | 0,l,hl,n,k,h=>by
  have:l=[]:=List.eq_nil_of_length_eq_zero oM
  subst this
  simp[jG] at h
 | m+1,[],hl,n,k,h=>by simp[jG] at h
 | m+1,x::r,hl,n,k,h=>by
  simp only[List.length_cons] at hl
  simp only[jG,Option.map_eq_some_iff] at h
  obtain⟨j,h,rfl⟩:=h
  rcases kJ x.op with hp|hp|hp
  ·exact⟨.leaf x,r,hp,rfl⟩
  ·rw[hp] at h
   obtain⟨t,r',ht,rfl⟩:=rA m r oM n j h
   exact⟨.one x t,r',⟨hp,ht⟩,rfl⟩
  ·rw[hp] at h
   obtain⟨a,r1,ha,rfl⟩:=rA m r oM (n+1) j h
   rw[show n+2=(n+1)+1 from rfl,qS a ha] at h
   simp only[Option.map_eq_some_iff] at h
   obtain⟨j1,h,rfl⟩:=h
   obtain⟨b,r2,hb,rfl⟩:=rA m r1 (by simp at hl;omega) n j1 h
   exact⟨.two x a b,r2,⟨hp,ha,hb⟩,by simp[T.fl]⟩
theorem parse{l:List ND}(h:iT l 0=l.length):∃t:T,t.ok∧l=t.fl:=by
 unfold iT at h
 rw[if_neg oM] at h
 simp only[Int.toNat_zero,List.drop_zero] at h
 cases e:jG 1 l with
 | none=>rw[e] at h;simp at h
 | some k =>
  rw[e] at h
  simp only[Int.zero_add] at h
  have hk:k=l.length:=by exact_mod_cast h
  obtain⟨t,r,ht,rfl⟩:=rA l.length l (Nat.le_refl _) 0 k e
  rw[qS t ht] at e
  simp only[jG,Option.map_some,Option.some.injEq] at e
  refine⟨t,ht,?_⟩
  have:r=[]:=List.eq_nil_of_length_eq_zero (by simp at hk;omega)
  rw[this,List.append_nil]
theorem KM{t:T}(h:t.ok)(pre r:List ND):iT (pre++(t.fl++r)) pre.length=(pre.length+t.fl.length:Nat):=by
 unfold iT
 rw[if_neg oM]
 simp only[Int.toNat_natCast,List.drop_left]
 rw[qS t h]
 simp[jG]
def fH(v:VA):Bool :=
 if v.kd=0 then decide (v=va0) else if v.kd=1 then decide (0≤v.n∧v.n≤1099511627776∧v.s=⟨#[]⟩) else if v.kd=2 then decide (v.n=0∧v.s.size≤24) else false
def fP(x:ND):Bool :=
 if x.op=1∨x.op=2∨x.op=10∨x.op=11∨x.op=12 then decide (x.n=0∧x.v=va0)
 else if x.op=3∨x.op=4 then decide (0≤x.n∧x.n<16∧x.v=va0)
 else if x.op=5 then decide (0≤x.n∧x.n<8∧x.v=va0)
 else if x.op=6∨x.op=7∨x.op=8 then decide (0≤x.n∧x.n<8∧fH x.v=true∧x.v≠va0)
 else if x.op=9 then decide (0≤x.n∧x.n<8∧fH x.v=true∧x.v.kd=2)
 else false
def S3(l:List ND):Bool:=decide (l≠[]∧l.length≤63)&&decide (iT l 0=l.length)&&l.all fP
theorem Pq{l:List ND}(h:S3 l=true):∃t:T,t.ok∧l=t.fl∧l.length≤63∧∀x,x∈l→fP x=true:=by
 simp only[S3,Bool.and_eq_true,decide_eq_true_eq,List.all_eq_true] at h
 obtain⟨t,ht,e⟩:=parse h.1.2
 exact⟨t,ht,e,h.1.1.2,h.2⟩
end

section
structure RD where
 l:BL
 e:Int
 deriving DecidableEq
structure F8 where
 l:List VA
 h:l.length=8
 deriving DecidableEq
abbrev F8.c(f:F8):List MV:=(f.l.map VA.c).flatten
def F8.get(f:F8)(i:Nat):VA:=f.l.getD i va0
def F8.set(f:F8)(i:Nat)(v:VA):F8:=⟨f.l.set i v,by rw[List.length_set,f.h]⟩
def f80:F8:=⟨List.replicate 8 va0,rfl⟩
abbrev bl(s:ByteArray):BL:=s.data.toList
abbrev bit(m i:Nat):Bool:=m.testBit i
structure PA where
 mask:UInt32
 lab:UInt32
 f:F8
 deriving DecidableEq
def pa0:PA:=⟨0,0,f80⟩
structure CA where
 id:Int
 ver:Int
 lab:UInt32
 f:F8
 deriving DecidableEq
def ca0:CA:=⟨0,0,0,f80⟩
def mG:Int:=1073741824
def iE(c:CA):Bool:=decide (1≤c.id∧c.id<mG∧1≤c.ver∧c.ver≤big∧c.lab.toNat<65536)&&c.f.l.all fH
def bH(p:PA):Int :=
 if p.mask.toNat=0∨511<p.mask.toNat then 11
 else if 65536≤p.lab.toNat∨p.lab.toNat≠0∧bit p.mask.toNat 8=false then 1
 else if (List.range 8).all (fun i=>fH (p.f.get i)&&(decide ((p.f.get i).kd=0) || bit p.mask.toNat i))=true then 0 else 1
structure ED where
 kd:Int
 id:Int
 gr:Int
 p:PA
 deriving DecidableEq
def edG(k:Int):Bool:=decide (k=4∨k=5∨k=6∨k=7)
def edI(k:Int):Bool:=decide (k=2∨k=3∨k=6∨k=7)
def edP(k:Int):Bool:=decide (k=1∨k=2)
def aR(e:ED):Int :=
 if e.kd<1∨7<e.kd then 1
 else if edG e.kd=false∧e.gr≠0∨edI e.kd=false∧e.id≠0∨edP e.kd=false∧e.p≠pa0 then 1
 else if e.gr<0∨16≤e.gr∨edI e.kd=true∧(e.id<1∨mG≤e.id) then 1
 else if edP e.kd=true then bH e.p else 0
structure TO where
 dev:Int
 ep:Int
 sq:Int
 cu:Int
 deriving DecidableEq
abbrev TO.c(t:TO):List MV:=[.int .i64 t.dev,.int .i64 t.ep,.int .i64 t.sq,.int .i64 t.cu]
def shut:List Nat→List Nat
 | []=>[]
 | [0]=>[]
 | 0::k::s=>shut ((k - 1)::s)
 | (n+1)::s=>(n+1)::s
termination_by s=>s.length
def dp:Nat→List Nat→List ND→Nat
 | d,_,[]=>d
 | d,s,x::l=>dp (max d (s.length+1)) (shut (parts x.op::s)) l
def iW(l:List ND):Nat:=if l=[]∨iT l 0≠l.length then 0 else dp 0 [] l
def bS(l:List ND):Int :=
 if 31<l.length then 4 else if l=[]∨iT l 0≠l.length∨l.all fP=false then 1 else if 8<iW l then 5 else 0
structure RE where
 kd:Int
 dev:Int
 req:Int
 code:Int
 id:Int
 ver:Int
 sq:Int
 ep:Int
 fl:List ND
 mask:UInt32
 deriving DecidableEq
structure IT where
 kd:Int
 c:CA
 deriving DecidableEq
def it0:IT:=⟨0,ca0⟩
structure PG where
 code:Int
 reset:Bool
 fr:TO
 to:TO
 items:List IT
 deriving DecidableEq
structure CM where
 kd:Int
 e:ED
 dev:Int
 req:Int
 id:Int
 base:Int
 Td:Int
 p:PA
 fl:List ND
 mask:UInt32
 deriving DecidableEq
structure MS where
 kd:Int
 size:Int
 cmd:CM
 tok:TO
 rep:RE
 page:PG
 code:Int
 deriving DecidableEq
end

section
structure Sk {α:Type} (f:RD→α × RD):Prop where
 stk:∀r,r.e≠0→(f r).2=r
 sfx:∀r,(f r).2.l <:+ r.l
structure Rt {α:Type} (f:RD→α × RD) (ok:α→Prop) (w:α→BL):Prop where
 fwd:∀x l,ok x→f ⟨w x++l,0⟩=(x,⟨l,0⟩)
 bck:∀r,(f r).2.e=0→r.e=0∧ok (f r).1∧r.l=w (f r).1++(f r).2.l
theorem Sk.err{α:Type}{f:RD→α × RD}(h:Sk f){r:RD}(e:(f r).2.e=0):r.e=0:=by
 by_cases h0:r.e=0
 ·exact h0
 ·rw[h.stk r h0] at e;exact e
section
variable {α:Type} {d:α} {y:α × RD}
end
theorem Sw(v:VA):fH v=true↔(v.kd=0∧v=va0)∨(v.kd=1∧0≤v.n∧v.n≤big∧v.s=⟨#[]⟩)∨(v.kd=2∧v.n=0∧v.s.size≤24):=by
 unfold fH big
 by_cases h0:v.kd=0
 ·simp[h0]
 ·by_cases h1:v.kd=1
  ·simp[h1]
  ·by_cases h2:v.kd=2
   ·simp[h2]
   ·simp[h0,h1,h2]
end

section
structure Eff where
 C:Prop
 kill:Option Nat
 upd:Option St
 new:Option aW
 v:Nat→MV→Prop
abbrev GF:=List Nat × (List aW→Option Eff)
def Eff.upl(e:Eff)(l:Nat):Option aW:=match e.upd with|some u=>u l|none=>none
def Eff.app(e:Eff)(σ:St):St:=fun l=>if (e.upl l).isSome=true then e.upl l else if e.kill=some l then none else σ l
theorem vA{e:Eff}{l:Nat}(h:(e.upl l).isSome=true):∃p,e.upd=some p∧p l≠none:=by
 unfold Eff.upl at h
 cases hu:e.upd with
 | none=>rw[hu] at h;cases h
 | some p=>rw[hu] at h;exact⟨p,rfl,fun q=>by simp only[q] at h;cases h⟩
theorem HW{e:Eff}{l:Nat}(h:∀p,e.upd=some p→p l=none):e.upl l=none:=by
 unfold Eff.upl
 cases hu:e.upd with
 | none=>rfl
 | some p=>exact h p hu
def Eff.out(e:Eff)(U:Nat→Prop)(σ:St)(v:MV)(U':Nat→Prop)(σ':St):Prop :=
 match e.new with
 | none=>e.v 0 v∧U'=U∧σ'=e.app σ
 | some o=>∃l,¬U l∧e.v l v∧U'=(fun x=>x=l∨U x)∧σ'=(e.app σ).set l o
def gs(U:Nat→Prop)(σ:St)(g:GF)(k:MV→(Nat→Prop)→St→Prop):Prop :=
 ∃os e,g.1.map σ=os.map some∧g.2 os=some e∧e.C∧(∀l,∃v,e.v l v)∧∀v U' σ',e.out U σ v U' σ'→k v U' σ'
def Wf(g:GF):Prop:=∀os e,os.length=g.1.length→g.2 os=some e→(∀l,e.kill=some l→l∈g.1)∧(∀p,e.upd=some p→∀l,p l≠none→l∈g.1)
def lK(g:GF):Prop:=∀os e,os.length=g.1.length→g.2 os=some e→e.upd=none
def NoW(g:GF):Prop:=∀os e,os.length=g.1.length→g.2 os=some e→e.upd=none∧e.kill=none
def Dom(U:Nat→Prop)(σ:St):Prop:=∀l,σ l≠none→U l
def Fin(U:Nat→Prop):Prop:=∃n,∀l,n≤l→¬U l
theorem eH{e:Eff}(h:e.upd=none∧e.kill=none)(σ:St):e.app σ=σ:=by
 funext l;simp[Eff.app,Eff.upl,h.1,h.2]
theorem i7{rd:List Nat}{σ:St}{os:List aW}(h:rd.map σ=os.map some):os.length=rd.length:=by
 have:=congrArg List.length h;simpa using this.symm
theorem kX{rd:List Nat}{σ:St}{os:List aW}(h:rd.map σ=os.map some){l:Nat}(hl:l∈rd):σ l≠none:=by
 have:σ l∈rd.map σ:=List.mem_map_of_mem hl
 rw[h] at this
 obtain⟨o,_,ho⟩:=List.mem_map.1 this
 rw[←ho];simp
theorem map_inj{rd:List Nat}{σ σ':St}{os os':List aW}(h:rd.map σ=os.map some)(h':rd.map σ'=os'.map some)(he:∀l,l∈rd→σ l=σ' l):os=os':=by
 have:rd.map σ=rd.map σ':=List.map_congr_left he
 rw[h,h'] at this
 clear h h' he
 induction os generalizing os' with
 | nil=>cases os' with
  | nil=>rfl
  | cons a r=>simp at this
 | cons b r ih=>cases os' with
  | nil=>simp at this
  | cons a r' =>
   simp only[List.map_cons,List.cons.injEq,Option.some.injEq] at this
   rw[this.1,ih this.2]
theorem yR{U:Nat→Prop}{σ:St}{g:GF}{k k':MV→(Nat→Prop)→St→Prop}(h:gs U σ g k)(hd:Dom U σ)(hf:Fin U)(hk:∀v U' σ',Dom U' σ'→Fin U'→(∀l,U l→U' l)→k v U' σ'→k' v U' σ')(wf:Wf g):gs U σ g k':=by
 obtain⟨os,e,h1,h2,h3,h4,h5⟩:=h
 refine⟨os,e,h1,h2,h3,h4,fun v U' σ' ho=>?_⟩
 have hw:=wf os e (i7 h1) h2
 have hdom:Dom U (e.app σ):=fun l hl=>by
  simp only[Eff.app] at hl
  split at hl
  ·rename_i hu
   obtain⟨p,hup,hp⟩:=vA hu
   exact hd l (kX h1 (hw.2 p hup l hp))
  ·split at hl
   ·exact absurd rfl hl
   ·exact hd l hl
 refine hk v U' σ' ?_ ?_ ?_ (h5 v U' σ' ho)
 all_goals
  unfold Eff.out at ho
  split at ho
 ·obtain⟨-,rfl,rfl⟩:=ho;exact hdom
 ·obtain⟨l,-,-,rfl,rfl⟩:=ho
  intro k hk
  simp only[St.set] at hk
  split at hk
  ·rename_i e;exact .inl e
  ·exact .inr (hdom k hk)
 ·obtain⟨-,rfl,rfl⟩:=ho;exact hf
 ·obtain⟨l,-,-,rfl,rfl⟩:=ho
  obtain⟨n,hn⟩:=hf
  exact⟨max n (l+1),fun k hk q=>q.elim (fun e=>by omega) (hn k oM)⟩
 ·obtain⟨-,rfl,rfl⟩:=ho;exact fun _ h=>h
 ·obtain⟨l,-,-,rfl,rfl⟩:=ho;exact fun _ h=>.inr h
theorem S9{U U':Nat→Prop}{σ:St}{g:GF}{k:MV→(Nat→Prop)→St→Prop}(h:gs U σ g k)(hu:∀l,U l→U' l)(hk:∀v V V' σ,(∀l,V l→V' l)→k v V σ→k v V' σ):gs U' σ g k:=by
 obtain⟨os,e,h1,h2,h3,h4,h5⟩:=h
 refine⟨os,e,h1,h2,h3,h4,fun v V σ' ho=>?_⟩
 unfold Eff.out at ho h5
 split at ho
 ·rename_i hn
  obtain⟨a,rfl,rfl⟩:=ho
  refine hk v U _ _ hu (h5 v U _ ?_)
  rw[hn];exact⟨a,rfl,rfl⟩
 ·rename_i o hn
  obtain⟨l,a,b,rfl,rfl⟩:=ho
  refine hk v (fun x=>x=l∨U x) _ _ (fun x hx=>hx.imp id (hu x)) (h5 v _ _ ?_)
  rw[hn];exact⟨l,fun q=>a (hu l q),b,rfl,rfl⟩
theorem Q3{e:Eff}{U:Nat→Prop}{σ:St}(hf:Fin U)(hv:∀l,∃v,e.v l v)(rd:List Nat):∃v U' σ',e.out U σ v U' σ'∧∀l,l∈rd→σ' l=(e.app σ) l:=by
 unfold Eff.out
 cases e.new with
 | none=>obtain⟨v,hv⟩:=hv 0;exact⟨v,U,e.app σ,⟨hv,rfl,rfl⟩,fun _ _=>rfl⟩
 | some o =>
  obtain⟨n,hn⟩:=hf
  have key:∃m,∀l,l∈rd→l<m:=by
   clear hv
   induction rd with
   | nil=>exact⟨0,by simp⟩
   | cons a r ih =>
    obtain⟨m,hm⟩:=ih
    refine⟨max m (a+1),fun l hl=>?_⟩
    rcases List.mem_cons.1 hl with q|q
    ·omega
    ·have:=hm l q;omega
  obtain⟨m,hm⟩:=key
  obtain⟨v,hv⟩:=hv (max n m)
  refine⟨v,_,_,⟨max n m,hn _ oM,hv,rfl,rfl⟩,fun l hl=>?_⟩
  have:=hm l hl
  exact aF _ _ _ _ oM
theorem yL{e:Eff}{σ:St}{l:Nat}{o:aW}(hk:e.kill≠some l)(hu:∀p,e.upd=some p→p l=none):e.app (σ.set l o)=(e.app σ).set l o:=by
 funext k
 simp only[Eff.app,St.set]
 by_cases h:k=l
 ·subst h
  simp[HW hu,hk]
 ·simp only[if_neg h]
theorem Tb{U:Nat→Prop}{σ:St}{gx gy:GF}{K:MV→MV→(Nat→Prop)→St→Prop}(hd:Dom U σ)(hf:Fin U)(wx:Wf gx)(wy:Wf gy)
 (hc:((gy.1=[]∨lK gx)∧(gx.1=[]∨NoW gy)∧(NoW gx∨NoW gy))∨∀l,l∈gx.1→l∉gy.1)
 (hK:∀v u V V' σ,(∀l,V l→V' l)→K v u V σ→K v u V' σ)
 (h:gs U σ gx fun v U1 σ1=>gs U1 σ1 gy fun u U2 σ2=>K v u U2 σ2) :
  gs U σ gy fun u U1 σ1=>∀U1',(∀l,U1 l→U1' l)→gs U1' σ1 gx fun v U2 σ2=>K v u U2 σ2:=by
 obtain⟨ox,ex,x1,x2,x3,x4,x5⟩:=h
 have wx':=wx ox ex (i7 x1) x2
 -- what y reads is there already
 have agree:∀v U1 σ1,ex.out U σ v U1 σ1→∀oy:List aW,gy.1.map σ1=oy.map some→(∀l,l∈gy.1→σ1 l=(ex.app σ) l)→∀l,l∈gy.1→σ1 l=σ l:=by
  intro v U1 σ1 ho oy hoy hsame l hl
  rw[hsame l hl]
  rcases hc.imp_left (·.1) with(c|c)|c
  ·rw[c] at hl;cases hl
  ·have hu:=c ox ex (i7 x1) x2
   have hne:=kX hoy hl
   rw[hsame l hl] at hne
   have hun:ex.upl l=none:=HW fun p hp=>by rw[hu] at hp;cases hp
   simp only[Eff.app,hun,Option.isSome_none,Bool.false_eq_true,if_false] at hne ⊢
   split at hne
   ·exact absurd rfl hne
   ·rename_i q2;rw[if_neg q2]
  ·simp only[Eff.app]
   rw[if_neg,if_neg]
   ·intro e;exact c l (wx'.1 l e) hl
   ·intro e
    obtain⟨p,hp,he⟩:=vA e
    exact c l (wx'.2 p hp l he) hl
 obtain⟨v0,V0,σ0,out0,same0⟩:=Q3 (σ:=σ) hf x4 gy.1
 obtain⟨oy,ey,y1,y2,y3,y4,y5⟩:=x5 v0 V0 σ0 out0
 have ag0:=agree v0 V0 σ0 out0 oy y1 same0
 have y1':gy.1.map σ=oy.map some:=by rw[←y1];exact(List.map_congr_left ag0).symm
 have wy':=wy oy ey (i7 y1) y2
 refine⟨oy,ey,y1',y2,y3,y4,fun u U1 σ1 hoy U1' hU1=>?_⟩
 -- what x reads is there still
 have hx1:gx.1.map σ1=ox.map some:=by
  rw[←x1]
  refine List.map_congr_left fun l hl=>?_
  rcases hc.imp_left (·.2.1) with(c|c)|c
  ·rw[c] at hl;cases hl
  ·have hw:=c oy ey (i7 y1) y2
   unfold Eff.out at hoy
   split at hoy
   ·obtain⟨-,-,rfl⟩:=hoy;rw[eH hw]
   ·obtain⟨k,q1,q2,q3,rfl⟩:=hoy
    rw[eH hw]
    refine aF _ _ _ _ (fun e=>q1 ?_)
    subst e
    exact hd l (kX x1 hl)
  ·have hap:(ey.app σ) l=σ l:=by
    simp only[Eff.app]
    rw[if_neg,if_neg]
    ·intro e;exact c l hl (wy'.1 l e)
    ·intro e
     obtain⟨p,hp,he⟩:=vA e
     exact c l hl (wy'.2 p hp l he)
   unfold Eff.out at hoy
   split at hoy
   ·obtain⟨-,-,rfl⟩:=hoy;exact hap
   ·obtain⟨k,q1,q2,q3,rfl⟩:=hoy
    rw[←hap]
    refine aF _ _ _ _ (fun e=>q1 ?_)
    subst e
    exact hd l (kX x1 hl)
 refine⟨ox,ex,hx1,x2,x3,x4,fun v U2 σ2 hox=>?_⟩
 -- the two in their old order,at the same places
 have noty:∀l,¬U l→ey.kill≠some l∧∀p,ey.upd=some p→p l=none:=fun l hl =>
  ⟨fun e=>hl (hd l (kX y1' (wy'.1 l e))),fun p hp=>Classical.byContradiction fun e=>hl (hd l (kX y1' (wy'.2 p hp l e)))⟩
 have notx:∀l,¬U l→ex.kill≠some l∧∀p,ex.upd=some p→p l=none:=fun l hl =>
  ⟨fun e=>hl (hd l (kX x1 (wx'.1 l e))),fun p hp=>Classical.byContradiction fun e=>hl (hd l (kX x1 (wx'.2 p hp l e)))⟩
 have comm:ex.app (ey.app σ)=ey.app (ex.app σ):=by
  rcases hc.imp_left (·.2.2) with(c|c)|c
  ·rw[eH (c ox ex (i7 x1) x2),eH (c ox ex (i7 x1) x2)]
  ·rw[eH (c oy ey (i7 y1) y2),eH (c oy ey (i7 y1) y2)]
  ·funext l
   by_cases hx:l∈gx.1
   ·have hy:=c l hx
    have n1:¬(ey.upl l).isSome=true:=fun e=>by
     obtain⟨p,hp,he⟩:=vA e
     exact hy (wy'.2 p hp l he)
    have n2:ey.kill≠some l:=fun e=>hy (wy'.1 l e)
    simp only[Eff.app,if_neg n1,if_neg n2]
   ·have n1:¬(ex.upl l).isSome=true:=fun e=>by
     obtain⟨p,hp,he⟩:=vA e
     exact hx (wx'.2 p hp l he)
    have n2:ex.kill≠some l:=fun e=>hx (wx'.1 l e)
    simp only[Eff.app,if_neg n1,if_neg n2]
 have finish:∀V σ',ex.out U σ v V σ'→(∀l,l∈gy.1→σ' l=(ex.app σ) l)→∀W σ'',ey.out V σ' u W σ''→K v u W σ'':=by
  intro V σ' ho hsame W σ'' hoy'
  obtain⟨oy2,ey2,z1,z2,z3,z4,z5⟩:=x5 v V σ' ho
  have ag:=agree v V σ' ho oy2 z1 hsame
  have:oy=oy2:=map_inj y1' z1 (fun l hl=>(ag l hl).symm)
  subst this
  rw[y2] at z2;cases z2
  exact z5 u W σ'' hoy'
 have hmem:∀l,¬U l→l∉gy.1:=fun l hl q=>hl (hd l (kX y1' q))
 unfold Eff.out at hox hoy
 cases hnx:ex.new with
 | none =>
  rw[hnx] at hox
  obtain⟨a1,rfl,rfl⟩:=hox
  have hout:ex.out U σ v U (ex.app σ):=by unfold Eff.out;rw[hnx];exact⟨a1,rfl,rfl⟩
  cases hny:ey.new with
  | none =>
   rw[hny] at hoy
   obtain⟨b1,rfl,rfl⟩:=hoy
   refine hK v u U1 U2 _ hU1 (finish _ _ hout (fun _ _=>rfl) _ _ ?_)
   unfold Eff.out;rw[hny];exact⟨b1,rfl,comm⟩
  | some o =>
   rw[hny] at hoy
   obtain⟨l,b0,b1,rfl,rfl⟩:=hoy
   refine hK v u _ U2 _ hU1 (finish _ _ hout (fun _ _=>rfl) _ _ ?_)
   unfold Eff.out;rw[hny]
   refine⟨l,b0,b1,rfl,?_⟩
   rw[yL (notx l b0).1 (notx l b0).2,comm]
 | some p =>
  rw[hnx] at hox
  obtain⟨k,a0,a1,rfl,rfl⟩:=hox
  have hout:∀W:Nat→Prop,(∀l,U l→W l)→¬W k→ex.out U σ v (fun x=>x=k∨U x) ((ex.app σ).set k p):=fun W hW hk=>by
   unfold Eff.out;rw[hnx];exact⟨k,fun q=>hk (hW k q),a1,rfl,rfl⟩
  cases hny:ey.new with
  | none =>
   rw[hny] at hoy
   obtain⟨b1,rfl,rfl⟩:=hoy
   have hk:¬U1 k:=fun q=>a0 (hU1 k q)
   refine hK v u (fun x=>x=k∨U1 x) _ _ (fun l q=>q.imp id (hU1 l)) (finish _ _ (hout U1' hU1 a0) (fun l hl=>aF _ _ _ _ (fun e=>hmem k hk (e ▸ hl))) _ _ ?_)
   unfold Eff.out;rw[hny]
   refine⟨b1,rfl,?_⟩
   rw[comm,yL (noty k hk).1 (noty k hk).2]
  | some o =>
   rw[hny] at hoy
   obtain⟨l,b0,b1,rfl,rfl⟩:=hoy
   have hk:¬U k:=fun q=>a0 (hU1 k (.inr q))
   have hkl:k≠l:=fun e=>a0 (hU1 k (.inl e))
   refine hK v u (fun x=>x=l∨(x=k∨U x)) _ _ (fun x q=>?_) (finish _ _ (hout U1' (fun x q=>hU1 x (.inr q)) a0) (fun x hx=>aF _ _ _ _ (fun e=>hmem k hk (e ▸ hx))) _ _ ?_)
   ·rcases q with q|q|q
    ·exact .inr (hU1 x (.inl q))
    ·exact .inl q
    ·exact .inr (hU1 x (.inr q))
   ·unfold Eff.out;rw[hny]
    refine⟨l,fun q=>q.elim (fun e=>hkl e.symm) b0,b1,rfl,?_⟩
    rw[yL (notx l b0).1 (notx l b0).2,comm,yL (noty k hk).1 (noty k hk).2,set_comm _ _ _ (Ne.symm hkl)]
end

section
def St.ofList:List Nat→List aW→St
 | l::ls,o::os=>(St.ofList ls os).set l o
 | _,_=>St.none
structure Fact where
 rd:List Nat
 q:MV→Prop
 new:Option (List aW × (Nat→MV))
abbrev cC:=FuncId→List MV→Option Fact
def cH:GF:=([],fun _=>none)
def eW(pv:PV):GF:=([],fun _=>pv.map fun x=>⟨x.1,none,none,none,fun _ u=>u=x.2⟩)
def iF(C:Prop)(o:aW)(v:Nat→MV):GF:=([],fun _=>some ⟨C,none,none,some o,fun l u=>u=v l⟩)
def lZ:MV→List Nat
 | .vec _ l _ _=>[l]
 | _=>[]
def HO(os:List aW):St:=fun _=>os.head?
def oY(P:Program)(t:TypeId):MV→GF
 | .ptr l i o=>([l],fun os=>match os with
  | [.row _ _ xs]=>some ⟨(td P t).ok=true∧i<xs.length∧o+(td P t).size≤(xs.getD i []).length∧0<(td P t).size,none,none,none,fun _ u=>u=dY (td P t) (xs.getD i []) o⟩
  | _=>none)
 | .cptr cs=>eW (some ((td P t).ok=true∧(td P t).size≤cs.length∧0<(td P t).size,dY (td P t) cs 0))
 | _=>cH
def mV(P:Program)(t:TypeId)(x y:MV):GF :=
 match x with
 | .ptr l i o=>([l],fun os=>match os with
  | [.row tt e xs]=>some ⟨(td P t).ok=true∧i<xs.length∧y.cells.all MV.aL=true∧y.cells.length=(td P t).size∧o+y.cells.length≤(xs.getD i []).length,none,some (St.none.set l (.row tt e (xs.set i (laid (xs.getD i []) o y.cells)))),none,fun _ u=>u=.junk⟩
  | _=>none)
 | _=>cH
def mE(P:Program)(t xt:TypeId)(s x:MV):GF :=
 match (td P t).k with
 | .slice el=>match s with
  | .aN=>(lZ x,fun os=>match fJ (HO os) (td P el).size x with
   | some ys=>some ⟨(td P xt).k.gC=true∧(td P el).zok=true∧Fits ys.length (td P el).bytes,none,none,some (.row el (td P el).size ys),fun l u=>u=.vec (td P el).size l 0 ys.length⟩
   | none=>none)
  | .lst e xs true=>(lZ x,fun os=>match fJ (HO os) (td P el).size x with
   | some ys=>some ⟨(td P xt).k.gC=true∧(td P el).zok=true∧e=(td P el).size∧(xs=[]∨0<ys.length)∧Fits (xs.length+ys.length) (td P el).bytes,none,none,some (.row el (td P el).size (xs++ys)),fun l u=>u=.vec (td P el).size l 0 (xs.length+ys.length)⟩
   | none=>none)
  | .vec e l lo n=>(l::lZ x,fun os=>match os with
   | .row tt e' xs::os=>match fJ (HO os) (td P el).size x with
    | some ys=>some ⟨(td P xt).k.gC=true∧(td P el).zok=true∧e=(td P el).size∧e'=(td P el).size∧tt=el∧lo=0∧lo+n≤xs.length∧Fits (n+ys.length) (td P el).bytes,some l,none,some (.row el (td P el).size (fY xs lo n ys)),fun l' u=>u=.vec (td P el).size l' 0 (n+ys.length)⟩
    | none=>none
   | _=>none)
  | _=>cH
 | _=>cH
def eJ(P:Program)(ρ:Operand→MV)(t:TypeId)(len:Nat)(parts:Array (Nat × Operand)):GF :=
 match (td P t).k with
 | .slice el=>iF ((td P el).zok=true∧parts.toList.map (·.1)=List.range len∧(parts.toList.all fun p=>(ρ p.2).cells.all MV.aL&&(ρ p.2).cells.length==(td P el).size)=true∧len * (td P el).size≤16777216∧len≤16777216)
   (.row el (td P el).size (parts.toList.map fun p=>(ρ p.2).cells)) (fun l=>.vec (td P el).size l 0 len)
 | _=>cH
def gG(P:Program)(t:TypeId)(x y:MV):GF :=
 match (td P t).k,x,y with
 | .slice el,.int .i64 n,.int .i64 c=>iF ((td P el).zok=true∧0≤n∧n≤c∧Fits c.toNat (td P el).bytes) (.row el (td P el).size (List.replicate n.toNat (td P el).zero)) (fun l=>.vec (td P el).size l 0 n.toNat)
 | _,_,_=>cH
def iZ(P:Program)(s d:TypeId)(x:MV):GF :=
 match (td P s).k,(td P d).k,x with
 | .str,.slice el,.str b=>iF ((td P el).k=.int .u8∧FZ el=true∧b.size≤140737488355328) (.row el 1 (b.toList.map fun c=>[.int .u8 (c.toNat:Int)])) (fun l=>.vec 1 l 0 b.size)
 | .slice el,.str,.str _=>cH
 | .slice el,.str,x=>(lZ x,fun os=>match fJ (HO os) 1 x with
  | some ys=>some ⟨(td P el).k=.int .u8∧ys.all isByte=true,none,none,none,fun _ u=>u=.str (bytesOf ys)⟩
  | none=>none)
 | _,_,x=>eW (uA P s d x)
def S7(P:Program)(g:FuncId)(ms:List MV)(ts:List aW)(u:Nat→MV):GF:=match ts with
 | [o]=>iF (aA P g ms St.none fun v σ'=>∃l,v=u l∧σ'=St.none.set l o) o u
 | _=>cH
def iM(P:Program)(C:cC)(g:FuncId)(ms:List MV):GF :=
 match C g ms with
 | some ⟨rd,q,none⟩=>(rd,fun os=>some ⟨aA P g ms (St.ofList rd os) (fun v σ'=>q v∧σ'=St.ofList rd os),none,none,none,fun _ u=>q u⟩)
 | some ⟨[],_,some (ts,u)⟩=>S7 P g ms ts u
 | some ⟨l::rd,_,some (ts,u)⟩=>(l::rd,fun os=>some ⟨aA P g ms (St.ofList (l::rd) os) (fun v σ'=>v=u l∧σ'=(St.ofList (l::rd) ts).over (St.ofList (l::rd) os)),none,some (St.ofList (l::rd) ts),none,fun _ w=>w=u l⟩)
 | _=>cH
def jX(P:Program)(t:TypeId)(m x:MV)(ok:Bool):GF :=
 match (td P t).k,m,x with
 | .map kt et,.mapv l,.int kd n=>([l],fun os=>match os with
  | [.mp es]=>some ⟨(td P kt).k=.int kd∧(td P et).zok=true∧(es.all fun p=>isK kd p.1)=true,none,none,none,fun _ u=>u=if ok=true then .tup [(dT n es).getD (xD (td P et)),.bool (dT n es).isSome] else(dT n es).getD (xD (td P et))⟩
  | _=>none)
 | _,_,_=>cH
def mF(P:Program)(t:TypeId)(m x y:MV):GF :=
 match (td P t).k,m,x with
 | .map kt _,.mapv l,.int kd n=>([l],fun os=>match os with
  | [.mp es]=>some ⟨(td P kt).k=.int kd∧(es.all fun p=>isK kd p.1)=true,none,some (St.none.set l (.mp (dG kd n y es))),none,fun _ u=>u=.junk⟩
  | _=>none)
 | _,_,_=>cH
def Pl(C:cC):Prop:=∀g ms rd q x,C g ms=some ⟨rd,q,some x⟩→rd=[]
def cC.pl(C:cC):cC:=fun g ms=>(C g ms).map fun F=>match F with
 | ⟨rd,q,none⟩=>⟨rd,q,none⟩
 | ⟨_,q,some x⟩=>⟨[],q,some x⟩
theorem cC.Lu(C:cC):Pl C.pl:=by
 intro g ms rd q x h
 unfold cC.pl at h
 cases hC:C g ms with
 | none=>rw[hC] at h;cases h
 | some F =>
  rw[hC] at h
  obtain⟨rd',q',n⟩:=F
  cases n with
  | none=>simp at h
  | some y=>simp at h;exact h.1.symm ▸ rfl
inductive iV where
 | no
 | all
 | these (L:List FuncId)
def iV.stays:iV→Operand→Bool
 | .no,_=>true
 | .these L,.func g=>!L.contains g
 | _,_=>false
def iV.may:iV→FuncId→Prop
 | .no,_=>False
 | .all,_=>True
 | .these L,g=>g∈L
def PlU(u:iV)(C:cC):Prop:=∀g ms rd q x,C g ms=some ⟨rd,q,some x⟩→rd=[]∨u.may g
theorem Pl.u{C:cC}(h:Pl C){u:iV}:PlU u C:=fun g ms rd q x e=>.inl (h g ms rd q x e)
def gop(P:Program)(C:cC)(f:FR):Op→GF
 | .alloc t=>iF ((td P t).zok=true) (.row t (td P t).size [(td P t).zero]) (fun l=>.ptr l 0 0)
 | .box t x=>iF ((aH f x).cells.all MV.aL=true) (.row t (aH f x).cells.length [(aH f x).cells]) (fun l=>.ptr l 0 0)
 | .load t x=>oY P t (aH f x)
 | .store t x y=>mV P t (aH f x) (aH f y)
 | .lookup t m x ok=>jX P t (aH f m) (aH f x) ok
 | .mapUpdate t m x y=>mF P t (aH f m) (aH f x) (aH f y)
 | .buildSlice t len parts=>eJ P (aH f) t len parts
 | .makeSlice t x y=>gG P t (aH f x) (aH f y)
 | .convert s d x=>iZ P s d (aH f x)
 | .call ⟨.builtin .append,args,ts⟩=>match args.toList,ts.toList with
  | [s,x],[t,xt]=>mE P t xt (aH f s) (aH f x)
  | _,_=>cH
 | .call ⟨.builtin b,args,ts⟩=>if ts.toList.length=args.toList.length then eW (eM P b ts.toList.toArray (args.toList.map (aH f))) else cH
 | .call ⟨.value x,args,ts⟩=>match aH f x with
  | .fn (.func g) ms ns=>iM P C g (ms++args.toList.map (aH f)++ns)
  | _=>cH
 | .call ⟨.invoke _ _,_,_⟩=>cH
 | .defer _=>cH
 | op=>eW (qop P f op)
theorem Av:∀{ls:List Nat} {os:List aW} {k:Nat},St.ofList ls os k≠none→k∈ls
 | [],_,k,h=>absurd rfl h
 | l::ls,[],k,h=>absurd rfl h
 | l::ls,o::os,k,h=>by
  by_cases e:k=l
  ·subst e;exact List.mem_cons_self ..
  ·refine List.mem_cons_of_mem _ (Av (os:=os) fun q=>h ?_)
   simp only[St.ofList]
   rw[aF _ _ _ _ e];exact q
theorem SB{l:Nat}{o:aW}{rd:List Nat}:∀p:St,some (St.none.set l o)=some p→∀k,p k≠none→k∈l::rd:=fun p h k hk=>by
 cases h
 by_cases e:k=l
 ·subst e;exact List.mem_cons_self ..
 ·exact absurd (aF _ _ _ _ e) hk
theorem dM(pv:PV):Wf (eW pv)∧NoW (eW pv)∧lK (eW pv)∧(eW pv).1=[]:=by
 have key:∀os e,(eW pv).2 os=some e→e.upd=none∧e.kill=none:=fun os e h=>by
  simp only[eW,Option.map_eq_some_iff] at h
  obtain⟨x,-,rfl⟩:=h
  exact⟨rfl,rfl⟩
 exact⟨fun os e _ h=>by simp[key os e h],fun os e _ h=>key os e h,fun os e _ h=>(key os e h).1,rfl⟩
theorem eP(C:Prop)(o:aW)(v:Nat→MV):Wf (iF C o v)∧NoW (iF C o v)∧lK (iF C o v)∧(iF C o v).1=[]:=by
 have key:∀os e,(iF C o v).2 os=some e→e.upd=none∧e.kill=none:=fun os e h=>by
  simp only[iF,Option.some.injEq] at h
  subst h;exact⟨rfl,rfl⟩
 exact⟨fun os e _ h=>by simp[key os e h],fun os e _ h=>key os e h,fun os e _ h=>(key os e h).1,rfl⟩
theorem bK:Wf cH∧NoW cH∧lK cH∧cH.1=[]:=⟨fun os e _ h=>by simp[cH] at h,fun os e _ h=>by simp[cH] at h,fun os e _ h=>by simp[cH] at h,rfl⟩
def rd0:Op→Bool
 | .load ..|.store ..|.lookup ..|.mapUpdate ..|.convert ..|.call ⟨.builtin .append,_,_⟩|.call ⟨.value _,_,_⟩=>false
 | _=>true
def As(u:iV):Op→Bool
 | .store ..|.mapUpdate ..=>false
 | .call ⟨.value x,_,_⟩=>u.stays x
 | _=>true
def noW(u:iV):Op→Bool
 | .store ..|.mapUpdate ..|.call ⟨.builtin .append,_,_⟩=>false
 | .call ⟨.value x,_,_⟩=>u.stays x
 | _=>true
theorem EK(P:Program)(t:TypeId)(x:MV):Wf (oY P t x)∧NoW (oY P t x)∧lK (oY P t x):=by
 unfold oY
 split
 ·have key:∀(os:List aW) (e:Eff) (l i o:Nat),(match os with
   | [.row _ _ xs]=>some (⟨(td P t).ok=true∧i<xs.length∧o+(td P t).size≤(xs.getD i []).length∧0<(td P t).size,none,none,none,fun _ u=>u=dY (td P t) (xs.getD i []) o⟩:Eff)
   | _=>none)=some e→e.upd=none∧e.kill=none:=by
   intro os e l i o h
   split at h
   ·cases h;exact⟨rfl,rfl⟩
   ·cases h
  exact⟨fun os e _ h=>by simp[key os e 0 _ _ h],fun os e _ h=>key os e 0 _ _ h,fun os e _ h=>(key os e 0 _ _ h).1⟩
 ·exact⟨(dM _).1,(dM _).2.1,(dM _).2.2.1⟩
 ·exact⟨bK.1,bK.2.1,bK.2.2.1⟩
theorem SC(P:Program)(t:TypeId)(x y:MV):Wf (mV P t x y):=by
 unfold mV
 split
 ·intro os e _ h
  simp only at h
  split at h
  ·cases h;exact⟨fun l h=>by(cases h),SB⟩
  ·cases h
 ·exact bK.1
theorem CX(P:Program)(t xt:TypeId)(s x:MV):Wf (mE P t xt s x)∧lK (mE P t xt s x):=by
 unfold mE
 split
 ·split
  ·refine⟨fun os e _ h=>?_,fun os e _ h=>?_⟩ <;>
   ·simp only at h
    split at h
    ·cases h;simp
    ·cases h
  ·refine⟨fun os e _ h=>?_,fun os e _ h=>?_⟩ <;>
   ·simp only at h
    split at h
    ·cases h;simp
    ·cases h
  ·refine⟨fun os e _ h=>?_,fun os e _ h=>?_⟩ <;>
   ·simp only at h
    split at h
    ·split at h
     ·cases h;simp
     ·cases h
    ·cases h
  ·exact⟨bK.1,bK.2.2.1⟩
 ·exact⟨bK.1,bK.2.2.1⟩
theorem tC(P:Program)(s d:TypeId)(x:MV):Wf (iZ P s d x)∧NoW (iZ P s d x)∧lK (iZ P s d x):=by
 unfold iZ
 split
 ·exact⟨(eP _ _ _).1,(eP _ _ _).2.1,(eP _ _ _).2.2.1⟩
 ·exact⟨bK.1,bK.2.1,bK.2.2.1⟩
 ·refine⟨fun os e _ h=>?_,fun os e _ h=>?_,fun os e _ h=>?_⟩ <;>
  ·simp only at h
   split at h
   ·cases h;simp
   ·cases h
 ·exact⟨(dM _).1,(dM _).2.1,(dM _).2.2.1⟩
theorem EJ(P:Program)(C:cC)(g:FuncId)(ms:List MV):Wf (iM P C g ms)∧((∀rd q x,C g ms=some ⟨rd,q,some x⟩→rd=[])→NoW (iM P C g ms)∧lK (iM P C g ms)):=by
 unfold iM
 split
 ·refine⟨fun os e _ h=>?_,fun _=>⟨fun os e _ h=>?_,fun os e _ h=>?_⟩⟩ <;>
  ·simp only[Option.some.injEq] at h
   subst h;simp
 ·unfold S7
  split
  ·exact⟨(eP _ _ _).1,fun _=>⟨(eP _ _ _).2.1,(eP _ _ _).2.2.1⟩⟩
  ·exact⟨bK.1,fun _=>⟨bK.2.1,bK.2.2.1⟩⟩
 ·rename_i l rd q ts u hC
  refine⟨fun os e _ h=>?_,fun hp=>?_⟩
  ·simp only[Option.some.injEq] at h
   subst h
   exact⟨fun l h=>by(cases h),fun p h k hk=>by cases h;exact Av hk⟩
  ·have:=hp _ _ _ hC;cases this
 ·exact⟨bK.1,fun _=>⟨bK.2.1,bK.2.2.1⟩⟩
theorem j7(P:Program)(ρ:Operand→MV)(t:TypeId)(len:Nat)(parts:Array (Nat × Operand)):Wf (eJ P ρ t len parts)∧NoW (eJ P ρ t len parts)∧lK (eJ P ρ t len parts)∧(eJ P ρ t len parts).1=[]:=by
 unfold eJ
 split
 ·exact eP _ _ _
 ·exact bK
theorem lC(P:Program)(t:TypeId)(x y:MV):Wf (gG P t x y)∧NoW (gG P t x y)∧lK (gG P t x y)∧(gG P t x y).1=[]:=by
 unfold gG
 split
 ·exact eP _ _ _
 ·exact bK
theorem xC(P:Program)(t:TypeId)(m x:MV)(ok:Bool):Wf (jX P t m x ok)∧NoW (jX P t m x ok)∧lK (jX P t m x ok):=by
 unfold jX
 split
 ·refine⟨fun os e _ h=>?_,fun os e _ h=>?_,fun os e _ h=>?_⟩ <;>
  ·simp only at h
   split at h
   ·cases h;simp
   ·cases h
 ·exact⟨bK.1,bK.2.1,bK.2.2.1⟩
theorem OQ(P:Program)(t:TypeId)(m x y:MV):Wf (mF P t m x y):=by
 unfold mF
 split
 ·intro os e _ h
  simp only at h
  split at h
  ·cases h;exact⟨fun l h=>by(cases h),SB⟩
  ·cases h
 ·exact bK.1
theorem Ky(P:Program)(C:cC){u:iV}(hu:PlU u C)(f:FR)(op:Op):Wf (gop P C f op)∧(As u op=true→lK (gop P C f op))∧(noW u op=true→NoW (gop P C f op))∧(rd0 op=true→(gop P C f op).1=[]):=by
 cases op
 case load t x=>exact⟨(EK _ _ _).1,fun _=>(EK _ _ _).2.2,fun _=>(EK _ _ _).2.1,fun h=>by simp[rd0] at h⟩
 case store t x y=>exact⟨SC _ _ _ _,fun h=>by simp[As] at h,fun h=>by simp[noW] at h,fun h=>by simp[rd0] at h⟩
 case convert s d x=>exact⟨(tC _ _ _ _).1,fun _=>(tC _ _ _ _).2.2,fun _=>(tC _ _ _ _).2.1,fun h=>by simp[rd0] at h⟩
 case lookup t m x ok=>exact⟨(xC _ _ _ _ _).1,fun _=>(xC _ _ _ _ _).2.2,fun _=>(xC _ _ _ _ _).2.1,fun h=>by simp[rd0] at h⟩
 case mapUpdate t m x y=>exact⟨OQ _ _ _ _ _,fun h=>by simp[As] at h,fun h=>by simp[noW] at h,fun h=>by simp[rd0] at h⟩
 case alloc t=>exact⟨(eP _ _ _).1,fun _=>(eP _ _ _).2.2.1,fun _=>(eP _ _ _).2.1,fun _=>rfl⟩
 case box t x=>exact⟨(eP _ _ _).1,fun _=>(eP _ _ _).2.2.1,fun _=>(eP _ _ _).2.1,fun _=>rfl⟩
 case buildSlice t n p=>exact⟨(j7 _ _ _ _ _).1,fun _=>(j7 _ _ _ _ _).2.2.1,fun _=>(j7 _ _ _ _ _).2.1,fun _=>(j7 _ _ _ _ _).2.2.2⟩
 case makeSlice t x y=>exact⟨(lC _ _ _ _).1,fun _=>(lC _ _ _ _).2.2.1,fun _=>(lC _ _ _ _).2.1,fun _=>(lC _ _ _ _).2.2.2⟩
 case defer c=>exact⟨bK.1,fun _=>bK.2.2.1,fun _=>bK.2.1,fun _=>rfl⟩
 case call c =>
  obtain⟨callee,args,ts⟩:=c
  cases callee with
  | value x =>
   simp only[gop]
   split
   ·rename_i g ms ns hx
    have hp:u.stays x=true→∀rd q y,C g (ms++args.toList.map (aH f)++ns)=some ⟨rd,q,some y⟩→rd=[]:=fun h rd q y e=>by
     rcases hu _ _ _ _ _ e with q1|q1
     ·exact q1
     ·cases u with
      | no=>exact q1.elim
      | all=>simp[iV.stays] at h
      | these L =>
       cases x with
       | func g0 =>
        have:g0=g:=by simp[aH] at hx;exact hx.1
        subst this
        simp[iV.stays] at h
        exact absurd q1 h
       | _=>simp[iV.stays] at h
    exact⟨(EJ _ _ _ _).1,fun h=>((EJ _ _ _ _).2 (hp (by simpa[As] using h))).2,fun h=>((EJ _ _ _ _).2 (hp (by simpa[noW] using h))).1,fun h=>by simp[rd0] at h⟩
   ·exact⟨bK.1,fun _=>bK.2.2.1,fun _=>bK.2.1,fun _=>rfl⟩
  | invoke r m=>exact⟨bK.1,fun _=>bK.2.2.1,fun _=>bK.2.1,fun _=>rfl⟩
  | builtin b =>
   by_cases hb:b=.append
   ·subst hb
    simp only[gop]
    split
    ·exact⟨(CX _ _ _ _ _).1,fun _=>(CX _ _ _ _ _).2,fun h=>by simp[noW] at h,fun h=>by simp[rd0] at h⟩
    ·exact⟨bK.1,fun _=>bK.2.2.1,fun _=>bK.2.1,fun _=>rfl⟩
   ·have:gop P C f (.call ⟨.builtin b,args,ts⟩)=if ts.toList.length=args.toList.length then eW (eM P b ts.toList.toArray (args.toList.map (aH f))) else cH:=by
     cases b<;>first|rfl|exact absurd rfl hb
    rw[this]
    split
    ·exact⟨(dM _).1,fun _=>(dM _).2.2.1,fun _=>(dM _).2.1,fun _=>rfl⟩
    ·exact⟨bK.1,fun _=>bK.2.2.1,fun _=>bK.2.1,fun _=>rfl⟩
 all_goals exact⟨(dM _).1,fun _=>(dM _).2.2.1,fun _=>(dM _).2.1,fun _=>rfl⟩
end

section
def pU(P:Program)(C:cC)(g:FuncId)(ms:List MV)(σ:St)(k:MV→St→Prop):Prop :=
 (∃rd q os,C g ms=some ⟨rd,q,none⟩∧rd.map σ=os.map some∧aA P g ms (St.ofList rd os) (fun v σ'=>q v∧σ'=St.ofList rd os)∧(∃v,q v)∧∀v,q v→k v σ) ∨
 ∃rd q o u,C g ms=some ⟨rd,q,some ([o],u)⟩∧aA P g ms St.none (fun v σ'=>∃l,v=u l∧σ'=St.none.set l o)∧∀l,σ l=none→k (u l) (σ.set l o)
def mW(P:Program)(C:cC)(g:FuncId)(ms:List MV)(σ:St)(k:MV→St→Prop):Prop :=
 (∃rd q os,C g ms=some ⟨rd,q,none⟩∧rd.map σ=os.map some∧aA P g ms (St.ofList rd os) (fun v σ'=>q v∧σ'=St.ofList rd os)∧(∃v,q v)∧∀v,q v→k v σ) ∨
 (∃q o u,C g ms=some ⟨[],q,some ([o],u)⟩∧aA P g ms St.none (fun v σ'=>∃l,v=u l∧σ'=St.none.set l o)∧∀l,σ l=none→k (u l) (σ.set l o)) ∨
 ∃l rd q ts os u,C g ms=some ⟨l::rd,q,some (ts,u)⟩∧(l::rd).map σ=os.map some∧aA P g ms (St.ofList (l::rd) os) (fun v σ'=>v=u l∧σ'=(St.ofList (l::rd) ts).over (St.ofList (l::rd) os))∧k (u l) ((St.ofList (l::rd) ts).over σ)
def Bt(P:Program)(MC:FuncId→List MV→St→(MV→St→Prop)→Prop)(f:FR)(σ:St)(k:MV→St→Prop):Op→Prop
 | .call ⟨.value x,args,ts⟩=>match aH f x with
  | .fn (.func g) ms ns=>MC g (ms++args.toList.map (aH f)++ns) σ k
  | _=>False
 | .defer _=>False
 | op=>mop P f σ k op
section
variable {P:Program} {C:cC} {f:FR} {σ:St} {U:Nat→Prop}
theorem vY:∀(rd:List Nat) (os:List aW),rd.map σ=os.map some→(St.ofList rd os).le σ
 | [],_,_=>by
  intro l o h
  simp[St.ofList,St.none] at h
 | l::ls,[],h=>by simp at h
 | l::ls,o::os,h=>by
  simp only[List.map_cons,List.cons.injEq] at h
  (try simp only[St.ofList])
  exact St.aB (vY ls os h.2) h.1
theorem oB{pv:PV}{k:MV→St→Prop}(h:mpure σ k pv):gs U σ (eW pv) fun v _ σ'=>k v σ':=by
 cases pv with
 | none=>exact h.elim
 | some x =>
  obtain⟨Cd,v⟩:=x
  refine⟨[],⟨Cd,none,none,none,fun _ u=>u=v⟩,rfl,rfl,h.1,fun _=>⟨v,rfl⟩,fun u U' σ' ho=>?_⟩
  obtain⟨rfl,-,rfl⟩:=ho
  rw[eH ⟨rfl,rfl⟩]
  exact h.2
theorem oO{pv:PV}{k:MV→(Nat→Prop)→St→Prop}(h:gs U σ (eW pv) k):mpure σ (fun v σ'=>∃U',(∀l,U' l→U l∨σ' l≠none)∧k v U' σ') pv:=by
 obtain⟨os,e,h1,h2,h3,h4,h5⟩:=h
 cases pv with
 | none=>simp[eW] at h2
 | some x =>
  obtain⟨Cd,v⟩:=x
  simp only[eW,Option.map_some,Option.some.injEq] at h2
  subst h2
  refine⟨h3,U,fun l h=>.inl h,h5 v U σ ⟨rfl,rfl,?_⟩⟩
  rw[eH ⟨rfl,rfl⟩]
theorem lP{Cd:Prop}{o:aW}{v:Nat→MV}{k:MV→St→Prop}(hd:Dom U σ)(h:Cd∧∀l,σ l=none→k (v l) (σ.set l o)):gs U σ (iF Cd o v) fun v _ σ'=>k v σ':=by
 refine⟨[],⟨Cd,none,none,some o,fun l u=>u=v l⟩,rfl,rfl,h.1,fun l=>⟨v l,rfl⟩,fun u U' σ' ho=>?_⟩
 obtain⟨l,hl,rfl,-,rfl⟩:=ho
 rw[eH ⟨rfl,rfl⟩]
 exact h.2 l (by
  cases hs:σ l with
  | none=>rfl
  | some x=>exact absurd (hd l (by simp[hs])) hl)
def l8(U:Nat→Prop)(σ:St)(k:MV→(Nat→Prop)→St→Prop)(v:MV)(σ':St):Prop :=
 (∀l,σ' l≠none→σ l=none→¬U l)→∃U',(∀l,U' l→U l∨σ' l≠none)∧k v U' σ'
theorem nB{Cd:Prop}{o:aW}{v:Nat→MV}{k:MV→(Nat→Prop)→St→Prop}(h:gs U σ (iF Cd o v) k):Cd∧∀l,σ l=none→l8 U σ k (v l) (σ.set l o):=by
 obtain⟨os,e,h1,h2,h3,h4,h5⟩:=h
 simp only[iF,Option.some.injEq] at h2
 subst h2
 refine⟨h3,fun l hl hn=>⟨fun x=>x=l∨U x,fun x hx=>hx.elim (fun e=>.inr (by rw[e,aD];simp)) .inl,h5 _ _ _ ⟨l,hn l (by rw[aD];simp) hl,rfl,rfl,?_⟩⟩⟩
 rw[eH ⟨rfl,rfl⟩]
theorem Am{pv:PV}{k k':MV→St→Prop}(h:mpure σ k pv)(hk:∀v σ',k v σ'→k' v σ'):mpure σ k' pv:=by
 cases pv with
 | none=>exact h.elim
 | some x=>exact⟨h.1,hk _ _ h.2⟩
theorem lG{e:Nat}{x:MV}{os:List aW}(h:(lZ x).map σ=os.map some):fJ (HO os) e x=fJ σ e x:=by
 cases x<;>try rfl
 rename_i e' l lo n
 cases os with
 | nil=>simp[lZ] at h
 | cons o r =>
  simp only[lZ,List.map_cons,List.map_nil,List.cons.injEq] at h
  (try simp only[fJ,HO,List.head?_cons,h.1])
theorem R5{e:Nat}{x:MV}{ys:List (List MV)}(h:fJ σ e x=some ys):∃os:List aW,(lZ x).map σ=os.map some:=by
 cases x<;>try exact⟨[],rfl⟩
 rename_i e' l lo n
 simp only[fJ] at h
 split at h
 ·split at h
  ·rename_i t e2 xs hs;exact⟨[.row t e2 xs],by simp[lZ,hs]⟩
  ·cases h
 ·cases h
theorem Ta{t:TypeId}{x:MV}{k:MV→St→Prop}(h:mJ P t x σ k):gs U σ (oY P t x) fun v _ σ'=>k v σ':=by
 unfold mJ at h
 unfold oY
 split at h
 ·rename_i l i o
  split at h
  ·rename_i tt e xs hs
   refine⟨[.row tt e xs],_,by simp[hs],rfl,h.1,fun _=>⟨_,rfl⟩,fun v U' σ' ho=>?_⟩
   obtain⟨rfl,-,rfl⟩:=ho
   rw[eH ⟨rfl,rfl⟩];exact h.2
  ·exact h.elim
 ·exact oB (σ:=σ) (pv:=some (_,_)) h
 ·exact h.elim
theorem Tm{t:TypeId}{x:MV}{k:MV→(Nat→Prop)→St→Prop}(h:gs U σ (oY P t x) k):mJ P t x σ (l8 U σ k):=by
 unfold oY at h
 unfold mJ
 split at h
 ·rename_i l i o
  obtain⟨os,e,h1,h2,h3,h4,h5⟩:=h
  simp only at h1 h2
  split at h2
  ·rename_i tt ee xs
   cases h2
   simp only[List.map_cons,List.map_nil,List.cons.injEq,and_true] at h1
   (try simp only[h1])
   refine⟨h3,fun _=>⟨U,fun _ h=>.inl h,h5 _ _ _ ⟨rfl,rfl,?_⟩⟩⟩
   rw[eH ⟨rfl,rfl⟩]
  ·cases h2
 ·obtain⟨h1,U',h2,h3⟩:=oO (σ:=σ) h
  exact⟨h1,fun _=>⟨U',h2,h3⟩⟩
 ·obtain⟨os,e,h1,h2,_⟩:=h
  simp[cH] at h2
theorem zD{Cd:Prop}{u:St}{n:Option aW}{v:Nat→MV→Prop}:(Eff.app ⟨Cd,none,some u,n,v⟩ σ)=u.over σ:=by
 funext k
 (try simp only[Eff.app,Eff.upl,St.over,reduceCtorEq,if_false])
 cases u k<;>simp
theorem yM{Cd:Prop}{l:Nat}{o:aW}{n:Option aW}{v:Nat→MV→Prop}:(Eff.app ⟨Cd,none,some (St.none.set l o),n,v⟩ σ)=σ.set l o:=by
 rw[zD,bE,dC]
theorem Pz{t:TypeId}{x y:MV}{k:MV→St→Prop}(h:pY P t x y σ k):gs U σ (mV P t x y) fun v _ σ'=>k v σ':=by
 unfold pY at h
 unfold mV
 split at h
 ·rename_i l i o
  split at h
  ·rename_i tt e xs hs
   refine⟨[.row tt e xs],_,by simp[hs],rfl,h.1,fun _=>⟨_,rfl⟩,fun v U' σ' ho=>?_⟩
   obtain⟨rfl,-,rfl⟩:=ho
   rw[yM];exact h.2
  ·exact h.elim
 ·exact h.elim
theorem R6{t:TypeId}{x y:MV}{k:MV→(Nat→Prop)→St→Prop}(h:gs U σ (mV P t x y) k):pY P t x y σ (l8 U σ k):=by
 unfold mV at h
 unfold pY
 split at h
 ·rename_i l i o
  obtain⟨os,e,h1,h2,h3,h4,h5⟩:=h
  simp only at h1 h2
  split at h2
  ·rename_i tt ee xs
   cases h2
   simp only[List.map_cons,List.map_nil,List.cons.injEq,and_true] at h1
   (try simp only[h1])
   refine⟨h3,fun _=>⟨U,fun _ h=>.inl h,h5 _ _ _ ⟨rfl,rfl,?_⟩⟩⟩
   rw[yM]
  ·cases h2
 ·obtain⟨os,e,h1,h2,_⟩:=h
  simp[cH] at h2
theorem ME{t:TypeId}{m x:MV}{ok:Bool}{k:MV→St→Prop}(h:iA P t m x ok (mapOf σ m) σ k):gs U σ (jX P t m x ok) fun v _ σ'=>k v σ':=by
 unfold iA at h
 split at h
 ·rename_i kt et l kd n es h1 h2
  have hl:σ l=some (.mp es):=h2
  unfold jX
  (try simp only[h1])
  refine⟨[.mp es],_,by simp[hl],rfl,h.1,fun _=>⟨_,rfl⟩,fun v U' σ' ho=>?_⟩
  obtain⟨rfl,-,rfl⟩:=ho
  rw[eH ⟨rfl,rfl⟩];exact h.2
 ·exact h.elim
theorem MX{t:TypeId}{m x:MV}{ok:Bool}{k:MV→(Nat→Prop)→St→Prop}(h:gs U σ (jX P t m x ok) k):iA P t m x ok (mapOf σ m) σ (l8 U σ k):=by
 unfold jX at h
 split at h
 ·rename_i kt et l kd n h1
  obtain⟨os,e,h2,h3,h4,h5,h6⟩:=h
  simp only at h2 h3
  split at h3
  ·rename_i es
   cases h3
   simp only[List.map_cons,List.map_nil,List.cons.injEq,and_true] at h2
   unfold iA
   (try simp only[h1,mapOf,h2])
   refine⟨h4,fun _=>⟨U,fun _ h=>.inl h,h6 _ _ _ ⟨rfl,rfl,?_⟩⟩⟩
   rw[eH ⟨rfl,rfl⟩]
  ·cases h3
 ·obtain⟨os,e,h1,h2,_⟩:=h
  simp[cH] at h2
theorem MF{t:TypeId}{m x y:MV}{k:MV→St→Prop}(h:gS P t m x y (mapOf σ m) σ k):gs U σ (mF P t m x y) fun v _ σ'=>k v σ':=by
 unfold gS at h
 split at h
 ·rename_i kt et l kd n es h1 h2
  have hl:σ l=some (.mp es):=h2
  unfold mF
  (try simp only[h1])
  refine⟨[.mp es],_,by simp[hl],rfl,h.1,fun _=>⟨_,rfl⟩,fun v U' σ' ho=>?_⟩
  obtain⟨rfl,-,rfl⟩:=ho
  rw[yM];exact h.2
 ·exact h.elim
theorem MZ{t:TypeId}{m x y:MV}{k:MV→(Nat→Prop)→St→Prop}(h:gs U σ (mF P t m x y) k):gS P t m x y (mapOf σ m) σ (l8 U σ k):=by
 unfold mF at h
 split at h
 ·rename_i kt et l kd n h1
  obtain⟨os,e,h2,h3,h4,h5,h6⟩:=h
  simp only at h2 h3
  split at h3
  ·rename_i es
   cases h3
   simp only[List.map_cons,List.map_nil,List.cons.injEq,and_true] at h2
   unfold gS
   (try simp only[h1,mapOf,h2])
   refine⟨h4,fun _=>⟨U,fun _ h=>.inl h,h6 _ _ _ ⟨rfl,rfl,?_⟩⟩⟩
   rw[yM]
  ·cases h3
 ·obtain⟨os,e,h1,h2,_⟩:=h
  simp[cH] at h2
theorem EO{Cd:Prop}{l:Nat}{n:Option aW}{v:Nat→MV→Prop}:(Eff.app ⟨Cd,some l,none,n,v⟩ σ)=σ.del l:=by
 funext k
 have h:Eff.upl ⟨Cd,some l,none,n,v⟩ k=none:=rfl
 (try simp only[Eff.app,St.del,h,Option.isSome_none,Bool.false_eq_true,if_false,Option.some.injEq])
 by_cases hk:k=l
 ·simp[hk]
 ·rw[if_neg (Ne.symm hk),if_neg hk]
theorem zU(hd:Dom U σ){l:Nat}(hl:¬U l):σ l=none:=by
 cases hs:σ l with
 | none=>rfl
 | some x=>exact absurd (hd l (by simp[hs])) hl
theorem MD{t xt:TypeId}{s x:MV}{k:MV→St→Prop}(hd:Dom U σ)(h:kY P t xt s x σ k):gs U σ (mE P t xt s x) fun v _ σ'=>k v σ':=by
 unfold kY at h
 unfold mE
 split at h
 ·rename_i el hk
  (try simp only[hk])
  split at h
  ·rename_i ys hy
   obtain⟨os,hos⟩:=R5 hy
   have hsrc:=lG (e:=(td P el).size) hos
   rw[hy] at hsrc
   split at h
   ·refine⟨os,⟨(td P xt).k.gC=true∧(td P el).zok=true∧Fits ys.length (td P el).bytes,none,none,some (.row el (td P el).size ys),fun l u=>u=.vec (td P el).size l 0 ys.length⟩,hos,by simp only[hsrc],h.1,fun l=>⟨_,rfl⟩,fun u U' σ' ho=>?_⟩
    obtain⟨l,hl,rfl,-,rfl⟩:=ho
    rw[eH ⟨rfl,rfl⟩]
    exact h.2 l (zU hd hl)
   ·rename_i e xs
    refine⟨os,⟨(td P xt).k.gC=true∧(td P el).zok=true∧e=(td P el).size∧(xs=[]∨0<ys.length)∧Fits (xs.length+ys.length) (td P el).bytes,none,none,some (.row el (td P el).size (xs++ys)),fun l u=>u=.vec (td P el).size l 0 (xs.length+ys.length)⟩,hos,by simp only[hsrc],h.1,fun l=>⟨_,rfl⟩,fun u U' σ' ho=>?_⟩
    obtain⟨l,hl,rfl,-,rfl⟩:=ho
    rw[eH ⟨rfl,rfl⟩]
    exact h.2 l (zU hd hl)
   ·rename_i e l lo n
    split at h
    ·rename_i tt e' xs hs
     refine⟨.row tt e' xs::os,⟨(td P xt).k.gC=true∧(td P el).zok=true∧e=(td P el).size∧e'=(td P el).size∧tt=el∧lo=0∧lo+n≤xs.length∧Fits (n+ys.length) (td P el).bytes,some l,none,some (.row el (td P el).size (fY xs lo n ys)),fun l' u=>u=.vec (td P el).size l' 0 (n+ys.length)⟩,by simp[hs,hos],by simp only[hsrc],h.1,fun l=>⟨_,rfl⟩,fun u U' σ' ho=>?_⟩
     obtain⟨l',hl,rfl,-,rfl⟩:=ho
     rw[EO]
     exact h.2 l' (zU hd hl)
    ·exact h.elim
   ·exact h.elim
  ·exact h.elim
 ·exact h.elim
theorem LZ{t xt:TypeId}{s x:MV}{k:MV→(Nat→Prop)→St→Prop}(h:gs U σ (mE P t xt s x) k):kY P t xt s x σ (l8 U σ k):=by
 unfold mE at h
 unfold kY
 split at h
 ·rename_i el hk
  split at h
  ·obtain⟨os,e,h1,h2,h3,h4,h5⟩:=h
   simp only at h1 h2
   split at h2
   ·rename_i ys hy
    cases h2
    rw[lG h1] at hy
    (try simp only[hk,hy])
    refine⟨h3,fun l hl hn=>⟨fun x=>x=l∨U x,fun x hx=>hx.elim (fun e=>.inr (by rw[e,aD];simp)) .inl,h5 _ _ _ ⟨l,hn l (by rw[aD];simp) hl,rfl,rfl,?_⟩⟩⟩
    rw[eH ⟨rfl,rfl⟩]
   ·cases h2
  ·obtain⟨os,e,h1,h2,h3,h4,h5⟩:=h
   simp only at h1 h2
   split at h2
   ·rename_i ys hy
    cases h2
    rw[lG h1] at hy
    (try simp only[hk,hy])
    refine⟨h3,fun l hl hn=>⟨fun x=>x=l∨U x,fun x hx=>hx.elim (fun e=>.inr (by rw[e,aD];simp)) .inl,h5 _ _ _ ⟨l,hn l (by rw[aD];simp) hl,rfl,rfl,?_⟩⟩⟩
    rw[eH ⟨rfl,rfl⟩]
   ·cases h2
  ·obtain⟨os,e,h1,h2,h3,h4,h5⟩:=h
   simp only at h1 h2
   split at h2
   ·rename_i tt e' xs os'
    simp only[List.map_cons,List.cons.injEq] at h1
    split at h2
    ·rename_i ys hy
     cases h2
     rw[lG h1.2] at hy
     (try simp only[hk,hy,h1.1])
     refine⟨h3,fun l hl hn=>⟨fun x=>x=l∨U x,fun x hx=>hx.elim (fun e=>.inr (by rw[e,aD];simp)) .inl,h5 _ _ _ ⟨l,hn l (by rw[aD];simp) hl,rfl,rfl,?_⟩⟩⟩
     rw[EO]
    ·cases h2
   ·cases h2
  ·obtain⟨os,e,h1,h2,_⟩:=h
   simp[cH] at h2
 ·obtain⟨os,e,h1,h2,_⟩:=h
  simp[cH] at h2
theorem gD{k:MV→(Nat→Prop)→St→Prop}(h:gs U σ cH k):False:=by
 obtain⟨os,e,h1,h2,_⟩:=h
 simp[cH] at h2
theorem U7{D:Prop}{x:MV}{k:MV→St→Prop}(h:match fJ σ 1 x with|some ys=>(D∧ys.all isByte=true)∧k (.str (bytesOf ys)) σ|none=>False) :
  gs U σ (lZ x,fun os=>match fJ (HO os) 1 x with
  | some ys=>some ⟨D∧ys.all isByte=true,none,none,none,fun _ u=>u=.str (bytesOf ys)⟩
  | none=>none) fun v _ σ'=>k v σ':=by
 split at h
 ·rename_i ys hy
  obtain⟨os,hos⟩:=R5 hy
  have hsrc:=lG (e:=1) hos
  rw[hy] at hsrc
  refine⟨os,⟨D∧ys.all isByte=true,none,none,none,fun _ u=>u=.str (bytesOf ys)⟩,hos,by simp only[hsrc],h.1,fun _=>⟨_,rfl⟩,fun u U' σ' ho=>?_⟩
  obtain⟨rfl,-,rfl⟩:=ho
  rw[eH ⟨rfl,rfl⟩];exact h.2
 ·exact h.elim
theorem VF{D:Prop}{x:MV}{k:MV→(Nat→Prop)→St→Prop}(h:gs U σ (lZ x,fun os=>match fJ (HO os) 1 x with
  | some ys=>some ⟨D∧ys.all isByte=true,none,none,none,fun _ u=>u=.str (bytesOf ys)⟩
  | none=>none) k):match fJ σ 1 x with|some ys=>(D∧ys.all isByte=true)∧l8 U σ k (.str (bytesOf ys)) σ|none=>False:=by
 obtain⟨os,e,h1,h2,h3,h4,h5⟩:=h
 simp only at h1 h2
 split at h2
 ·rename_i ys hy
  cases h2
  rw[lG h1] at hy
  (try simp only[hy])
  refine⟨h3,fun _=>⟨U,fun _ h=>.inl h,h5 _ _ _ ⟨rfl,rfl,?_⟩⟩⟩
  rw[eH ⟨rfl,rfl⟩]
 ·cases h2
theorem II{s d:TypeId}{x:MV}{k:MV→St→Prop}(hd:Dom U σ)(h:jA P s d x σ k):gs U σ (iZ P s d x) fun v _ σ'=>k v σ':=by
 unfold jA at h
 unfold iZ
 cases hs:(td P s).k<;>cases hk:(td P d).k<;>simp only[hs,hk] at h ⊢<;>first
  | exact oB h
  | (cases x<;>first|exact oB h|exact lP hd h|exact h.elim|exact U7 h)
theorem Iu{s d:TypeId}{x:MV}{k:MV→(Nat→Prop)→St→Prop}(h:gs U σ (iZ P s d x) k):jA P s d x σ (l8 U σ k):=by
 unfold iZ at h
 unfold jA
 have hp:∀{pv:PV},gs U σ (eW pv) k→mpure σ (l8 U σ k) pv:=fun h=>Am (oO h) fun v σ' hh _=>hh
 cases hs:(td P s).k<;>cases hk:(td P d).k<;>simp only[hs,hk] at h ⊢<;>first
  | exact hp h
  | (cases x<;>first|exact hp h|exact nB h|exact(gD h).elim|exact VF h)
theorem Fh{g:FuncId}{ms:List MV}{k:MV→St→Prop}{rd:List Nat}{q:MV→Prop}{os:List aW}(h1:C g ms=some ⟨rd,q,none⟩)(h2:rd.map σ=os.map some)(h3:aA P g ms (St.ofList rd os) (fun v σ'=>q v∧σ'=St.ofList rd os))(h4:∃v,q v)(h5:∀v,q v→k v σ):gs U σ (iM P C g ms) fun v _ σ'=>k v σ':=by
 unfold iM
 rw[h1]
 refine⟨os,⟨aA P g ms (St.ofList rd os) (fun v σ'=>q v∧σ'=St.ofList rd os),none,none,none,fun _ u=>q u⟩,h2,rfl,h3,fun _=>h4,fun u U' σ' ho=>?_⟩
 obtain⟨hq,-,rfl⟩:=ho
 rw[eH ⟨rfl,rfl⟩]
 exact h5 u hq
theorem yQ{g:FuncId}{ms:List MV}{k:MV→St→Prop}(hd:Dom U σ)(h:pU P C g ms σ k):gs U σ (iM P C.pl g ms) fun v _ σ'=>k v σ':=by
 rcases h with⟨rd,q,os,h1,h2,h3,h4,h5⟩|⟨rd,q,o,u,h1,h2,h3⟩
 ·exact Fh (by unfold cC.pl;rw[h1];rfl) h2 h3 h4 h5
 ·have hC:C.pl g ms=some ⟨[],q,some ([o],u)⟩:=by unfold cC.pl;rw[h1];rfl
  unfold iM
  rw[hC]
  exact lP hd ⟨h2,h3⟩
theorem Py{g:FuncId}{ms:List MV}{k:MV→St→Prop}(hd:Dom U σ)(h:mW P C g ms σ k):gs U σ (iM P C g ms) fun v _ σ'=>k v σ':=by
 rcases h with⟨rd,q,os,h1,h2,h3,h4,h5⟩|⟨q,o,u,h1,h2,h3⟩|⟨l,rd,q,ts,os,u,h1,h2,h3,h4⟩
 ·exact Fh h1 h2 h3 h4 h5
 ·unfold iM
  rw[h1]
  exact lP hd ⟨h2,h3⟩
 ·unfold iM
  rw[h1]
  refine⟨os,⟨aA P g ms (St.ofList (l::rd) os) (fun v σ'=>v=u l∧σ'=(St.ofList (l::rd) ts).over (St.ofList (l::rd) os)),none,some (St.ofList (l::rd) ts),none,fun _ w=>w=u l⟩,h2,rfl,h3,fun _=>⟨_,rfl⟩,fun v U' σ' ho=>?_⟩
  obtain⟨hv,-,rfl⟩:=ho
  rw[zD,hv]
  exact h4
theorem SK{g:FuncId}{ms:List MV}{k:MV→(Nat→Prop)→St→Prop}(h:gs U σ (iM P C g ms) k):aA P g ms σ (l8 U σ k):=by
 unfold iM at h
 split at h
 ·rename_i rd q hC
  obtain⟨os,e,h1,h2,h3,h4,h5⟩:=h
  simp only[Option.some.injEq] at h2
  subst h2
  simp only at h1 h3
  have hle:=vY rd os h1
  refine(h3.frame hle).mono ?_
  rintro v σ1 ⟨σ',⟨hq,rfl⟩,rfl,-⟩
  rw[sQ hle]
  refine fun _=>⟨U,fun _ h=>.inl h,h5 _ _ _ ⟨hq,rfl,?_⟩⟩
  rw[eH ⟨rfl,rfl⟩]
 ·rename_i rd q ts u hC
  unfold S7 at h
  split at h
  ·rename_i o
   obtain⟨h1,h2⟩:=nB h
   refine(h1.frame (St.none_le σ)).mono ?_
   rintro v σ1 ⟨σ',⟨l,rfl,rfl⟩,rfl,hf⟩
   rw[lV,bE,dC]
   refine h2 l ?_
   rcases hf l o (aD _ _ _) with h|⟨o',h⟩
   ·exact h
   ·simp[St.none] at h
  ·exact(gD h).elim
 ·rename_i l rd q ts u hC
  obtain⟨os,e,h1,h2,h3,h4,h5⟩:=h
  simp only[Option.some.injEq] at h2
  subst h2
  have hle:=vY (l::rd) os h1
  refine(aA.frame h3 hle).mono ?_
  rintro v σ1 ⟨σ',⟨hv,rfl⟩,rfl,-⟩
  have e:((St.ofList (l::rd) ts).over (St.ofList (l::rd) os)).over (σ.minus (St.ofList (l::rd) os))=(St.ofList (l::rd) ts).over σ:=by
   funext j
   (try simp only[St.over,St.minus])
   cases St.ofList (l::rd) ts j with
   | some o=>rfl
   | none =>
    cases ht:St.ofList (l::rd) os j with
    | none=>rfl
    | some o1=>simp only[hle j o1 ht]
  rw[e]
  exact fun _=>⟨U,fun _ h=>.inl h,h5 _ _ _ ⟨hv,rfl,zD.symm⟩⟩
 ·exact(gD h).elim
theorem U6{MC:FuncId→List MV→St→(MV→St→Prop)→Prop}(hMC:∀g ms k,MC g ms σ k→gs U σ (iM P C g ms) fun v _ σ'=>k v σ'){op:Op}{k:MV→St→Prop}(hd:Dom U σ)(h:Bt P MC f σ k op):gs U σ (gop P C f op) fun v _ σ'=>k v σ':=by
 cases op
 case alloc t=>exact lP hd h
 case box t x=>exact lP hd h
 case load t x=>exact Ta h
 case store t x y=>exact Pz h
 case lookup t m x ok=>exact ME h
 case mapUpdate t m x y=>exact MF h
 case convert s d x=>exact II hd h
 case buildSlice t n p =>
  have h:eL P f t n p σ k:=h
  (try simp only[gop])
  unfold eL at h
  unfold eJ
  split at h
  ·rename_i el hk;(try simp only[hk]);exact lP hd h
  ·exact h.elim
 case makeSlice t x y =>
  have h:jN P t (aH f x) (aH f y) σ k:=h
  (try simp only[gop])
  unfold jN at h
  unfold gG
  split at h
  ·rename_i el n c hk hx hy;(try simp only[hk,hx,hy]);exact lP hd h
  ·exact h.elim
 case defer c=>exact h.elim
 case call c =>
  obtain⟨callee,args,ts⟩:=c
  cases callee with
  | value x =>
   simp only[Bt] at h
   (try simp only[gop])
   split at h
   ·rename_i g ms ns hx;first|(simp only[hx];exact hMC _ _ _ h)|exact hMC _ _ _ h
   ·exact h.elim
  | invoke r m=>exact h.elim
  | builtin b =>
   by_cases hb:b=.append
   ·subst hb
    have h:gI P f .append args.toList ts.toList σ k:=h
    (try simp only[gop])
    simp only[gI] at h
    split at h
    ·rename_i s x t xt ha ht;(try simp only[ha,ht]);exact MD hd h
    ·exact h.elim
   ·have h:gI P f b args.toList ts.toList σ k:=h
    have e1:gop P C f (.call ⟨.builtin b,args,ts⟩)=if ts.toList.length=args.toList.length then eW (eM P b ts.toList.toArray (args.toList.map (aH f))) else cH:=by
     cases b<;>first|rfl|exact absurd rfl hb
    have e2:gI P f b args.toList ts.toList σ k=(ts.toList.length=args.toList.length∧mpure σ k (eM P b ts.toList.toArray (args.toList.map (aH f)))):=by
     cases b<;>first|rfl|exact absurd rfl hb
    rw[e2] at h
    rw[e1,if_pos h.1]
    exact oB h.2
 all_goals exact oB h
theorem UB{op:Op}{k:MV→(Nat→Prop)→St→Prop}(h:gs U σ (gop P C f op) k):mop P f σ (l8 U σ k) op:=by
 have hp:∀{pv:PV},gs U σ (eW pv) k→mpure σ (l8 U σ k) pv:=fun h=>Am (oO h) fun v σ' hh _=>hh
 cases op
 case alloc t=>exact nB h
 case box t x=>exact nB h
 case load t x=>exact Tm h
 case store t x y=>exact R6 h
 case lookup t m x ok=>exact MX h
 case mapUpdate t m x y=>exact MZ h
 case convert s d x=>exact Iu h
 case buildSlice t n p =>
  simp only[gop] at h
  show eL P f t n p σ _
  unfold eL
  unfold eJ at h
  split at h
  ·rename_i el hk;(try simp only[hk]);exact nB h
  ·exact(gD h).elim
 case makeSlice t x y =>
  simp only[gop] at h
  show jN P t (aH f x) (aH f y) σ _
  unfold jN
  unfold gG at h
  split at h
  ·rename_i el n c hk hx hy;(try simp only[hk,hx,hy]);exact nB h
  ·exact(gD h).elim
 case defer c=>exact(gD h).elim
 case call c =>
  obtain⟨callee,args,ts⟩:=c
  cases callee with
  | value x =>
   simp only[gop] at h
   show Lh P f ⟨.value x,args,ts⟩ σ _
   (try simp only[Lh])
   split at h
   ·rename_i g ms ns hx;(try simp only[hx]);exact SK h
   ·exact(gD h).elim
  | invoke r m=>exact(gD h).elim
  | builtin b =>
   show gI P f b args.toList ts.toList σ _
   by_cases hb:b=.append
   ·subst hb
    simp only[gop] at h
    (try simp only[gI])
    split at h
    ·rename_i s x t xt ha ht;(try simp only[ha,ht]);exact LZ h
    ·exact(gD h).elim
   ·have e1:gop P C f (.call ⟨.builtin b,args,ts⟩)=if ts.toList.length=args.toList.length then eW (eM P b ts.toList.toArray (args.toList.map (aH f))) else cH:=by
     cases b<;>first|rfl|exact absurd rfl hb
    have e2:gI P f b args.toList ts.toList σ (l8 U σ k)=(ts.toList.length=args.toList.length∧mpure σ (l8 U σ k) (eM P b ts.toList.toArray (args.toList.map (aH f)))):=by
     cases b<;>first|rfl|exact absurd rfl hb
    rw[e1] at h
    rw[e2]
    split at h
    ·rename_i hl;exact⟨hl,hp h⟩
    ·exact(gD h).elim
 all_goals exact hp h
end
end

section
section
variable {P:Program} {C:cC} {ops:Array Oper}
def FEq(f f':FR):Prop:=f.n=f'.n∧f.d=f'.d∧∀t,f.get t=f'.get t
theorem FEq.refl(f:FR):FEq f f:=⟨rfl,rfl,fun _=>rfl⟩
theorem FEq.symm{f f':FR}(h:FEq f f'):FEq f' f:=⟨h.1.symm,h.2.1.symm,fun t=>(h.2.2 t).symm⟩
theorem FEq.trans{f f' f'':FR}(h:FEq f f')(k:FEq f' f''):FEq f f'':=⟨h.1.trans k.1,h.2.1.trans k.2.1,fun t=>(h.2.2 t).trans (k.2.2 t)⟩
theorem oA(f:FR)(dst:Option Tmp)(v:MV)(t:Nat):(bM f dst v).get t=if dst=some t∧t<f.n then v else f.get t:=by
 cases dst with
 | none=>simp[bM]
 | some d =>
  (try simp only[bM])
  split
  ·rename_i hd
   (try simp only[FR.get,cT])
   by_cases ht:t=d
   ·subst ht;simp[hd]
   ·rw[if_neg ht,if_neg (by simp;intro e;exact absurd e.symm ht)]
  ·rename_i hd
   rw[if_neg]
   rintro⟨e,h⟩
   cases e
   exact hd h
theorem Lv(f:FR)(dst:Option Tmp)(v:MV):(bM f dst v).n=f.n:=by
 unfold bM
 split<;>(try split)<;>rfl
theorem FEq.put{f f':FR}(h:FEq f f')(dst:Option Tmp)(v:MV):FEq (bM f dst v) (bM f' dst v) :=
 ⟨by rw[Lv,Lv];exact h.1,by rw[eE,eE];exact h.2.1,fun t=>by rw[oA,oA,h.1,h.2.2 t]⟩
theorem FEq.comm(f:FR){x y:Option Tmp}(v u:MV)(h:∀d,x=some d→y≠some d):FEq (bM (bM f x v) y u) (bM (bM f y u) x v) :=
 ⟨by simp only[Lv],by simp only[eE],fun t=>by
  (try simp only[oA,Lv])
  by_cases hx:x=some t
  ·have:=h t hx
   simp[hx,this]
  ·simp[hx]⟩
theorem FEq.aH{f f':FR}(h:FEq f f'):aH f=aH f':=by
 funext x
 cases x with
 | tmp t=>exact h.2.2 t
 | _=>rfl
theorem QJ{f:FR}{dst:Option Tmp}{v:MV}{x:Operand}(h:∀d,dst=some d→x≠.tmp d):aH (bM f dst v) x=aH f x:=by
 cases x with
 | tmp t =>
  show(bM f dst v).get t=f.get t
  rw[oA,if_neg]
  rintro⟨e,_⟩
  exact h t e rfl
 | _=>rfl
theorem yE{f f':FR}{place:Nat→Option (Nat × TypeId)}:∀(parts:List (Nat × Operand)) (cs:List MV),(∀p,p∈parts→aH f p.2=aH f' p.2)→eY P f place parts cs=eY P f' place parts cs:=by
 intro parts
 induction parts with
 | nil=>intro cs _;rfl
 | cons p r ih =>
  intro cs h
  obtain⟨i,x⟩:=p
  (try simp only[eY])
  have hx:aH f x=aH f' x:=h (i,x) (by simp)
  rw[hx]
  cases place i with
  | none=>rfl
  | some q=>simp only[];rw[ih _ (fun p hp=>h p (by simp[hp]))]
theorem Dw{f f':FR}{t:TypeId}{parts:Array (Nat × Operand)}(h:∀p,p∈parts.toList→aH f p.2=aH f' p.2):pT P f t parts=pT P f' t parts:=by
 unfold pT
 cases (td P t).k<;>simp only[]<;>rw[yE _ _ h]
theorem sM{f f':FR}{xs:List Operand}(h:∀x,x∈xs→aH f x=aH f' x):xs.map (aH f)=xs.map (aH f'):=List.map_congr_left h
theorem Ci{f f':FR}{op:Op}(h:∀x,x∈op.operands→aH f x=aH f' x):gop P C f op=gop P C f' op:=by
 cases op<;>simp only[Op.operands] at h
 case buildSlice t n ps =>
  (try simp only[gop,eJ])
  have hp:∀p,p∈ps.toList→aH f p.2=aH f' p.2:=fun p hp=>h p.2 (by simpa using⟨p.1,by simpa using hp⟩)
  have e1:(ps.toList.all fun p=>(aH f p.2).cells.all MV.aL&&(aH f p.2).cells.length==0)=(ps.toList.all fun p=>(aH f' p.2).cells.all MV.aL&&(aH f' p.2).cells.length==0):=by
   rw[Bool.eq_iff_iff];(try simp only[List.all_eq_true])
   exact⟨fun q x hx=>by rw[←hp x hx];exact q x hx,fun q x hx=>by rw[hp x hx];exact q x hx⟩
  have e2:∀z,(ps.toList.all fun p=>(aH f p.2).cells.all MV.aL&&(aH f p.2).cells.length==z)=(ps.toList.all fun p=>(aH f' p.2).cells.all MV.aL&&(aH f' p.2).cells.length==z):=fun z=>by
   rw[Bool.eq_iff_iff];(try simp only[List.all_eq_true])
   exact⟨fun q x hx=>by rw[←hp x hx];exact q x hx,fun q x hx=>by rw[hp x hx];exact q x hx⟩
  have e3:(ps.toList.map fun p=>(aH f p.2).cells)=(ps.toList.map fun p=>(aH f' p.2).cells):=List.map_congr_left fun p hq=>by rw[hp p hq]
  (try simp only[e2,e3])
 case build t ps =>
  (try simp only[gop,qop])
  rw[Dw fun p hp=>h p.2 (by simpa using⟨p.1,by simpa using hp⟩)]
 case makeFunc fn first captured =>
  (try simp only[gop,qop])
  rw[sM (xs:=first.toList) fun x hx=>h x (by simp at hx ⊢;exact .inl hx),sM (xs:=captured.toList) fun x hx=>h x (by simp at hx ⊢;exact .inr hx)]
 case indexAddr t x i =>
  have h1:=h x (by simp)
  have h2:=h i (by simp)
  (try simp only[gop])
  cases x<;>simp only[qop]<;>simp[h1,h2]
 case slice t x lo hi mx =>
  (try simp only[gop,qop])
  rw[h x (by simp)]
  cases lo<;>cases hi<;>cases mx<;>simp_all
 case call c =>
  obtain⟨callee,args,ts⟩:=c
  have ha:args.toList.map (aH f)=args.toList.map (aH f'):=sM fun x hx=>h x (by simp[Call.operands];exact .inr (by simpa using hx))
  cases callee with
  | value x=>simp only[gop];rw[h x (by simp[Call.operands]),ha]
  | invoke r m=>rfl
  | builtin b =>
   by_cases hb:b=.append
   ·subst hb
    (try simp only[gop])
    have hm:∀y,y∈args.toList→aH f y=aH f' y:=fun y hy=>h y (by simp[Call.operands];simpa using hy)
    split
    ·rename_i s x t xt hl _
     rw[hm s (by simp[hl]),hm x (by simp[hl])]
    ·rfl
   ·have e1:∀f,gop P C f (.call ⟨.builtin b,args,ts⟩)=if ts.toList.length=args.toList.length then eW (eM P b ts.toList.toArray (args.toList.map (aH f))) else cH:=fun f=>by
     cases b<;>first|rfl|exact absurd rfl hb
    rw[e1,e1,ha]
 all_goals first
  | rfl
  | (simp_all [gop,qop];done)
def gfo(P:Program)(C:cC)(ops:Array Oper)(f:FR)(o:Oper):GF :=
 match o.guard with
 | none=>gop P C f o.op
 | some (j,want)=>match (ops[j]?).bind (·.dst) with
  | some t=>match f.get t with
   | .bool b=>if b=want then gop P C f o.op else eW (some (True,.tup []))
   | .tup []=>eW (some (True,.tup []))
   | _=>cH
  | none=>cH
theorem Sz{u:iV}(hu:PlU u C)(f:FR)(o:Oper):Wf (gfo P C ops f o)∧(As u o.op=true→lK (gfo P C ops f o))∧(noW u o.op=true→NoW (gfo P C ops f o))∧(rd0 o.op=true→(gfo P C ops f o).1=[]):=by
 have hf:Wf cH∧(As u o.op=true→lK cH)∧(noW u o.op=true→NoW cH)∧(rd0 o.op=true→cH.1=[]):=⟨bK.1,fun _=>bK.2.2.1,fun _=>bK.2.1,fun _=>rfl⟩
 unfold gfo
 split
 ·exact Ky P C hu f o.op
 ·split
  ·split
   ·split
    ·exact Ky P C hu f o.op
    ·exact⟨(dM _).1,fun _=>(dM _).2.2.1,fun _=>(dM _).2.1,fun _=>rfl⟩
   ·exact⟨(dM _).1,fun _=>(dM _).2.2.1,fun _=>(dM _).2.1,fun _=>rfl⟩
   ·exact hf
  ·exact hf
theorem MB{f f':FR}(h:FEq f f')(o:Oper):gfo P C ops f o=gfo P C ops f' o:=by
 unfold gfo
 rw[Ci (f:=f) (f':=f') fun x _=>by rw[h.aH]]
 (try simp only[h.2.2])
theorem K0{f:FR}{dst:Option Tmp}{v:MV}{o:Oper}(h:∀d,dst=some d→d∉o.looksAt ops):gfo P C ops (bM f dst v) o=gfo P C ops f o:=by
 have h1:gop P C (bM f dst v) o.op=gop P C f o.op:=Ci fun x hx=>QJ fun d hd e=>h d hd (by
  subst e
  exact List.mem_append_left _ (List.mem_filterMap.2 ⟨.tmp d,by simpa using hx,rfl⟩))
 unfold gfo
 rw[h1]
 split
 ·rfl
 ·rename_i j want hg
  split
  ·rename_i t ht
   have:(bM f dst v).get t=f.get t:=by
    rw[oA,if_neg]
    rintro⟨e,-⟩
    exact h t e (by simp[Oper.looksAt,hg,ht])
   rw[this]
  ·rfl
def gl(P:Program)(C:cC)(ops:Array Oper)(K:FR→(Nat→Prop)→St→Prop):List Oper→FR→(Nat→Prop)→St→Prop
 | [],f,U,σ=>K f U σ
 | o::r,f,U,σ=>gs U σ (gfo P C ops f o) fun v U' σ'=>gl P C ops K r (bM f o.dst v) U' σ'
def KOk(K:FR→(Nat→Prop)→St→Prop):Prop:=∀f f' U U' σ,FEq f f'→(∀l,U l→U' l)→K f U σ→K f' U' σ
theorem vN{U:Nat→Prop}{σ:St}{g:GF}{k k':MV→(Nat→Prop)→St→Prop}(h:gs U σ g k)(hk:∀v U' σ',k v U' σ'→k' v U' σ'):gs U σ g k':=by
 obtain⟨os,e,h1,h2,h3,h4,h5⟩:=h
 exact⟨os,e,h1,h2,h3,h4,fun v U' σ' ho=>hk v U' σ' (h5 v U' σ' ho)⟩
theorem K3{K:FR→(Nat→Prop)→St→Prop}(hK:KOk K):∀l,KOk (gl P C ops K l)
 | []=>hK
 | o::r=>fun f f' U U' σ hf hu h=>by
  simp only[gl] at h ⊢
  rw[←MB hf]
  refine S9 (vN h fun v U' σ' hh=>K3 hK r _ (bM f' o.dst v) U' U' σ' (hf.put o.dst v) (fun _ h=>h) hh) hu fun v V V' σ hv hh=>K3 hK r _ _ V V' σ (.refl _) hv hh
def R7(u:iV)(ops:Array Oper)(x y:Oper):Bool:=x.apart ops y&&((rd0 y.op || As u x.op)&&(rd0 x.op || noW u y.op)&&(noW u x.op || noW u y.op))
structure RX where
 Ds:List Nat
 Rs:List (Nat × Nat)
 dr:Option Nat
 u:iV
def DOk(X:RX)(loc:Nat→Nat→Prop)(f:FR):Prop:=(∀t,t∈X.Ds→∃l i o,f.get t=.ptr l i o∧loc t l)∧(∀t t',t∈X.Ds→t'∈X.Ds→t≠t'→∀l,loc t l→¬loc t' l)∧∀p,p∈X.Rs→p.2∈X.Ds∧∀l i o,f.get p.1=.ptr l i o→loc p.2 l
def oX(X:RX)(loc:Nat→Nat→Prop)(C:cC):Prop:=PlU X.u C∧match X.dr with
 | none=>True
 | some d=>d∈X.Ds∧∀g ms F,C g ms=some F→∀l,l∈F.rd→loc d l
def xX(X:RX)(t:Nat):Option Nat:=if X.Ds.contains t then some t else(X.Rs.find? fun p=>p.1==t).map (·.2)
def dsr(X:RX):Op→Option Nat
 | .load _ (.tmp t)=>xX X t
 | .store _ (.tmp t) _=>xX X t
 | .call ⟨.value _,_,_⟩=>X.dr
 | _=>none
def Uv(X:RX)(x y:Op):Bool:=match dsr X x,dsr X y with
 | some a,some b=>a != b
 | _,_=>false
def Fx:Op→Option Bool
 | .load ..|.store ..=>some false
 | .lookup ..|.mapUpdate ..=>some true
 | _=>none
def Uz(x y:Op):Bool:=match Fx x,Fx y with
 | some a,some b=>a != b
 | _,_=>false
def IN:aW→Bool
 | .mp _=>true
 | _=>false
def B2(b:Bool)(g:GF):Prop:=∀os e,os.length=g.1.length→g.2 os=some e→(∀o,o∈os→IN o=b)∧e.kill=none∧e.new=none∧∀p,e.upd=some p→∀l o,p l=some o→IN o=b
theorem Db{b:Bool}(pv:PV):B2 b (eW pv):=fun os e hl he=>by
 obtain rfl:os=[]:=List.eq_nil_of_length_eq_zero hl
 simp only[eW,Option.map_eq_some_iff] at he
 obtain⟨x,-,rfl⟩:=he
 exact⟨fun o ho=>(by cases ho),rfl,rfl,fun p hp=>by cases hp⟩
theorem qR{b:Bool}:B2 b cH:=fun os e hl he=>by cases he
theorem KJ{b:Bool}{os:List aW}{e:Eff}{q:aW}(h1:os=[q])(hq:IN q=b)(h2:e.kill=none)(h3:e.new=none)(h4:e.upd=none∨∃l q',e.upd=some (St.none.set l q')∧IN q'=b) :
  (∀o,o∈os→IN o=b)∧e.kill=none∧e.new=none∧∀p,e.upd=some p→∀l o,p l=some o→IN o=b:=by
 refine⟨fun o ho=>?_,h2,h3,fun p hp l o hl=>?_⟩
 ·rw[h1,List.mem_singleton] at ho;rw[ho];exact hq
 ·rcases h4 with h4|⟨l',q',h4,hq'⟩
  ·rw[h4] at hp;cases hp
  ·rw[h4] at hp
   cases hp
   unfold St.set at hl
   split at hl
   ·cases hl;exact hq'
   ·cases hl
theorem Pk{op:Op}{b:Bool}(h:Fx op=some b)(f:FR):B2 b (gop P C f op):=by
 unfold Fx at h
 split at h
 ·cases h
  (try simp only[gop])
  unfold oY
  split
  ·intro os e hl he
   simp only at he
   split at he
   ·cases he;exact KJ rfl rfl rfl rfl (.inl rfl)
   ·cases he
  ·exact Db _
  ·exact qR
 ·cases h
  (try simp only[gop])
  unfold mV
  split
  ·intro os e hl he
   simp only at he
   split at he
   ·cases he;exact KJ rfl rfl rfl rfl (.inr ⟨_,_,rfl,rfl⟩)
   ·cases he
  ·exact qR
 ·cases h
  (try simp only[gop])
  unfold jX
  split
  ·intro os e hl he
   simp only at he
   split at he
   ·cases he;exact KJ rfl rfl rfl rfl (.inl rfl)
   ·cases he
  ·exact qR
 ·cases h
  (try simp only[gop])
  unfold mF
  split
  ·intro os e hl he
   simp only at he
   split at he
   ·cases he;exact KJ rfl rfl rfl rfl (.inr ⟨_,_,rfl,rfl⟩)
   ·cases he
  ·exact qR
 ·cases h
theorem Pj{o:Oper}{b:Bool}(h:Fx o.op=some b)(f:FR):B2 b (gfo P C ops f o):=by
 unfold gfo
 split
 ·exact Pk h f
 ·split
  ·split
   ·split
    ·exact Pk h f
    ·exact Db _
   ·exact Db _
   ·exact qR
  ·exact qR
theorem UR{b b':Bool}(hb:b≠b'){g g':GF}(hg:B2 b g)(hg':B2 b' g'){U:Nat→Prop}{σ:St}{K:MV→MV→(Nat→Prop)→St→Prop}(h:gs U σ g fun v U1 σ1=>gs U1 σ1 g' (K v)):∀l,l∈g.1→l∉g'.1:=by
 intro l hl hl'
 obtain⟨os,e,h1,h2,-,h4,h5⟩:=h
 obtain⟨k1,k2,k3,k4⟩:=hg os e (i7 h1) h2
 obtain⟨v,hv⟩:=h4 0
 obtain⟨os',e',q1,q2,-,-,-⟩:=h5 v U (e.app σ) (by unfold Eff.out;rw[k3];exact⟨hv,rfl,rfl⟩)
 obtain⟨w1,-⟩:=hg' os' e' (i7 q1) q2
 have at_:∀{os:List aW} {rd:List Nat} {τ:St},rd.map τ=os.map some→l∈rd→∃o,o∈os∧τ l=some o:=fun {os rd τ} hm hin=>by
  have:τ l∈os.map some:=by rw[←hm];exact List.mem_map.2 ⟨l,hin,rfl⟩
  obtain⟨o,ho,e⟩:=List.mem_map.1 this
  exact⟨o,ho,e.symm⟩
 obtain⟨o1,m1,e1⟩:=at_ h1 hl
 obtain⟨o2,m2,e2⟩:=at_ q1 hl'
 have r2:=w1 o2 m2
 have:IN o2=b:=by
  unfold Eff.app at e2
  split at e2
  ·unfold Eff.upl at e2
   split at e2
   ·rename_i u hu
    exact k4 u hu l o2 e2
   ·cases e2
  ·rw[if_neg (by rw[k2];simp),e1] at e2
   cases e2
   exact k1 o1 m1
 exact hb (this.symm.trans r2)
def yA(X:RX)(ops:Array Oper)(x y:Oper):Bool:=R7 X.u ops x y || (x.apart ops y&&(Uv X x.op y.op || Uz x.op y.op))
def Da(X:RX)(r:Nat):Op→Bool
 | .fieldAddr _ (.tmp s) _|.move (.tmp s)=>xX X s==some r
 | _=>false
def sJ(X:RX)(o:Oper):Bool:=match o.dst with
 | some d=>!X.Ds.contains d&&X.Rs.all fun p=>p.1 != d || Da X p.2 o.op
 | none=>true
def GV(g:GF)(v:MV):Prop:=∃os e l,g.2 os=some e∧e.v l v
theorem IJ{U:Nat→Prop}{σ:St}{g:GF}{k:MV→(Nat→Prop)→St→Prop}(h:gs U σ g k):gs U σ g fun v U' σ'=>GV g v∧k v U' σ':=by
 obtain⟨os,e,h1,h2,h3,h4,h5⟩:=h
 refine⟨os,e,h1,h2,h3,h4,fun v U' σ' ho=>⟨?_,h5 v U' σ' ho⟩⟩
 unfold Eff.out at ho
 split at ho
 ·exact⟨os,e,0,h2,ho.1⟩
 ·obtain⟨l,-,hv,-⟩:=ho
  exact⟨os,e,l,h2,hv⟩
theorem AN{X:RX}{loc:Nat→Nat→Prop}{f:FR}(h:DOk X loc f){t r:Nat}(hr:xX X t=some r):r∈X.Ds∧∀l i o,f.get t=.ptr l i o→loc r l:=by
 unfold xX at hr
 split at hr
 ·rename_i hm
  cases hr
  have hm:t∈X.Ds:=by simpa using hm
  refine⟨hm,fun l i o e=>?_⟩
  obtain⟨l',i',o',e',hl⟩:=h.1 t hm
  rw[e] at e'
  cases e'
  exact hl
 ·obtain⟨p,hp,rfl⟩:=Option.map_eq_some_iff.1 hr
  have h1:=List.find?_some hp
  have h2:=List.mem_of_find?_eq_some hp
  obtain⟨h3,h4⟩:=h.2.2 p h2
  refine⟨h3,fun l i o e=>h4 l i o ?_⟩
  have:p.1=t:=by simpa using h1
  rw[this];exact e
theorem yS{pv:PV}{v:MV}(h:GV (eW pv) v):∃c,pv=some (c,v):=by
 obtain⟨os,e,l,h1,h2⟩:=h
 simp only[eW,Option.map_eq_some_iff] at h1
 obtain⟨x,hx,rfl⟩:=h1
 exact⟨x.1,by rw[hx];congr 1;exact Prod.ext rfl h2.symm⟩
theorem Iy{X:RX}{loc:Nat→Nat→Prop}{f:FR}(h:DOk X loc f){r:Nat}{o:Oper}(hd:Da X r o.op=true){v:MV}(hv:GV (gfo P C ops f o) v){l i j:Nat}(e:v=.ptr l i j):loc r l:=by
 subst e
 have key:GV (gop P C f o.op) (.ptr l i j)→loc r l:=by
  intro hv
  unfold Da at hd
  split at hd
  ·rename_i ty s k hop
   rw[hop] at hv
   obtain⟨c,hc⟩:=yS hv
   have hr:xX X s=some r:=by simpa using hd
   simp only[qop,jM,aH] at hc
   split at hc
   ·split at hc
    ·rename_i l' i' o' hs
     simp only[Option.some.injEq,Prod.mk.injEq,MV.ptr.injEq] at hc
     rw[←hc.2.1]
     exact(AN h hr).2 _ _ _ (by assumption)
    ·simp at hc
    ·cases hc
   ·cases hc
  ·rename_i s hop
   rw[hop] at hv
   obtain⟨c,hc⟩:=yS hv
   have hr:xX X s=some r:=by simpa using hd
   simp only[qop,aH,Option.some.injEq,Prod.mk.injEq] at hc
   exact(AN h hr).2 _ _ _ hc.2
  ·cases hd
 unfold gfo at hv
 split at hv
 ·exact key hv
 ·split at hv
  ·split at hv
   ·split at hv
    ·exact key hv
    ·obtain⟨c,hc⟩:=yS hv;simp at hc
   ·obtain⟨c,hc⟩:=yS hv;simp at hc
   ·obtain⟨os,e,l,h1,h2⟩:=hv;simp[cH] at h1
  ·obtain⟨os,e,l,h1,h2⟩:=hv;simp[cH] at h1
theorem DOk.put{X:RX}{loc:Nat→Nat→Prop}{f:FR}(h:DOk X loc f){o:Oper}(hk:sJ X o=true){v:MV}(hv:GV (gfo P C ops f o) v):DOk X loc (bM f o.dst v):=by
 refine⟨fun t ht=>?_,h.2.1,fun p hp=>⟨(h.2.2 p hp).1,fun l i j e=>?_⟩⟩
 ·rw[oA,if_neg]
  ·exact h.1 t ht
  ·rintro⟨e,-⟩
   simp only[sJ,e,Bool.and_eq_true,Bool.not_eq_true',List.contains_iff_mem] at hk
   simp[ht] at hk
 ·rw[oA] at e
  split at e
  ·rename_i hd
   simp only[sJ,hd.1,Bool.and_eq_true,List.all_eq_true,Bool.or_eq_true,bne_iff_ne,ne_eq] at hk
   rcases hk.2 p hp with hn|hn
   ·exact absurd rfl hn
   ·exact Iy h hn hv e
  ·exact(h.2.2 p hp).2 l i j e
theorem B8{X:RX}{loc:Nat→Nat→Prop}{f:FR}(h:DOk X loc f)(hC:oX X loc C){o:Oper}{r:Nat}(ho:dsr X o.op=some r):r∈X.Ds∧∀l,l∈(gfo P C ops f o).1→loc r l:=by
 have ld:∀{t:Nat},xX X t=some r→r∈X.Ds∧∀g:MV→GF,(∀v,(∀l i j,v≠.ptr l i j)→(g v).1=[])→(∀l i j,(g (.ptr l i j)).1=[l])→∀l,l∈(g (f.get t)).1→loc r l:=by
  intro t ht
  obtain⟨h1,h2⟩:=AN h ht
  refine⟨h1,fun g hg1 hg2 l hl=>?_⟩
  by_cases hp:∃l' i j,f.get t=.ptr l' i j
  ·obtain⟨l',i,j,e⟩:=hp
   rw[e,hg2] at hl
   rw[List.mem_singleton.1 hl]
   exact h2 _ _ _ e
  ·rw[hg1 _ (fun l i j e=>hp ⟨l,i,j,e⟩)] at hl
   cases hl
 have key:r∈X.Ds∧∀l,l∈(gop P C f o.op).1→loc r l:=by
  unfold dsr at ho
  split at ho
  ·rename_i ty u hop
   obtain⟨h1,h2⟩:=ld ho
   refine⟨h1,fun l hl=>?_⟩
   rw[hop] at hl
   exact h2 (oY P ty) (fun v hv=>by unfold oY;split<;>first|rfl|exact absurd rfl (hv _ _ _)) (fun l i j=>rfl) l hl
  ·rename_i ty u y hop
   obtain⟨h1,h2⟩:=ld ho
   refine⟨h1,fun l hl=>?_⟩
   rw[hop] at hl
   exact h2 (fun v=>mV P ty v (aH f y)) (fun v hv=>by unfold mV;split<;>first|rfl|exact absurd rfl (hv _ _ _)) (fun l i j=>rfl) l hl
  ·rename_i x args ts hop
   unfold oX at hC
   replace hC:=hC.2
   rw[ho] at hC
   simp only at hC
   refine⟨hC.1,fun l hl=>?_⟩
   rw[hop] at hl
   simp only[gop] at hl
   split at hl
   ·unfold iM at hl
    split at hl
    ·rename_i hc;exact hC.2 _ _ _ hc l hl
    ·unfold S7 at hl;split at hl<;>cases hl
    ·rename_i hc;exact hC.2 _ _ _ hc l hl
    ·cases hl
   ·cases hl
  ·cases ho
 refine⟨key.1,fun l hl=>?_⟩
 unfold gfo at hl
 split at hl
 ·exact key.2 l hl
 ·split at hl
  ·split at hl
   ·split at hl
    ·exact key.2 l hl
    ·simp[eW] at hl
   ·simp[eW] at hl
   ·simp[cH] at hl
  ·simp[cH] at hl
theorem oX.u{X:RX}{loc:Nat→Nat→Prop}(h:oX X loc C):PlU X.u C:=h.1
theorem pull{K:FR→(Nat→Prop)→St→Prop}(hK:KOk K){X:RX}{loc:Nat→Nat→Prop}(hC:oX X loc C)(l2:List Oper)(o:Oper):∀(l1:List Oper) (f:FR) (U:Nat→Prop) (σ:St),Dom U σ→Fin U→DOk X loc f→(∀x,x∈l1→yA X ops x o=true)→(∀x,x∈l1→sJ X x=true) →
  gl P C ops K (l1++o::l2) f U σ→gs U σ (gfo P C ops f o) fun v U1 σ1=>∀U1',(∀l,U1 l→U1' l)→gl P C ops K (l1++l2) (bM f o.dst v) U1' σ1:=by
 intro l1
 induction l1 with
 | nil =>
  intro f U σ hd hf _ _ _ h
  exact vN h fun v U' σ' hh U1' hu=>K3 hK _ _ _ U' U1' σ' (.refl _) hu hh
 | cons x l1 ih =>
  intro f U σ hd hf hD hsw hkp h
  have hx:=hsw x (by simp)
  have wx:=Sz (P:=P) (C:=C) (ops:=ops) hC.u f x
  have wo:=Sz (P:=P) (C:=C) (ops:=ops) hC.u f o
  have hap:x.apart ops o=true:=by
   simp only[yA,R7,Bool.or_eq_true,Bool.and_eq_true] at hx
   rcases hx with⟨hap,-⟩|⟨hap,-⟩<;>exact hap
  obtain⟨a1,a2,a3⟩:=Oper.apart_spec hap
  simp only[List.cons_append,gl] at h
  have h':=yR (IJ h) hd hf (k':=fun v U1 σ1=>gs U1 σ1 (gfo P C ops f o) fun u U2 σ2=>∀U2',(∀l,U2 l→U2' l)→gl P C ops K (l1++l2) (bM (bM f x.dst v) o.dst u) U2' σ2) (fun v U1 σ1 hd1 hf1 _ ⟨hgv,hh⟩=>by
   have:=ih (bM f x.dst v) U1 σ1 hd1 hf1 (hD.put (hkp x (by simp)) hgv) (fun y hy=>hsw y (by simp[hy])) (fun y hy=>hkp y (by simp[hy])) hh
   rwa [K0 a1] at this) wx.1
  have hc:(((gfo P C ops f o).1=[]∨lK (gfo P C ops f x))∧((gfo P C ops f x).1=[]∨NoW (gfo P C ops f o))∧(NoW (gfo P C ops f x)∨NoW (gfo P C ops f o)))∨∀l,l∈(gfo P C ops f x).1→l∉(gfo P C ops f o).1:=by
   simp only[yA,R7,Bool.or_eq_true,Bool.and_eq_true] at hx
   rcases hx with⟨-,⟨c1,c2⟩,c3⟩|⟨-,hdj|hdj⟩
   ·exact .inl ⟨c1.imp wo.2.2.2 wx.2.1,c2.imp wx.2.2.2 wo.2.2.1,c3.imp wx.2.2.1 wo.2.2.1⟩
   ·refine .inr ?_
    unfold Uv at hdj
    split at hdj
    ·rename_i a b ha hb
     obtain⟨m1,r1⟩:=B8 (P:=P) (C:=C) (ops:=ops) hD hC ha
     obtain⟨m2,r2⟩:=B8 (P:=P) (C:=C) (ops:=ops) hD hC hb
     intro l h1 h2
     have e1:=r1 l h1
     have e2:=r2 l h2
     exact hD.2.1 a b m1 m2 (by simpa using hdj) l e1 e2
    ·cases hdj
   ·refine .inr ?_
    unfold Uz at hdj
    split at hdj
    ·rename_i a b ha hb
     exact UR (by simpa using hdj) (Pj ha f) (Pj hb f) h'
    ·cases hdj
  have h2:=Tb (K:=fun v u U2 σ2=>∀U2',(∀l,U2 l→U2' l)→gl P C ops K (l1++l2) (bM (bM f x.dst v) o.dst u) U2' σ2) hd hf wx.1 wo.1 hc
   (fun v u V V' σ hv hh U2' hu=>hh U2' fun l hl=>hu l (hv l hl)) h'
  refine vN h2 fun u U1 σ1 hh U1' hu=>?_
  (try simp only[List.cons_append,gl])
  rw[K0 a3]
  refine vN (hh U1' hu) fun v U2 σ2 hk=>?_
  exact K3 hK _ _ _ U2 U2 σ2 (FEq.comm f v u a2) (fun _ h=>h) (hk U2 fun _ h=>h)
end
end

section
def rU:List Oper→List Nat→List Nat
 | [],acc=>acc
 | o::r,acc=>rU r (acc++[o.after.toList.foldl (fun m e=>if Region.binds .any e then(m ||| 2 ^ e.on) ||| acc.getD e.on 0 else m) 0])
def r8(X:RX)(ops:Array Oper):Bool :=
 let ms:=rU ops.toList []
 (ops.toList.all (sJ X))&&(List.range ops.size).all fun i=>match ops[i]? with
  | none=>true
  | some oi=>(oi.after.toList.all fun e=>!Region.binds .any e || decide (e.on<i)) &&
   ((List.range i).all fun j=>match ops[j]? with
    | none=>true
    | some oj=>(ms.getD i 0).testBit j || yA X ops oj oi)
def chk(ops:Array Oper):Bool:=r8 ⟨[],[],none,.no⟩ ops
section
variable {P:Program} {C:cC} {ops:Array Oper}
def vC(ops:Array Oper)(L:Nat→Prop):Prop:=∀i o,ops[i]?=some o→L i→∀e,e∈o.after.toList→Region.binds .any e=true→L e.on
theorem Pu{L:Nat→Prop}{acc:List Nat}{B:Edge→Bool}(hacc:∀i,L i→∀j,(acc.getD i 0).testBit j=true→L j):∀(es:List Edge) (m:Nat),(∀e,e∈es→B e=true→L e.on)→(∀j,m.testBit j=true→L j) →
  ∀j,(es.foldl (fun m e=>if B e then(m ||| 2 ^ e.on) ||| acc.getD e.on 0 else m) m).testBit j=true→L j:=by
 intro es
 induction es with
 | nil=>intro m _ hm j h;exact hm j h
 | cons e r ih =>
  intro m he hm j h
  simp only[List.foldl_cons] at h
  refine ih _ (fun e' h'=>he e' (by simp[h'])) (fun k hk=>?_) j h
  split at hk
  ·rename_i hb
   simp only[Nat.testBit_or,Bool.or_eq_true] at hk
   rcases hk with(hk|hk)|hk
   ·exact hm k hk
   ·rw[Nat.testBit_two_pow] at hk
    have:e.on=k:=by simpa using hk
    exact this ▸ he e (by simp) hb
   ·exact hacc e.on (he e (by simp) hb) k hk
  ·exact hm k hk
theorem sN{L:Nat→Prop}:∀(l pre:List Oper) (acc:List Nat),acc.length=pre.length→vC (pre++l).toArray L →
  (∀i,(L i∨∃o,(pre++l)[i]?=some o∧∀e,e∈o.after.toList→Region.binds .any e=true→L e.on)→∀j,(acc.getD i 0).testBit j=true→L j) →
  ∀i,(L i∨∃o,(pre++l)[i]?=some o∧∀e,e∈o.after.toList→Region.binds .any e=true→L e.on)→∀j,((rU l acc).getD i 0).testBit j=true→L j:=by
 intro l
 induction l with
 | nil=>intro pre acc _ _ h;exact h
 | cons o r ih =>
  intro pre acc hl hc h
  have e1:pre++o::r=(pre++[o])++r:=by simp
  (try simp only[rU])
  rw[e1] at hc h ⊢
  refine ih (pre++[o]) _ (by simp[hl]) hc (fun i hi j hj=>?_)
  rcases Nat.lt_trichotomy i acc.length with q|q|q
  ·refine h i hi j ?_
   simpa[List.getD,List.getElem?_append_left q] using hj
  ·have ho:((pre++[o])++r)[i]?=some o:=by
    rw[q,hl];simp
   have hpre:∀e,e∈o.after.toList→Region.binds .any e=true→L e.on:=by
    rcases hi with hi|⟨o',h1,h2⟩
    ·exact hc i o (by simpa using ho) hi
    ·rw[ho] at h1;cases h1;exact h2
   rw[q] at hj
   simp only[List.getD,List.getElem?_append_right (Nat.le_refl _),Nat.sub_self,List.getElem?_cons_zero,Option.getD_some] at hj
   exact Pu (B:=Region.binds .any) (fun k hk=>h k (.inl hk)) o.after.toList 0 hpre (fun j hj=>by simp at hj) j hj
  ·have:(acc++[o.after.toList.foldl (fun m e=>if Region.binds .any e then(m ||| 2 ^ e.on) ||| acc.getD e.on 0 else m) 0])[i]?=none:=by
    rw[List.getElem?_eq_none];simp;omega
   rw[List.getD,this] at hj
   simp at hj
def left(listed:Array Bool)(n:Nat):List Nat:=(List.range n).filter fun i=>!listed.getD i true
theorem z7{listed:Array Bool}{n i:Nat}(hs:listed.size=n):left (listed.setIfInBounds i true) n=(left listed n).filter fun j=>j != i:=by
 unfold left
 rw[List.filter_filter]
 refine List.filter_congr fun j hj=>?_
 have hj:j<n:=by simpa using hj
 by_cases h:j=i
 ·subst h;simp[hs,hj]
 ·have:(i:Nat)≠j:=fun e=>h e.symm
  simp[h,Array.getElem?_setIfInBounds_ne this]
theorem sK{listed:Array Bool}{n i:Nat}(h:i∈left listed n):∃l1 l2,left listed n=l1++i::l2∧(∀j,j∈l1→j<i)∧(left listed n).filter (fun j=>j != i)=l1++l2:=by
 obtain⟨l1,l2,he⟩:=List.append_of_mem h
 have hp:(left listed n).Pairwise (·<·):=List.Pairwise.filter _ List.pairwise_lt_range
 rw[he] at hp
 obtain⟨h1,h2,h3⟩:=List.pairwise_append.1 hp
 have h4:=(List.pairwise_cons.1 h2).1
 refine⟨l1,l2,he,fun j hj=>h3 j hj i (by simp),?_⟩
 rw[he]
 (try simp only[List.filter_append,List.filter_cons,bne_self_eq_false,Bool.false_eq_true,if_false])
 congr 1
 ·exact List.filter_eq_self.2 fun j hj=>by have:=h3 j hj i (by simp);simp;omega
 ·exact List.filter_eq_self.2 fun j hj=>by have:=h4 j hj;simp;omega
def opsOf(ops:Array Oper)(is:List Nat):List Oper:=is.filterMap fun i=>ops[i]?
theorem mem_left{listed:Array Bool}{n i:Nat}:i∈left listed n↔i<n∧listed.getD i true=false:=by simp[left]
theorem LX{X:RX}{loc:Nat→Nat→Prop}(hC:oX X loc C)(hchk:r8 X ops=true){F:Fence}(hF:F=Fence.wide∨∃l0,F=Fence.wide.inRound l0∧∀o,o∈ops.toList→∀c,o.op≠.defer c){Q:MQ}{Φ0:Phi}{σ0:St}{w0:World}:∀(fuel:Nat) (listed:Array Bool) (f:FR) (σ:St) (Φ:Phi) (w:World) (a:Act),listed.size=ops.size→(left listed ops.size).length=fuel →
  vC ops (fun i=>listed.getD i false=true)→Inv Φ w σ→dD Φ a.tmps f→eG Φ w a.defers f.d→DOk X loc f→Step Φ0 σ0 w0 Φ σ w →
  gl P C ops (fun f' _ σ'=>∃f'',FEq f' f''∧Q .normal f'' σ') (opsOf ops (left listed ops.size)) f (fun l=>Φ.obj l≠none) σ→wpAnyIn F 0 P .any ops (lift Φ0 σ0 w0 Q) fuel listed a w:=by
 have hKok:KOk (fun f' (_:Nat→Prop) σ'=>∃f'',FEq f' f''∧Q .normal f'' σ'):=fun f f' U U' σ hf _ ⟨f'',h1,h2⟩=>⟨f'',hf.symm.trans h1,h2⟩
 have fin:∀(listed:Array Bool) (f:FR) (σ:St) (Φ:Phi) (w:World) (a:Act),left listed ops.size=[]→Inv Φ w σ→dD Φ a.tmps f→eG Φ w a.defers f.d→Step Φ0 σ0 w0 Φ σ w →
   gl P C ops (fun f' _ σ'=>∃f'',FEq f' f''∧Q .normal f'' σ') (opsOf ops (left listed ops.size)) f (fun l=>Φ.obj l≠none) σ→lift Φ0 σ0 w0 Q .normal a w:=by
  intro listed f σ Φ w a hl hi hr hd hs h
  rw[hl] at h
  obtain⟨f'',h1,h2⟩:=h
  exact⟨f'',σ,Φ,h1.2.1 ▸ hd,⟨hr.1.trans h1.1,fun t=>by rw[←h1.2.2 t];exact hr.2 t⟩,hi,hs,h2⟩
 have ready_left:∀(listed:Array Bool) i,i∈Region.ready .any ops listed→i∈left listed ops.size:=fun listed i hi=>by
  obtain⟨h0,o,ho,-⟩:=mem_ready.1 hi
  exact mem_left.2 ⟨(Array.getElem?_eq_some_iff.1 ho).1,h0⟩
 have chk1:∀i oi,ops[i]?=some oi→(∀e,e∈oi.after.toList→Region.binds .any e=true→e.on<i)∧∀j oj,j<i→ops[j]?=some oj→((rU ops.toList []).getD i 0).testBit j=true∨yA X ops oj oi=true:=by
  intro i oi hoi
  have hlt:=(Array.getElem?_eq_some_iff.1 hoi).1
  have h:=hchk
  simp only[r8,Bool.and_eq_true] at h
  replace h:=h.2
  simp only[List.all_eq_true,List.mem_range] at h
  have h1:=h i hlt
  rw[hoi] at h1
  simp only[Bool.and_eq_true,List.all_eq_true,Bool.or_eq_true,Bool.not_eq_true',decide_eq_true_eq,List.mem_range] at h1
  refine⟨fun e he hb=>?_,fun j oj hj hoj=>?_⟩
  ·rcases h1.1 e he with q|q
   ·rw[hb] at q;cases q
   ·exact q
  ·have:=h1.2 j hj
   rw[hoj] at this
   simpa using this
 intro fuel
 induction fuel with
 | zero =>
  intro listed f σ Φ w a hsz hl hc hi hr hd hD hs h
  have hnil:left listed ops.size=[]:=List.eq_nil_of_length_eq_zero hl
  refine⟨?_,fin listed f σ Φ w a hnil hi hr hd hs h⟩
  rw[List.eq_nil_iff_forall_not_mem]
  intro i hi
  have:=ready_left listed i hi
  rw[hnil] at this;cases this
 | succ fuel ih =>
  intro listed f σ Φ w a hsz hl hc hi hr hd hD hs h
  refine⟨fun hnone=>?_,fun i hrd=>?_⟩
  ·-- the first that is left is ready
   exfalso
   cases hleft:left listed ops.size with
   | nil=>rw[hleft] at hl;cases hl
   | cons i0 r =>
    have h0:i0∈left listed ops.size:=by rw[hleft];simp
    obtain⟨hlt,h0'⟩:=mem_left.1 h0
    have hoi:ops[i0]?=some ops[i0]:=Array.getElem?_eq_getElem hlt
    have:i0∈Region.ready .any ops listed:=mem_ready.2 ⟨h0',_,hoi,fun e he hb=>by
     have hlt':=(chk1 i0 _ hoi).1 e (by simpa using he) hb
     cases hq:listed.getD e.on false with
     | true=>rfl
     | false =>
      exfalso
      have hm:e.on∈left listed ops.size:=mem_left.2 ⟨by omega,by
       have hb2:e.on<listed.size:=by omega
       simpa[hb2] using hq⟩
      have hp:(left listed ops.size).Pairwise (·<·):=List.Pairwise.filter _ List.pairwise_lt_range
      rw[hleft] at hp hm
      have:=(List.pairwise_cons.1 hp).1
      rcases List.mem_cons.1 hm with q|q
      ·omega
      ·have:=this e.on q;omega⟩
    rw[hnone] at this;cases this
  ·have hmem:=ready_left listed i hrd
   obtain⟨l1,l2,he,hlt,hflt⟩:=sK hmem
   obtain⟨h0,o,ho,hpre⟩:=mem_ready.1 hrd
   have hsw:∀x,x∈opsOf ops l1→yA X ops x o=true:=by
    intro x hx
    obtain⟨j,hj,hx⟩:=List.mem_filterMap.1 hx
    rcases (chk1 i o ho).2 j x (hlt j hj) hx with q|q
    ·exfalso
     have:=sN (L:=fun i=>listed.getD i false=true) ops.toList [] [] rfl (by simpa using hc) (fun i hi j hj=>by simp at hj) i (.inr ⟨o,by simpa using ho,fun e he hb=>hpre e (by simpa using he) hb⟩) j q
     have hjl:j∈left listed ops.size:=by rw[he];simp[hj]
     have hj2:=(mem_left.1 hjl)
     have hb2:j<listed.size:=by omega
     simp[hb2] at this hj2
     simp[this] at hj2
    ·exact q
   have e2:opsOf ops (left listed ops.size)=opsOf ops l1++o::opsOf ops l2:=by rw[he];simp[opsOf,List.filterMap_append,ho]
   rw[e2] at h
   have hdom:Dom (fun l=>Φ.obj l≠none) σ:=fun l hl q=>hl (hi.fV q)
   have hfin:Fin (fun l=>Φ.obj l≠none):=by
    obtain⟨n,hn⟩:=hi.fresh.1.1
    exact⟨n,fun l hl q=>q (hn l hl)⟩
   have hkall:∀(j:Nat) x,ops[j]?=some x→sJ X x=true:=fun j x hx=>by
    have h:=hchk
    simp only[r8,Bool.and_eq_true,List.all_eq_true] at h
    exact h.1 x (by rw[←Array.getElem?_toList] at hx;exact List.mem_of_getElem? hx)
   have hp:=IJ (pull hKok hC (opsOf ops l2) o (opsOf ops l1) f _ σ hdom hfin hD hsw (fun x hx=>by
    obtain⟨j,hj,hx⟩:=List.mem_filterMap.1 hx
    exact hkall j x hx) h)
   have e3:opsOf ops (left (listed.setIfInBounds i true) ops.size)=opsOf ops l1++opsOf ops l2:=by rw[z7 hsz,hflt];simp[opsOf,List.filterMap_append]
   have hlen:(left (listed.setIfInBounds i true) ops.size).length=fuel:=by
    rw[z7 hsz,hflt]
    rw[he] at hl
    simp at hl ⊢;omega
   have hcl:vC ops (fun k=>(listed.setIfInBounds i true).getD k false=true):=by
    intro k ok hk hlk e hek hb
    by_cases hki:k=i
    ·subst hki
     rw[ho] at hk;cases hk
     exact getD_set_true (hpre e (by simpa using hek) hb)
    ·have:listed.getD k false=true:=by rw[←hlk,getD_set_ne _ (Ne.symm hki)]
     exact getD_set_true (hc k ok hk this e hek hb)
   -- what comes then
   have next:∀v mv σ' Φ' w' ,Rel Φ' v mv→Inv Φ' w' σ'→Step Φ σ w Φ' σ' w' →
     (∃U':Nat→Prop,(∀l,U' l→Φ.obj l≠none∨σ' l≠none)∧GV (gfo P C ops f o) mv∧∀U1',(∀l,U' l→U1' l)→gl P C ops (fun f' _ σ'=>∃f'',FEq f' f''∧Q .normal f'' σ') (opsOf ops l1++opsOf ops l2) (bM f o.dst mv) U1' σ') →
     wpAnyIn F 0 P .any ops (lift Φ0 σ0 w0 Q) fuel (listed.setIfInBounds i true) (a.put o.dst v) w':=by
    rintro v mv σ' Φ' w' r1 i1 s1 ⟨U',hu,hgv,hk⟩
    refine ih _ (bM f o.dst mv) σ' Φ' w' (a.put o.dst v) (by simpa using hsz) hlen hcl i1 (cO (hr.mono s1.le) o.dst r1) (by rw[bT,eE];exact hd.step hi s1) (hD.put (hkall i o ho) hgv) (hs.trans s1) ?_
    rw[e3]
    refine hk _ fun l hl=>?_
    rcases hu l hl with q|q
    ·intro hn
     cases hp:Φ.obj l with
     | none=>exact q hp
     | some p=>rw[s1.le.obj l p hp] at hn;cases hn
    ·intro hn;exact q (i1.fV hn)
   unfold wpOpIn
   rw[ho]
   simp only
   have hFo:F=Fence.wide∨∃l0,F=Fence.wide.inRound l0∧∀c,o.op≠.defer c:=hF.imp id fun⟨l0,e,q⟩=>⟨l0,e,q o (by rw[←Array.getElem?_toList] at ho;exact List.mem_of_getElem? ho)⟩
   have hfn:∀g,F.fn g:=fun g=>by rcases hF with rfl|⟨l,rfl,_⟩<;>trivial
   have run:gs (fun l=>Φ.obj l≠none) σ (gop P C f o.op) (fun v U1 σ1=>GV (gfo P C ops f o) v∧∀U1',(∀l,U1 l→U1' l)→gl P C ops (fun f' _ σ'=>∃f'',FEq f' f''∧Q .normal f'' σ') (opsOf ops l1++opsOf ops l2) (bM f o.dst v) U1' σ1) →
     o.wpIn F 0 P a w (wpAnyIn F 0 P .any ops (lift Φ0 σ0 w0 Q) fuel (listed.setIfInBounds i true)) (lift Φ0 σ0 w0 Q):=by
    intro hg
    refine eT hFo ?_
    refine nK (UB hg) Φ w a _ _ hi hr fun v mv σ' Φ' w' r1 i1 s1 hk=>next v mv σ' Φ' w' r1 i1 s1 (hk fun l h1 h2 q=>?_)
    rcases s1.locs l _ (Option.ne_none_iff_exists'.1 h1).choose_spec with⟨o',ho'⟩|ho'
    ·rw[h2] at ho';cases ho'
    ·exact q ho'
   obtain⟨G,hG⟩:∃G,GV (gfo P C ops f o)=G:=⟨_,rfl⟩
   rw[hG] at hp run next
   unfold gfo at hp
   split at hp
   ·rename_i hg
    have hw:Region.wanted o (yielded ops a.tmps)=true:=by unfold Region.wanted;rw[hg]
    rw[if_pos hw]
    exact run hp
   ·rename_i j want hg
    split at hp
    ·rename_i t ht
     split at hp
     ·rename_i b hb
      have hmg:∀{A B:Prop},(b=want→A)∧(b=(!want)→B)→(Region.wanted o (yielded ops a.tmps)=true∧A)∨(Region.wanted o (yielded ops a.tmps)=false∧B):=fun {A B} h =>
       cL (ops:=ops) (o:=o) (f:=f) (by unfold fZ;rw[hg];(try simp only[ht,hb]);exact h) hr
      split at hp
      ·rename_i hbw
       rcases hmg (A:=True) (B:=False) ⟨fun _=>trivial,fun e=>by rw[hbw] at e;cases want<;>cases e⟩ with⟨hw,-⟩|⟨-,hw⟩
       ·rw[if_pos hw];exact run hp
       ·exact hw.elim
      ·rename_i hbw
       rcases hmg (A:=False) (B:=True) ⟨fun e=>hbw e,fun _=>trivial⟩ with⟨-,hw⟩|⟨hw,-⟩
       ·exact hw.elim
       ·rw[if_neg (by simp[hw])]
        obtain⟨-,U',hu,hgv,hk⟩:=oO hp
        exact⟨fun f _=>hfn f,next undef (.tup []) σ Φ w gU hi (.refl _ _ _) ⟨U',hu,hgv,hk⟩⟩
     ·rename_i hb
      rcases cL (ops:=ops) (o:=o) (f:=f) (yes:=False) (no:=True) (by unfold fZ;rw[hg];simp only[ht,hb]) hr with⟨-,hw⟩|⟨hw,-⟩
      ·exact hw.elim
      ·rw[if_neg (by simp[hw])]
       obtain⟨-,U',hu,hgv,hk⟩:=oO hp
       exact⟨fun f _=>hfn f,next undef (.tup []) σ Φ w gU hi (.refl _ _ _) ⟨U',hu,hgv,hk⟩⟩
     ·exact(gD hp).elim
    ·exact(gD hp).elim
def fU(P:Program)(MC:FuncId→List MV→St→(MV→St→Prop)→Prop)(ops:Array Oper)(K:FR→St→Prop):List Oper→FR→St→Prop
 | [],f,σ=>K f σ
 | o::rest,f,σ=>fZ ops f o (Bt P MC f σ (fun v σ'=>fU P MC ops K rest (bM f o.dst v) σ') o.op) (fU P MC ops K rest (bM f o.dst (.tup [])) σ)
abbrev kG(P:Program)(C:cC):=fU P (pU P C)
theorem Ux{MC:FuncId→List MV→St→(MV→St→Prop)→Prop}(hMC:∀U σ,Dom U σ→∀g ms k,MC g ms σ k→gs U σ (iM P C g ms) fun v _ σ'=>k v σ'){u:iV}(hu:PlU u C){K:FR→St→Prop}:∀(l:List Oper) (f:FR) (U:Nat→Prop) (σ:St),Dom U σ→Fin U→fU P MC ops K l f σ→gl P C ops (fun f' _ σ'=>∃f'',FEq f' f''∧K f'' σ') l f U σ:=by
 intro l
 induction l with
 | nil=>intro f U σ _ _ h;exact⟨f,.refl f,h⟩
 | cons o r ih =>
  intro f U σ hd hf h
  simp only[fU] at h
  (try simp only[gl])
  have run:Bt P MC f σ (fun v σ'=>fU P MC ops K r (bM f o.dst v) σ') o.op→gs U σ (gop P C f o.op) fun v U' σ'=>gl P C ops (fun f' _ σ'=>∃f'',FEq f' f''∧K f'' σ') r (bM f o.dst v) U' σ':=fun h =>
   yR (U6 (hMC U σ hd) hd h) hd hf (fun v U' σ' hd' hf' _ hh=>ih _ U' σ' hd' hf' hh) (Ky P C hu f o.op).1
  unfold fZ at h
  unfold gfo
  split at h
  ·rename_i hg;(try simp only[hg]);exact run h
  ·rename_i j want hg
   (try simp only[hg])
   split at h
   ·rename_i t ht
    (try simp only[ht])
    split at h
    ·rename_i b hb
     (try simp only[hb])
     split
     ·rename_i hbw;exact run (h.1 hbw)
     ·rename_i hbw
      have hb':b=!want:=by cases b<;>cases want<;>simp at hbw ⊢
      refine vN (yR (oB (U:=U) (pv:=some (True,.tup [])) (k:=fun v σ'=>v=.tup []∧σ'=σ) ⟨trivial,rfl,rfl⟩) hd hf (k':=fun v U' σ'=>v=.tup []∧σ'=σ∧Dom U' σ'∧Fin U') (fun v U' σ' h1 h2 _ h3=>⟨h3.1,h3.2,h1,h2⟩) (dM _).1) ?_
      rintro v U' σ' ⟨rfl,rfl,h1,h2⟩
      exact ih _ U' _ h1 h2 (h.2 hb')
    ·rename_i hb
     (try simp only[hb])
     refine vN (yR (oB (U:=U) (pv:=some (True,.tup [])) (k:=fun v σ'=>v=.tup []∧σ'=σ) ⟨trivial,rfl,rfl⟩) hd hf (k':=fun v U' σ'=>v=.tup []∧σ'=σ∧Dom U' σ'∧Fin U') (fun v U' σ' h1 h2 _ h3=>⟨h3.1,h3.2,h1,h2⟩) (dM _).1) ?_
     rintro v U' σ' ⟨rfl,rfl,h1,h2⟩
     exact ih _ U' _ h1 h2 h
    ·exact h.elim
   ·exact h.elim
theorem vW(hm:P.follows .mixedOrders=true){X:RX}{loc:Nat→Nat→Prop}(hC:oX X loc C)(hchk:r8 X ops=true){MC:FuncId→List MV→St→(MV→St→Prop)→Prop}(hMC:∀U σ,Dom U σ→∀g ms k,MC g ms σ k→gs U σ (iM P C g ms) fun v _ σ'=>k v σ'){id:Nat}{f:FR}{σ:St}{Q:MQ}(hD:DOk X loc f)(h:fU P MC ops (Q .normal) ops.toList f σ):mwp P (.region id ops true) f σ Q:=by
 intro F hF Φ w a hi hr hd
 have hi':Inv Φ { w with drawn:=w.drawn+1 } σ:=⟨fun l o hl=>by
  have:=hi.own l o hl
  cases o<;>exact this,hi.inj,hi.snap,hi.apart,hi.fresh⟩
 have hst:Step Φ σ w Φ σ { w with drawn:=w.drawn+1 }:=⟨.refl Φ,rfl,rfl,rfl,kM (Nat.le_succ _),Nat.le_refl _,fun _ _ _=>rfl,fun _ _ h=>.inl h,fun l o h=>.inl ⟨o,h⟩,fun _ h=>.inl h⟩
 have hall:left (Array.replicate ops.size false) ops.size=List.range ops.size:=by
  unfold left
  refine List.filter_eq_self.2 fun j hj=>?_
  have hj:j<ops.size:=by simpa using hj
  simp[hj]
 have hops:opsOf ops (List.range ops.size)=ops.toList:=by
  unfold opsOf
  apply List.ext_getElem?
  intro i
  have:∀(l:List Oper),(List.range l.length).filterMap (fun i=>l[i]?)=l:=by
   intro l
   induction l with
   | nil=>rfl
   | cons a r ih =>
    rw[List.length_cons,List.range_succ_eq_map,List.filterMap_cons]
    (try simp only[List.getElem?_cons_zero,List.filterMap_map])
    congr 1
  have:=this ops.toList
  simp only[Array.length_toList,Array.getElem?_toList] at this
  rw[this]
 refine wpIn_region_any hm (LX (C:=C) hC hchk hF.ops ops.size _ f σ Φ _ a (by simp) (by rw[hall];simp) ?_ hi' hr (hd.step hi hst) hD hst ?_)
 ·intro i o ho hl
  simp only[Array.getD_eq_getD_getElem?,Array.getElem?_replicate] at hl
  split at hl<;>simp at hl
 ·rw[hall,hops]
  refine Ux hMC hC.u ops.toList f _ σ (fun l hl q=>hl (hi.fV q)) ?_ h
  obtain⟨n,hn⟩:=hi.fresh.1.1
  exact⟨n,fun l hl q=>q (hn l hl)⟩
theorem NN(hm:P.follows .mixedOrders=true){Ds:List Nat}{loc:Nat→Nat→Prop}(hchk:r8 ⟨Ds,[],none,.no⟩ ops=true)(C:cC){id:Nat}{f:FR}{σ:St}{Q:MQ}(hD:DOk ⟨Ds,[],none,.no⟩ loc f)(h:kG P C ops (Q .normal) ops.toList f σ):mwp P (.region id ops true) f σ Q :=
 vW (C:=C.pl) (X:=⟨Ds,[],none,.no⟩) (loc:=loc) hm (show oX ⟨Ds,[],none,.no⟩ loc C.pl from⟨C.Lu.u,trivial⟩) hchk (fun _ _ hd _ _ _ h=>yQ hd h) hD h
theorem Gv(hm:P.follows .mixedOrders=true)(hchk:chk ops=true)(C:cC){id:Nat}{f:FR}{σ:St}{Q:MQ}(h:kG P C ops (Q .normal) ops.toList f σ):mwp P (.region id ops true) f σ Q :=
 NN (loc:=fun _ _=>True) hm hchk C ⟨fun t ht=>(by cases ht),fun t t' ht=>(by cases ht),fun p hp=>(by cases hp)⟩ h
theorem NP(hm:P.follows .mixedOrders=true){X:RX}{loc:Nat→Nat→Prop}(C:cC)(hC:oX X loc C)(hchk:r8 X ops=true){id:Nat}{f:FR}{σ:St}{Q:MQ}(hD:DOk X loc f)(h:fU P (mW P C) ops (Q .normal) ops.toList f σ):mwp P (.region id ops true) f σ Q :=
 vW hm hC hchk (fun _ _ hd _ _ _ h=>Py hd h) hD h
theorem NO(hm:P.follows .mixedOrders=true)(L:List FuncId)(C:cC)(hC:PlU (.these L) C)(hchk:r8 ⟨[],[],none,.these L⟩ ops=true){id:Nat}{f:FR}{σ:St}{Q:MQ}(h:fU P (mW P C) ops (Q .normal) ops.toList f σ):mwp P (.region id ops true) f σ Q :=
 NP (X:=⟨[],[],none,.these L⟩) (loc:=fun _ _=>True) hm C ⟨hC,trivial⟩ hchk ⟨fun t ht=>(by cases ht),fun t t' ht=>(by cases ht),fun p hp=>(by cases hp)⟩ h
end
end

section
def oL:Op→Bool
 | .call ⟨.value _,_,_⟩|.defer _=>false
 | _=>true
section
variable {P:Program} {C:cC} {MC:FuncId→List MV→St→(MV→St→Prop)→Prop} {f:FR} {σ:St} {Q:MQ} {k:MV→St→Prop} {K:FR→St→Prop} {ops:Array Oper} {rest:List Oper}
theorem Jp{op:Op}(h:oL op=true):Bt P MC f σ k op=mop P f σ k op:=by
 cases op<;>first|rfl|(simp[oL] at h;done)|skip
 rename_i c
 obtain⟨callee,args,ts⟩:=c
 cases callee<;>first|rfl|(simp[oL] at h;done)
theorem FQ{id:Nat}{l:List Oper}(hm:P.follows .mixedOrders=true)(hchk:(chk l.toArray&&l.all fun o=>oL o.op)=true)(h:R (kG P (fun _ _=>none) (@OfNat.ofNat (Array Oper) (nat_lit 0) (@_root_.id (OfNat (Array Oper) (nat_lit 0)) (OfNat.mk (l.toArray)))) (Q .normal) (@OfNat.ofNat (List Oper) (nat_lit 0) (@_root_.id (OfNat (List Oper) (nat_lit 0)) (OfNat.mk l))) f σ)):R (rV P id (@OfNat.ofNat (List Oper) (nat_lit 0) (@_root_.id (OfNat (List Oper) (nat_lit 0)) (OfNat.mk l))) f σ Q):=by
 simp only[Bool.and_eq_true] at hchk
 exact Gv hm hchk.1 (fun _ _=>none) h
theorem aI{id:Nat}{l:List Oper}(hm:P.follows .mixedOrders=true)(hchk:chk l.toArray=true)(C:cC)(h:R (kG P C (@OfNat.ofNat (Array Oper) (nat_lit 0) (@_root_.id (OfNat (Array Oper) (nat_lit 0)) (OfNat.mk (l.toArray)))) (Q .normal) (@OfNat.ofNat (List Oper) (nat_lit 0) (@_root_.id (OfNat (List Oper) (nat_lit 0)) (OfNat.mk l))) f σ)):R (rV P id (@OfNat.ofNat (List Oper) (nat_lit 0) (@_root_.id (OfNat (List Oper) (nat_lit 0)) (OfNat.mk l))) f σ Q) :=
 Gv hm hchk C h
def Ab(ds:List (Nat × Nat))(t:Nat):Nat:=((ds.find? fun p=>p.1==t).map (·.2)).getD 0
theorem yW:∀{ds:List (Nat × Nat)},(ds.map (·.1)).Pairwise (·≠·)→∀p,p∈ds→Ab ds p.1=p.2
 | [],_,p,hp=>by cases hp
 | q::r,h3,p,hp=>by
  simp only[List.map_cons] at h3
  obtain⟨b1,b2⟩:=List.pairwise_cons.1 h3
  rcases List.mem_cons.1 hp with rfl|hp'
  ·simp[Ab]
  ·have:(q.1==p.1)=false:=by simpa using b1 p.1 (List.mem_map.2 ⟨p,hp',rfl⟩)
   unfold Ab
   rw[List.find?_cons,this]
   exact yW b2 p hp'
theorem PZ{ds:List (Nat × Nat)}{f:FR}(h1:∀p,p∈ds→∃i o,f.get p.1=.ptr p.2 i o)(h3:(ds.map (·.1)).Pairwise (·≠·)):∀t,t∈ds.map (·.1)→∃i o,f.get t=.ptr (Ab ds t) i o:=fun t ht=>by
 obtain⟨p,hp,rfl⟩:=List.mem_map.1 ht
 rw[yW h3 p hp]
 exact h1 p hp
theorem Tn{ds:List (Nat × Nat)}(h2:(ds.map (·.2)).Pairwise (·≠·))(h3:(ds.map (·.1)).Pairwise (·≠·)):∀t t',t∈ds.map (·.1)→t'∈ds.map (·.1)→t≠t'→Ab ds t≠Ab ds t':=fun t t' ht ht' hne=>by
 obtain⟨p,hp,rfl⟩:=List.mem_map.1 ht
 obtain⟨q,hq,rfl⟩:=List.mem_map.1 ht'
 rw[yW h3 p hp,yW h3 q hq]
 intro e
 obtain⟨i,hi,e1⟩:=List.mem_iff_getElem.1 hp
 obtain⟨j,hj,e2⟩:=List.mem_iff_getElem.1 hq
 have hij:i≠j:=fun e=>by subst e;exact hne (by rw[←e1,←e2])
 rw[List.pairwise_iff_getElem] at h2
 rcases Nat.lt_or_gt_of_ne hij with hlt|hgt
 ·have:=h2 i j (by simpa using hi) (by simpa using hj) hlt
  simp only[List.getElem_map,e1,e2] at this
  exact this e
 ·have:=h2 j i (by simpa using hj) (by simpa using hi) hgt
  simp only[List.getElem_map,e1,e2] at this
  exact this e.symm
theorem DOk.of{ds:List (Nat × Nat)}{Rs:List (Nat × Nat)}{dr:Option Nat}{tu:iV}{f:FR}(h1:∀p,p∈ds→∃i o,f.get p.1=.ptr p.2 i o)(h2:(ds.map (·.2)).Pairwise (·≠·))(h3:(ds.map (·.1)).Pairwise (·≠·))(h4:∀p,p∈Rs→p.2∈ds.map (·.1)∧∀l i o,f.get p.1=.ptr l i o→l=Ab ds p.2):DOk ⟨ds.map (·.1),Rs,dr,tu⟩ (fun t l=>l=Ab ds t) f :=
 ⟨fun t ht=>by obtain⟨i,o,e⟩:=PZ h1 h3 t ht;exact⟨_,i,o,e,rfl⟩,fun t t' ht ht' hne l e1 e2=>Tn h2 h3 t t' ht ht' hne (e1.symm.trans e2),h4⟩
theorem b9{id:Nat}{l:List Oper}(hm:P.follows .mixedOrders=true)(L:List FuncId)(hchk:r8 ⟨[],[],none,.these L⟩ l.toArray=true)(C:cC)(hC:PlU (.these L) C)
 (h:R (fU P (mW P C) (@OfNat.ofNat (Array Oper) (nat_lit 0) (@_root_.id (OfNat (Array Oper) (nat_lit 0)) (OfNat.mk (l.toArray)))) (Q .normal) (@OfNat.ofNat (List Oper) (nat_lit 0) (@_root_.id (OfNat (List Oper) (nat_lit 0)) (OfNat.mk l))) f σ)):R (rV P id (@OfNat.ofNat (List Oper) (nat_lit 0) (@_root_.id (OfNat (List Oper) (nat_lit 0)) (OfNat.mk l))) f σ Q) :=
 NO hm L C hC hchk h
theorem NF:R (fU P MC ops K [] f σ)=R (K f σ):=rfl
theorem Js{dst:Option Tmp}{op:Op}{ty:TypeId}{pos:String}{after:Array Edge}:R (fU P MC ops K (⟨dst,op,ty,pos,after,none⟩::rest) f σ)=R (Bt P MC f σ (fun v σ'=>fU P MC ops K (@OfNat.ofNat (List Oper) (nat_lit 0) (@_root_.id (OfNat (List Oper) (nat_lit 0)) (OfNat.mk rest))) (bM f dst v) σ') op):=congrArg R rfl
theorem Jt{l:List Oper}:R (fU P MC ops K (@OfNat.ofNat (List Oper) (nat_lit 0) (@_root_.id (OfNat (List Oper) (nat_lit 0)) (OfNat.mk l))) f σ)=R (fU P MC ops K l f σ):=congrArg R rfl
theorem Gl{l:List Oper}{dst:Option Tmp}{op:Op}{ty:TypeId}{pos:String}{after:Array Edge}{j:Nat}{want:Bool}:R (fU P MC (@OfNat.ofNat (Array Oper) (nat_lit 0) (@_root_.id (OfNat (Array Oper) (nat_lit 0)) (OfNat.mk (l.toArray)))) K (⟨dst,op,ty,pos,after,some (j,want)⟩::rest) f σ)=R (cK (E (PD f (rH (@OfNat.ofNat (List Oper) (nat_lit 0) (@_root_.id (OfNat (List Oper) (nat_lit 0)) (OfNat.mk l))) j))) want (Bt P MC f σ (fun v σ'=>fU P MC (@OfNat.ofNat (Array Oper) (nat_lit 0) (@_root_.id (OfNat (Array Oper) (nat_lit 0)) (OfNat.mk (l.toArray)))) K (@OfNat.ofNat (List Oper) (nat_lit 0) (@_root_.id (OfNat (List Oper) (nat_lit 0)) (OfNat.mk rest))) (bM f dst v) σ') op) (fU P MC (@OfNat.ofNat (Array Oper) (nat_lit 0) (@_root_.id (OfNat (Array Oper) (nat_lit 0)) (OfNat.mk (l.toArray)))) K (@OfNat.ofNat (List Oper) (nat_lit 0) (@_root_.id (OfNat (List Oper) (nat_lit 0)) (OfNat.mk rest))) (bM f dst (.tup [])) σ)):=congrArg R (by
 show fU P MC l.toArray K (⟨dst,op,ty,pos,after,some (j,want)⟩::rest) f σ=cK (PD f (rH l j)) want (Bt P MC f σ (fun v σ'=>fU P MC l.toArray K rest (bM f dst v) σ') op) (fU P MC l.toArray K rest (bM f dst (.tup [])) σ)
 simp only[fU,fZ,KY]
 cases rH l j<;>rfl)
theorem TG{op:Op}(h:oL op=true):R (Bt P MC f σ k op)=R (mop P f σ k op):=by rw[Jp h]
def Li(MC:FuncId→List MV→St→(MV→St→Prop)→Prop)(x:MV)(args:List MV)(σ:St)(k:MV→St→Prop):Prop:=match x with
 | .fn (.func g) ms ns=>MC g (ms++args++ns) σ k
 | _=>False
theorem Nw{x:Operand}{args:Array Operand}{ts:Array TypeId}:R (Bt P MC f σ k (.call ⟨.value x,args,ts⟩))=R (Li MC (E (aH f x)) (E (args.toList.map (aH f))) σ k):=congrArg R rfl
theorem I4{g:FuncId}{ms ns args:List MV}:R (Li MC (.fn (.func g) ms ns) args σ k)=R (MC g (E (ms++args++ns)) σ k):=congrArg R rfl
theorem aG{g:FuncId}{ms:List MV}{r:MV}(hC:C g ms=some ⟨[],fun v=>v=r,none⟩)(h:aA P g ms St.none fun v _=>v=r)(hk:R (bY r σ k)):R (pU P C g ms σ k) :=
 .inl ⟨[],_,[],hC,rfl,h.Cw,⟨r,rfl⟩,fun v hv=>hv ▸ hk⟩
theorem Tg{g:FuncId}{ms:List MV}(rd:List Nat)(os:List aW){q:MV→Prop}(hC:C g ms=some ⟨rd,q,none⟩)(hos:rd.map σ=os.map some)(h:aA P g ms (St.ofList rd os) fun v σ'=>q v∧σ'=St.ofList rd os)(hq:∃v,q v)(hk:∀v,q v→R (bY v σ k)):R (pU P C g ms σ k) :=
 .inl ⟨rd,q,os,hC,hos,h,hq,hk⟩
theorem IU{g:FuncId}{ms:List MV}{r:MV}(hC:C g ms=some ⟨[],fun v=>v=r,none⟩)(h:aA P g ms St.none fun v _=>v=r)(hk:R (bY r σ k)):R (mW P C g ms σ k) :=
 .inl ⟨[],_,[],hC,rfl,h.Cw,⟨r,rfl⟩,fun v hv=>hv ▸ hk⟩
theorem ofList_nil(ls:List Nat):St.ofList ls []=St.none:=by cases ls<;>rfl
theorem xG{g:FuncId}{ms:List MV}{l:Nat}{rd:List Nat}{q:MV→Prop}{os ts:List aW}{r:MV}(hC:C g ms=some ⟨l::rd,q,some (ts,fun _=>r)⟩)(hos:(l::rd).map σ=os.map some)
 (h:aA P g ms (St.ofList (l::rd) os) fun v σ'=>v=r∧σ'=(St.ofList (l::rd) ts).over (St.ofList (l::rd) os))(hk:R (bY r ((St.ofList (l::rd) ts).over σ) k)):R (mW P C g ms σ k) :=
 .inr (.inr ⟨l,rd,q,ts,os,fun _=>r,hC,hos,h,hk⟩)
theorem jK{g:FuncId}{ms:List MV}{l:Nat}{rd:List Nat}{q:MV→Prop}{o':aW}{os:List aW}{r:MV}(hC:C g ms=some ⟨l::rd,q,some ([o'],fun _=>r)⟩)(hos:(l::rd).map σ=os.map some)
 (h:aA P g ms (St.ofList (l::rd) os) fun v σ'=>v=r∧σ'=(St.ofList (l::rd) os).set l o')(hk:R (bY r (σ.set l o') k)):R (mW P C g ms σ k) :=
 xG hC hos (by simp only[St.ofList,ofList_nil,bE,dC];exact h) (by simp only[St.ofList,ofList_nil,bE,dC];exact hk)
theorem Fz{g:FuncId}{ms:List MV}{l m:Nat}{rd:List Nat}{q:MV→Prop}{o' p':aW}{os:List aW}{r:MV}(hC:C g ms=some ⟨l::m::rd,q,some ([o',p'],fun _=>r)⟩)(hos:(l::m::rd).map σ=os.map some)
 (h:aA P g ms (St.ofList (l::m::rd) os) fun v σ'=>v=r∧σ'=((St.ofList (l::m::rd) os).set m p').set l o')(hk:R (bY r ((σ.set m p').set l o') k)):R (mW P C g ms σ k) :=
 xG hC hos (by simp only[St.ofList,ofList_nil,bE,dC];exact h) (by simp only[St.ofList,ofList_nil,bE,dC];exact hk)
theorem gQ{g:FuncId}{ms:List MV}{l:Nat}{q:MV→Prop}{o o':aW}{r:MV}(hC:C g ms=some ⟨[l],q,some ([o'],fun _=>r)⟩)(ho:σ l=some o)(h:aA P g ms (St.none.set l o) fun v σ'=>v=r∧σ'=St.none.set l o')(hk:R (bY r (σ.set l o') k)):R (mW P C g ms σ k) :=
 jK (os:=[o]) hC (by simp[ho]) (h.mono (by
  rintro v σ' ⟨h1,rfl⟩
  refine⟨h1,funext fun j=>?_⟩
  by_cases hj:j=l<;>simp[St.ofList,St.set,hj])) hk
theorem Fy{g:FuncId}{ms:List MV}(rd:List Nat)(os:List aW){r:MV}(hC:C g ms=some ⟨rd,fun v=>v=r,none⟩)(hos:rd.map σ=os.map some)(h:aA P g ms (St.ofList rd os) fun v σ'=>v=r∧σ'=St.ofList rd os)(hk:R (bY r σ k)):R (mW P C g ms σ k) :=
 .inl ⟨rd,_,os,hC,hos,h,⟨r,rfl⟩,fun v hv=>hv ▸ hk⟩
theorem PN{g:FuncId}{ms:List MV}{rd:List Nat}{q:MV→Prop}{o:aW}{u:Nat→MV}(hC:C g ms=some ⟨rd,q,some ([o],u)⟩)(h:aA P g ms St.none fun v σ'=>∃l,v=u l∧σ'=St.none.set l o)(hk:∀l,σ l=none→R (bY (u l) (σ.set l o) k)):R (pU P C g ms σ k) :=
 .inr ⟨rd,q,o,u,hC,h,hk⟩
end
attribute [go_sem ↓] Jt NF Js Gl Nw TG
attribute [go_sem] I4
noncomputable def kn(L:List (FuncId × List MV × Fact)):cC:=fun g ms=>by
 classical exact(L.find? fun p=>decide (p.1=g∧p.2.1=ms)).map (·.2.2)
theorem vR{g:FuncId}{ms:List MV}{F:Fact}{L:List (FuncId × List MV × Fact)}:kn ((g,ms,F)::L) g ms=some F:=by
 simp[kn]
theorem Lc{g g':FuncId}{ms ms':List MV}{F F':Fact}{L:List (FuncId × List MV × Fact)}(h:g'=g∧ms'=ms→F'=F)(k:kn L g ms=some F):kn ((g',ms',F')::L) g ms=some F:=by
 by_cases e:g'=g∧ms'=ms
 ·obtain⟨rfl,rfl⟩:=e
  rw[vR,h ⟨rfl,rfl⟩]
 ·unfold kn at k ⊢
  rw[List.find?_cons_of_neg (by simpa using e)]
  exact k
end

section
theorem td3:td Tryz.prog 3=⟨true,1,8,true,[.int .i64 0],.int .i64⟩:=by kernel_rfl
theorem td4:td Tryz.prog 4=⟨true,1,1,true,[.bool false],.bool⟩:=by kernel_rfl
theorem td5:td Tryz.prog 5=⟨true,1,1,true,[.int .u8 0],.int .u8⟩:=by kernel_rfl
theorem td9:td Tryz.prog 9=⟨true,1,16,true,[.str ⟨#[]⟩],.str⟩:=by kernel_rfl
theorem VG:td Tryz.prog 22=⟨true,1,24,true,[.aN],.slice 121⟩:=by kernel_rfl
theorem Kr:td Tryz.prog 23=⟨true,1,4,true,[.int .u32 0],.int .u32⟩:=by kernel_rfl
theorem VH:td Tryz.prog 24=⟨true,1,24,true,[.aN],.slice 59⟩:=by kernel_rfl
theorem Ud:td Tryz.prog 26=⟨true,4,80,true,[.aN,.int .u32 0,.aN,.aN],.struct [(0,22),(1,23),(2,24),(3,24)]⟩:=by kernel_rfl
theorem Ue:td Tryz.prog 28=⟨true,4,32,true,[.int .i64 0,.int .i64 0,.int .i64 0,.int .i64 0],.struct [(0,3),(1,3),(2,3),(3,3)]⟩:=by kernel_rfl
theorem Xi:td Tryz.prog 34=⟨true,1,8,true,[.nilp],.ptr 140⟩:=by kernel_rfl
theorem Xj:td Tryz.prog 35=⟨true,1,24,true,[.aN],.slice 126⟩:=by kernel_rfl
theorem Xk:td Tryz.prog 36=⟨true,1,24,true,[.aN],.slice 197⟩:=by kernel_rfl
theorem Xl:td Tryz.prog 38=⟨true,3,56,true,[.int .i64 0,.aN,.aN],.struct [(0,3),(1,35),(2,36)]⟩:=by kernel_rfl
theorem BX:td Tryz.prog 39=⟨true,1,24,true,[.aN],.slice 200⟩:=by kernel_rfl
theorem Xm:td Tryz.prog 41=⟨true,5,88,true,[.int .i64 0,.int .i64 0,.aN,.aN,.aN],.struct [(0,3),(1,38),(4,39)]⟩:=by kernel_rfl
theorem Xn:td Tryz.prog 44=⟨true,1,8,true,[.nilp],.ptr 133⟩:=by kernel_rfl
theorem Xo:td Tryz.prog 47=⟨true,5,88,true,[.int .i64 0,.int .i64 0,.aN,.aN,.aN],.struct [(0,3),(1,3),(2,35),(3,36),(4,39)]⟩:=by kernel_rfl
theorem Xp:td Tryz.prog 49=⟨true,1,24,true,[.aN],.slice 47⟩:=by kernel_rfl
theorem Xq:td Tryz.prog 50=⟨true,1,24,true,[.aN],.slice 73⟩:=by kernel_rfl
theorem A6:td Tryz.prog 54=⟨true,3,32,true,[.int .i64 0,.int .i64 0,.str ⟨#[]⟩],.struct [(0,3),(1,3),(2,9)]⟩:=by kernel_rfl
theorem Ks:td Tryz.prog 55=⟨true,24,256,true,[.int .i64 0,.int .i64 0,.str ⟨#[]⟩,.int .i64 0,.int .i64 0,.str ⟨#[]⟩,.int .i64 0,.int .i64 0,.str ⟨#[]⟩,.int .i64 0,.int .i64 0,.str ⟨#[]⟩,.int .i64 0,.int .i64 0,.str ⟨#[]⟩,.int .i64 0,.int .i64 0,.str ⟨#[]⟩,.int .i64 0,.int .i64 0,.str ⟨#[]⟩,.int .i64 0,.int .i64 0,.str ⟨#[]⟩],.array 8 54⟩:=by kernel_rfl
theorem R9:td Tryz.prog 57=⟨true,26,264,true,[.int .u32 0,.int .u32 0,.int .i64 0,.int .i64 0,.str ⟨#[]⟩,.int .i64 0,.int .i64 0,.str ⟨#[]⟩,.int .i64 0,.int .i64 0,.str ⟨#[]⟩,.int .i64 0,.int .i64 0,.str ⟨#[]⟩,.int .i64 0,.int .i64 0,.str ⟨#[]⟩,.int .i64 0,.int .i64 0,.str ⟨#[]⟩,.int .i64 0,.int .i64 0,.str ⟨#[]⟩,.int .i64 0,.int .i64 0,.str ⟨#[]⟩],.struct [(0,23),(1,23),(2,55)]⟩:=by kernel_rfl
theorem Uf:td Tryz.prog 59=⟨true,29,288,true,[.int .i64 0,.int .i64 0,.int .i64 0,.int .u32 0,.int .u32 0,.int .i64 0,.int .i64 0,.str ⟨#[]⟩,.int .i64 0,.int .i64 0,.str ⟨#[]⟩,.int .i64 0,.int .i64 0,.str ⟨#[]⟩,.int .i64 0,.int .i64 0,.str ⟨#[]⟩,.int .i64 0,.int .i64 0,.str ⟨#[]⟩,.int .i64 0,.int .i64 0,.str ⟨#[]⟩,.int .i64 0,.int .i64 0,.str ⟨#[]⟩,.int .i64 0,.int .i64 0,.str ⟨#[]⟩],.struct [(0,3),(1,3),(2,3),(3,57)]⟩:=by kernel_rfl
theorem Xr:td Tryz.prog 62=⟨true,1,24,true,[.aN],.slice 164⟩:=by kernel_rfl
theorem Xs:td Tryz.prog 73=⟨true,2,16,true,[.int .i64 0,.int .i64 0],.struct [(0,3),(1,3)]⟩:=by kernel_rfl
theorem BY:td Tryz.prog 75=⟨true,1,24,true,[.aN],.slice 3⟩:=by kernel_rfl
theorem WU:td Tryz.prog 77=⟨true,1,24,true,[.aN],.slice 128⟩:=by kernel_rfl
theorem Xt:td Tryz.prog 79=⟨true,1,8,true,[.nilp],.ptr 192⟩:=by kernel_rfl
theorem Xu:td Tryz.prog 84=⟨true,5,72,true,[.aN,.int .u32 0,.int .i64 0,.int .i64 0,.aN],.struct [(0,22),(1,23),(2,3),(3,3),(4,77)]⟩:=by kernel_rfl
theorem LJ:td Tryz.prog 121=⟨true,5,48,true,[.int .i64 0,.int .i64 0,.int .i64 0,.int .i64 0,.str ⟨#[]⟩],.struct [(0,3),(1,3),(2,54)]⟩:=by kernel_rfl
theorem LK:td Tryz.prog 126=⟨true,27,280,true,[.int .i64 0,.int .i64 0,.int .u32 0,.int .i64 0,.int .i64 0,.str ⟨#[]⟩,.int .i64 0,.int .i64 0,.str ⟨#[]⟩,.int .i64 0,.int .i64 0,.str ⟨#[]⟩,.int .i64 0,.int .i64 0,.str ⟨#[]⟩,.int .i64 0,.int .i64 0,.str ⟨#[]⟩,.int .i64 0,.int .i64 0,.str ⟨#[]⟩,.int .i64 0,.int .i64 0,.str ⟨#[]⟩,.int .i64 0,.int .i64 0,.str ⟨#[]⟩],.struct [(0,3),(1,3),(2,23),(3,55)]⟩:=by kernel_rfl
theorem UD:td Tryz.prog 128=⟨true,31,312,true,[.int .i64 0,.int .i64 0,.int .i64 0,.int .i64 0,.int .i64 0,.int .i64 0,.int .u32 0,.int .i64 0,.int .i64 0,.str ⟨#[]⟩,.int .i64 0,.int .i64 0,.str ⟨#[]⟩,.int .i64 0,.int .i64 0,.str ⟨#[]⟩,.int .i64 0,.int .i64 0,.str ⟨#[]⟩,.int .i64 0,.int .i64 0,.str ⟨#[]⟩,.int .i64 0,.int .i64 0,.str ⟨#[]⟩,.int .i64 0,.int .i64 0,.str ⟨#[]⟩,.int .i64 0,.int .i64 0,.str ⟨#[]⟩],.struct [(0,3),(1,3),(2,3),(3,3),(4,126)]⟩:=by kernel_rfl
theorem R8:td Tryz.prog 131=⟨true,1,8,true,[.nilm],.map 3 3⟩:=by kernel_rfl
theorem WC:td Tryz.prog 133=⟨true,6,64,true,[.nilp,.int .u32 0,.nilm,.int .i64 0,.int .i64 0,.aN],.struct [(0,79),(1,23),(2,131),(3,3),(4,3),(5,77)]⟩:=by kernel_rfl
theorem WD:td Tryz.prog 138=⟨true,1,8,true,[.nilp],.ptr 251⟩:=by kernel_rfl
theorem WE:td Tryz.prog 140=⟨true,3,40,true,[.int .i64 0,.nilp,.aN],.struct [(0,3),(1,138),(2,39)]⟩:=by kernel_rfl
theorem WG:td Tryz.prog 141=⟨true,1,8,true,[.nilfn],.func⟩:=by kernel_rfl
theorem WH:td Tryz.prog 142=⟨true,7,56,true,[.nilfn,.nilfn,.nilfn,.nilfn,.nilfn,.nilfn,.nilfn],.array 7 141⟩:=by kernel_rfl
theorem UE:td Tryz.prog 164=⟨true,28,288,true,[.int .i64 0,.int .i64 0,.int .i64 0,.int .u32 0,.int .i64 0,.int .i64 0,.str ⟨#[]⟩,.int .i64 0,.int .i64 0,.str ⟨#[]⟩,.int .i64 0,.int .i64 0,.str ⟨#[]⟩,.int .i64 0,.int .i64 0,.str ⟨#[]⟩,.int .i64 0,.int .i64 0,.str ⟨#[]⟩,.int .i64 0,.int .i64 0,.str ⟨#[]⟩,.int .i64 0,.int .i64 0,.str ⟨#[]⟩,.int .i64 0,.int .i64 0,.str ⟨#[]⟩],.struct [(0,3),(1,126)]⟩:=by kernel_rfl
theorem WI:td Tryz.prog 182=⟨true,1,4,true,[.int .u32 0],.struct [(0,180),(0,23)]⟩:=by kernel_rfl
theorem WJ:td Tryz.prog 186=⟨true,2,8,true,[.int .i32 0,.int .u32 0],.struct [(0,179),(0,184)]⟩:=by kernel_rfl
theorem WK:td Tryz.prog 188=⟨true,3,12,true,[.int .u32 0,.int .i32 0,.int .u32 0],.struct [(0,179),(0,182),(1,186)]⟩:=by kernel_rfl
theorem WL:td Tryz.prog 190=⟨true,1,8,true,[.nilfn],.func⟩:=by kernel_rfl
theorem WM:td Tryz.prog 192=⟨true,5,48,true,[.aN,.int .u32 0,.int .i32 0,.int .u32 0,.nilfn],.struct [(0,22),(1,188),(4,190)]⟩:=by kernel_rfl
theorem WN:td Tryz.prog 197=⟨true,3,24,true,[.int .i64 0,.int .i64 0,.int .i64 0],.struct [(0,3),(1,3),(2,3)]⟩:=by kernel_rfl
theorem mQ:td Tryz.prog 200=⟨true,2,32,true,[.int .i64 0,.aN],.struct [(0,3),(1,75)]⟩:=by kernel_rfl
theorem WO:td Tryz.prog 214=⟨true,1,24,true,[.aN],.slice 22⟩:=by kernel_rfl
theorem HS:td Tryz.prog 249=⟨true,1,8,true,[.nilm],.map 3 126⟩:=by kernel_rfl
theorem WQ:td Tryz.prog 251=⟨true,3,40,true,[.int .i64 0,.nilm,.aN],.struct [(0,3),(1,249),(2,36)]⟩:=by kernel_rfl
theorem WR:td Tryz.prog 263=⟨true,1,8,true,[.int .u64 0],.int .u64⟩:=by kernel_rfl
theorem WS:td Tryz.prog 276=⟨true,1,8,true,[.nilm],.map 3 128⟩:=by kernel_rfl
theorem UF:td Tryz.prog 325=⟨true,32,32,true,List.replicate 32 (.int .u8 0),.array 32 5⟩:=by kernel_rfl
theorem WT:td Tryz.prog 327=⟨true,1,24,true,[.aN],.slice 5⟩:=by kernel_rfl
theorem Wm:dH Tryz.prog 54=true:=by kernel_rfl
theorem UU:dH Tryz.prog 121=true:=by kernel_rfl
theorem mixed:Tryz.prog.follows .mixedOrders=true:=by kernel_rfl
theorem wD{id:Nat}{l:List Oper}{f:FR}{σ:St}{Q:MQ}(hchk:(chk l.toArray&&l.all fun o=>oL o.op)=true)(h:R (kG Tryz.prog (fun _ _=>none) (@OfNat.ofNat (Array Oper) (nat_lit 0) (@_root_.id (OfNat (Array Oper) (nat_lit 0)) (OfNat.mk (l.toArray)))) (Q .normal) (@OfNat.ofNat (List Oper) (nat_lit 0) (@_root_.id (OfNat (List Oper) (nat_lit 0)) (OfNat.mk l))) f σ)):R (rV Tryz.prog id (@OfNat.ofNat (List Oper) (nat_lit 0) (@_root_.id (OfNat (List Oper) (nat_lit 0)) (OfNat.mk l))) f σ Q):=FQ mixed hchk h
theorem wO{p q:Prop}(h:q)(e:q→p:=by
  intro h
  with_reducible first|(refine wN fun a ha=>?_;revert ha;(repeat refine wS fun _ _=>?_);revert a;exact h)|exact wD (by decide +kernel) h):p:=e h
theorem wM{p q:Prop}(h:q)(e:q→p:=by
  intro h
  with_reducible (refine wN fun a ha=>?_;revert ha;(repeat refine wS fun _ _=>?_);revert a;exact h)):p:=e h
theorem wV{p q:Prop}(h:q)(e:q→p:=by
  intro h
  with_reducible exact wD (by decide +kernel) h):p:=e h
theorem wY{p a b:Prop}(x:a)(y:b)(e:a→b→p:=by
  intro x y
  with_reducible first|exact wI x y|exact wF x y|exact wG x y|exact wH x y|((first|refine cG (fun h=>?_) fun h=>?_|refine bZ (fun h=>?_) fun h=>?_);(·simp only[h];revert h;exact x);(·simp only[h];revert h;exact y))):p:=e x y
theorem sS{p:Prop}(h:p:=by simp[St.set, *]):p:=h
theorem dK{p:Prop}(h:p:=by decide +kernel):p:=h
theorem wW{p:Prop}(h:p:=by
  simp(maxSteps:=4000000)(disch:=first|exact ddL|fail) only[go_sem,simprocAttr,bC,aS]
  all_goals first|rfl|exact .same _|(simp;done)|(simp[aS];done)):p:=h
theorem lE{p:Prop}(h:p:=by first|exact⟨_,St.le_refl _,rfl⟩|exact⟨_,St.le_refl _⟩|(exfalso;omega)):p:=h
theorem mB{P:Program}{g:FuncId}{fn:Func}{c:Code}{ms:List MV}{σ:St}{Q:MV→St→Prop}(n:Nat)(rs:List ResultVar)(hf:P.funcs[g]?=some fn)(h:R (dR P (@OfNat.ofNat Code (nat_lit 0) (@_root_.id (OfNat Code (nat_lit 0)) (OfNat.mk c))) ⟨n,gZ 0 ms,[]⟩ σ (Ol P rs Q)))(hb:fn.body=some c:=by rfl)(hn:(fn.name=="runtime.NumGoroutine")=false:=by rfl)(hn':max fn.ntmps ms.length=n:=by rfl)(hrs:fn.results.toList=rs:=by rfl):aA P g ms σ Q:=aA.body n rs hf hb hn hn' hrs h
theorem wZ0{p q:Prop}(h:q)(e:q→p:=by intro h;simp(maxSteps:=4000000)(disch:=first|exact ddL|fail) only[go_sem,simprocAttr];exact h):p:=e h
theorem wZ1{p q A1:Prop}(a:A1)(h:q)(e:A1→q→p:=by intro a h;simp(maxSteps:=4000000)(disch:=first|exact ddL|fail) only[go_sem,simprocAttr,a];exact h):p:=e a h
theorem wZ2{p q A1 B1:Prop}(a:A1)(b:B1)(h:q)(e:A1→B1→q→p:=by intro a b h;simp(maxSteps:=4000000)(disch:=first|exact ddL|fail) only[go_sem,simprocAttr,a,b];exact h):p:=e a b h
theorem wZ3{p q A1 B1 C1:Prop}(a:A1)(b:B1)(c:C1)(h:q)(e:A1→B1→C1→q→p:=by intro a b c h;simp(maxSteps:=4000000)(disch:=first|exact ddL|fail) only[go_sem,simprocAttr,a,b,c];exact h):p:=e a b c h
theorem wZ4{p q A1 B1 C1 D1:Prop}(a:A1)(b:B1)(c:C1)(d:D1)(h:q)(e:A1→B1→C1→D1→q→p:=by intro a b c d h;simp(maxSteps:=4000000)(disch:=first|exact ddL|fail) only[go_sem,simprocAttr,a,b,c,d];exact h):p:=e a b c d h
theorem wZ5{p q A1 B1 C1 D1 F1:Prop}(a:A1)(b:B1)(c:C1)(d:D1)(f:F1)(h:q)(e:A1→B1→C1→D1→F1→q→p:=by intro a b c d f h;simp(maxSteps:=4000000)(disch:=first|exact ddL|fail) only[go_sem,simprocAttr,a,b,c,d,f];exact h):p:=e a b c d f h
theorem wZ6{p q A1 B1 C1 D1 F1 G1:Prop}(a:A1)(b:B1)(c:C1)(d:D1)(f:F1)(g:G1)(h:q)(e:A1→B1→C1→D1→F1→G1→q→p:=by intro a b c d f g h;simp(maxSteps:=4000000)(disch:=first|exact ddL|fail) only[go_sem,simprocAttr,a,b,c,d,f,g];exact h):p:=e a b c d f g h
theorem wZ7{p q A1 B1 C1 D1 F1 G1 I1:Prop}(a:A1)(b:B1)(c:C1)(d:D1)(f:F1)(g:G1)(i:I1)(h:q)(e:A1→B1→C1→D1→F1→G1→I1→q→p:=by intro a b c d f g i h;simp(maxSteps:=4000000)(disch:=first|exact ddL|fail) only[go_sem,simprocAttr,a,b,c,d,f,g,i];exact h):p:=e a b c d f g i h
theorem wZ8{p q A1 B1 C1 D1 F1 G1 I1 J1:Prop}(a:A1)(b:B1)(c:C1)(d:D1)(f:F1)(g:G1)(i:I1)(j:J1)(h:q)(e:A1→B1→C1→D1→F1→G1→I1→J1→q→p:=by intro a b c d f g i j h;simp(maxSteps:=4000000)(disch:=first|exact ddL|fail) only[go_sem,simprocAttr,a,b,c,d,f,g,i,j];exact h):p:=e a b c d f g i j h
theorem wZ9{p q A1 B1 C1 D1 F1 G1 I1 J1 K1:Prop}(a:A1)(b:B1)(c:C1)(d:D1)(f:F1)(g:G1)(i:I1)(j:J1)(k:K1)(h:q)(e:A1→B1→C1→D1→F1→G1→I1→J1→K1→q→p:=by intro a b c d f g i j k h;simp(maxSteps:=4000000)(disch:=first|exact ddL|fail) only[go_sem,simprocAttr,a,b,c,d,f,g,i,j,k];exact h):p:=e a b c d f g i j k h
theorem wZ11{p q A1 B1 C1 D1 F1 G1 I1 J1 K1 L1 M1:Prop}(a:A1)(b:B1)(c:C1)(d:D1)(f:F1)(g:G1)(i:I1)(j:J1)(k:K1)(l:L1)(m:M1)(h:q)(e:A1→B1→C1→D1→F1→G1→I1→J1→K1→L1→M1→q→p:=by intro a b c d f g i j k l m h;simp(maxSteps:=4000000)(disch:=first|exact ddL|fail) only[go_sem,simprocAttr,a,b,c,d,f,g,i,j,k,l,m];exact h):p:=e a b c d f g i j k l m h
theorem wZ14{p q A1 B1 C1 D1 F1 G1 I1 J1 K1 L1 M1 N1 O1 R1:Prop}(a:A1)(b:B1)(c:C1)(d:D1)(f:F1)(g:G1)(i:I1)(j:J1)(k:K1)(l:L1)(m:M1)(n:N1)(o:O1)(r:R1)(h:q)(e:A1→B1→C1→D1→F1→G1→I1→J1→K1→L1→M1→N1→O1→R1→q→p:=by intro a b c d f g i j k l m n o r h;simp(maxSteps:=4000000)(disch:=first|exact ddL|fail) only[go_sem,simprocAttr,a,b,c,d,f,g,i,j,k,l,m,n,o,r];exact h):p:=e a b c d f g i j k l m n o r h
theorem wC0{p:Prop}(e:p:=by simp(maxSteps:=4000000)(disch:=first|exact ddL|fail) only[go_sem,simprocAttr]):p:=e
theorem wC1{p A1:Prop}(a:A1)(e:A1→p:=by intro a;simp(maxSteps:=4000000)(disch:=first|exact ddL|fail) only[go_sem,simprocAttr,a]):p:=e a
theorem wC2{p A1 B1:Prop}(a:A1)(b:B1)(e:A1→B1→p:=by intro a b;simp(maxSteps:=4000000)(disch:=first|exact ddL|fail) only[go_sem,simprocAttr,a,b]):p:=e a b
theorem wC3{p A1 B1 C1:Prop}(a:A1)(b:B1)(c:C1)(e:A1→B1→C1→p:=by intro a b c;simp(maxSteps:=4000000)(disch:=first|exact ddL|fail) only[go_sem,simprocAttr,a,b,c]):p:=e a b c
theorem wC4{p A1 B1 C1 D1:Prop}(a:A1)(b:B1)(c:C1)(d:D1)(e:A1→B1→C1→D1→p:=by intro a b c d;simp(maxSteps:=4000000)(disch:=first|exact ddL|fail) only[go_sem,simprocAttr,a,b,c,d]):p:=e a b c d
theorem wC5{p A1 B1 C1 D1 F1:Prop}(a:A1)(b:B1)(c:C1)(d:D1)(f:F1)(e:A1→B1→C1→D1→F1→p:=by intro a b c d f;simp(maxSteps:=4000000)(disch:=first|exact ddL|fail) only[go_sem,simprocAttr,a,b,c,d,f]):p:=e a b c d f
theorem wC6{p A1 B1 C1 D1 F1 G1:Prop}(a:A1)(b:B1)(c:C1)(d:D1)(f:F1)(g:G1)(e:A1→B1→C1→D1→F1→G1→p:=by intro a b c d f g;simp(maxSteps:=4000000)(disch:=first|exact ddL|fail) only[go_sem,simprocAttr,a,b,c,d,f,g]):p:=e a b c d f g
theorem wC7{p A1 B1 C1 D1 F1 G1 I1:Prop}(a:A1)(b:B1)(c:C1)(d:D1)(f:F1)(g:G1)(i:I1)(e:A1→B1→C1→D1→F1→G1→I1→p:=by intro a b c d f g i;simp(maxSteps:=4000000)(disch:=first|exact ddL|fail) only[go_sem,simprocAttr,a,b,c,d,f,g,i]):p:=e a b c d f g i
theorem wC8{p A1 B1 C1 D1 F1 G1 I1 J1:Prop}(a:A1)(b:B1)(c:C1)(d:D1)(f:F1)(g:G1)(i:I1)(j:J1)(e:A1→B1→C1→D1→F1→G1→I1→J1→p:=by intro a b c d f g i j;simp(maxSteps:=4000000)(disch:=first|exact ddL|fail) only[go_sem,simprocAttr,a,b,c,d,f,g,i,j]):p:=e a b c d f g i j
attribute [go_sem] td3 td4 td5 td9 VG Kr VH Ud Ue Xi Xj Xk Xl BX Xm Xn Xo Xp Xq A6 Ks R9 Uf Xr Xs BY WU Xt Xu LJ LK UD R8 WC WD WE WG WH UE WI WJ WK WL WM WN mQ WO HS WQ WR WS UF WT Wm UU
end

section
theorem F8.ext{f g:F8}(h:∀i,i<8→f.get i=g.get i):f=g:=by
 obtain⟨a,ha⟩:=f
 obtain⟨b,hb⟩:=g
 have:a=b:=by
  apply List.ext_getElem oM
  intro i h1 h2
  have:=h i oM
  simpa[F8.get,List.getD,h1,h2] using this
 subst this;rfl
theorem F8.KZ(f:F8)(i j:Nat)(v:VA)(hi:i<8):(f.set i v).get j=if i=j then v else f.get j:=by
 have:=f.h
 simp only[F8.get,F8.set,List.getD_eq_getElem?_getD,List.getElem?_set]
 split
 ·rename_i e
  subst e
  rw[if_pos oM];rfl
 ·rfl
theorem F8.KD(f:F8)(p:VA→Bool):f.l.all p=true↔∀i,i<8→p (f.get i)=true:=by
 rw[List.all_eq_true]
 constructor
 ·intro h i hi
  refine h _ ?_
  have:i<f.l.length:=by rw[f.h];exact hi
  rw[F8.get,List.getD_eq_getElem?_getD,List.getElem?_eq_getElem this]
  exact List.getElem_mem _
 ·intro h x hx
  obtain⟨i,hi,rfl⟩:=List.mem_iff_getElem.1 hx
  have:=h i (by rw[←f.h];exact hi)
  rwa [F8.get,List.getD_eq_getElem?_getD,List.getElem?_eq_getElem hi] at this
theorem Uq{v:VA}(h:fH v=true)(h0:v.kd=0):v=va0:=by
 rcases (Sw v).1 h with⟨_,h⟩|⟨h,_⟩|⟨h,_⟩
 ·exact h
 ·omega
 ·omega
theorem Ui{n:Int}(h0:0≤n)(h:n≤4294967295):((UInt32.ofNat n.toNat).toNat:Int)=n:=by
 rw[UInt32.toNat_ofNat',Nat.mod_eq_of_lt oM];omega
end

section
theorem Sk.cond{α:Type}{f:RD→α × RD}(h:Sk f)(d:α)(b:Bool):Sk (fun r=>if b=true then f r else(d,r)):=⟨fun r hr=>by
 cases b
 ·rfl
 ·simpa using h.stk r hr,fun r=>by
 cases b
 ·exact List.suffix_refl _
 ·simpa using h.sfx r⟩
theorem Rt.cond{α:Type}{f:RD→α × RD}{ok:α→Prop}{w:α→BL}(h:Rt f ok w)(d:α)(b:Bool):Rt (fun r=>if b=true then f r else(d,r)) (fun x=>if b=true then ok x else x=d) (fun x=>if b=true then w x else[]) where
 fwd x l hx:=by
  cases b
  ·simp only[Bool.false_eq_true,if_false,List.nil_append] at hx ⊢;rw[hx]
  ·simp only[if_true] at hx ⊢;exact h.fwd x l hx
 bck r hr:=by
  cases b
  ·exact⟨by simpa using hr,by simp,by simp⟩
  ·simp only[if_true] at hr ⊢;exact h.bck r hr
end

section
open Go.Conc.Locks
section
variable {P:Program} {L:MuLink}
def Vk(n n':Int)(o:Option aW)(l:Nat)(σ:St)(k:MV→St→Prop):Prop:=match o with
 | some (.row t e [.int .i32 a::rest])=>gA (a=n) (bY (.tup []) (σ.set l (.row t e [.int .i32 n'::rest])) k)
 | _=>False
theorem Jn{n n' a:Int}{l:Nat}{σ:St}{k:MV→St→Prop}{t:TypeId}{e:Nat}{rest:List MV}:R (Vk n n' (some (.row t e [.int .i32 a::rest])) l σ k)=R (gA (E (a=n)) (bY (.tup []) (σ.set l (.row t e [.int .i32 n'::rest])) k)):=rfl
end
attribute [go_sem] Jn
end
end Go.Proofs.YtppdgejjmhdjhaaGreatDoor
