/- Parts of the proof, joined; conditions: those that its theorems name. -/
import Derived.Test.YtppdgejjmhdjhaaGreatDoorMaa
import Derived.MapKept
import Derived.Maps.RangeRun
import Derived.RangeFuncLeaves
import Derived.RangeFuncRecord
set_option linter.unusedVariables false
set_option linter.unusedSimpArgs false
set_option maxHeartbeats 4000000
namespace Go.Proofs.YtppdgejjmhdjhaaGreatDoor
section
open Go.MapKept
def isK(k:IntKind):MV→Bool
 | .int k' _=>decide (k'=k)
 | _=>false
def dJ(n:Int):List (MV × MV)→Option MV
 | []=>none
 | (.int _ m,v)::r=>if m=n then some v else dJ n r
 | _::r=>dJ n r
def gH(k:IntKind)(n:Int)(v:MV):List (MV × MV)→List (MV × MV)
 | []=>[(.int k n,v)]
 | (.int k' m,u)::r=>if m=n then(.int k' m,v)::r else(.int k' m,u)::gH k n v r
 | x::r=>x::gH k n v r
theorem o4{k:IntKind}{m:MV}(h:isK k m=true):∃n,m=.int k n:=by
 cases m<;>simp[isK] at h
 subst h;exact⟨_,rfl⟩
theorem nG{k:IntKind}{n:Int}{Φ:Phi}(v':MV):∀(l:List MapEntry) (es:List (MV × MV)) (i0:Nat),l.length=es.length→(es.all fun x=>isK k x.1)=true→(∀(i:Nat) (x:MV × MV),es[i]?=some x→∃e:MapEntry,l[i]?=some e∧Rel Φ e.key x.1) →
  (∀x:MapEntry,x∈l→IsKey (.int k) x.key)∧((dJ n es=none∧Instr.findNow (.int k) (.int k n) l i0=some none∧gH k n v' es=es++[(.int k n,v')]) ∨
   ∃(j:Nat) (e:MapEntry) (v:MV),dJ n es=some v∧Instr.findNow (.int k) (.int k n) l i0=some (some (i0+j,e.val))∧l[j]?=some e∧e.key=.int k n∧es[j]?=some (.int k n,v)∧gH k n v' es=es.set j (.int k n,v'))
 | [],[],_,_,_,_=>⟨by simp,.inl ⟨rfl,rfl,rfl⟩⟩
 | [],_::_,_,h,_,_=>by simp at h
 | _::_,[],_,h,_,_=>by simp at h
 | e::l,(x,u)::es,i0,hl,hk,hr=>by
  simp only[List.all_cons,Bool.and_eq_true] at hk
  obtain⟨m,rfl⟩:=o4 hk.1
  obtain⟨e',he',hrel⟩:=hr 0 _ rfl
  simp only[List.getElem?_cons_zero,Option.some.injEq] at he'
  subst he'
  have hkey:=hrel.aL
  obtain⟨q1,q2⟩:=nG (n:=n) v' l es (i0+1) (by simpa using hl) hk.2 fun i x hx=>hr (i+1) x (by simpa using hx)
  refine⟨?_,?_⟩
  ·intro y hy
   rcases List.mem_cons.1 hy with rfl|hy
   ·rw[hkey];exact rfl
   ·exact q1 y hy
  ·by_cases hmn:m=n
   ·subst hmn
    right
    refine⟨0,e,u,by simp[dJ],?_,rfl,hkey,rfl,by simp[gH]⟩
    simp[Instr.findNow,Instr.sameNow,hkey]
   ·have hf:Instr.findNow (.int k) (.int k n) (e::l) i0=Instr.findNow (.int k) (.int k n) l (i0+1):=by
     have:(n==m)=false:=by simpa using Ne.symm hmn
     simp[Instr.findNow,Instr.sameNow,hkey,this]
    rw[hf]
    rcases q2 with⟨a,b,c⟩|⟨j,e2,v,a,b,c,d,e3,f⟩
    ·exact .inl ⟨by simp[dJ,hmn,a],b,by simp[gH,hmn,c]⟩
    ·refine .inr ⟨j+1,e2,v,by simp[dJ,hmn,a],?_,by simpa using c,d,by simpa using e3,by simp[gH,hmn,f]⟩
     rw[b];simp;omega
theorem xI{Φ:Phi}{k:IntKind}{n:Int}:∀{es:List (MV × MV)} {x:MV × MV} {v:Value},dJ n es=none→(es.all fun p=>isK k p.1)=true→x∈es→Rel Φ v x.1→v≠.int k n
 | [],_,_,_,_,hx,_=>by cases hx
 | (y,u)::es,x,v,h0,hk,hx,hr=>by
  simp only[List.all_cons,Bool.and_eq_true] at hk
  obtain⟨m,rfl⟩:=o4 hk.1
  by_cases hm:m=n
  ·simp[dJ,hm] at h0
  ·simp only[dJ,if_neg hm] at h0
   rcases List.mem_cons.1 hx with rfl|hx
   ·rw[hr.aL]
    intro e;cases e;exact hm rfl
   ·exact xI h0 hk.2 hx hr
theorem cI.xY{Φ:Phi}{w:World}{l:Nat}{es:List (MV × MV)}(h:cI Φ w l (.mp es)):∃(p:Place) (R:Nat) (c:Array MapEntry) (clock:Nat),Φ.obj l=some p∧p.blk=some R∧w.heap[R]?=some (.map c clock)∧c.size=es.length∧Stamped c clock ∧
  ∀(i:Nat) (x:MV × MV),es[i]?=some x→∃e,c.toList[i]?=some e∧Rel Φ e.key x.1∧Rel Φ e.val x.2:=by
 obtain⟨p,R,hp,hR,c,clock,hh,⟨hs,hst⟩,hr⟩:=h
 refine⟨p,R,c,clock,hp,hR,hh,hs,hst,fun i x hx=>?_⟩
 have hi:=(List.getElem?_eq_some_iff.1 hx).1
 have hic:i<c.size:=by omega
 have:=hr i x hx
 rw[show c.getD i default=c[i] by simp[Array.getD,hic]] at this
 exact⟨c[i],by simp[hic],this⟩
theorem zT{P:Program}{o:Oper}{f:FR}{σ:St}{k:MV→St→Prop}{t:TypeId}(ho:o.op=.makeMap t none)(hk:∀l,σ l=none→k (.mapv l) (σ.set l (.mp []))):sop P o f σ k:=by
 intro Φ w a K Q' hi hr hK
 obtain⟨n,hn⟩:=hi.fresh.1.1
 have hl:=hn n (Nat.le_refl _)
 have hrun:(execOp a.eval o).run P w=.ok (.value (.map (some w.heap.size))) (w.alloc (.map #[] 0)):=by
  unfold execOp
  simp only[ho,Instr.makeMap,Option.map_none,Sem.run_bind,run_newObj,Result.andThen_ok,Sem.run_pure]
  rfl
 obtain⟨i1,s1⟩:=hi.alloc (w':=w.alloc (.map #[] 0)) n hl (.mp []) (.map #[] 0) ⟨some w.heap.size,0,1,1⟩ rfl rfl rfl rfl rfl (by first|exact Nat.le_refl _|exact fW (Nat.le_succ _))
  ⟨_,w.heap.size,Phi.bH _ _ _,rfl,#[],0,heap_alloc_new w _,⟨rfl,stamped_empty 0⟩,fun i x hx=>by simp at hx⟩
 exact aX hrun (hK _ (.mapv n) _ _ _ (Rel.mapv (Phi.bH _ _ _) rfl) i1 s1 (hk n (hi.dB hl)))
theorem BN{P:Program}{o:Oper}{f:FR}{σ:St}{k:MV→St→Prop}{t kt et:TypeId}{m x y:Operand}(ho:o.op=.insert t m x y∨o.op=.mapUpdate t m x y)(ht:(td P t).k=.map kt et){kd:IntKind}(hkt:(td P kt).k=.int kd)
 {l:Nat}{es:List (MV × MV)}(hm:aB f m=.mapv l)(hl:σ l=some (.mp es)){n:Int}(hx:aB f x=.int kd n)(he:(es.all fun p=>isK kd p.1)=true)
 (hk:k .junk (σ.set l (.mp (gH kd n (aB f y) es)))):sop P o f σ k:=by
 intro Φ w a K Q' hi hr hK
 have hum:=kR ht
 have huk:=fN hkt
 have rm:=aD hr m
 have rx:=aD hr x
 have ry:=aD hr y
 rw[hm] at rm
 rw[hx] at rx
 obtain⟨p,R,hp,hR,hmv⟩:=rm.iM
 have hxv:=rx.aL
 obtain⟨p',R',c,clock,hp',hR',hh,hs,hst,hrel⟩:=(hi.own l _ hl).xY
 rw[hp] at hp';cases hp'
 rw[hR] at hR';cases hR'
 obtain⟨hkeys,hfind⟩:=nG (n:=n) (aB f y) c.toList es 0 (by simpa using hs) he fun i z hz=>by
  obtain⟨e,h1,h2,_⟩:=hrel i z hz
  exact⟨e,h1,h2⟩
 have hrt:=(Array.getElem?_eq_some_iff.1 hh).1
 rcases hfind with⟨h0,h1,h2⟩|⟨j,e,v,_,h1,hj,hek,hes,h2⟩
 ·obtain⟨c',hc'⟩:∃c',c'=c.push { key:=a.eval x,val:=a.eval y,born:=clock }:=⟨_,rfl⟩
  have hrun:(execOp a.eval o).run P w=.ok .skip (dP w R (.map c' (clock+1))):=by
   unfold execOp
   rcases ho with ho|ho<;>simp only[ho] <;>
    simp[hmv,hxv,Instr.mapUpdate,run_underlying hum,Go.MapKept.run_getObj_map hh,run_checkKey (d:=.int kd) (k:=.int kd n) huk rfl,run_findKey (d:=.int kd) huk h1,run_setObj_map _ hh,Result.andThen,dP,hc']
  obtain⟨i1,s1⟩:=hi.zZ (w':=dP w R (.map c' (clock+1))) l hl (.mp (es++[(.int kd n,aB f y)])) hp hR fG (fun q hq=>cY hq) rfl rfl rfl (Nat.le_refl _)
   ⟨p,R,hp,hR,c',clock+1,eG hrt,⟨by rw[hc'];simp[hs],by
    rw[hc']
    refine stamped_push hst fun e1 he1=>?_
    obtain⟨i,hi1,rfl⟩:=List.mem_iff_getElem.1 he1
    have hi':i<es.length:=by rw[←hs];simpa using hi1
    obtain⟨e',q1,q2,_⟩:=hrel i es[i] (List.getElem?_eq_getElem hi')
    rw[List.getElem?_eq_getElem hi1] at q1
    cases q1
    rw[hxv]
    exact xI h0 he (List.getElem_mem hi') q2⟩,fun i z hz=>by
    rw[hc']
    by_cases hlt:i<es.length
    ·rw[List.getElem?_append_left hlt] at hz
     obtain⟨e,q1,q2,q3⟩:=hrel i z hz
     have:(c.push { key:=a.eval x,val:=a.eval y,born:=clock }).getD i default=e:=by
      have hic:i<c.size:=by omega
      have q1':c[i]?=some e:=by simpa using q1
      rw[Array.getD_eq_getD_getElem?,Array.getElem?_push,if_neg (by omega),q1'];rfl
     rw[this];exact⟨q2,q3⟩
    ·have hie:i=es.length:=by
      have:=(List.getElem?_eq_some_iff.1 hz).1
      simp at this;omega
     subst hie
     rw[List.getElem?_append_right (Nat.le_refl _)] at hz
     simp only[Nat.sub_self,List.getElem?_cons_zero,Option.some.injEq] at hz
     subst hz
     have:(c.push { key:=a.eval x,val:=a.eval y,born:=clock }).getD es.length default={ key:=a.eval x,val:=a.eval y,born:=clock }:=by
      rw[Array.getD_eq_getD_getElem?,Array.getElem?_push,if_pos (by omega)];rfl
     rw[this]
     exact⟨by simp only;rw[hxv];exact .int _ _,ry⟩⟩
  rw[←h2] at i1 s1
  exact vV hrun (hK _ .junk _ _ _ (.junk _) i1 s1 hk)
 ·have hjc:c[j]?=some e:=by simpa using hj
  obtain⟨c',hc'⟩:∃c',c'=c.modify j fun e=>{ e with key:=a.eval x,val:=a.eval y }:=⟨_,rfl⟩
  have hrun:(execOp a.eval o).run P w=.ok .skip (dP w R (.map c' clock)):=by
   unfold execOp
   rcases ho with ho|ho<;>simp only[ho] <;>
    simp[hmv,hxv,Instr.mapUpdate,run_underlying hum,Go.MapKept.run_getObj_map hh,run_checkKey (d:=.int kd) (k:=.int kd n) huk rfl,run_findKey (d:=.int kd) huk h1,hjc,hek,run_keyThatStays (d:=.int kd) (k:=.int kd n) rfl,run_setObj_map _ hh,Result.andThen,dP,hc']
  have hjlt:=(Array.getElem?_eq_some_iff.1 hjc).1
  obtain⟨i1,s1⟩:=hi.zZ (w':=dP w R (.map c' clock)) l hl (.mp (es.set j (.int kd n,aB f y))) hp hR fG (fun q hq=>cY hq) rfl rfl rfl (Nat.le_refl _)
   ⟨p,R,hp,hR,c',clock,eG hrt,⟨by rw[hc'];simp[hs],by
    rw[hc']
    exact stamped_modify hst j _ (fun _ _=>rfl) fun e' _ he'=>by rw[hjc] at he';cases he';exact hxv.trans hek.symm⟩,fun i z hz=>by
    rw[hc',Array.getD_eq_getD_getElem?,Array.getElem?_modify]
    by_cases hij:j=i
    ·subst hij
     rw[List.getElem?_set_self (by omega)] at hz
     cases hz
     rw[if_pos rfl,hjc]
     exact⟨by simp only[Option.map_some,Option.getD_some];rw[hxv];exact .int _ _,ry⟩
    ·rw[List.getElem?_set_ne hij] at hz
     obtain⟨e,q1,q2,q3⟩:=hrel i z hz
     have q1':c[i]?=some e:=by simpa using q1
     rw[if_neg hij,q1'];exact⟨q2,q3⟩⟩
  rw[←h2] at i1 s1
  exact vV hrun (hK _ .junk _ _ _ (.junk _) i1 s1 hk)
def oA(d:TD):MV:=if d.k.isAgg=true then .agg d.zero else d.zero.headD .junk
theorem BP{P:Program}{o:Oper}{f:FR}{σ:St}{k:MV→St→Prop}{t kt et:TypeId}{m x:Operand}{ok:Bool}(ho:o.op=.lookup t m x ok)(ht:(td P t).k=.map kt et){kd:IntKind}(hkt:(td P kt).k=.int kd)(hz:(td P et).zok=true)
 {l:Nat}{es:List (MV × MV)}(hm:aB f m=.mapv l)(hl:σ l=some (.mp es)){n:Int}(hx:aB f x=.int kd n)(he:(es.all fun p=>isK kd p.1)=true)
 (hk:k (if ok=true then .tup [(dJ n es).getD (oA (td P et)),.bool (dJ n es).isSome] else(dJ n es).getD (oA (td P et))) σ):sop P o f σ k:=by
 intro Φ w a K Q' hi hr hK
 have hum:=kR ht
 have huk:=fN hkt
 have rm:=aD hr m
 have rx:=aD hr x
 rw[hm] at rm
 rw[hx] at rx
 obtain⟨p,R,hp,hR,hmv⟩:=rm.iM
 have hxv:=rx.aL
 obtain⟨p',R',c,clock,hp',hR',hh,hs,hst,hrel⟩:=(hi.own l _ hl).xY
 rw[hp] at hp';cases hp'
 rw[hR] at hR';cases hR'
 obtain⟨hkeys,hfind⟩:=nG (n:=n) .junk c.toList es 0 (by simpa using hs) he fun i z hz=>by
  obtain⟨e,h1,h2,_⟩:=hrel i z hz
  exact⟨e,h1,h2⟩
 obtain⟨z,hz0,hz1,hz2,hok,hz3,hz4,hz5⟩:=bX hz w
 have fin:∀(v:Value) (u:MV) (b:Bool),Rel Φ v u→(Instr.lookup t (a.eval m) (a.eval x) ok).run P w=.ok (if ok=true then .tuple #[v,.bool b] else v) w→k (if ok=true then .tup [u,.bool b] else u) σ→o.wp P a w K Q':=fun v u b hv hrun hk=>by
  have hrun2:(execOp a.eval o).run P w=.ok (.value (if ok=true then .tuple #[v,.bool b] else v)) w:=by
   unfold execOp
   simp only[ho,Sem.run_bind,hrun,Result.andThen_ok,Sem.run_pure]
  refine aX hrun2 (hK _ _ _ _ _ ?_ hi (.refl _ _ _) hk)
  cases ok
  ·exact hv
  ·refine .tup rfl fun i q hq=>?_
   match i with
   | 0=>simp at hq;subst hq;exact hv
   | 1=>simp at hq;subst hq;exact .bool _
   | i+2=>simp at hq
 rcases hfind with⟨h0,h1,h2⟩|⟨j,e,v,h0,h1,hj,hek,hes,h2⟩
 ·rw[h0] at hk
  refine fin z (oA (td P et)) false ?_ ?_ hk
  ·unfold oA
   by_cases hag:(td P et).k.isAgg=true
   ·rw[if_pos hag]
    obtain⟨cs,rfl⟩:=hz4 hag
    exact(fH (Φ:=Φ) hz1 hz3).agg
   ·rw[if_neg hag]
    have h5:=hz5 (by simpa using hag)
    have rc:=fH (Φ:=Φ) hz1 hz3
    rw[h5] at rc
    have hlen:=rc.1
    match hzz:(td P et).zero with
    | []=>rw[hzz] at hlen;simp at hlen
    | q::_ =>
     rw[hzz] at rc
     have:=rc.2.2 0 q rfl
     simpa using this
  ·simp[hmv,hxv,Instr.lookup,run_underlying hum,Go.MapKept.run_getObj_map hh,run_checkKey (d:=.int kd) (k:=.int kd n) huk rfl,run_findKey (d:=.int kd) huk h1,hz0,Result.andThen]
 ·rw[h0] at hk
  obtain⟨e',q1,q2,q3⟩:=hrel j _ hes
  rw[hj] at q1;cases q1
  refine fin e.val v true q3 ?_ hk
  simp[hmv,hxv,Instr.lookup,run_underlying hum,Go.MapKept.run_getObj_map hh,run_checkKey (d:=.int kd) (k:=.int kd n) huk rfl,run_findKey (d:=.int kd) huk h1,Result.andThen]
end

section
open Go.MapKept
theorem EX{P:Program}{o:Oper}{f:FR}{σ:St}{k:MV→St→Prop}{t kt et:TypeId}{m:Operand}(ho:o.op=.range t m)(ht:(td P t).k=.map kt et)
 {l:Nat}{es:List (MV × MV)}(hm:aB f m=.mapv l)(hl:σ l=some (.mp es))
 (hk:∀q st ck,σ q=none→st.length=es.length→st.Nodup→(∀s,s∈st→s<ck)→k (.ptr q 0 0) ((σ.set l (.mk es st ck)).set q (.it l ck []))):sop P o f σ k:=by
 intro Φ w a K Q' hi hr hK
 have hum:=kR ht
 have rm:=aD hr m
 rw[hm] at rm
 obtain⟨p,R,hp,hR,hmv⟩:=rm.iM
 obtain⟨p',R',hp',hR',c,clock,hh,⟨hs,hst⟩,hrel⟩:=hi.own l _ hl
 rw[hp] at hp';cases hp'
 rw[hR] at hR';cases hR'
 have hst':=(stamped_iff c clock).1 hst
 obtain⟨i1,s1⟩:=hi.zZ (w':=w) l hl (.mk es (c.toList.map (·.born)) clock) hp hR rfl (fun _ _=>rfl) rfl rfl rfl (Nat.le_refl _) ⟨p,R,hp,hR,c,hh,⟨hs,hst,rfl⟩,hrel⟩
 obtain⟨n,hn⟩:=i1.fresh.1.1
 have hfr:=hn n (Nat.le_refl _)
 have hrun:(execOp a.eval o).run P w=.ok (.value (.pointer (some ⟨w.heap.size,0,none⟩))) (w.alloc (.mapIter (some R) clock #[] clock)):=by
  unfold execOp
  simp only[ho,hmv,Sem.run_bind,run_range_map w t kt et R c clock hum hh,Result.andThen_ok,Sem.run_pure]
 have hln:l≠n:=fun e=>by subst e;rw[hp] at hfr;cases hfr
 obtain⟨i2,s2⟩:=i1.alloc (w':=w.alloc (.mapIter (some R) clock #[] clock)) n hfr (.it l clock []) (.mapIter (some R) clock #[] clock) ⟨some w.heap.size,0,1,1⟩ rfl rfl rfl rfl rfl (by first|exact Nat.le_refl _|exact fW (Nat.le_succ _))
  ⟨_,w.heap.size,p,R,Phi.bH _ _ _,rfl,rfl,(Phi.lT _ hfr).obj _ _ hp,hR,heap_alloc_new w _⟩
 refine aX hrun (hK _ (.ptr n 0 0) _ _ _ ?_ i2 (s1.trans s2) (hk n _ clock (hi.dB hfr) (by simp[hs]) ?_ fun s h=>?_))
 ·have:=Rel.ptr (Φ:=Φ.put n ⟨some w.heap.size,0,1,1⟩) (l:=n) (i:=0) (o:=0) (Phi.bH _ _ _) rfl
  simpa using this
 ·exact hst'.2.1
 ·obtain⟨x,hx,rfl⟩:=List.mem_map.1 h
  exact hst'.1 x hx
theorem Hq{P:Program}{o:Oper}{f:FR}{σ:St}{k:MV→St→Prop}{x:Operand}(ho:o.op=.next x false){q l ck:Nat}{seen st:List Nat}{es:List (MV × MV)}(hx:aB f x=.ptr q 0 0)
 (hq:σ q=some (.it l ck seen))(hl:σ l=some (.mk es st ck))(h0:(∀s,s∈st→s∈seen)→k (.tup [.bool false]) σ)
 (h1:∀(i:Nat) (z:MV × MV) (s:Nat),es[i]?=some z→st[i]?=some s→s∉seen→k (.tup [.bool true,z.1,z.2]) (σ.set q (.it l ck (seen++[s])))):sop P o f σ k:=by
 intro Φ w a K Q' hi hr hK
 have rx:=aD hr x
 rw[hx] at rx
 obtain⟨p,R,hp,hR,hv⟩:=rx.eO
 obtain⟨p',R',pm,Rm,hp',hR',hbo,hpm,hRm,hit⟩:=hi.own q _ hq
 rw[hp] at hp';cases hp'
 rw[hR] at hR';cases hR'
 obtain⟨pl,Rl,hpl,hRl,c,hh,⟨hs,hst,hbn⟩,hrel⟩:=hi.own l _ hl
 rw[hpm] at hpl;cases hpl
 rw[hRm] at hRl;cases hRl
 have hst':=(stamped_iff c ck).1 hst
 rw[hbo,Nat.zero_mul] at hv
 have hv:a.eval x=.pointer (some ⟨R,0,none⟩):=by simpa using hv
 rcases run_next_at (P:=P) w o.type R Rm ck ck seen.toArray c ck hit hh hst'.1 (Nat.le_refl _) with⟨h2,hrun⟩|⟨e,he,w1,hw1,hrun⟩
 ·have hrun':(execOp a.eval o).run P w=.ok (.value (.tuple #[.bool false])) w:=by
   unfold execOp
   simp only[ho,hv,Sem.run_bind,hrun,Result.andThen_ok,Sem.run_pure]
  refine aX hrun' (hK _ (.tup [.bool false]) _ _ _ ?_ hi (.refl _ _ _) (h0 fun s h=>?_))
  ·refine .tup rfl fun i z hz=>?_
   match i with
   | 0=>simp at hz;subst hz;exact .bool _
   | i+1=>simp at hz
  ·rw[←hbn] at h
   obtain⟨y,hy,rfl⟩:=List.mem_map.1 h
   have:=all_seen c seen.toArray h2 y hy
   simpa using this
 ·obtain⟨hem,hes⟩:=mem_left he
  obtain⟨i,hi1,hie⟩:=List.mem_iff_getElem.1 hem
  have hic:i<c.size:=by simpa using hi1
  have hie':c.toList[i]?=some e:=by rw[List.getElem?_eq_getElem hi1,hie]
  have hz:es[i]?=some (es[i]'(by omega)):=List.getElem?_eq_getElem (by omega)
  obtain⟨z,hzz⟩:∃z,es[i]'(by omega)=z:=⟨_,rfl⟩
  rw[hzz] at hz
  have hrz:=hrel i z hz
  rw[show c.getD i default=e by
   have:c[i]=e:=by rw[←hie];simp
   simp[Array.getD,hic,this]] at hrz
  have hsi:st[i]?=some e.born:=by rw[←hbn,List.getElem?_map,hie'];rfl
  have hns:e.born∉seen:=by simpa using hes
  have hrun':(execOp a.eval o).run P w=.ok (.value (.tuple #[.bool true,e.key,e.val])) (Go.ChangeMaps.setBlock w1 R (.mapIter (some Rm) ck (seen.toArray.push e.born) ck)):=by
   unfold execOp
   simp only[ho,hv,Sem.run_bind,hrun,Result.andThen_ok,Sem.run_pure]
  have hRlt:=(Array.getElem?_eq_some_iff.1 hit).1
  have hheap:(Go.ChangeMaps.setBlock w1 R (.mapIter (some Rm) ck (seen.toArray.push e.born) ck)).heap=w.heap.setIfInBounds R (.mapIter (some Rm) ck (seen.toArray.push e.born) ck):=by
   rcases hw1 with rfl|rfl<;>rfl
  have hdr:drw w≤drw (Go.ChangeMaps.setBlock w1 R (.mapIter (some Rm) ck (seen.toArray.push e.born) ck)):=by
   rcases hw1 with rfl|rfl
   ·exact Nat.le_refl _
   ·exact fW (Nat.le_succ _)
  obtain⟨i1,s1⟩:=hi.zZ (w':=Go.ChangeMaps.setBlock w1 R (.mapIter (some Rm) ck (seen.toArray.push e.born) ck)) q hq (.it l ck (seen++[e.born])) hp hR (by rw[hheap];simp) (fun j hj=>by
    rw[hheap,Array.getElem?_setIfInBounds,if_neg (Ne.symm hj)]) (by rcases hw1 with rfl|rfl<;>rfl) (by rcases hw1 with rfl|rfl<;>rfl) (by rcases hw1 with rfl|rfl<;>rfl) hdr
   ⟨p,R,pm,Rm,hp,hR,hbo,hpm,hRm,by
    rw[hheap,Array.getElem?_setIfInBounds,if_pos rfl,if_pos hRlt]
    simp⟩
  refine aX hrun' (hK _ (.tup [.bool true,z.1,z.2]) _ _ _ ?_ i1 s1 (h1 i z e.born hz hsi hns))
  refine .tup rfl fun j m hm=>?_
  match j with
  | 0=>simp at hm;subst hm;exact .bool _
  | 1=>simp at hm;subst hm;exact hrz.1
  | 2=>simp at hm;subst hm;exact hrz.2
  | j+3=>simp at hm
theorem EV{P:Program}{o:Oper}{f:FR}{σ:St}{k:MV→St→Prop}{x:Operand}(ho:o.op=.entry x){q l ck:Nat}{seen st:List Nat}{es:List (MV × MV)}(hx:aB f x=.ptr q 0 0)
 {i s:Nat}{z:MV × MV}(hq:σ q=some (.it l ck (seen++[s])))(hl:σ l=some (.mk es st ck))(hz:es[i]?=some z)(hsi:st[i]?=some s)(hk:k (.tup [z.1,z.2]) σ):sop P o f σ k:=by
 intro Φ w a K Q' hi hr hK
 have rx:=aD hr x
 rw[hx] at rx
 obtain⟨p,R,hp,hR,hv⟩:=rx.eO
 obtain⟨p',R',pm,Rm,hp',hR',hbo,hpm,hRm,hit⟩:=hi.own q _ hq
 rw[hp] at hp';cases hp'
 rw[hR] at hR';cases hR'
 obtain⟨pl,Rl,hpl,hRl,c,hh,⟨hs,hst,hbn⟩,hrel⟩:=hi.own l _ hl
 rw[hpm] at hpl;cases hpl
 rw[hRm] at hRl;cases hRl
 have hst':=(stamped_iff c ck).1 hst
 rw[hbo,Nat.zero_mul] at hv
 have hv:a.eval x=.pointer (some ⟨R,0,none⟩):=by simpa using hv
 have hil:i<es.length:=(List.getElem?_eq_some_iff.1 hz).1
 have hic:i<c.size:=by omega
 have hci:c.toList[i]?=some c[i]:=by simp[hic]
 have hbi:c[i].born=s:=by
  rw[←hbn,List.getElem?_map,hci] at hsi
  simpa using hsi
 have hrz:=hrel i z hz
 rw[show c.getD i default=c[i] by simp[Array.getD,hic]] at hrz
 have hrun:(execOp a.eval o).run P w=.ok (.value (.tuple #[c[i].key,c[i].val])) w:=by
  unfold execOp
  simp only[ho,hv,Sem.run_bind,run_entry_at (P:=P) w R Rm ck seen.toArray c ck c[i] (by rw[hbi];simpa using hit) hh (List.mem_of_getElem? hci) (hst'.2.1),Result.andThen_ok,Sem.run_pure]
 refine aX hrun (hK _ (.tup [z.1,z.2]) _ _ _ ?_ hi (.refl _ _ _) hk)
 refine .tup rfl fun j m hm=>?_
 match j with
 | 0=>simp at hm;subst hm;exact hrz.1
 | 1=>simp at hm;subst hm;exact hrz.2
 | j+2=>simp at hm
end

section
def Fits(n b:Nat):Prop:=n≤140737488355328∧n * b≤140737488355328
def mpure(σ:St)(k:MV→St→Prop):PV→Prop
  | some (C,v)=>C∧k v σ
  | none=>False
def iD(P:Program)(t:TypeId)(x:MV)(σ:St)(k:MV→St→Prop):Prop :=
  match x with
  | .ptr l i o=>match σ l with
    | some (.row _ _ xs)=>((td P t).ok=true∧i<xs.length∧o+(td P t).size≤(xs.getD i []).length∧0<(td P t).size)∧k (cB (td P t) (xs.getD i []) o) σ
    | _=>False
  | .cptr cs=>((td P t).ok=true∧(td P t).size≤cs.length∧0<(td P t).size)∧k (cB (td P t) cs 0) σ
  | _=>False
def kB(P:Program)(t:TypeId)(x y:MV)(σ:St)(k:MV→St→Prop):Prop :=
  match x with
  | .ptr l i o=>match σ l with
    | some (.row tt e xs)=>((td P t).ok=true∧i<xs.length∧y.cells.all MV.aF=true∧y.cells.length=(td P t).size∧o+y.cells.length≤(xs.getD i []).length)∧k .junk (σ.set l (.row tt e (xs.set i (laid (xs.getD i []) o y.cells))))
    | _=>False
  | _=>False
def gK(P:Program)(t xt:TypeId)(s x:MV)(σ:St)(k:MV→St→Prop):Prop :=
  match (td P t).k with
  | .slice el=>match eS σ (td P el).size x with
    | some ys=>match s with
      | .aZ=>((td P xt).k.dM=true∧(td P el).zok=true∧Fits ys.length (td P el).bytes)∧∀l,σ l=none→k (.vec (td P el).size l 0 ys.length) (σ.set l (.row el (td P el).size ys))
      | .lst e xs true=>((td P xt).k.dM=true∧(td P el).zok=true∧e=(td P el).size∧(xs=[]∨0<ys.length)∧Fits (xs.length+ys.length) (td P el).bytes) ∧
          ∀l,σ l=none→k (.vec (td P el).size l 0 (xs.length+ys.length)) (σ.set l (.row el (td P el).size (xs++ys)))
      | .vec e l lo n=>match σ l with
        | some (.row tt e' xs)=>((td P xt).k.dM=true∧(td P el).zok=true∧e=(td P el).size∧e'=(td P el).size∧tt=el∧lo=0∧lo+n≤xs.length∧Fits (n+ys.length) (td P el).bytes) ∧
            ∀l',σ l'=none→k (.vec (td P el).size l' 0 (n+ys.length)) ((σ.del l).set l' (.row el (td P el).size (dE xs lo n ys)))
        | _=>False
      | _=>False
    | none=>False
  | _=>False
def b7(P:Program)(f:FR)(t:TypeId)(len:Nat)(parts:Array (Nat × Operand))(σ:St)(k:MV→St→Prop):Prop :=
  match (td P t).k with
  | .slice el=>((td P el).zok=true∧parts.toList.map (·.1)=List.range len∧(parts.toList.all fun p=>(aB f p.2).cells.all MV.aF&&(aB f p.2).cells.length==(td P el).size)=true∧len * (td P el).size≤16777216∧len≤16777216) ∧
      ∀l,σ l=none→k (.vec (td P el).size l 0 len) (σ.set l (.row el (td P el).size (parts.toList.map fun p=>(aB f p.2).cells)))
  | _=>False
def fB(P:Program)(t:TypeId)(x y:MV)(σ:St)(k:MV→St→Prop):Prop :=
  match (td P t).k,x,y with
  | .slice el,.int .i64 n,.int .i64 c=>((td P el).zok=true∧0≤n∧n≤c∧Fits c.toNat (td P el).bytes)∧∀l,σ l=none→k (.vec (td P el).size l 0 n.toNat) (σ.set l (.row el (td P el).size (List.replicate n.toNat (td P el).zero)))
  | _,_,_=>False
def eR(P:Program)(s d:TypeId)(x:MV)(σ:St)(k:MV→St→Prop):Prop :=
  match (td P s).k,(td P d).k,x with
  | .str,.slice el,.str b=>((td P el).k=.int .u8∧FZ el=true∧b.size≤140737488355328)∧∀l,σ l=none→k (.vec 1 l 0 b.size) (σ.set l (.row el 1 (b.toList.map fun c=>[.int .u8 (c.toNat:Int)])))
  | .slice el,.str,.str _=>False
  | .slice el,.str,x=>match eS σ 1 x with
    | some ys=>((td P el).k=.int .u8∧ys.all isByte=true)∧k (.str (bytesOf ys)) σ
    | none=>False
  | _,_,x=>mpure σ k (mH P s d x)
def eC(P:Program)(f:FR)(b:Builtin)(args:List Operand)(ts:List TypeId)(σ:St)(k:MV→St→Prop):Prop :=
  match b with
  | .append=>match args,ts with
    | [s,x],[t,xt]=>gK P t xt (aB f s) (aB f x) σ k
    | _,_=>False
  | b=>ts.length=args.length∧mpure σ k (cM P b ts.toArray (args.map (aB f)))
def Ct(P:Program)(f:FR)(c:Call)(σ:St)(k:MV→St→Prop):Prop :=
  match c.callee with
  | .builtin b=>eC P f b c.args.toList c.argTypes.toList σ k
  | .value x=>match aB f x with
    | .fn (.func g) ms ns=>aA P g (ms++c.args.toList.map (aB f)++ns) σ k
    | _=>False
  | .invoke _ _=>False
def mapOf(σ:St):MV→Option aO
  | .mapv l=>σ l
  | _=>none
def dX(P:Program)(t:TypeId)(m x y:MV)(o:Option aO)(σ:St)(k:MV→St→Prop):Prop :=
  match (td P t).k,m,x,o with
  | .map kt _,.mapv l,.int kd n,some (.mp es)=>((td P kt).k=.int kd∧(es.all fun p=>isK kd p.1)=true)∧k .junk (σ.set l (.mp (gH kd n y es)))
  | _,_,_,_=>False
def dY(P:Program)(t:TypeId)(m x:MV)(ok:Bool)(o:Option aO)(σ:St)(k:MV→St→Prop):Prop :=
  match (td P t).k,m,x,o with
  | .map kt et,.mapv _,.int kd n,some (.mp es)=>((td P kt).k=.int kd∧(td P et).zok=true∧(es.all fun p=>isK kd p.1)=true)∧k (if ok=true then .tup [(dJ n es).getD (oA (td P et)),.bool (dJ n es).isSome] else(dJ n es).getD (oA (td P et))) σ
  | _,_,_,_=>False
def Bp(P:Program)(t:TypeId)(m:MV)(o:Option aO)(σ:St)(k:MV→St→Prop):Prop :=
  match (td P t).k,m,o with
  | .map _ _,.mapv l,some (.mp es)=>∀q st ck,σ q=none→st.length=es.length→st.Nodup→(∀s,s∈st→s<ck)→k (.ptr q 0 0) ((σ.set l (.mk es st ck)).set q (.it l ck []))
  | _,_,_=>False
def Gp(x:MV)(σ:St)(k:MV→St→Prop):Prop :=
  match x with
  | .ptr q 0 0=>∃l ck seen es st,σ q=some (.it l ck seen)∧σ l=some (.mk es st ck)∧((∀s,s∈st→s∈seen)→k (.tup [.bool false]) σ) ∧
      ∀(i:Nat) (z:MV × MV) (s:Nat),es[i]?=some z→st[i]?=some s→s∉seen→k (.tup [.bool true,z.1,z.2]) (σ.set q (.it l ck (seen++[s])))
  | _=>False
def A7(x:MV)(σ:St)(k:MV→St→Prop):Prop :=
  match x with
  | .ptr q 0 0=>∃l ck seen es st,∃(i:Nat) (z:MV × MV) (s:Nat),σ q=some (.it l ck (seen++[s]))∧σ l=some (.mk es st ck)∧es[i]?=some z∧st[i]?=some s∧k (.tup [z.1,z.2]) σ
  | _=>False
def mop(P:Program)(f:FR)(σ:St)(k:MV→St→Prop):Op→Prop
  | .alloc t=>(td P t).zok=true∧∀l,σ l=none→k (.ptr l 0 0) (σ.set l (.row t (td P t).size [(td P t).zero]))
  | .box t x=>(aB f x).cells.all MV.aF=true∧∀l,σ l=none→k (.ptr l 0 0) (σ.set l (.row t (aB f x).cells.length [(aB f x).cells]))
  | .load t x=>iD P t (aB f x) σ k
  | .store t x y=>kB P t (aB f x) (aB f y) σ k
  | .buildSlice t len parts=>b7 P f t len parts σ k
  | .makeSlice t x y=>fB P t (aB f x) (aB f y) σ k
  | .convert s d x=>eR P s d (aB f x) σ k
  | .call c=>Ct P f c σ k
  | .lookup t m x ok=>dY P t (aB f m) (aB f x) ok (mapOf σ (aB f m)) σ k
  | .mapUpdate t m x y=>dX P t (aB f m) (aB f x) (aB f y) (mapOf σ (aB f m)) σ k
  | op=>mpure σ k (qop P f op)
theorem kA{P:Program}{o:Oper}{f:FR}{σ:St}{k:MV→St→Prop}(h:mpure σ k (qop P f o.op))(hot:mL o.op=true):sop P o f σ k:=by
  cases hq:qop P f o.op with
  | none=>rw[hq] at h;exact h.elim
  | some q=>obtain⟨C,v⟩:=q;rw[hq] at h;exact Hr hq hot h.1 h.2
theorem iO{n:Nat}(h:n≤140737488355328):n≤maxLen:=Nat.le_trans h (by unfold maxLen;omega)
theorem tQ{l:List MV}(h:l.all MV.aF=true):∀c,c∈l→c.aF=true:=by simpa using h
theorem yI{P:Program}{o:Oper}{f:FR}{σ:St}{k:MV→St→Prop}{t:TypeId}{x:Operand}(ho:o.op=.load t x)(h:iD P t (aB f x) σ k):sop P o f σ k:=by
  unfold iD at h
  split at h
  · rename_i l i of hx
    split at h
    · rename_i tt e xs hs
      exact Hp ho hx hs h.1.1 h.1.2.1 h.1.2.2.1 h.1.2.2.2 h.2
    · exact h.elim
  · rename_i cs hx
    exact EU ho hx h.1.1 h.1.2.1 h.1.2.2 h.2
  · exact h.elim
theorem iG{P:Program}{o:Oper}{f:FR}{σ:St}{k:MV→St→Prop}{t:TypeId}{m x y:Operand}(ho:o.op=.insert t m x y∨o.op=.mapUpdate t m x y)(h:dX P t (aB f m) (aB f x) (aB f y) (mapOf σ (aB f m)) σ k):sop P o f σ k:=by
  unfold dX at h
  split at h
  · rename_i kt et l kd n es h1 h2 h3 h4
    rw[h2] at h4
    exact BN ho h1 h.1.1 h2 h4 h3 h.1.2 h.2
  · exact h.elim
theorem k9{P:Program}{o:Oper}{f:FR}{σ:St}{k:MV→St→Prop}{t:TypeId}{m x:Operand}{ok:Bool}(ho:o.op=.lookup t m x ok)(h:dY P t (aB f m) (aB f x) ok (mapOf σ (aB f m)) σ k):sop P o f σ k:=by
  unfold dY at h
  split at h
  · rename_i kt et l kd n es h1 h2 h3 h4
    rw[h2] at h4
    exact BP ho h1 h.1.1 h.1.2.1 h2 h4 h3 h.1.2.2 h.2
  · exact h.elim
theorem uO{P:Program}{o:Oper}{f:FR}{σ:St}{k:MV→St→Prop}{t:TypeId}{m:Operand}(ho:o.op=.range t m)(h:Bp P t (aB f m) (mapOf σ (aB f m)) σ k):sop P o f σ k:=by
  unfold Bp at h
  split at h
  · rename_i kt et l es h1 h2 h3
    rw[h2] at h3
    exact EX ho h1 h2 h3 h
  · exact h.elim
theorem yK{P:Program}{o:Oper}{f:FR}{σ:St}{k:MV→St→Prop}{x:Operand}(ho:o.op=.next x false)(h:Gp (aB f x) σ k):sop P o f σ k:=by
  unfold Gp at h
  split at h
  · rename_i q hx
    obtain⟨l,ck,seen,es,st,h1,h2,h3,h4⟩:=h
    exact Hq ho hx h1 h2 h3 h4
  · exact h.elim
theorem uH{P:Program}{o:Oper}{f:FR}{σ:St}{k:MV→St→Prop}{x:Operand}(ho:o.op=.entry x)(h:A7 (aB f x) σ k):sop P o f σ k:=by
  unfold A7 at h
  split at h
  · rename_i q hx
    obtain⟨l,ck,seen,es,st,i,z,s,h1,h2,h3,h4,h5⟩:=h
    exact EV ho hx h1 h2 h3 h4 h5
  · exact h.elim
theorem iP{P:Program}{o:Oper}{f:FR}{σ:St}{k:MV→St→Prop}(h:mop P f σ k o.op):sop P o f σ k:=by
  cases ho:o.op<;>rw[ho] at h<;>simp only[mop] at h
  case alloc t=>exact ES ho h.1 h.2
  case box t x=>exact I9 ho (tQ h.1) h.2
  case load t x=>exact yI ho h
  case lookup t m x ok=>exact k9 ho h
  case mapUpdate t m x y=>exact iG (.inr ho) h
  case store t x y =>
    unfold kB at h
    split at h
    · rename_i l i of hx
      split at h
      · rename_i tt e xs hs
        obtain⟨⟨h1,h2,h3,h4,h5⟩,h6⟩:=h
        exact EY ho hx hs h1 h2 (tQ h3) h4 h5 h6
      · exact h.elim
    · exact h.elim
  case buildSlice t len parts =>
    unfold b7 at h
    split at h
    · rename_i el hk
      obtain⟨⟨h1,h2,h3,h4,h5⟩,h6⟩:=h
      refine q0 ho hk h1 h2 (fun p hp=>?_) h4 (iO (by omega)) h6
      have:=List.all_eq_true.1 h3 p hp
      simp only[Bool.and_eq_true,beq_iff_eq] at this
      exact⟨tQ this.1,this.2⟩
    · exact h.elim
  case makeSlice t x y =>
    unfold fB at h
    split at h
    · rename_i el n c hk hx hy
      obtain⟨⟨h1,h2,h3,h4⟩,h6⟩:=h
      obtain⟨h7,h8⟩:=h4
      refine sI ho hk h1 hx hy h2 h3 (by omega) ?_ h6
      have:c=(c.toNat:Int):=by omega
      rw[this,Int.mul_comm,←Int.natCast_mul]
      exact Int.ofNat_le.2 h8
    · exact h.elim
  case convert s d x =>
    unfold eR at h
    split at h
    · rename_i el b hs hd hx
      exact EW ho hs hd h.1.1 h.1.2.1 hx (iO h.1.2.2) h.2
    · exact h.elim
    · rename_i el hs hd hne
      split at h
      · rename_i ys hy
        exact EZ ho hs h.1.1 hd hy (fun b hb=>hne b hb) h.1.2 h.2
      · exact h.elim
    · refine kA ?_ (by rw[ho];rfl)
      rw[ho]
      exact h
  case call c =>
    obtain⟨callee,args,ts⟩:=c
    unfold Ct at h
    cases callee with
    | builtin b =>
      simp only[eC] at h
      split at h
      · split at h
        · rename_i s x t xt ha hts
          have ha':args=#[s,x]:=by rw[←Array.toArray_toList (xs:=args),ha]
          have hts':ts=#[t,xt]:=by rw[←Array.toArray_toList (xs:=ts),hts]
          subst ha';subst hts'
          unfold gK at h
          split at h
          · rename_i el hk
            split at h
            · rename_i ys hy
              split at h
              · rename_i hs
                obtain⟨⟨h1,h2,h3⟩,h4⟩:=h
                have:=kJ (P:=P) (f:=f) (σ:=σ) (k:=k) ho hk h1 h2 (xs:=[]) (ys:=ys) (.inl ⟨hs,rfl⟩) hy (.inl rfl) (iO (by simpa using h3.1)) (by simpa using h3.2) (by simpa using h4)
                exact this
              · rename_i e xs hs
                obtain⟨⟨h1,h2,rfl,h3,h4⟩,h5⟩:=h
                exact kJ (P:=P) (f:=f) (σ:=σ) (k:=k) ho hk h1 h2 (.inr hs) hy h3 (iO h4.1) h4.2 h5
              · rename_i e l lo n hs
                split at h
                · rename_i tt e' xs hsl
                  obtain⟨⟨h1,h2,rfl,rfl,h3,hlo,h4,h5⟩,h6⟩:=h
                  exact qZ (P:=P) (f:=f) (σ:=σ) (k:=k) ho hk h1 h2 hs hsl h3 hlo h4 hy (iO h5.1) h5.2 h6
                · exact h.elim
              · exact h.elim
            · exact h.elim
          · exact h.elim
        · exact h.elim
      · rename_i b' hne
        refine kA (P:=P) (f:=f) ?_ (by rw[ho];simp only[mL,beq_iff_eq];simpa using h.1)
        rw[ho]
        simpa[qop] using h.2
    | value x =>
      simp only at h
      split at h
      · rename_i g ms ns hx
        exact Ho ho hx h
      · exact h.elim
    | invoke r m=>exact h.elim
  all_goals first
    | exact kA (by rw[ho];exact h) (by rw[ho];rfl)
    | exact h.elim
def aU(f:FR)(dst:Option Tmp)(v:MV):FR :=
  match dst with
  | some d=>if d<f.n then⟨f.n,(d,v)::f.l,f.d⟩ else f
  | none=>f
theorem bV{Φ:Phi}{a:Act}{f:FR}(hr:bS Φ a.tmps f)(dst:Option Tmp){v:Value}{m:MV}(h:Rel Φ v m):bS Φ (a.put dst v).tmps (aU f dst m):=by
  cases dst with
  | none=>exact hr
  | some d =>
    have e1:=hr.1
    simp only[aU]
    split
    · rename_i hd
      refine⟨by simp[Act.put,e1],fun t=>?_⟩
      simp only[Act.put,Array.getD_eq_getD_getElem?,Array.getElem?_setIfInBounds,FR.get,bI]
      by_cases ht:t=d
      · subst ht
        rw[if_pos rfl,if_pos rfl,if_pos (show t<a.tmps.size by rw[e1];exact hd)]
        exact h
      · rw[if_neg (Ne.symm ht),if_neg ht]
        have:=hr.2 t
        rwa [Array.getD_eq_getD_getElem?] at this
    · rename_i hd
      refine⟨by simp[Act.put,e1],fun t=>?_⟩
      have hd':¬d<a.tmps.size:=by rw[e1];exact hd
      have:(a.put (some d) v).tmps=a.tmps:=by simp only[Act.put,Array.setIfInBounds,dif_neg hd']
      rw[this]
      exact hr.2 t
theorem a8{a:Act}(dst:Option Tmp)(v:Value):(a.put dst v).defers=a.defers:=by cases dst<;>rfl
theorem eF{Φ:Phi}:Rel Φ undef (.tup []):=.tup rfl (fun i m h=>by simp at h)
def dT(ops:Array Oper)(f:FR)(o:Oper)(yes no:Prop):Prop :=
  match o.guard with
  | none=>yes
  | some (j,want)=>match (ops[j]?).bind (·.dst) with
    | some t=>match f.get t with
      | .bool b=>(b=want→yes)∧(b=(!want)→no)
      | .tup []=>no
      | _=>False
    | none=>False
theorem bN{Φ:Phi}{ops:Array Oper}{f:FR}{o:Oper}{yes no:Prop}(h:dT ops f o yes no){a:Act}(hr:bS Φ a.tmps f) :
    (Region.wanted o (yielded ops a.tmps)=true∧yes)∨(Region.wanted o (yielded ops a.tmps)=false∧no):=by
  unfold dT at h
  unfold Region.wanted
  split at h
  · rename_i hg;rw[hg];exact .inl ⟨rfl,h⟩
  · rename_i j want hg
    rw[hg]
    simp only
    split at h
    · rename_i t ht
      split at h
      · rename_i b hb
        have hy:yielded ops a.tmps j=some b:=by
          unfold yielded
          rw[ht]
          have hrel:=hr.2 t
          rw[hb] at hrel
          have hrel:=hrel.gT
          have hlt2:t<a.tmps.size:=by
            rcases Nat.lt_or_ge t a.tmps.size with q|q
            · exact q
            · simp[Array.getD_eq_getD_getElem?,Array.getElem?_eq_none q,undef] at hrel
          rw[Array.getD_eq_getD_getElem?,Array.getElem?_eq_getElem hlt2] at hrel
          simp only[Option.getD_some] at hrel
          simp[Array.getElem?_eq_getElem hlt2,hrel]
        rw[hy]
        by_cases hw:b=want
        · left;subst hw;exact⟨by simp,h.1 rfl⟩
        · right
          have hb':b=!want:=by cases b<;>cases want<;>simp at hw ⊢
          exact⟨by simp[hw],h.2 hb'⟩
      · rename_i hb
        right
        have hrel:=hr.2 t
        rw[hb] at hrel
        obtain⟨cs,e,hs,_⟩:=hrel.uA
        have hy:yielded ops a.tmps j=none:=by
          unfold yielded
          rw[ht]
          rcases Nat.lt_or_ge t a.tmps.size with q|q
          · rw[Array.getD_eq_getD_getElem?,Array.getElem?_eq_getElem q] at e
            simp only[Option.getD_some] at e
            simp[Array.getElem?_eq_getElem q,e]
          · simp[Array.getElem?_eq_none q]
        rw[hy]
        exact⟨by simp,h⟩
      · exact h.elim
    · exact h.elim
def pZ(f:FR)(c:Call)(K:FR→Prop):Prop:=match c.callee with
  | .value x=>match aB f x with
    | .fn (.func g) ms ns=>K ⟨f.n,f.l,(g,ms++c.args.toList.map (aB f)++ns)::f.d⟩
    | _=>False
  | _=>False
def Cy(P:Program)(t:TypeId)(x lo hi:MV)(o:Option aO)(σ:St)(k:MV→St→Prop):Prop :=
  match x,lo,hi,o,(td P t).k with
  | .vec e l l0 _,.int _ a,.int _ h,some (.row _ e' xs),.slice el=>((td P el).ok=true∧e=(td P el).size∧e'=(td P el).size∧0≤a∧a≤h∧l0+h.toNat≤xs.length)∧k (.vec e l (l0+a.toNat) (h.toNat - a.toNat)) σ
  | _,_,_,_,_=>False
def Jo(σ:St):MV→Option aO
  | .vec _ l _ _=>σ l
  | _=>none
def beyond:MV→MV→Prop
  | .vec _ _ _ n,.int _ h=>(n:Int)<h
  | _,_=>False
instance (x y:MV):Decidable (beyond x y):=by unfold beyond;split<;>infer_instance
def mclear(P:Program)(t:TypeId)(x:MV)(o:Option aO)(σ:St)(k:MV→St→Prop):Prop :=
  match x,o,(td P t).k with
  | .vec e l l0 n,some (.row tt e' xs),.slice el=>((td P el).zok=true∧0<(td P el).size∧e=(td P el).size∧e'=(td P el).size∧l0+n≤xs.length)∧k .junk (σ.set l (.row tt e' (fM xs l0 (List.replicate n (td P el).zero))))
  | _,_,_=>False
def GJ(P:Program)(t:TypeId)(s x:MV)(σ:St)(k:MV→St→Prop):Prop :=
  match (td P t).k,s,x with
  | .slice el,.aZ,.int .i64 n=>((td P el).zok=true∧0<(td P el).size∧0<n∧Fits n.toNat (td P el).bytes)∧∀l,σ l=none→k (.vec (td P el).size l 0 n.toNat) (σ.set l (.row el (td P el).size (List.replicate n.toNat (td P el).zero)))
  | _,_,_=>False
def IL(b:Bool)(A B:Prop):Prop:=if b=true then A else B
def gB(P:Program)(f:FR)(σ:St)(dst:Option Tmp)(K:FR→St→Prop):Op→Prop
  | .defer c=>pZ f c fun f'=>K (aU f' dst .junk) σ
  | .makeMap _ none=>∀l,σ l=none→K (aU f dst (.mapv l)) (σ.set l (.mp []))
  | .insert t m x y=>dX P t (aB f m) (aB f x) (aB f y) (mapOf σ (aB f m)) σ (fun v σ'=>K (aU f dst v) σ')
  | .mapUpdate t m x y=>dX P t (aB f m) (aB f x) (aB f y) (mapOf σ (aB f m)) σ (fun v σ'=>K (aU f dst v) σ')
  | .lookup t m x ok=>dY P t (aB f m) (aB f x) ok (mapOf σ (aB f m)) σ (fun v σ'=>K (aU f dst v) σ')
  | .range t m=>Bp P t (aB f m) (mapOf σ (aB f m)) σ (fun v σ'=>K (aU f dst v) σ')
  | .next x false=>Gp (aB f x) σ (fun v σ'=>K (aU f dst v) σ')
  | .entry x=>A7 (aB f x) σ (fun v σ'=>K (aU f dst v) σ')
  | .slice t x (some y) (some z) none=>if beyond (aB f x) (aB f z) then Cy P t (aB f x) (aB f y) (aB f z) (Jo σ (aB f x)) σ (fun v σ'=>K (aU f dst v) σ')
      else mop P f σ (fun v σ'=>K (aU f dst v) σ') (.slice t x (some y) (some z) none)
  | .call ⟨.builtin .clear,args,ts⟩=>match args.toList,ts.toList with
    | [x],[t]=>mclear P t (aB f x) (Jo σ (aB f x)) σ (fun v σ'=>K (aU f dst v) σ')
    | _,_=>False
  | .call ⟨.builtin .append,args,ts⟩=>match args.toList,ts.toList with
    | [s,x],[t,xt]=>IL (td P xt).k.isInt (GJ P t (aB f s) (aB f x) σ (fun v σ'=>K (aU f dst v) σ')) (mop P f σ (fun v σ'=>K (aU f dst v) σ') (.call ⟨.builtin .append,args,ts⟩))
    | _,_=>False
  | op=>mop P f σ (fun v σ'=>K (aU f dst v) σ') op
def cR(P:Program)(ops:Array Oper)(K:FR→St→Prop):List Oper→FR→St→Prop
  | [],f,σ=>K f σ
  | o::rest,f,σ=>dT ops f o (gB P f σ o.dst (cR P ops K rest) o.op) (cR P ops K rest (aU f o.dst (.tup [])) σ)
theorem cX(f:FR)(dst:Option Tmp)(v:MV):(aU f dst v).d=f.d:=by
  unfold aU
  split<;>(try split)<;>rfl
def cC:Op→Bool
  | .defer _|.makeMap _ none|.insert ..|.mapUpdate ..|.lookup ..|.range ..|.next _ false|.entry ..|.slice _ _ (some _) (some _) none|.call ⟨.builtin .clear,_,_⟩|.call ⟨.builtin .append,_,_⟩=>false
  | _=>true
theorem yT{P:Program}{f:FR}{σ:St}{dst:Option Tmp}{K:FR→St→Prop}{op:Op}(h:cC op=true):gB P f σ dst K op=mop P f σ (fun v σ'=>K (aU f dst v) σ') op:=by
  cases op<;>first|rfl|skip
  case slice t x lo hi mx=>cases lo<;>cases hi<;>cases mx<;>first|rfl|(simp[cC] at h;done)
  case defer c=>simp[cC] at h
  case makeMap t r=>cases r<;>first|rfl|(simp[cC] at h;done)
  case insert=>simp[cC] at h
  case range=>simp[cC] at h
  case entry=>simp[cC] at h
  case next x b=>cases b<;>first|rfl|(simp[cC] at h;done)
  case call c =>
    obtain⟨callee,args,ts⟩:=c
    cases callee<;>first|rfl|skip
    rename_i b
    cases b<;>first|rfl|(simp[cC] at h;done)
theorem iE{P:Program}{o:Oper}{f:FR}{σ:St}{K:FR→St→Prop}(hd:∀c,o.op≠.defer c)(h:gB P f σ o.dst K o.op):sop P o f σ fun v σ'=>K (aU f o.dst v) σ':=by
  by_cases hp:cC o.op=true
  · rw[yT hp] at h
    exact iP h
  · cases ho:o.op<;>rw[ho] at h hp<;>(try simp[cC] at hp)
    case slice t x lo hi mx =>
      cases lo<;>cases hi<;>cases mx<;>(try simp[cC] at hp)
      rename_i y z
      simp only[gB] at h
      split at h
      · unfold Cy at h
        split at h
        · rename_i e l l0 n k1 a k2 hh tt e' xs el hx hy hz hl hk
          obtain⟨⟨h1,rfl,rfl,h3,h4,h5⟩,h6⟩:=h
          rw[hx] at hl
          exact BR ho hk h1 hx hl hy hz h3 h4 h5 h6
        · exact h.elim
      · rw[←ho] at h
        exact iP h
    case defer c=>exact absurd ho (hd c)
    case makeMap t r =>
      cases r<;>(try simp[cC] at hp)
      exact zT ho h
    case insert t m x y=>exact iG (.inl ho) h
    case mapUpdate t m x y=>exact iG (.inr ho) h
    case lookup t m x ok=>exact k9 ho h
    case range t m=>exact uO ho h
    case next x b =>
      cases b<;>(try simp[cC] at hp)
      exact yK ho h
    case entry x=>exact uH ho h
    case call c =>
      obtain⟨callee,args,ts⟩:=c
      cases callee<;>(try simp[cC] at hp)
      rename_i b
      cases b<;>(try simp[cC] at hp)
      case append =>
        simp only[gB] at h
        split at h
        · rename_i s x t xt ha ht
          have ha':args=#[s,x]:=by rw[←Array.toArray_toList (xs:=args),ha]
          have ht':ts=#[t,xt]:=by rw[←Array.toArray_toList (xs:=ts),ht]
          subst ha';subst ht'
          unfold IL at h
          split at h
          · rename_i hxt
            unfold GJ at h
            split at h
            · rename_i el n hk hs hx
              obtain⟨⟨h1,h2,h3,h4,h5⟩,h6⟩:=h
              exact nU ho hk hxt h1 h2 hs hx h3 h4 h5 h6
            · exact h.elim
          · rw[←ho] at h
            exact iP h
        · exact h.elim
      case clear =>
        simp only[gB] at h
        split at h
        · rename_i x t ha ht
          have ha':args=#[x]:=by rw[←Array.toArray_toList (xs:=args),ha]
          have ht':ts=#[t]:=by rw[←Array.toArray_toList (xs:=ts),ht]
          subst ha';subst ht'
          unfold mclear at h
          split at h
          · rename_i e l l0 n tt e' xs el hx hl hk
            obtain⟨⟨h1,h2,rfl,rfl,h3⟩,h4⟩:=h
            rw[hx] at hl
            exact ET ho hk h1 h2 hx hl h3 h4
          · exact h.elim
        · exact h.elim
theorem zL{Φ:Phi}{x y:Array Value}{m n:List MV}(h1:eI Φ x m)(h2:eI Φ y n):eI Φ (x++y) (m++n):=by
  refine⟨by simp[h1.1,h2.1],fun i q hq=>?_⟩
  have e1:=h1.1
  by_cases h:i<m.length
  · rw[List.getElem?_append_left h] at hq
    have:=h1.2 i q hq
    simpa[Array.getD_eq_getD_getElem?,Array.getElem?_append_left (show i<x.size by omega)] using this
  · rw[List.getElem?_append_right (by omega)] at hq
    have:=h2.2 _ q hq
    simpa[Array.getD_eq_getD_getElem?,Array.getElem?_append_right (show x.size≤i by omega),e1] using this
theorem mI{P:Program}{o:Oper}{c:Call}(ho:o.op=.defer c){f:FR}{K:FR→Prop}(h:pZ f c K){Φ:Phi}{a:Act}{w:World}(hr:bS Φ a.tmps f)(hd:cF Φ w a.defers f.d) :
    ∃d f',(execOp a.eval o).run P w=.ok (.defer d) w∧bS Φ a.tmps f'∧cF Φ w (d::a.defers) f'.d∧K f':=by
  unfold pZ at h
  obtain⟨callee,args,ts⟩:=c
  simp only at h
  split at h
  · rename_i x
    split at h
    · rename_i g ms ns hx
      have rx:=aD hr x
      rw[hx] at rx
      obtain⟨first,cap,he,r1,r2⟩:=rx.lK
      refine⟨⟨.fn (.func g) cap,first++args.map a.eval⟩,_,?_,?_,?_,h⟩
      · unfold execOp
        simp only[ho,resolve,he,Deferred.ofValue,Sem.run_bind,Sem.run_pure,Result.andThen_ok]
      · exact hr
      · exact .inr ⟨_,_,_,cap,rfl,rfl,zL (zL r1 (iQ hr args)) r2,hd⟩
    · exact h.elim
  · exact h.elim
theorem vJ{F:Fence}(hF:F=Fence.wide∨∃l,F=Fence.wide.inRound l){n:Nat}{P:Program}{row:String}{args:Array Value}{w:World}{R:Value→World→Prop}(h:Rows P row args w R):RowsIn F n P row args w R:=by
  intro c cs _
  obtain⟨v,w',r,s⟩:=h c cs
  refine⟨v,w',r,?_⟩
  rcases hF with rfl|⟨l,rfl⟩
  · exact stepsIn_wide.2 s
  · rw[fenced_inRound];exact stepsIn_wide.2 s
theorem rO{F:Fence}(hF:F=Fence.wide∨∃l,F=Fence.wide.inRound l){n:Nat}{P:Program}{f:FuncId}{args:Array Value}{w:World}{R:Ending→World→Prop}(h:Calls P f args w R):CallsIn F n P f args w R:=by
  rcases hF with rfl|⟨l,rfl⟩
  · exact callsIn_wide.2 h
  · exact CallsIn.inRound l (callsIn_wide.2 h)
theorem dO{F:Fence}{n:Nat}{P:Program}{o:Oper}{a:Act}{w:World}{K:Act→World→Prop}{Q:Exit→Act→World→Prop}
   (hF:F=Fence.wide∨∃l,F=Fence.wide.inRound l∧∀c,o.op≠.defer c)(h:o.wp P a w K Q):o.wpIn F n P a w K Q:=by
  have hF':F=Fence.wide∨∃l,F=Fence.wide.inRound l:=hF.imp id fun⟨l,e,_⟩=>⟨l,e⟩
  have hfn:∀g,F.fn g:=fun g=>by rcases hF' with rfl|⟨l,rfl⟩<;>trivial
  have hd:F.depth.isSome=true→1≤n:=fun q=>by rcases hF' with rfl|⟨l,rfl⟩<;>cases q
  have hs:o.semAt F.round a.eval=execOp a.eval o:=by
    rcases hF with rfl|⟨l,rfl,hc⟩
    · exact Oper.semAt_none _ _
    · exact Oper.semAt_eq _ _ _ hc
  refine⟨fun f _=>hfn f,?_⟩
  rw[hs]
  unfold Oper.wp at h
  generalize (execOp a.eval o).run P w=r at h ⊢
  cases r with
  | ok x w' =>
    cases x with
    | value v=>exact h
    | skip=>exact h
    | defer d=>exact h
    | enter f args=>exact⟨hd,(rO hF' h).mono fun e w'' q=>by cases e<;>exact q⟩
    | row row args=>exact⟨hd,vJ hF' h⟩
    | _=>exact h.elim
  | halt x w' =>
    cases x with
    | panic v=>exact h
    | _=>exact h.elim
theorem qA{P:Program}{ops:Array Oper}{Q:MQ}{Φ0:Phi}{σ0:St}{w0:World}{F:Fence}:∀(l:List Oper),(F=Fence.wide∨∃l0,F=Fence.wide.inRound l0∧∀o,o∈l→∀c,o.op≠.defer c)→∀(f:FR) (σ:St) (Φ:Phi) (w:World) (a:Act),cR P ops (Q .normal) l f σ→Inv Φ w σ→bS Φ a.tmps f→cF Φ w a.defers f.d →
    Step Φ0 σ0 w0 Φ σ w→wpListIn F 0 P ops (lift Φ0 σ0 w0 Q) l a w:=by
  intro l
  induction l with
  | nil=>intro _ f σ Φ w a h hi hr hd hs;exact⟨f,σ,Φ,hd,hr,hi,hs,h⟩
  | cons o rest ih =>
    intro hF f σ Φ w a h hi hr hd hs
    have hFr:F=Fence.wide∨∃l0,F=Fence.wide.inRound l0∧∀o,o∈rest→∀c,o.op≠.defer c:=hF.imp id fun⟨l0,e,q⟩=>⟨l0,e,fun o ho=>q o (by simp[ho])⟩
    have hFo:F=Fence.wide∨∃l0,F=Fence.wide.inRound l0∧∀c,o.op≠.defer c:=hF.imp id fun⟨l0,e,q⟩=>⟨l0,e,q o (by simp)⟩
    have hfn:∀g,F.fn g:=fun g=>by rcases hF with rfl|⟨l,rfl,_⟩<;>trivial
    simp only[cR] at h
    unfold wpListIn
    rcases bN h hr with⟨hw,hy⟩|⟨hw,hn⟩
    · rw[if_pos hw]
      refine dO hFo ?_
      by_cases hdef:∃c,o.op=.defer c
      · obtain⟨c,hc⟩:=hdef
        rw[hc] at hy
        have hy:pZ f c fun f'=>cR P ops (Q .normal) rest (aU f' o.dst .junk) σ:=hy
        obtain⟨d,f',h1,h2,h3,h4⟩:=mI (P:=P) (w:=w) hc hy hr hd
        unfold Oper.wp
        rw[h1]
        refine ih hFr _ _ Φ w _ h4 hi (bV (a:={ a with defers:=d::a.defers }) h2 o.dst (.junk _)) ?_ hs
        rw[a8,cX]
        exact h3
      · exact iE (fun c hc=>hdef ⟨c,hc⟩) hy Φ w a _ _ hi hr (fun v mv σ' Φ' w' r1 i1 s1 hk=>ih hFr _ _ Φ' w' (a.put o.dst v) hk i1 (bV (hr.mono s1.le) o.dst r1) (by rw[a8,cX];exact hd.step hi s1) (hs.trans s1))
    · rw[if_neg (by simp[hw])]
      exact⟨fun f _=>hfn f,ih hFr _ _ Φ w (a.put o.dst undef) hn hi (bV hr o.dst eF) (by rw[a8,cX];exact hd) hs⟩
theorem FOk.ops{F:Fence}{id:Nat}{ops:Array Oper}{dr:Bool}(h:FOk F (.region id ops dr)):F=Fence.wide∨∃l0,F=Fence.wide.inRound l0∧∀o,o∈ops.toList→∀c,o.op≠.defer c :=
  Or.imp (fun q=>q) (fun⟨l0,e,q⟩=>⟨l0,e,fun o ho c hc=>by
    have:=List.all_eq_true.1 q o ho
    rw[hc] at this
    cases this⟩) h
theorem Bs{P:Program}{id:Nat}{ops:Array Oper}{f:FR}{σ:St}{Q:MQ}(h:cR P ops (Q .normal) ops.toList f σ):mwp P (.region id ops false) f σ Q :=
  fun F hF Φ w a hi hr hd=>wpIn_region_list (qA ops.toList hF.ops f σ Φ w a h hi hr hd (.refl _ _ _))
def yR(P:Program)(f:FR)(σ:St):ResultVar→(MV→Prop)→Prop
  | .tmp t,k=>k (f.get t)
  | .cell a t,k=>iD P t (f.get a) σ (fun v _=>k v)
def cO(P:Program)(f:FR)(σ:St):List ResultVar→(List MV→Prop)→Prop
  | [],k=>k []
  | r::rs,k=>yR P f σ r fun v=>cO P f σ rs fun vs=>k (v::vs)
def oneOf:List MV→MV
  | [v]=>v
  | vs=>.tup vs
def tO(P:Program)(g:FuncId)(ms:List MV)(σ:St)(Q:St→Prop):Prop :=
  ∃fn,P.funcs[g]?=some fn∧fn.body.isNone=false∧(fn.name == "runtime.NumGoroutine")=false ∧
    ∀Φ w vs,Inv Φ w σ→eI Φ vs ms→CallsD P g vs .returning w fun e u' w'=>u'=.returning∧∃v σ' Φ',e=.returned v∧Inv Φ' w' σ'∧Step Φ σ w Φ' σ' w'∧Q σ'
def mleave(P:Program)(n:Nat)(l:List (Nat × MV))(rs:List ResultVar)(Q:MV→St→Prop):List (FuncId × List MV)→St→Prop
  | [],σ=>cO P ⟨n,l,[]⟩ σ rs fun vs=>Q (oneOf vs) σ
  | (g,ms)::d,σ=>tO P g ms σ fun σ'=>mleave P n l rs Q d σ'
def G9(P:Program)(rs:List ResultVar)(Q:MV→St→Prop):MQ
  | .normal,f,σ|.ret,f,σ=>mleave P f.n f.l rs Q f.d σ
  | _,_,_=>False
theorem Ea{P:Program}{t:TypeId}{x:MV}{σ:St}{k:MV→St→Prop}(h:iD P t x σ k){Φ:Phi}{w:World}(hi:Inv Φ w σ){v:Value}(r:Rel Φ v x):∃ad u m,v=.pointer (some ad)∧(loadVar t ad).run P w=.ok u w∧Rel Φ u m∧k m σ:=by
  unfold iD at h
  split at h
  · rename_i l i of
    split at h
    · rename_i tt e xs hs
      obtain⟨⟨hok,hi',h1,h0⟩,hk⟩:=h
      obtain⟨p,R,hp,hR,he⟩:=r.eO
      obtain⟨p',hp',hpe,hlen,R',hR',hcells⟩:=(hi.own l _ hs).elem (fJ hi' (d:=[]))
      rw[hp] at hp';cases hp'
      rw[hR] at hR';cases hR'
      obtain⟨v2,hv,hrel⟩:=gM (P:=P) (Φ:=Φ) (w:=w) (t:=t) (b:=R) (off:=p.bo+i * p.e+of) (ms:=(xs.getD i []).drop of) hok (by rw[List.length_drop];omega) h0 (fun j m hm=>by
        rw[List.getElem?_drop] at hm
        have:=hcells _ m hm
        rw[Nat.add_assoc (p.bo+i * p.e),hpe]
        exact this)
      have e2:cB (td P t) ((xs.getD i []).drop of) 0=cB (td P t) (xs.getD i []) of:=by
        unfold cB
        simp[List.getD,List.getElem?_drop]
      rw[e2] at hrel
      exact⟨_,v2,_,he,hv,hrel,hk⟩
    · exact h.elim
  · rename_i cs
    obtain⟨⟨hok,h1,h0⟩,hk⟩:=h
    obtain⟨b,off,vs,he,hc,hrr⟩:=r.iL
    obtain⟨v2,hv,hrel⟩:=gM (P:=P) (Φ:=Φ) (w:=w) (t:=t) (b:=b) (off:=off) (ms:=cs) hok h1 h0 (fun j m hm=>⟨(hc j m hm).1,vs j,hi.snap _ _ (hc j m hm).2,hrr j m hm⟩)
    exact⟨_,v2,_,he,hv,hrel,hk⟩
  · exact h.elim
theorem zK{Φ:Phi}{tmps:Array Value}{f:FR}(hr:bS Φ tmps f)(t:Nat):Rel Φ (tmps.getD t undef) (f.get t):=hr.2 t
def tH(tmps:Array Value):ResultVar→Sem Value
  | .tmp t=>pure (tmps.getD t undef)
  | .cell a t=>do loadVar t (←asAddr (tmps.getD a undef))
theorem jL(fn:Func)(tmps:Array Value):results fn tmps=(do
    let vs ←fn.results.mapM (tH tmps)
    pure (if h:vs.size=1 then vs[0] else .tuple vs)):=rfl
theorem uQ{P:Program}{f:FR}{σ:St}{Φ:Phi}{w:World}(hi:Inv Φ w σ){tmps:Array Value}(hr:bS Φ tmps f):∀(rs:List ResultVar) (k:List MV→Prop),cO P f σ rs k →
    ∃vs ms,(rs.mapM (m:=Sem) (tH tmps)).run P w=.ok vs w∧vs.length=ms.length∧(∀(i:Nat) v m,vs[i]?=some v→ms[i]?=some m→Rel Φ v m)∧k ms:=by
  intro rs
  induction rs with
  | nil=>intro k h;exact⟨[],[],by simp,rfl,by simp,h⟩
  | cons r rs ih =>
    intro k h
    simp only[cO] at h
    cases r with
    | tmp t =>
      obtain⟨vs,ms,h1,h2,h3,h4⟩:=ih _ h
      refine⟨tmps.getD t undef::vs,f.get t::ms,?_,by simp[h2],fun i v m hv hm=>?_,h4⟩
      · rw[List.mapM_cons]
        simp only[tH,Sem.run_bind,Sem.run_pure,Result.andThen_ok]
        rw[h1]
        rfl
      · cases i with
        | zero=>simp only[List.getElem?_cons_zero,Option.some.injEq] at hv hm;subst hv;subst hm;exact zK hr t
        | succ i=>exact h3 i v m (by simpa using hv) (by simpa using hm)
    | cell a t =>
      simp only[yR] at h
      obtain⟨ad,u,m1,he,hl,hrel,hk⟩:=Ea h hi (zK hr a)
      obtain⟨vs,ms,h1,h2,h3,h4⟩:=ih _ hk
      refine⟨u::vs,m1::ms,?_,by simp[h2],fun i v m hv hm=>?_,h4⟩
      · rw[List.mapM_cons]
        simp only[tH,Sem.run_bind,he,asAddr,Sem.run_pure,Result.andThen_ok,hl]
        rw[h1]
        rfl
      · cases i with
        | zero=>simp only[List.getElem?_cons_zero,Option.some.injEq] at hv hm;subst hv;subst hm;exact hrel
        | succ i=>exact h3 i v m (by simpa using hv) (by simpa using hm)
theorem zM{P:Program}{fn:Func}{f:FR}{σ:St}{Φ:Phi}{w:World}(hi:Inv Φ w σ){tmps:Array Value}(hr:bS Φ tmps f){Q:MV→St→Prop}(h:cO P f σ fn.results.toList fun vs=>Q (oneOf vs) σ) :
    ∃v m,(results fn tmps).run P w=.ok v w∧Rel Φ v m∧Q m σ:=by
  obtain⟨vs,ms,h1,h2,h3,h4⟩:=uQ (P:=P) hi hr fn.results.toList _ h
  have hm:∃va:Array Value,(fn.results.mapM (m:=Sem) (tH tmps)).run P w=.ok va w∧va.toList=vs:=by
    rw[←Array.toList_mapM] at h1
    simp only[Sem.run_map] at h1
    generalize hg:(fn.results.mapM (m:=Sem) (tH tmps)).run P w=res at h1 ⊢
    cases res with
    | halt x w'=>simp at h1
    | ok va w' =>
      simp only[Result.andThen_ok,Result.ok.injEq] at h1
      obtain⟨h1,rfl⟩:=h1
      exact⟨va,rfl,h1⟩
  obtain⟨va,hva,rfl⟩:=hm
  by_cases hs:va.size=1
  · match ms,h2 with
    | [m],h2 =>
      refine⟨va[0],m,?_,h3 0 _ m (by simp[hs]) rfl,h4⟩
      rw[jL]
      simp only[Sem.run_bind,hva,Result.andThen_ok,Sem.run_pure,dif_pos hs]
    | [],h2=>simp[hs] at h2
    | _::_::_,h2=>simp[hs] at h2
  · refine⟨.tuple va,oneOf ms,?_,?_,h4⟩
    · rw[jL]
      simp only[Sem.run_bind,hva,Result.andThen_ok,Sem.run_pure,dif_neg hs]
    · have:oneOf ms=.tup ms:=by
        match ms,h2 with
        | [],_=>rfl
        | [m],h2=>exact absurd (by simpa using h2) hs
        | _::_::_,_=>rfl
      rw[this]
      refine .tup (by simpa using h2) (fun i m hm'=>?_)
      have hlt:i<va.size:=by have:=(List.getElem?_eq_some_iff.1 hm').1;simp at h2;omega
      have hv:va.toList[i]?=some (va.getD i undef):=by
        rw[Array.getElem?_toList]
        simp[Array.getD_eq_getD_getElem?,Array.getElem?_eq_getElem hlt]
      exact h3 i _ m hv hm'
def hO:Nat→List MV→List (Nat × MV)
  | _,[]=>[]
  | i,m::ms=>(i,m)::hO (i+1) ms
theorem nA:∀(ms:List MV) (i t:Nat),bI (hO i ms) t=if i≤t then(ms[t - i]?).getD .junk else .junk:=by
  intro ms
  induction ms with
  | nil=>intro i t;simp[hO,bI]
  | cons m ms ih =>
    intro i t
    simp only[hO,bI,ih]
    by_cases h:t=i
    · subst h;simp
    · rw[if_neg h]
      by_cases h2:i≤t
      · obtain⟨k,rfl⟩:∃k,t=i+1+k:=⟨t - (i+1),by omega⟩
        rw[if_pos (by omega),if_pos h2,show i+1+k - (i+1)=k from by omega,show i+1+k - i=k+1 from by omega]
        rfl
      · rw[if_neg (by omega),if_neg h2]
def fI(P:Program)(fn:Func)(tmps:Array Value)(R:Ending→World→Prop):List Deferred→World→Prop
  | [],w=>∃v,(results fn tmps).run P w=.ok v w∧R (.returned v) w
  | d::ds,w=>(∃r w',d.target=.collected r∧(Instr.takeDeferred r).run P w=.ok [] w'∧fI P fn tmps R ds w') ∨
      ∃fv cap f args,d.target=.fn fv cap∧(invoke d.target d.args).run P w=.ok (.enter f args) w∧CallsD P f args .returning w fun e u' w'=>(∃v,e=.returned v)∧u'=.returning∧fI P fn tmps R ds w'
theorem k6{P:Program}{fn:Func}{tmps:Array Value}{R:Ending→World→Prop}:∀(ds:List Deferred) (w:World) (fr:Frame) (cs:List Frame),fr.mode=.returning→fr.defers=ds→fr.tmps=tmps→P.funcs[fr.fn]?=some fn→fr.kind=.normal →
    fI P fn tmps R ds w→∃e w' fr',R e w'∧Comes P (lone fr cs w) (lone fr' cs w') e∧fr'.fn=fr.fn∧fr'.leaving P w' e:=by
  intro ds
  induction ds with
  | nil =>
    intro w fr cs hu hd ht hf hk h
    obtain⟨v,hr,hR⟩:=h
    exact⟨.returned v,w,fr,hR,Steps.refl P _,rfl,hu,hd,hk,fn,hf,ht ▸ hr⟩
  | cons d ds ih =>
    intro w fr cs hu hd ht hf hk h
    have hrun:fr.mode≠.run:=by rw[hu];simp
    rcases h with⟨r,w',h1,h2,h3⟩|⟨fv,cap,f,args,h1,h2,h3⟩
    · have s1:=step_collected (cs:=cs) hrun hd h1 h2
      obtain⟨e,w2,fr',q1,q2,q3,q4⟩:=ih w' { fr with defers:=[]++ds } cs hu rfl ht hf hk h3
      exact⟨e,w2,fr',q1,Comes.of_steps (.one s1) q2,q3,q4⟩
    · have s1:=step_defer (cs:=cs) hrun hd h1 h2
      obtain⟨e,u',w',frX,hR,hsteps,hkX,hgo⟩:=h3 { fr with defers:=ds } cs hu
      obtain⟨⟨v,rfl⟩,rfl,hR⟩:=hR
      have s2:=step_going_returned (c:={ { fr with defers:=ds } with mode:=.returning }) (cs:=cs) hkX hgo
      obtain⟨e,w2,fr',q1,q2,q3,q4⟩:=ih w' { { { fr with defers:=ds } with mode:=.returning } with mode:=settle .returning } cs rfl rfl ht hf hk hR
      exact⟨e,w2,fr',q1,Comes.of_steps (.head s1 (Steps.trans hsteps (.one s2))) q2,q3,q4⟩
theorem iY{P:Program}{f:FuncId}{fn:Func}{c:Code}{args:Array Value}{w:World}{R:Ending→World→Prop}(hf:P.funcs[f]?=some fn)(hb:fn.body=some c)
   (h:c.wp P (fun e a w=>(e=.normal∨e=.ret)∧fI P fn a.tmps R a.defers w) { tmps:=args++Array.replicate (fn.ntmps - args.size) undef,defers:=[] } w):Calls P f args w R:=by
  intro cs
  let b:Frame:={ (default:Frame) with fn:=f,kind:=.normal }
  have henter:Frame.enter P f args .normal=b.at { tmps:=args++Array.replicate (fn.ntmps - args.size) undef,defers:=[] } [.code c]:=by
    simp[Frame.enter,Frame.at,hf,hb,b]
  obtain⟨e,a',w',⟨he,hq⟩,harr⟩:=h b [] cs
  rw[←henter] at harr
  rcases he with rfl|rfl
  · obtain⟨e',w'',fr',hR,hs,hfn,hl⟩:=k6 a'.defers w' { b.at a' [] with mode:=.returning } cs rfl rfl rfl hf rfl hq
    exact⟨e',w'',fr',hR,Comes.of_steps (Steps.trans harr (.one step_end)) hs,hfn,hl⟩
  · obtain⟨todo,hs₀⟩:=harr
    obtain⟨e',w'',fr',hR,hs,hfn,hl⟩:=k6 a'.defers w' { b.at a' todo with mode:=.returning } cs rfl rfl rfl hf rfl hq
    exact⟨e',w'',fr',hR,Comes.of_steps hs₀ hs,hfn,hl⟩
theorem Inv.putObj{Φ:Phi}{w:World}{σ:St}(hi:Inv Φ w σ){D:Nat}{o:Obj}(o':Obj)(hD:w.heap[D]?=some o)(h:∀c t fz,o≠.cells c t fz)(h':∀c k,o≠.map c k)(h2':∀m a b c,o≠.mapIter m a b c:=by intro _ _ _ _ e;cases e):Inv Φ (w.putObj D o') σ:=by
  have hno:¬aN Φ σ D:=hi.qG (fun c t fz e=>h c t fz (by rw[hD] at e;exact Option.some.inj e)) (fun c k e=>h' c k (by rw[hD] at e;exact Option.some.inj e)) (fun m a b c e=>h2' m a b c (by rw[hD] at e;exact Option.some.inj e))
  refine⟨fun l ob hl=>(hi.own l ob hl).mono (.refl _) fun p R h1 h2=>World.putObj_heap_other fun e=>hno ⟨l,ob,p,hl,h1,e ▸ h2⟩,hi.inj,fun a v hv=>?_,hi.apart,hi.fresh⟩
  have hc:=hi.snap a v hv
  rw[←hc]
  refine World.dK (World.putObj_heap_other fun e=>?_)
  rw[World.cell?,e,hD] at hc
  cases o with
  | cells c t fz=>exact h _ _ _ rfl
  | map c k=>exact h' _ _ rfl
  | _=>simp at hc
theorem s8{P:Program}{fn:Func}{tmps:Array Value}{n:Nat}{l:List (Nat × MV)}{Q:MV→St→Prop}{Φ0:Phi}{σ0:St}{w0:World}(h0:Φ0.base=w0.heap.size) :
    ∀(ds:List Deferred) (d:List (FuncId × List MV)) (Φ:Phi) (w:World) (σ:St),cF Φ w ds d→bS Φ tmps ⟨n,l,[]⟩→Inv Φ w σ→Step Φ0 σ0 w0 Φ σ w→mleave P n l fn.results.toList Q d σ →
    fI P fn tmps (fun e w'=>∃v mv σ' Φ',e=.returned v∧Rel Φ' v mv∧Inv Φ' w' σ'∧Step Φ0 σ0 w0 Φ' σ' w'∧Q mv σ') ds w:=by
  intro ds
  induction ds with
  | nil =>
    intro d Φ w σ hd hr hi hs h
    obtain⟨rfl,-⟩:=hd
    obtain⟨v,m,h1,h2,h3⟩:=zM (P:=P) (fn:=fn) hi hr h
    exact⟨v,h1,v,m,σ,Φ,rfl,h2,hi,hs,h3⟩
  | cons x ds ih =>
    intro d Φ w σ hd hr hi hs h
    rcases hd with⟨D,h1,h2,h3,h4,h5⟩|⟨g,ms,r,cap,rfl,h1,h2,h3⟩
    · refine .inl ⟨D,_,h1,run_takeDeferred h3,?_⟩
      have hi':=hi.putObj (.deferred none) h3 (fun _ _ _ e=>by cases e) (fun _ _ e=>by cases e)
      have hDb:w0.heap.size≤D:=by rw[←h0,←hs.le.base];exact h2
      have hs':Step Φ0 σ0 w0 Φ σ (w.putObj D (.deferred none)) :=
        ⟨hs.le,hs.os,hs.tape,hs.output,hs.drawn,by rw[World.putObj_size];exact hs.size,fun k hk hn=>(World.putObj_heap_other (by omega)).trans (hs.block k hk hn),hs.snapn,hs.locs,hs.ownd⟩
      refine ih d Φ _ σ ?_ hr hi' hs' h
      have:∀(xs:List Deferred) (d:List (FuncId × List MV)),(∀y,y∈xs→y.target≠.collected D)→cF Φ w xs d→cF Φ (w.putObj D (.deferred none)) xs d:=by
        intro xs
        induction xs with
        | nil=>intro d _ h;exact⟨h.1,by rw[World.putObj_size];exact h.2⟩
        | cons y xs ihx =>
          intro d hy h
          rcases h with⟨D',k1,k2,k3,k4,k5⟩|⟨g,ms,r,cap,k1,k2,k3,k4⟩
          · refine .inl ⟨D',k1,k2,?_,k4,ihx d (fun z hz=>hy z (by simp[hz])) k5⟩
            rw[World.putObj_heap_other]
            · exact k3
            · intro e;exact hy y (by simp) (by rw[k1,e])
          · exact .inr ⟨g,ms,r,cap,k1,k2,k3,ihx r (fun z hz=>hy z (by simp[hz])) k4⟩
      exact this ds d h4 h5
    · obtain⟨fn',hf,hb,hn,hc⟩:=h
      obtain⟨t,ags⟩:=x
      simp only at h1 h2
      subst h1
      refine .inr ⟨.func g,cap,g,ags++cap,rfl,?_,?_⟩
      · simp only[invoke,callFunc,Sem.run_bind,run_program,hf,hn,hb,Result.andThen_ok,Bool.false_eq_true,if_false,Sem.run_pure]
      · intro c cs hcu
        obtain⟨e,u',w',fr,⟨rfl,v,σ',Φ',rfl,i1,s1,q⟩,q2,q3,q4⟩:=hc Φ w _ hi h2 c cs hcu
        exact⟨_,_,w',fr,⟨⟨v,rfl⟩,rfl,ih r Φ' w' σ' (h3.step hi s1) (hr.mono s1.le) i1 (hs.trans s1) q⟩,q2,q3,q4⟩
theorem CS{P:Program}{fn:Func}{Q:MV→St→Prop}{Φ0:Phi}{σ0:St}{w0:World}{e:Exit}{a':Act}{w':World}(h0:Φ0.base=w0.heap.size)
   (h:lift Φ0 σ0 w0 (G9 P fn.results.toList Q) e a' w'):(e=.normal∨e=.ret)∧fI P fn a'.tmps (fun e w'=>∃v mv σ' Φ',e=.returned v∧Rel Φ' v mv∧Inv Φ' w' σ'∧Step Φ0 σ0 w0 Φ' σ' w'∧Q mv σ') a'.defers w':=by
  obtain⟨f',σ',Φ',x1,x2,x3,x4,q⟩:=h
  obtain⟨n,l,d⟩:=f'
  cases e with
  | normal=>exact⟨.inl rfl,s8 h0 _ d Φ' w' σ' x1 x2 x3 x4 q⟩
  | ret=>exact⟨.inr rfl,s8 h0 _ d Φ' w' σ' x1 x2 x3 x4 q⟩
  | _=>exact q.elim
theorem nH{Φ:Phi}{fn:Func}{vs:Array Value}{ms:List MV}(hr:eI Φ vs ms):bS Φ (vs++Array.replicate (fn.ntmps - vs.size) undef) ⟨max fn.ntmps ms.length,hO 0 ms,[]⟩:=by
  refine⟨by simp[hr.1];omega,fun t=>?_⟩
  simp only[FR.get,nA,Nat.sub_zero,Nat.zero_le,if_true]
  cases hm:ms[t]? with
  | none=>exact .junk _
  | some m =>
    have hlt:=(List.getElem?_eq_some_iff.1 hm).1
    have e1:=hr.1
    have:=hr.2 t m hm
    simpa[Array.getD_eq_getD_getElem?,Array.getElem?_append_left (show t<vs.size by omega)] using this
def Phi.aM(Φ:Phi)(n:Nat):Phi:={ Φ with base:=n }
theorem Rel.aM{Φ:Phi}{v:Value}{m:MV}(h:Rel Φ v m)(n:Nat):Rel (Φ.aM n) v m:=Rel.yL (Φ:=Φ) (Φ':=Φ.aM n) (fun _ _ q=>q) (fun _ _ q=>q) h
theorem Inv.aM{Φ:Phi}{w:World}{σ:St}(hi:Inv Φ w σ)(n:Nat):Inv (Φ.aM n) w σ:=by
  refine⟨fun l o hl=>?_,hi.inj,hi.snap,hi.apart,hi.fresh⟩
  have:=hi.own l o hl
  cases o with
  | row t e xs =>
    obtain⟨p,h1,h2,h3,h4,h5,h6⟩:=this
    refine⟨p,h1,h2,h3,h4,h5,?_⟩
    split
    · rename_i hb;rw[hb] at h6;exact h6
    · rename_i R hb
      rw[hb] at h6
      obtain⟨c,fz,k1,k2,k3,k4⟩:=h6
      exact⟨c,fz,k1,k2,k3,fun i x j m hx hm=>⟨(k4 i x j m hx hm).1,(k4 i x j m hx hm).2.imp fun v hv=>⟨hv.1,hv.2.aM n⟩⟩⟩
  | mp es =>
    obtain⟨p,R,h1,h2,c,k,h3,h4,h5⟩:=this
    exact⟨p,R,h1,h2,c,k,h3,h4,fun i x hx=>⟨(h5 i x hx).1.aM n,(h5 i x hx).2.aM n⟩⟩
  | mk es st ck =>
    obtain⟨p,R,h1,h2,c,h3,h4,h5⟩:=this
    exact⟨p,R,h1,h2,c,h3,h4,fun i x hx=>⟨(h5 i x hx).1.aM n,(h5 i x hx).2.aM n⟩⟩
  | it m ck seen=>exact this
theorem Step.aM{Φ Φ':Phi}{σ σ':St}{w w':World}{n:Nat}(h:Step (Φ.aM n) σ w Φ' σ' w'):Step Φ σ w (Φ'.aM Φ.base) σ' w' :=
  ⟨⟨h.le.snap,h.le.obj,rfl⟩,h.os,h.tape,h.output,h.drawn,h.size,h.block,h.snapn,h.locs,h.ownd⟩
theorem aA.kO{P:Program}{g:FuncId}{fn:Func}{c:Code}{ms:List MV}{σ:St}{Q:MV→St→Prop}(n:Nat)(rs:List ResultVar)(hf:P.funcs[g]?=some fn)(hb:fn.body=some c)(hn:(fn.name == "runtime.NumGoroutine")=false)
   (hn':max fn.ntmps ms.length=n)(hrs:fn.results.toList=rs)(h:mwp P c ⟨n,hO 0 ms,[]⟩ σ (G9 P rs Q)):aA P g ms σ Q:=by
  subst hn';subst hrs
  refine⟨⟨fn,hf,by simp[hb],hn⟩,fun Φ w vs hi hr=>?_⟩
  have hr':eI (Φ.aM w.heap.size) vs ms:=⟨hr.1,fun i m hm=>(hr.2 i m hm).aM _⟩
  refine(iY hf hb (wp_mono (wpIn_wide.1 (h _ .wide (Φ.aM w.heap.size) w { tmps:=vs++Array.replicate (fn.ntmps - vs.size) undef,defers:=[] } (hi.aM _) (nH hr') ⟨rfl,Nat.le_refl _⟩)) fun e a' w' hq=>CS rfl hq)).mono ?_
  rintro e w' ⟨v,mv,σ',Φ',q1,q2,q3,q4,q5⟩
  exact⟨v,mv,σ',Φ'.aM Φ.base,q1,q2.aM _,q3.aM _,q4.aM,q5⟩
theorem aA.ghost{P:Program}{g:FuncId}{ms:List MV}{σ:St}{Q:MV→St→Prop}(h:aA P g ms σ fun v σ'=>∃v1 σ1,bU ⟨1,[(0,v)],[]⟩ σ' ⟨1,[(0,v1)],[]⟩ σ1∧Q v1 σ1):aA P g ms σ Q:=by
  refine⟨h.1,fun Φ w vs hi hr=>(h.2 Φ w vs hi hr).mono ?_⟩
  rintro e w' ⟨v,mv,σ',Φ',rfl,q1,q2,q3,v1,σ1,g,hq⟩
  obtain⟨Φ1,i1,r1,s1⟩:=g.2 Φ' w' #[v] q2 ⟨rfl,fun t=>by
    simp only[FR.get,bI]
    split
    · rename_i ht;subst ht;exact q1
    · exact .junk _⟩
  exact⟨v,v1,σ1,Φ1,rfl,by simpa[FR.get,bI] using r1.2 0,i1,q3.trans s1,hq⟩
end

section
def E{α:Sort _}(x:α):α:=x
theorem Lc{α:Sort _}(x:α):E x=x:=rfl
def R(p:Prop):Prop:=p
theorem JB:R True=True:=rfl
theorem Le{α:Sort _}{a b:α}:R (a=b)=(a=b):=rfl
theorem Kl{a b:Prop}:R (a∧b)=(R a∧R b):=rfl
theorem Lf{α:Sort _}{p:α→Prop}:R (∃x,p x)=∃x,R (p x):=rfl
theorem Km{p:Prop}:R (¬p)=¬p:=rfl
theorem Lh{a b:Prop}:R (a∨b)=(R a∨R b):=rfl
theorem iV{p:Prop}(h:p):R p:=h
def jU(σ:St)(K:Nat→Prop):Prop:=∀l,σ l=none→K l
def fR(x:MV)(A B:Prop):Prop:=match x with
 | .bool b=>(b=true→A)∧(b=false→B)
 | _=>False
def dV(C:Prop)(A:Prop):Prop:=C∧A
theorem Ba(A B:Prop):R (fR (.bool true) A B)=R A:=by simp[fR]
theorem yD(A B:Prop):R (fR (.bool false) A B)=R B:=by simp[fR]
theorem DZ{p:Prop}[Decidable p]{A B:Prop}(h:p):R (fR (.bool (decide p)) A B)=R A:=by simp[fR,h]
theorem Gk{p:Prop}[Decidable p]{A B:Prop}(h:¬p):R (fR (.bool (decide p)) A B)=R B:=by simp[fR,h]
theorem DY{p:Prop}[Decidable p]{A B:Prop}(h1:p→R A)(h2:¬p→R B):R (fR (.bool (decide p)) A B):=by
 simp only[R,fR,decide_eq_true_eq,decide_eq_false_iff_not];exact⟨h1,h2⟩
theorem aS{b:Bool}{A B:Prop}(h1:b=true→R A)(h2:b=false→R B):R (fR (.bool b) A B):=⟨h1,h2⟩
def k8(P:Program)(id:Nat)(ops:List Oper)(f:FR)(σ:St)(Q:MQ):Prop:=mwp P (.region id ops.toArray true) f σ Q
def Gm(P:Program)(c:Code)(f:FR)(σ:St)(Q:MQ):Prop:=mwp P (.loop c) f σ Q
def KH(P:Program)(c:Code)(f:FR)(σ:St)(Q:MQ):Prop:=mwp P c f σ Q
def b9(P:Program):Code→FR→St→MQ→Prop
 | .skip,f,σ,Q=>Q .normal f σ
 | .seq a b,f,σ,Q=>b9 P a f σ (oP (fun f' σ'=>b9 P b f' σ' Q) Q)
 | .cond c a b,f,σ,Q=>fR (aB f c) (b9 P a f σ Q) (b9 P b f σ Q)
 | .block id b,f,σ,Q=>b9 P b f σ (jW id Q)
 | .scope b,f,σ,Q=>b9 P b f σ (Hg Q)
 | .label _,f,σ,Q=>Q .normal f σ
 | .ret,f,σ,Q=>Q .ret f σ
 | .exit id,f,σ,Q=>Q (.exit id) f σ
 | .region id ops true,f,σ,Q=>k8 P id ops.toList f σ Q
 | .region _ ops false,f,σ,Q=>cR P ops (Q .normal) ops.toList f σ
 | .loop b,f,σ,Q=>Gm P b f σ Q
 | c,f,σ,Q=>KH P c f σ Q
theorem iB{P:Program}:∀(c:Code) (f:FR) (σ:St) (Q:MQ),b9 P c f σ Q→mwp P c f σ Q:=by
 intro c
 induction c with
 | skip=>intro f σ Q h;exact GH h
 | region id ops draw=>intro f σ Q h;cases draw with
  | true=>exact h
  | false=>exact Bs h
 | seq a b iha ihb =>
  intro f σ Q h
  refine gL (GG (iha f σ _ h) fun e f' σ' hq=>?_)
  cases e with
  | normal=>exact ihb f' σ' Q hq
  | _=>exact hq
 | cond c a b iha ihb =>
  intro f σ Q h
  simp only[b9,fR] at h
  split at h
  ·rename_i t ht
   exact GB ht (fun hh=>iha f σ Q (h.1 hh)) (fun hh=>ihb f σ Q (h.2 hh))
  ·exact h.elim
 | block id b ih=>intro f σ Q h;exact Er (ih f σ _ h)
 | scope b ih=>intro f σ Q h;exact Ew (ih f σ _ h)
 | label l=>intro f σ Q h;exact Ev h
 | loop b _=>intro f σ Q h;exact h
 | ret=>intro f σ Q h;exact IS h
 | exit id=>intro f σ Q h;exact GC h
 | _=>intro f σ Q h;exact h
theorem aA.body{P:Program}{g:FuncId}{fn:Func}{c:Code}{ms:List MV}{σ:St}{Q:MV→St→Prop}(n:Nat)(rs:List ResultVar)(hf:P.funcs[g]?=some fn)(hb:fn.body=some c)(hn:(fn.name == "runtime.NumGoroutine")=false)
 (hn':max fn.ntmps ms.length=n)(hrs:fn.results.toList=rs)(h:R (b9 P (@OfNat.ofNat Code (nat_lit 0) (@_root_.id (OfNat Code (nat_lit 0)) (OfNat.mk c))) ⟨n,hO 0 ms,[]⟩ σ (G9 P rs Q))):aA P g ms σ Q :=
 aA.kO n rs hf hb hn hn' hrs (iB c _ σ _ h)
theorem aV{P:Program}{c:Code}{f:FR}{σ:St}{Q:MQ}{α:Type}(F:α→FR)(S:α→St)(p:α→Prop)(μ:α→Nat)(h0:Gh f σ fun f1 σ1=>∃a,f1=F a∧σ1=S a∧p a)
 (round:∀a,p a→R (b9 P c (F a) (S a) (oP (fun f' σ'=>Gh f' σ' fun f1 σ1=>∃b,f1=F b∧σ1=S b∧p b∧μ b<μ a) Q))):R (Gm P c f σ Q) :=
 GD F S p μ h0 fun a ha=>iB c _ _ _ (round a ha)
section
variable {P:Program} {f:FR} {σ:St} {Q:MQ} {k:MV→St→Prop} {K:FR→St→Prop} {ops:Array Oper} {rest:List Oper}
theorem A6:R (b9 P .skip f σ Q)=R (Q .normal f σ):=rfl
theorem A5{c:Code}:R (b9 P (@OfNat.ofNat Code (nat_lit 0) (@_root_.id (OfNat Code (nat_lit 0)) (OfNat.mk c))) f σ Q)=R (b9 P c f σ Q):=congrArg R rfl
theorem DV{a b:Code}:R (b9 P (.seq a b) f σ Q)=R (b9 P (@OfNat.ofNat Code (nat_lit 0) (@_root_.id (OfNat Code (nat_lit 0)) (OfNat.mk a))) f σ (oP (fun f' σ'=>b9 P (@OfNat.ofNat Code (nat_lit 0) (@_root_.id (OfNat Code (nat_lit 0)) (OfNat.mk b))) f' σ' Q) Q)):=congrArg R rfl
theorem A1{c:Operand}{a b:Code}:R (b9 P (.cond c a b) f σ Q)=R (fR (E (aB f c)) (b9 P (@OfNat.ofNat Code (nat_lit 0) (@_root_.id (OfNat Code (nat_lit 0)) (OfNat.mk a))) f σ Q) (b9 P (@OfNat.ofNat Code (nat_lit 0) (@_root_.id (OfNat Code (nat_lit 0)) (OfNat.mk b))) f σ Q)):=congrArg R rfl
theorem x7{id:Nat}{b:Code}:R (b9 P (.block id b) f σ Q)=R (b9 P (@OfNat.ofNat Code (nat_lit 0) (@_root_.id (OfNat Code (nat_lit 0)) (OfNat.mk b))) f σ (jW id Q)):=congrArg R rfl
theorem DU:R (b9 P .ret f σ Q)=R (Q .ret f σ):=rfl
theorem A3{id:Nat}:R (b9 P (.exit id) f σ Q)=R (Q (.exit id) f σ):=congrArg R rfl
theorem A2{id:Nat}{l:List Oper}:R (b9 P (.region id l.toArray true) f σ Q)=R (k8 P id (@OfNat.ofNat (List Oper) (nat_lit 0) (@_root_.id (OfNat (List Oper) (nat_lit 0)) (OfNat.mk l))) (E f) σ Q):=congrArg R rfl
theorem uG{id:Nat}{l:List Oper}:R (b9 P (.region id l.toArray false) f σ Q)=R (cR P (@OfNat.ofNat (Array Oper) (nat_lit 0) (@_root_.id (OfNat (Array Oper) (nat_lit 0)) (OfNat.mk (l.toArray)))) (Q .normal) (@OfNat.ofNat (List Oper) (nat_lit 0) (@_root_.id (OfNat (List Oper) (nat_lit 0)) (OfNat.mk l))) f σ):=congrArg R rfl
theorem El{l:List Oper}:R (cR P ops K (@OfNat.ofNat (List Oper) (nat_lit 0) (@_root_.id (OfNat (List Oper) (nat_lit 0)) (OfNat.mk l))) f σ)=R (cR P ops K l f σ):=congrArg R rfl
theorem A4{b:Code}:R (b9 P (.loop b) f σ Q)=R (Gm P (@OfNat.ofNat Code (nat_lit 0) (@_root_.id (OfNat Code (nat_lit 0)) (OfNat.mk b))) (E f) σ Q):=congrArg R rfl
theorem vP{next:FR→St→Prop}:R (oP next Q .normal f σ)=R (next f σ):=congrArg R rfl
theorem E1{next:FR→St→Prop}:R (oP next Q .ret f σ)=R (Q .ret f σ):=congrArg R rfl
theorem BT{next:FR→St→Prop}{id:Nat}:R (oP next Q (.exit id) f σ)=R (Q (.exit id) f σ):=congrArg R rfl
theorem rM{id:Nat}:R (jW id Q .normal f σ)=R (Q .normal f σ):=congrArg R rfl
theorem Ak{id:Nat}:R (jW id Q .ret f σ)=R (Q .ret f σ):=congrArg R rfl
theorem Aj{id:Nat}:R (jW id Q (.exit id) f σ)=R (Q .normal f σ):=by simp[jW]
theorem Gv:R (cR P ops K [] f σ)=R (K f σ):=rfl
theorem Ek{dst:Option Tmp}{op:Op}{ty:TypeId}{pos:String}{after:Array Edge}:R (cR P ops K (⟨dst,op,ty,pos,after,none⟩::rest) f σ)=R (gB P f σ dst (cR P ops K (@OfNat.ofNat (List Oper) (nat_lit 0) (@_root_.id (OfNat (List Oper) (nat_lit 0)) (OfNat.mk rest)))) op):=congrArg R rfl
theorem Gx{dst:Option Tmp}{op:Op}(h:cC op=true):R (gB P f σ dst K op)=R (mop P f σ (fun v σ'=>K (aU f dst v) σ') op):=by
 rw[yT h]
def Jp(f:FR)(x:MV)(args:List MV)(K:FR→Prop):Prop:=match x with
 | .fn (.func g) ms ns=>K ⟨f.n,f.l,(g,ms++args++ns)::f.d⟩
 | _=>False
theorem yS{dst:Option Tmp}{x:Operand}{args:Array Operand}{ts:Array TypeId}:R (gB P f σ dst K (.defer ⟨.value x,args,ts⟩))=R (Jp f (E (aB f x)) (E (args.toList.map (aB f))) fun f'=>K (aU f' dst .junk) σ):=congrArg R rfl
theorem Gg{n:Nat}{l:List (Nat × MV)}{d:List (FuncId × List MV)}{g:FuncId}{ms ns args:List MV}{H:FR→Prop}:R (Jp ⟨n,l,d⟩ (.fn (.func g) ms ns) args H)=R (H ⟨n,l,(g,ms++args++ns)::d⟩):=congrArg R rfl
def kV:List Oper→Nat→Option Tmp
 | [],_=>none
 | o::_,0=>o.dst
 | _::r,n+1=>kV r n
theorem Cl:∀(l:List Oper) (j:Nat),(l.toArray[j]?).bind (·.dst)=kV l j:=by
 intro l
 induction l with
 | nil=>intro j;simp[kV]
 | cons o r ih =>
  intro j
  cases j with
  | zero=>simp[kV]
  | succ j=>simpa[kV] using ih j
def bE(x:MV)(want:Bool)(yes no:Prop):Prop:=match x with
 | .bool b=>(b=want→yes)∧(b=(!want)→no)
 | .tup []=>no
 | _=>False
theorem yF(want:Bool)(A B:Prop):R (bE (.tup []) want A B)=R (B):=congrArg R (by simp[bE])
theorem D8(A B:Prop):R (bE (.bool true) true A B)=R (A):=congrArg R (by simp[bE])
theorem D7(A B:Prop):R (bE (.bool true) false A B)=R (B):=congrArg R (by simp[bE])
theorem D6(A B:Prop):R (bE (.bool false) true A B)=R (B):=congrArg R (by simp[bE])
theorem D5(A B:Prop):R (bE (.bool false) false A B)=R (A):=congrArg R (by simp[bE])
theorem aQ{b want:Bool}{A B:Prop}(h1:b=want→R A)(h2:b=(!want)→R B):R (bE (.bool b) want A B):=⟨h1,h2⟩
theorem Bb{p:Prop}[Decidable p]{A B:Prop}(h1:p→R A)(h2:¬p→R B):R (bE (.bool (decide p)) true A B):=by
 simp only[R,bE,decide_eq_true_eq,Bool.not_true,decide_eq_false_iff_not];exact⟨h1,h2⟩
theorem yE{p:Prop}[Decidable p]{A B:Prop}(h1:¬p→R A)(h2:p→R B):R (bE (.bool (decide p)) false A B):=by
 simp only[R,bE,decide_eq_true_eq,Bool.not_false,decide_eq_false_iff_not];exact⟨h1,h2⟩
theorem D2{p:Prop}[Decidable p]{A B:Prop}(h:p):R (bE (.bool (decide p)) true A B)=R A:=by simp[bE,h]
theorem D1{p:Prop}[Decidable p]{A B:Prop}(h:¬p):R (bE (.bool (decide p)) true A B)=R B:=by simp[bE,h]
theorem D4{p:Prop}[Decidable p]{A B:Prop}(h:¬p):R (bE (.bool (decide p)) false A B)=R A:=by simp[bE,h]
theorem D3{p:Prop}[Decidable p]{A B:Prop}(h:p):R (bE (.bool (decide p)) false A B)=R B:=by simp[bE,h]
def FE(f:FR):Option Tmp→MV
 | some t=>f.get t
 | none=>.junk
theorem Bn{l:List Oper}{dst:Option Tmp}{op:Op}{ty:TypeId}{pos:String}{after:Array Edge}{j:Nat}{want:Bool}:R (cR P (@OfNat.ofNat (Array Oper) (nat_lit 0) (@_root_.id (OfNat (Array Oper) (nat_lit 0)) (OfNat.mk (l.toArray)))) K (⟨dst,op,ty,pos,after,some (j,want)⟩::rest) f σ)=R (bE (E (FE f (kV (@OfNat.ofNat (List Oper) (nat_lit 0) (@_root_.id (OfNat (List Oper) (nat_lit 0)) (OfNat.mk l))) j))) want (gB P f σ dst (cR P (@OfNat.ofNat (Array Oper) (nat_lit 0) (@_root_.id (OfNat (Array Oper) (nat_lit 0)) (OfNat.mk (l.toArray)))) K (@OfNat.ofNat (List Oper) (nat_lit 0) (@_root_.id (OfNat (List Oper) (nat_lit 0)) (OfNat.mk rest)))) op) (cR P (@OfNat.ofNat (Array Oper) (nat_lit 0) (@_root_.id (OfNat (Array Oper) (nat_lit 0)) (OfNat.mk (l.toArray)))) K (@OfNat.ofNat (List Oper) (nat_lit 0) (@_root_.id (OfNat (List Oper) (nat_lit 0)) (OfNat.mk rest))) (aU f dst (.tup [])) σ)):=congrArg R (by
 show cR P l.toArray K (⟨dst,op,ty,pos,after,some (j,want)⟩::rest) f σ=bE (FE f (kV l j)) want (gB P f σ dst (cR P l.toArray K rest) op) (cR P l.toArray K rest (aU f dst (.tup [])) σ)
 simp only[cR,dT,Cl]
 cases kV l j<;>rfl)
theorem Du{t:Tmp}:FE f (some t)=f.get t:=rfl
theorem Dk{l:List Oper}{j:Nat}:kV (@OfNat.ofNat (List Oper) (nat_lit 0) (@_root_.id (OfNat (List Oper) (nat_lit 0)) (OfNat.mk l))) j=kV l j:=rfl
theorem Dm{o:Oper}{r:List Oper}:kV (o::r) 0=o.dst:=rfl
theorem Dl{o:Oper}{r:List Oper}{n:Nat}:kV (o::r) (n+1)=kV r n:=rfl
theorem En{n:Nat}{l:List (Nat × MV)}{d:Nat}{v:MV}{ds:List (FuncId × List MV)}(h:d<n):aU ⟨n,l,ds⟩ (some d) v=⟨n,(d,v)::l,ds⟩:=by simp[aU,h]
theorem Em{v:MV}:aU f none v=f:=rfl
theorem JO{n:Nat}{l:List (Nat × MV)}{t:Nat}{ds:List (FuncId × List MV)}:FR.get ⟨n,l,ds⟩ t=bI l t:=rfl
theorem FT{t:Nat}:bI [] t=.junk:=rfl
theorem FQ{k:Nat}{v:MV}{r:List (Nat × MV)}:bI ((k,v)::r) k=v:=by simp[bI]
theorem Dz{k:Nat}{v:MV}{r:List (Nat × MV)}{t:Nat}(h:t≠k):bI ((k,v)::r) t=bI r t:=by simp[bI,h]
theorem GA{n:Nat}{l:List (Nat × MV)}{t:Nat}{ds:List (FuncId × List MV)}:aB ⟨n,l,ds⟩ (.tmp t)=bI l t:=rfl
theorem Br{v:Value}:aB f (.const v)=ofV v:=rfl
theorem Ep{g:FuncId}:aB f (.func g)=.fn (.func g) [] []:=rfl
theorem GN{b:Bool}:ofV (.bool b)=.bool b:=rfl
theorem IW{i:IntKind}{n:Int}:ofV (.int i n)=.int i n:=rfl
theorem IX{s:ByteArray}:ofV (.string s)=.str s:=rfl
theorem GQ:ofV (.pointer none)=.nilp:=rfl
theorem GS:ofV (.slice none 0 0)=.aZ:=rfl
theorem GP:ofV (.map none)=.nilm:=rfl
theorem Ez:ofV .nilFunc=.nilfn:=rfl
theorem GO:ofV .nilIface=.nili:=rfl
def cN(P:Program)(g:FuncId)(ms:List MV)(σ:St)(Q:MV→St→Prop):Prop:=aA P g ms σ Q
def Gf(P:Program)(x:MV)(args:List MV)(σ:St)(k:MV→St→Prop):Prop :=
 match x with
 | .fn (.func g) ms ns=>aA P g (ms++args++ns) σ k
 | _=>False
theorem DT{g:FuncId}{ms ns args:List MV}:R (Gf P (.fn (.func g) ms ns) args σ k)=R (cN P g (E (ms++args++ns)) σ k):=congrArg R rfl
def bF(v:MV)(σ:St)(k:MV→St→Prop):Prop:=k v σ
theorem IK{v:MV}:R (bF v σ k)=R (k v σ):=congrArg R rfl
theorem IZ{C A:Prop}(h:C):R (dV C A)=R A:=by simp[dV,h]
theorem Bo{C:Prop}{v:MV}:R (mpure σ k (some (C,v)))=R (dV (E C) (bF (E v) σ k)):=congrArg R rfl
def Cw(P:Program)(t:TypeId)(o:Option aO)(i of:Nat)(σ:St)(k:MV→St→Prop):Prop :=
 match o with
 | some (.row _ _ xs)=>dV ((td P t).ok=true∧i<xs.length∧of+(td P t).size≤(xs.getD i []).length∧0<(td P t).size) (bF (cB (td P t) (xs.getD i []) of) σ k)
 | _=>False
theorem D9{t:TypeId}{l i o:Nat}:R (iD P t (.ptr l i o) σ k)=R (Cw P t (E (σ l)) i o σ k):=congrArg R rfl
theorem Bf{t:TypeId}{cs:List MV}:R (iD P t (.cptr cs) σ k)=R (dV (E ((td P t).ok=true∧(td P t).size≤cs.length∧0<(td P t).size)) (bF (E (cB (td P t) cs 0)) σ k)):=congrArg R rfl
theorem yH{t tt:TypeId}{e i o:Nat}{xs:List (List MV)}:R (Cw P t (some (.row tt e xs)) i o σ k)=R (dV (E ((td P t).ok=true∧i<xs.length∧o+(td P t).size≤(xs.getD i []).length∧0<(td P t).size)) (bF (E (cB (td P t) (xs.getD i []) o)) σ k)):=congrArg R rfl
def yU(P:Program)(t:TypeId)(o:Option aO)(l i of:Nat)(y:MV)(σ:St)(k:MV→St→Prop):Prop :=
 match o with
 | some (.row tt e xs)=>dV ((td P t).ok=true∧i<xs.length∧y.cells.all MV.aF=true∧y.cells.length=(td P t).size∧of+y.cells.length≤(xs.getD i []).length) (bF .junk (σ.set l (.row tt e (xs.set i (laid (xs.getD i []) of y.cells)))) k)
 | _=>False
theorem Bq{t:TypeId}{l i o:Nat}{y:MV}:R (kB P t (.ptr l i o) y σ k)=R (yU P t (E (σ l)) l i o y σ k):=congrArg R rfl
theorem uV{t tt:TypeId}{e l i o:Nat}{y:MV}{xs:List (List MV)}:R (yU P t (some (.row tt e xs)) l i o y σ k)=R (dV (E ((td P t).ok=true∧i<xs.length∧y.cells.all MV.aF=true∧y.cells.length=(td P t).size∧o+y.cells.length≤(xs.getD i []).length)) (bF (E .junk) (σ.set l (.row tt e (xs.set i (laid (xs.getD i []) o y.cells)))) k)):=congrArg R rfl
theorem Bu(k:Nat):St.none k=Option.none:=rfl
theorem set_set(σ:St)(l:Nat)(o o':aO):(σ.set l o).set l o'=σ.set l o':=by
 funext k;simp only[St.set];split<;>rfl
theorem set_comm(σ:St){l k:Nat}(o o':aO)(h:l≠k):(σ.set l o).set k o'=(σ.set k o').set l o:=by
 funext j;simp only[St.set]
 by_cases h1:j=k
 ·subst h1;simp[Ne.symm h]
 ·simp[h1]
theorem rR(σ:St){l k:Nat}(o:aO)(h:k≠l):(σ.set k o).del l=(σ.del l).set k o:=by
 funext j;simp only[St.set,St.del]
 by_cases h1:j=l
 ·subst h1;simp[Ne.symm h]
 ·simp[h1]
theorem aH(σ:St)(l:Nat)(o:aO):(σ.set l o) l=some o:=by simp[St.set]
theorem aI(σ:St)(l k:Nat)(o:aO)(h:k≠l):(σ.set l o) k=σ k:=by simp[St.set,h]
theorem Hl(σ:St)(l k:Nat)(o:aO):(σ.set l o) k=none↔k≠l∧σ k=none:=by
 simp only[St.set];split<;>simp_all
theorem Gs{x:Operand}:R (mop P f σ k (.move x))=R (bF (E (aB f x)) σ k):=congrArg R (by simp[mop,qop,mpure,bF,E])
theorem Bj{x:Operand}:R (mop P f σ k (.assign x))=R (bF (E (aB f x)) σ k):=congrArg R (by simp[mop,qop,mpure,bF,E])
def qR(c a b:MV):PV:=match c with
 | .bool t=>some (True,if t=true then a else b)
 | _=>none
theorem Gt{c a b:Operand}:R (mop P f σ k (.pick c a b))=R (mpure σ k (E (qR (aB f c) (aB f a) (aB f b)))):=congrArg R rfl
theorem I4{p:Prop}[Decidable p]{a b:MV}(h:p):qR (.bool (decide p)) a b=some (True,a):=by simp[qR,h]
theorem I2{p:Prop}[Decidable p]{a b:MV}(h:¬p):qR (.bool (decide p)) a b=some (True,b):=by simp[qR,h]
theorem I3{a b:MV}:qR (.bool true) a b=some (True,a):=rfl
theorem I1{a b:MV}:qR (.bool false) a b=some (True,b):=rfl
theorem IV{p:Prop}[Decidable p]:(!decide p)=decide (¬p):=by simp
def J4(x:MV):PV:=match x with
 | .ptr l i o=>some (True,.ptr l i o)
 | .cptr cs=>some (True,.cptr cs)
 | _=>none
theorem uN{x:Operand}:R (mop P f σ k (.nilCheck x))=R (mpure σ k (E (J4 (aB f x)))):=congrArg R rfl
theorem G8{l i o:Nat}:J4 (.ptr l i o)=some (True,.ptr l i o):=rfl
theorem EM{cs:List MV}:J4 (.cptr cs)=some (True,.cptr cs):=rfl
theorem Ee{op:BinOp}{t yt:TypeId}{x y:Operand}:R (mop P f σ k (.binOp op t x y yt))=R (mpure σ k (E (bK P t op (aB f x) (aB f y)))):=congrArg R rfl
theorem Gu{op:UnOp}{t:TypeId}{x:Operand}:R (mop P f σ k (.unOp op t x))=R (mpure σ k (E (mun op (aB f x)))):=congrArg R rfl
theorem yN{s d:TypeId}{x:Operand}:R (mop P f σ k (.convert s d x))=R (eR P s d (E (aB f x)) σ k):=congrArg R rfl
theorem uM{fn:Fn}{a b:Array Operand}:R (mop P f σ k (.makeFunc fn a b))=R (bF (E (.fn fn (a.toList.map (aB f)) (b.toList.map (aB f)))) σ k):=congrArg R (by simp[mop,qop,mpure,bF,E])
theorem Eh{t:TypeId}{x:Operand}{lo hi mx:Option Operand}:R (mop P f σ k (.slice t x lo hi mx))=R (mpure σ k (E (qC P t (aB f x) (lo.map (aB f)) (hi.map (aB f)) (mx.map (aB f))))):=congrArg R rfl
theorem rX{t:TypeId}{x:Operand}{i:Nat}:R (mop P f σ k (.fieldAddr t x i))=R (mpure σ k (E (fA P t (aB f x) i))):=congrArg R rfl
theorem rY{t:TypeId}{x:Tmp}{i:Operand}:R (mop P f σ k (.indexAddr t (.tmp x) i))=R (mpure σ k (E (gV P t (aB f (.tmp x)) (aB f i)))):=congrArg R rfl
theorem p9{t:TypeId}{g:Nat}{i:Operand}:R (mop P f σ k (.indexAddr t (.global g) i))=R (mpure σ k (AI P t g (E (aB f i)))):=congrArg R rfl
theorem Eg{t:TypeId}{x i:Operand}:R (mop P f σ k (.index t x i))=R (mpure σ k (E (p5 P t (aB f x) (aB f i)))):=congrArg R rfl
def qQ(x:MV)(i:Nat):PV:=match x with
 | .tup vs=>match vs[i]? with|some v=>some (True,v)|none=>none
 | _=>none
theorem yO{x:Operand}{i:Nat}:R (mop P f σ k (.extract x i))=R (mpure σ k (E (qQ (aB f x) i))):=congrArg R rfl
theorem vH{vs:List MV}{i:Nat}:qQ (.tup vs) i=(vs[i]?).map fun v=>(True,v):=by simp only[qQ];cases vs[i]?<;>rfl
theorem Ef{t:TypeId}{parts:Array (Nat × Operand)}:R (mop P f σ k (.build t parts))=R (mpure σ k (E (j9 P f t parts))):=congrArg R rfl
theorem Bk{t:TypeId}{m x:Operand}{ok:Bool}:R (mop P f σ k (.lookup t m x ok))=R (dY P t (E (aB f m)) (E (aB f x)) ok (E (mapOf σ (aB f m))) σ k):=congrArg R rfl
theorem rZ{t:TypeId}{m x y:Operand}:R (mop P f σ k (.mapUpdate t m x y))=R (dX P t (E (aB f m)) (E (aB f x)) (E (aB f y)) (E (mapOf σ (aB f m))) σ k):=congrArg R rfl
theorem Gr{t:TypeId}{x:Operand}:R (mop P f σ k (.load t x))=R (iD P t (E (aB f x)) σ k):=congrArg R rfl
theorem Ei{t:TypeId}{x y:Operand}:R (mop P f σ k (.store t x y))=R (kB P t (E (aB f x)) (E (aB f y)) σ k):=congrArg R rfl
theorem Ed{t:TypeId}:R (mop P f σ k (.alloc t))=R (dV (E ((td P t).zok=true)) (jU (E σ) (fun l=>bF (E (.ptr l 0 0)) (σ.set l (.row t (td P t).size [(td P t).zero])) k))):=congrArg R rfl
def KG(t:TypeId)(x:MV)(σ:St)(k:MV→St→Prop):Prop:=x.cells.all MV.aF=true∧∀l,σ l=none→k (.ptr l 0 0) (σ.set l (.row t x.cells.length [x.cells]))
theorem IN{t:TypeId}{x:Operand}:R (mop P f σ k (.box t x))=R (KG t (E (aB f x)) σ k):=congrArg R rfl
theorem IG{t:TypeId}{x:MV}:R (KG t x σ k)=R (dV (E (x.cells.all MV.aF=true)) (jU (E σ) (fun l=>bF (E (.ptr l 0 0)) (σ.set l (.row t x.cells.length [x.cells])) k))):=congrArg R rfl
theorem p8{t:TypeId}{n:Nat}{parts:Array (Nat × Operand)}:R (mop P f σ k (.buildSlice t n parts))=R (b7 P f t n parts σ k):=congrArg R rfl
def mbs(P:Program)(d:TK)(len:Nat)(parts:List (Nat × MV))(σ:St)(k:MV→St→Prop):Prop :=
 match d with
 | .slice el=>dV ((td P el).zok=true∧parts.map (·.1)=List.range len∧(parts.all fun p=>p.2.cells.all MV.aF&&p.2.cells.length==(td P el).size)=true∧len * (td P el).size≤16777216∧len≤16777216)
   (jU σ fun l=>bF (.vec (td P el).size l 0 len) (σ.set l (.row el (td P el).size (parts.map fun p=>p.2.cells))) k)
 | _=>False
theorem pX{t:TypeId}{n:Nat}{parts:Array (Nat × Operand)}:R (b7 P f t n parts σ k)=R (mbs P (E (td P t).k) n (E (parts.toList.map fun p=>(p.1,aB f p.2))) σ k):=congrArg R (by
 unfold b7 mbs dV jU bF E
 cases (td P t).k<;>first|rfl|(simp only[List.map_map,List.all_map];rfl))
theorem DS{el:TypeId}{len:Nat}{parts:List (Nat × MV)}:R (mbs P (.slice el) len parts σ k)=R (dV (E ((td P el).zok=true∧parts.map (·.1)=List.range len∧(parts.all fun p=>p.2.cells.all MV.aF&&p.2.cells.length==(td P el).size)=true∧len * (td P el).size≤16777216∧len≤16777216))
   (jU (E σ) (fun l=>bF (E (.vec (td P el).size l 0 len)) (σ.set l (.row el (td P el).size (parts.map fun p=>p.2.cells))) k))):=rfl
theorem Gq{x:Operand}{args:Array Operand}{ts:Array TypeId}:R (mop P f σ k (.call ⟨.value x,args,ts⟩))=R (Gf P (E (aB f x)) (E (args.toList.map (aB f))) σ k):=congrArg R rfl
theorem yM{b:Builtin}{args:Array Operand}{ts:Array TypeId}:R (mop P f σ k (.call ⟨.builtin b,args,ts⟩))=R (eC P f b args.toList ts.toList σ k):=congrArg R rfl
theorem uT{dst:Option Tmp}{s x:Operand}{t xt:TypeId}:R (gB P f σ dst K (.call ⟨.builtin .append,#[s,x],#[t,xt]⟩))=R (IL (E (td P xt).k.isInt) (GJ P t (aB f s) (aB f x) σ (fun v σ'=>K (aU f dst v) σ')) (mop P f σ (fun v σ'=>K (aU f dst v) σ') (.call ⟨.builtin .append,#[s,x],#[t,xt]⟩))):=congrArg R rfl
theorem J1{A B:Prop}:R (IL false A B)=R B:=congrArg R rfl
end
end

section
section
variable {P:Program} {f:FR} {σ:St} {k:MV→St→Prop} {t:TypeId}
theorem F2{i:IntKind}{a b:Int}:bK P t .add (.int i a) (.int i b)=some (True,.int i (i.wrap (a+b))):=by simp[bK,eB]
theorem Ge{i:IntKind}{a b:Int}:bK P t .sub (.int i a) (.int i b)=some (True,.int i (i.wrap (a - b))):=by simp[bK,eB]
theorem Ga{i:IntKind}{a b:Int}:bK P t .mul (.int i a) (.int i b)=some (True,.int i (i.wrap (a * b))):=by simp[bK,eB]
theorem F3{i:IntKind}{a b:Int}:bK P t .and (.int i a) (.int i b)=some (True,.int i (iW i a b)):=by simp only[bK,if_true,eB]
theorem IC{i:IntKind}{a b:Int}:bK P t .or (.int i a) (.int i b)=some (True,.int i (orK i a b)):=by simp only[bK,if_true,eB]
theorem x6{i:IntKind}{a b:Int}:bK P t .andNot (.int i a) (.int i b)=some (True,.int i (mB i a b)):=by simp only[bK,if_true,eB]
theorem F4{i:IntKind}{a b:Int}:bK P t .eql (.int i a) (.int i b)=some (True,.bool (decide (a=b))):=by simp[bK,eB];rfl
theorem Gb{i:IntKind}{a b:Int}:bK P t .neq (.int i a) (.int i b)=some (True,.bool (decide (¬a=b))):=by simp[bK,eB];rfl
theorem F9{i:IntKind}{a b:Int}:bK P t .lss (.int i a) (.int i b)=some (True,.bool (decide (a<b))):=by simp[bK,eB]
theorem F7{i:IntKind}{a b:Int}:bK P t .leq (.int i a) (.int i b)=some (True,.bool (decide (a≤b))):=by simp[bK,eB]
theorem F6{i:IntKind}{a b:Int}:bK P t .gtr (.int i a) (.int i b)=some (True,.bool (decide (b<a))):=by simp[bK,eB]
theorem F5{i:IntKind}{a b:Int}:bK P t .geq (.int i a) (.int i b)=some (True,.bool (decide (b≤a))):=by simp[bK,eB]
theorem Gc{i j:IntKind}{a b:Int}:bK P t .shl (.int i a) (.int j b)=some (0≤b,.int i (i.wrap (a * 2 ^ (min b.toNat i.bits)))):=by simp[bK,j6]
theorem Gd{i j:IntKind}{a b:Int}:bK P t .shr (.int i a) (.int j b)=some (0≤b,.int i (a.fdiv (2 ^ (min b.toNat i.bits)))):=by simp[bK,j6]
theorem lE(x y:ByteArray):x.toList=y.toList↔x=y:=by
 rw[ByteArray.toList_eq,ByteArray.toList_eq]
 obtain⟨⟨a⟩⟩:=x
 obtain⟨⟨b⟩⟩:=y
 simp
theorem l4(x y:ByteArray):(x.toList==y.toList)=decide (x=y):=by
 rw[Bool.eq_iff_iff];simp[lE]
theorem DL{x y:ByteArray}:bK P t .eql (.str x) (.str y)=some (True,.bool (decide (x=y))):=by simp only[bK,l3,l4]
theorem DO{x y:ByteArray}:bK P t .neq (.str x) (.str y)=some (True,.bool (decide (¬x=y))):=by simp only[bK,l3,l4];simp
theorem DN{x y:ByteArray}:bK P t .lss (.str x) (.str y)=some (True,.bool (Op.bytesLess x.toList y.toList)):=by simp only[bK,l3]
theorem DM{x y:ByteArray}:bK P t .gtr (.str x) (.str y)=some (True,.bool (!(Op.bytesLess x.toList y.toList || decide (x=y)))):=by simp only[bK,l3,l4]
theorem DI{x y:Bool}:bK P t .eql (.bool x) (.bool y)=some ((td P t).k.isBool=true,.bool (x==y)):=rfl
theorem DJ{x y:Bool}:bK P t .neq (.bool x) (.bool y)=some ((td P t).k.isBool=true,.bool (!(x==y))):=rfl
theorem ID{op:BinOp}{l i o:Nat}:bK P t op (.ptr l i o) .nilp=eqV op ((td P t).k.mF=true) false:=rfl
theorem IB{op:BinOp}{l i o:Nat}:bK P t op .nilp (.ptr l i o)=eqV op ((td P t).k.mF=true) false:=rfl
theorem Ix{op:BinOp}{cs:List MV}:bK P t op (.cptr cs) .nilp=eqV op ((td P t).k.mF=true) false:=rfl
theorem IE{op:BinOp}{e:Nat}{x:List MV}{xs:List (List MV)}{b:Bool}:bK P t op (.lst e (x::xs) b) .aZ=eqV op ((td P t).k.AP=true) false:=rfl
theorem IF{op:BinOp}:bK P t op .aZ .aZ=eqV op ((td P t).k.AP=true) true:=rfl
theorem Iz{op:BinOp}:bK P t op .nilfn .nilfn=eqV op ((td P t).k.AO=true) true:=rfl
theorem Iy{op:BinOp}{f:Fn}{a b:List MV}:bK P t op (.fn f a b) .nilfn=eqV op ((td P t).k.AO=true) false:=rfl
theorem IA{op:BinOp}:bK P t op .nilp .nilp=eqV op ((td P t).k.mF=true) true:=rfl
def FV(P:Program)(op:BinOp)(t:TypeId)(o:Option Bool):PV:=match o with
 | some b=>eqV op (dG P t=true) b
 | none=>none
theorem x0{op:BinOp}{xs ys:List MV}:bK P t op (.agg xs) (.agg ys)=FV P op t (fY P 6 t (.agg xs) (.agg ys)):=rfl
theorem oE{op:BinOp}{b:Bool}:FV P op t (some b)=eqV op (dG P t=true) b:=rfl
theorem qW{σ:St}{l k:Nat}{o:aO}{p:Prop}(h:l≠k→k≠l→σ l=none→p):(σ.set k o) l=none→p:=fun hn =>
 have e:l≠k∧σ l=none:=(Hl σ k l o).mp hn
 h e.1 (Ne.symm e.1) e.2
theorem wO(σ:St)(l:Nat)(o:aO):(σ.set l o).del l=σ.del l:=by
 funext k;simp only[St.set,St.del];split<;>rfl
theorem GL(l:Nat):St.none.del l=St.none:=by
 funext k;simp only[St.none,St.del];split<;>rfl
theorem Da{α β:Type}{f:α→β}{l:List α}{n:Nat}:(l.map f).drop n=(l.drop n).map f:=by rw[List.map_drop]
theorem zR(σ:St){l a:Nat}(o o' oa:aO)(h:l≠a):((σ.set l o).set a oa).set l o'=(σ.set l o').set a oa:=by rw[set_comm _ _ _ (Ne.symm h),set_set]
theorem tI(σ:St){l a b:Nat}(o o' oa ob:aO)(h:l≠a)(h2:l≠b):(((σ.set l o).set a oa).set b ob).set l o'=((σ.set l o').set a oa).set b ob:=by rw[set_comm _ _ _ (Ne.symm h2),zR _ _ _ _ h]
theorem ER(σ:St){l a b c:Nat}(o o' oa ob oc:aO)(h:l≠a)(h2:l≠b)(h3:l≠c):((((σ.set l o).set a oa).set b ob).set c oc).set l o'=(((σ.set l o').set a oa).set b ob).set c oc:=by rw[set_comm _ _ _ (Ne.symm h3),tI _ _ _ _ _ h h2]
theorem HV{p q:Prop}[Decidable p][Decidable q]:(decide p&&decide q)=decide (p∧q):=by simp
theorem Iv{b:Bool}{o:Bool}:(some o).map (fun c=>b&&c)=some (b&&o):=rfl
theorem HX{C:Prop}{b:Bool}:eqV .eql C b=some (C,.bool b):=rfl
theorem B9{C:Prop}{b:Bool}:eqV .neq C b=some (C,.bool (!b)):=rfl
theorem rV{s x:Operand}{t xt:TypeId}:R (eC P f .append [s,x] [t,xt] σ k)=R (gK P t xt (E (aB f s)) (E (aB f x)) σ k):=congrArg R rfl
theorem AW{x:Operand}{t:TypeId}:R (eC P f .len [x] [t] σ k)=R (mpure σ k (E (Gl P t (aB f x)))):=congrArg R (by simp[eC,cM,E])
theorem AX{x y:Operand}{t u:TypeId}:R (eC P f .max [x,y] [t,u] σ k)=R (mpure σ k (E (Cx (aB f x) (aB f y)))):=congrArg R (by simp[eC,cM,E])
def mcv(P:Program)(s d:TypeId)(ks kd:TK)(x:MV)(σ:St)(k:MV→St→Prop):Prop :=
 match ks,kd,x with
 | .str,.slice el,.str b=>((td P el).k=.int .u8∧FZ el=true∧b.size≤140737488355328)∧∀l,σ l=none→k (.vec 1 l 0 b.size) (σ.set l (.row el 1 (b.toList.map fun c=>[.int .u8 (c.toNat:Int)])))
 | .slice el,.str,.str _=>False
 | .slice el,.str,x=>match eS σ 1 x with
  | some ys=>((td P el).k=.int .u8∧ys.all isByte=true)∧k (.str (bytesOf ys)) σ
  | none=>False
 | _,_,x=>mpure σ k (mH P s d x)
theorem x9{s d:TypeId}{x:MV}:R (eR P s d x σ k)=R (mcv P s d (E (td P s).k) (E (td P d).k) x σ k):=congrArg R (by unfold eR mcv E;rfl)
theorem II{s d:TypeId}{i j j':IntKind}{n:Int}:R (mcv P s d (.int j) (.int i) (.int j' n) σ k)=R (mpure σ k (E (mH P s d (.int j' n)))):=congrArg R rfl
theorem JU{s d el:TypeId}{b:ByteArray}:R (mcv P s d .str (.slice el) (.str b) σ k)=R (dV (E ((td P el).k=.int .u8∧FZ el=true∧b.size≤140737488355328)) (jU (E σ) (fun l=>bF (E (.vec 1 l 0 b.size)) (σ.set l (.row el 1 (b.toList.map fun c=>[.int .u8 (c.toNat:Int)]))) k))):=congrArg R rfl
def JV(P:Program)(el:TypeId)(o:Option (List (List MV)))(σ:St)(k:MV→St→Prop):Prop:=match o with
 | some ys=>dV ((td P el).k=.int .u8∧ys.all isByte=true) (bF (.str (bytesOf ys)) σ k)
 | none=>False
theorem JT{s d el:TypeId}{e l lo n:Nat}:R (mcv P s d (.slice el) .str (.vec e l lo n) σ k)=R (JV P el (E (eS σ 1 (.vec e l lo n))) σ k):=congrArg R (by unfold mcv JV E;simp only;split<;>rfl)
theorem DW{el:TypeId}{ys:List (List MV)}:R (JV P el (some ys) σ k)=R (dV (E ((td P el).k=.int .u8∧ys.all isByte=true)) (bF (E (.str (bytesOf ys))) σ k)):=congrArg R rfl
attribute [go_sem] J1 TK.isInt x9 II JU JT DW mH IH
def Iw(P:Program)(d:TK)(xt:TypeId)(s:MV)(ys:Option (List (List MV)))(σ:St)(k:MV→St→Prop):Prop :=
 match d with
 | .slice el=>match ys with
  | some ys=>match s with
   | .aZ=>dV ((td P xt).k.dM=true∧(td P el).zok=true∧Fits ys.length (td P el).bytes) (jU σ fun l=>bF (.vec (td P el).size l 0 ys.length) (σ.set l (.row el (td P el).size ys)) k)
   | .lst e xs true=>dV ((td P xt).k.dM=true∧(td P el).zok=true∧e=(td P el).size∧(xs=[]∨0<ys.length)∧Fits (xs.length+ys.length) (td P el).bytes)
     (jU σ fun l=>bF (.vec (td P el).size l 0 (xs.length+ys.length)) (σ.set l (.row el (td P el).size (xs++ys))) k)
   | .vec e l lo n=>match σ l with
    | some (.row tt e' xs)=>dV ((td P xt).k.dM=true∧(td P el).zok=true∧e=(td P el).size∧e'=(td P el).size∧tt=el∧lo=0∧lo+n≤xs.length∧Fits (n+ys.length) (td P el).bytes)
      (jU σ fun l'=>bF (.vec (td P el).size l' 0 (n+ys.length)) ((σ.del l).set l' (.row el (td P el).size (dE xs lo n ys))) k)
    | _=>False
   | _=>False
  | none=>False
 | _=>False
def J8:TK→Option TypeId
 | .slice el=>some el
 | _=>none
def Gw(P:Program)(σ:St)(x:MV):Option TypeId→Option (List (List MV))
 | some el=>eS σ (td P el).size x
 | none=>none
theorem AV{t xt:TypeId}{s x:MV}:R (gK P t xt s x σ k)=R (Iw P (E (td P t).k) xt s (E (Gw P σ x (J8 (td P t).k))) σ k):=congrArg R (by
 unfold gK Iw Gw J8 dV jU bF E
 cases (td P t).k<;>rfl)
theorem FX{el xt:TypeId}{ys xs:List (List MV)}{e:Nat}:R (Iw P (.slice el) xt (.lst e xs true) (some ys) σ k)=R (dV (E ((td P xt).k.dM=true∧(td P el).zok=true∧e=(td P el).size∧(xs=[]∨0<ys.length)∧Fits (xs.length+ys.length) (td P el).bytes))
     (jU (E σ) (fun l=>bF (E (.vec (td P el).size l 0 (xs.length+ys.length))) (σ.set l (.row el (td P el).size (xs++ys))) k))):=rfl
def F0(P:Program)(el xt:TypeId)(e l lo n:Nat)(o:Option aO)(ys:List (List MV))(σ:St)(k:MV→St→Prop):Prop :=
 match o with
 | some (.row tt e' xs)=>dV ((td P xt).k.dM=true∧(td P el).zok=true∧e=(td P el).size∧e'=(td P el).size∧tt=el∧lo=0∧lo+n≤xs.length∧Fits (n+ys.length) (td P el).bytes)
      (jU σ fun l'=>bF (.vec (td P el).size l' 0 (n+ys.length)) ((σ.del l).set l' (.row el (td P el).size (dE xs lo n ys))) k)
 | _=>False
theorem FY{el xt:TypeId}{ys:List (List MV)}{e l lo n:Nat}:R (Iw P (.slice el) xt (.vec e l lo n) (some ys) σ k)=R (F0 P el xt e l lo n (E (σ l)) ys σ k):=congrArg R rfl
def mif(c:Prop)(A B:Prop):Prop:=(c→A)∧(¬c→B)
theorem IJ{c A B:Prop}(h:c):R (mif c A B)=R A:=by simp[mif,h]
theorem JW{c A B:Prop}(h1:c→R A)(h2:¬c→R B):R (mif c A B):=⟨h1,h2⟩
theorem DH{el xt tt:TypeId}{ys xs:List (List MV)}{e e' l lo n:Nat}:R (F0 P el xt e l lo n (some (.row tt e' xs)) ys σ k)=R (mif (E (lo+n=xs.length))
      (dV (E ((td P xt).k.dM=true∧(td P el).zok=true∧e=(td P el).size∧e'=(td P el).size∧tt=el∧lo=0∧Fits (n+ys.length) (td P el).bytes))
       (jU (E σ) (fun l'=>bF (E (.vec (td P el).size l' 0 (n+ys.length))) ((σ.del l).set l' (.row el (td P el).size (xs.drop lo++ys))) k)))
      (dV (E ((td P xt).k.dM=true∧(td P el).zok=true∧e=(td P el).size∧e'=(td P el).size∧tt=el∧lo=0∧lo+n≤xs.length∧Fits (n+ys.length) (td P el).bytes))
       (jU (E σ) (fun l'=>bF (E (.vec (td P el).size l' 0 (n+ys.length))) ((σ.del l).set l' (.row el (td P el).size (dE xs lo n ys))) k)))):=by
 apply congrArg R
 simp only[F0,mif,E]
 by_cases h:lo+n=xs.length
 ·simp only[h,true_implies,not_true_eq_false,false_implies,and_true,Nat.le_refl,true_and,Ae h]
 ·simp only[h,false_implies,not_false_eq_true,true_implies,true_and]
theorem zN{rs:List ResultVar}{Q:MV→St→Prop}{n:Nat}{l:List (Nat × MV)}:R (G9 P rs Q .normal ⟨n,l,[]⟩ σ)=R (cO P ⟨n,l,[]⟩ σ rs fun vs=>Q (oneOf vs) σ):=congrArg R rfl
theorem Ha{rs:List ResultVar}{Q:MV→St→Prop}{n:Nat}{l:List (Nat × MV)}:R (G9 P rs Q .ret ⟨n,l,[]⟩ σ)=R (cO P ⟨n,l,[]⟩ σ rs fun vs=>Q (oneOf vs) σ):=congrArg R rfl
theorem Bd{rs:List ResultVar}{Q:MV→St→Prop}{n:Nat}{l:List (Nat × MV)}:R (mleave P n l rs Q [] σ)=R (cO P ⟨n,l,[]⟩ σ rs fun vs=>Q (oneOf vs) σ):=congrArg R rfl
theorem uP{K:List MV→Prop}:R (cO P f σ [] K)=R (K []):=congrArg R rfl
theorem uR{K:List MV→Prop}{t:Nat}{rs:List ResultVar}:R (cO P f σ (.tmp t::rs) K)=R (bF (E (f.get t)) σ (fun v _=>cO P f σ rs fun vs=>K (v::vs))):=congrArg R rfl
theorem r0{K:List MV→Prop}{a:Nat}{t:TypeId}{rs:List ResultVar}:R (cO P f σ (.cell a t::rs) K)=R (iD P t (E (f.get a)) σ (fun v _=>cO P f σ rs fun vs=>K (v::vs))):=congrArg R rfl
theorem EB{v:MV}:oneOf [v]=v:=rfl
theorem EC{v w:MV}{vs:List MV}:oneOf (v::w::vs)=.tup (v::w::vs):=rfl
theorem EA:oneOf []=.tup []:=rfl
theorem C1{cs:List MV}:(MV.agg cs).cells=cs:=rfl
theorem C3{i:IntKind}{n:Int}:(MV.int i n).cells=[.int i n]:=rfl
theorem Aq{b:Bool}:(MV.bool b).cells=[.bool b]:=rfl
theorem C6{s:ByteArray}:(MV.str s).cells=[.str s]:=rfl
theorem Aw:MV.nilp.cells=[.nilp]:=rfl
theorem C5{l i o:Nat}:(MV.ptr l i o).cells=[.ptr l i o]:=rfl
theorem Ar{cs:List MV}:(MV.cptr cs).cells=[.cptr cs]:=rfl
theorem Ax:MV.aZ.cells=[.aZ]:=rfl
theorem C4{e:Nat}{xs:List (List MV)}{t:Bool}:(MV.lst e xs t).cells=[.lst e xs t]:=rfl
theorem C7{e l lo n:Nat}:(MV.vec e l lo n).cells=[.vec e l lo n]:=rfl
theorem Av:MV.nilm.cells=[.nilm]:=rfl
theorem As{l:Nat}:(MV.mapv l).cells=[.mapv l]:=rfl
theorem wA:MV.nilfn.cells=[.nilfn]:=rfl
theorem Fo{fn:Fn}{a b:List MV}:(MV.fn fn a b).cells=[.fn fn a b]:=rfl
theorem aJ{k k':IntKind}{a b:Int}:l9 (.int k a) (.int k' b)↔k=k'∧a=b:=⟨fun h=>by cases h;exact⟨rfl,rfl⟩,fun⟨h,g⟩=>h ▸ g ▸ .same _⟩
theorem aG{m:MV}:l9 m m↔True:=⟨fun _=>trivial,fun _=>.same m⟩
theorem all_nil{p:MV→Bool}:List.all [] p=true:=rfl
theorem JM{α:Type}{p:α→Prop}:(∀c,c∈([]:List α)→p c)↔True:=by simp
theorem H4{α:Type}{p:α→Prop}{a:α}{l:List α}:(∀c,c∈a::l→p c)↔p a∧∀c,c∈l→p c:=by simp
theorem Fh{i:IntKind}{n:Int}:(MV.int i n).aF=true:=rfl
theorem CU{b:Bool}:(MV.bool b).aF=true:=rfl
theorem Fl{s:ByteArray}:(MV.str s).aF=true:=rfl
theorem CZ:MV.nilp.aF=true:=rfl
theorem Fj{l i o:Nat}:(MV.ptr l i o).aF=true:=rfl
theorem CV{cs:List MV}:(MV.cptr cs).aF=true:=rfl
theorem C0:MV.aZ.aF=true:=rfl
theorem Fi{e:Nat}{xs:List (List MV)}{t:Bool}:(MV.lst e xs t).aF=true:=rfl
theorem Fm{e l lo n:Nat}:(MV.vec e l lo n).aF=true:=rfl
theorem CY:MV.nilm.aF=true:=rfl
theorem CW{l:Nat}:(MV.mapv l).aF=true:=rfl
theorem Ap:MV.nilfn.aF=true:=rfl
theorem HU{fn:Fn}{a b:List MV}:(MV.fn fn a b).aF=true:=rfl
theorem CX:MV.nili.aF=true:=rfl
theorem Ao{t:TypeId}{v:MV}:(MV.iface t v).aF=true:=rfl
theorem Au:MV.nili.cells=[.nili]:=rfl
theorem v8{t:TypeId}{v:MV}:(MV.iface t v).cells=[.iface t v]:=rfl
end
section
variable {P:Program} {f:FR} {σ:St} {k:MV→St→Prop} {K:FR→St→Prop}
theorem r4{dst:Option Tmp}{t:TypeId}:R (gB P f σ dst K (.makeMap t none))=R (jU (E σ) fun l=>K (aU f dst (.mapv l)) (σ.set l (.mp []))):=congrArg R rfl
theorem uU{dst:Option Tmp}{t:TypeId}{m x:Operand}{ok:Bool}:R (gB P f σ dst K (.lookup t m x ok))=R (dY P t (E (aB f m)) (E (aB f x)) ok (E (mapOf σ (aB f m))) σ fun v σ'=>K (aU f dst v) σ'):=congrArg R rfl
def p6(P:Program)(d:TK)(l:Nat)(kd:IntKind)(n:Int)(y:MV)(es:List (MV × MV))(σ:St)(k:MV→St→Prop):Prop:=match d with
 | .map kt _=>dV ((td P kt).k=.int kd∧(es.all fun p=>isK kd p.1)=true) (bF .junk (σ.set l (.mp (gH kd n y es))) k)
 | _=>False
theorem Bc{t:TypeId}{l:Nat}{kd:IntKind}{n:Int}{y:MV}{es:List (MV × MV)}:R (dX P t (.mapv l) (.int kd n) y (some (.mp es)) σ k)=R (p6 P (E (td P t).k) l kd n y es σ k):=congrArg R (by
 unfold dX p6 dV bF E
 cases (td P t).k<;>rfl)
theorem yG{kt et:TypeId}{l:Nat}{kd:IntKind}{n:Int}{y:MV}{es:List (MV × MV)}:R (p6 P (.map kt et) l kd n y es σ k)=R (dV (E ((td P kt).k=.int kd∧(es.all fun p=>isK kd p.1)=true)) (bF (E .junk) (σ.set l (.mp (gH kd n y es))) k)):=congrArg R rfl
def p7(P:Program)(d:TK)(kd:IntKind)(n:Int)(ok:Bool)(es:List (MV × MV))(σ:St)(k:MV→St→Prop):Prop:=match d with
 | .map kt et=>dV ((td P kt).k=.int kd∧(td P et).zok=true∧(es.all fun p=>isK kd p.1)=true) (bF (if ok=true then .tup [(dJ n es).getD (oA (td P et)),.bool (dJ n es).isSome] else(dJ n es).getD (oA (td P et))) σ k)
 | _=>False
theorem Bh{t:TypeId}{l:Nat}{kd:IntKind}{n:Int}{ok:Bool}{es:List (MV × MV)}:R (dY P t (.mapv l) (.int kd n) ok (some (.mp es)) σ k)=R (p7 P (E (td P t).k) kd n ok es σ k):=congrArg R (by
 unfold dY p7 dV bF E
 cases (td P t).k<;>rfl)
theorem yJ{kt et:TypeId}{kd:IntKind}{n:Int}{ok:Bool}{es:List (MV × MV)}:R (p7 P (.map kt et) kd n ok es σ k)=R (dV (E ((td P kt).k=.int kd∧(td P et).zok=true∧(es.all fun p=>isK kd p.1)=true)) (bF (E (if ok=true then .tup [(dJ n es).getD (oA (td P et)),.bool (dJ n es).isSome] else(dJ n es).getD (oA (td P et)))) σ k)):=congrArg R rfl
theorem DF{l:Nat}:mapOf σ (.mapv l)=σ l:=rfl
theorem FI{kd:IntKind}{n:Int}{v:MV}:gH kd n v []=[(.int kd n,v)]:=rfl
theorem FG{n:Int}:dJ n []=none:=rfl
end
attribute [go_sem ↓] FQ FT Dz A5 El Dk Dm Dl A6 DV A1 x7 DU A3 A2 uG A4 vP E1 BT rM Ak Aj Gv Ek Bn yS uT r4 uU Gx Gs Bj Gt uN Ee Gu yN uM Eh rX rY p9 Eg yO Ef Gr Bk rZ Ei Ed IN p8 pX Gq yM rV AW AX zN Ha Bd uP uR r0
theorem Kj{t:TypeId}:FZ t=decide (t=5):=rfl
attribute [go_sem] Kj Bc yG Bh yJ DF FI FG oA JB Km Lh Le Kl Lf Lc Ba yD DZ Gk D2 D1 D4 D3 yF D8 D7 D6 D5 Du En Em JO GA Br Ep GN IW IX GQ GS GP Ez GO DT Gg IK IZ Bo D9 Bf yH Bq uV aH aI Bu set_set I4 I2 I3 I1 IV G8 EM vH IG DS F2 Ge Ga F3 IC x6 F4 Gb F9 F7 F6 F5 Gc Gd DL DO DN DM DI DJ ID IB Ix IA IE IF Iz Iy TK.AO Da List.length_take List.length_drop List.length_append if_pos if_neg zR tI ER Fits wO GL rR HX B9 x0 oE HV fY bG Iv AV J8 Gw FX FY IJ dE DH EB EC EA C1 C3 Aq C6 Aw C5 Ar Ax C4 C7 Av As wA Fo hO qC fA gV cB p5 uI laid cJ j9 Gl Gn Cx mun mH eS TK.isAgg TK.dM TK.mF TK.AP TK.isBool Fh CU Fl CZ Fj CV C0 Fi Fm CY CW Ap HU CX Ao Au v8 JM H4 List.map_cons List.map_nil List.length_cons List.length_nil List.length_map Int.toNat_natCast List.drop_succ_cons List.drop_zero List.drop_nil List.take_succ_cons List.take_zero List.take_nil List.getD_cons_zero List.getD_cons_succ List.getElem?_cons_zero List.getElem?_cons_succ List.set_cons_zero List.set_cons_succ List.all_cons List.all_nil List.cons_append List.nil_append List.append_nil List.toList_toArray Option.map_some Option.map_none Bool.and_self Bool.and_true Bool.true_and beq_self_eq_true IntWalk.i64_in IntWalk.u8_in IntWalk.u32_in IntWalk.i32_in IntWalk.u64_in decide_true decide_false Bool.not_true Bool.not_false if_true if_false and_true true_and and_self ne_eq not_true_eq_false not_false_eq_true eq_self reduceCtorEq MV.bool.injEq Nat.zero_add Nat.add_zero
end

section
def St.le(σ1 σ:St):Prop:=∀l o,σ1 l=some o→σ l=some o
theorem St.le_refl(σ:St):σ.le σ:=fun _ _ h=>h
theorem St.none_le(σ:St):St.none.le σ:=fun _ _ h=>by simp[St.none] at h
theorem St.lM{σ1 σ:St}{l:Nat}{o:aO}(h:σ1.le σ)(hl:σ1 l=Option.none):σ1.le (σ.set l o):=fun k q hk=>by
 by_cases e:k=l
 ·subst e;rw[hl] at hk;cases hk
 ·rw[aI _ _ _ _ e];exact h k q hk
theorem St.lY{σ1 σ:St}{l:Nat}{o:aO}(h:σ1.le σ):(σ1.set l o).le (σ.set l o):=fun k q hk=>by
 by_cases e:k=l
 ·subst e;rw[aH] at hk ⊢;exact hk
 ·rw[aI _ _ _ _ e] at hk ⊢;exact h k q hk
theorem St.aC{σ1 σ:St}{l:Nat}{o:aO}(h:σ1.le σ)(hl:σ l=some o):(σ1.set l o).le σ:=fun k q hk=>by
 by_cases e:k=l
 ·subst e;rw[aH] at hk;rw[hl];exact hk
 ·rw[aI _ _ _ _ e] at hk;exact h k q hk
theorem Lg{x y:St}:R (x.le y)=x.le y:=rfl
attribute [go_sem] Lg
inductive View (σ:St):MV→MV→Prop where
 | same (m:MV):View σ m m
 | junk (m:MV):View σ m .junk
 | nil (e:Nat) (t:Bool):View σ .aZ (.lst e [] t)
 | tight (e:Nat) (xs:List (List MV)):View σ (.lst e xs true) (.lst e xs false)
 | vec {l lo n:Nat} {t:TypeId} {e:Nat} {xs:List (List MV)} (h:σ l=some (.row t e xs)) (hn:lo+n≤xs.length):View σ (.vec e l lo n) (.lst e ((xs.drop lo).take n) false)
 | vecAll {l n:Nat} {t:TypeId} {e:Nat} {xs:List (List MV)} (h:σ l=some (.row t e xs)) (hn:n=xs.length):View σ (.vec e l 0 n) (.lst e xs false)
 | ptr {l i o:Nat} {t:TypeId} {e:Nat} {xs:List (List MV)} (h:σ l=some (.row t e xs)) (hn:i<xs.length):View σ (.ptr l i o) (.cptr ((xs.getD i []).drop o))
 | agg {ms ms':List MV} (h:ms.length=ms'.length) (hc:∀(i:Nat) (m:MV),ms'[i]?=some m→m.aF=true) (hv:∀(i:Nat) (m m':MV),ms[i]?=some m→ms'[i]?=some m'→View σ m m'):View σ (.agg ms) (.agg ms')
 | tup {ms ms':List MV} (h:ms.length=ms'.length) (hv:∀(i:Nat) (m m':MV),ms[i]?=some m→ms'[i]?=some m'→View σ m m'):View σ (.tup ms) (.tup ms')
 | fn {f:Fn} {ms ns ns':List MV} (h:ns.length=ns'.length) (hv:∀(i:Nat) (m m':MV),ns[i]?=some m→ns'[i]?=some m'→View σ m m'):View σ (.fn f ms ns) (.fn f ms ns')
def Fa(Φ Φ':Phi)(w:World)(σ:St):Prop:=Φ.le Φ'∧∀l o p R,σ l=some o→Φ.obj l=some p→p.blk=some R→∀off v,w.cell? ⟨R,off,none⟩=some v→Φ'.snap ⟨R,off,none⟩=some v
theorem cI.cells{Φ:Phi}{w:World}{l:Nat}{t:TypeId}{e:Nat}{xs:List (List MV)}(h:cI Φ w l (.row t e xs)){p:Place}(hp:Φ.obj l=some p){R:Nat}(hR:p.blk=some R) :
  ∀(i:Nat) (x:List MV) (j:Nat) (m:MV),xs[i]?=some x→x[j]?=some m→m.aF=true∧∃v,w.cell? ⟨R,p.bo+(i * e+j),none⟩=some v∧Rel Φ v m:=by
 obtain⟨p',hp',he,h1,h2,h3,h4⟩:=h
 rw[hp] at hp';cases hp'
 rw[hR] at h4
 obtain⟨c,fz,hc,hf,hs,hv⟩:=h4
 intro i x j m hx hm
 obtain⟨hcell,v,hv1,hv2⟩:=hv i x j m hx hm
 exact⟨hcell,v,by simpa[World.cell?,hc] using hv1,hv2⟩
theorem cI.B7{Φ Φ':Phi}{w:World}{l:Nat}{t:TypeId}{e:Nat}{xs:List (List MV)}(h:cI Φ w l (.row t e xs)){p:Place}(hp:Φ.obj l=some p){R:Nat}(hR:p.blk=some R)
 (hle:Φ.le Φ')(hs:∀off v,w.cell? ⟨R,off,none⟩=some v→Φ'.snap ⟨R,off,none⟩=some v):gD Φ' R p.bo e xs:=by
 refine⟨h.JG,fun i j=>(w.cell? ⟨R,p.bo+(i * e+j),none⟩).getD undef,fun i x j m hx hm=>?_⟩
 obtain⟨hcell,v,hv1,hv2⟩:=h.cells hp hR i x j m hx hm
 have:=hs _ _ hv1
 simp only[Nat.add_assoc] at this hv1 ⊢
 refine⟨hcell,?_,?_⟩
 ·rw[this,hv1];rfl
 ·rw[hv1];exact hv2.mono hle
theorem Ab{Φ Φ':Phi}{w:World}{σ:St}(hi:Inv Φ w σ)(hs:Fa Φ Φ' w σ){l lo n:Nat}{t:TypeId}{e:Nat}{xs:List (List MV)}(h:σ l=some (.row t e xs))(hn:lo+n≤xs.length){v:Value}(r:Rel Φ v (.vec e l lo n)) :
  Rel Φ' v (.lst e ((xs.drop lo).take n) false):=by
 obtain⟨a,cap,p,rfl,hp,he,hcap,hn',hva⟩:=r.eP
 have own:=hi.own l _ h
 obtain⟨p',hp',he',h1,h2,h3,h4⟩:=hi.own l _ h
 rw[hp] at hp';cases hp'
 refine Rel.uL (by simp;omega) hn' (by omega) (by simp) (fun ha=>?_) (fun h0=>?_)
 ·rcases hva with⟨R,hR,ha'⟩|hva
  ·rw[ha'] at ha;cases ha
  ·exact hva
 ·rcases hva with⟨R,hR,ha⟩|hva
  ·subst ha
   refine⟨_,_,rfl,?_⟩
   rw[he]
   exact((own.B7 hp hR hs.1 (hs.2 l _ p R h hp hR)).drop).take
  ·omega
theorem View.rel{Φ Φ':Phi}{w:World}{σ:St}(hi:Inv Φ w σ)(hs:Fa Φ Φ' w σ){m m':MV}(h:View σ m m'):∀{v:Value},Rel Φ v m→Rel Φ' v m':=by
 induction h with
 | same m=>intro v r;exact r.mono hs.1
 | junk m=>intro v r;exact .junk v
 | nil e t=>intro v r;cases r;exact .lstn e t
 | tight e xs=>intro v r;exact((l9.tight e xs).rel r).mono hs.1
 | vec h hn=>intro v r;exact Ab hi hs h hn r
 | @vecAll l n t e xs h hn =>
  intro v r
  have:=Ab hi hs h (lo:=0) (n:=n) (by omega) r
  subst hn
  simpa using this
 | @ptr l i o t e xs h hn =>
  intro v r
  obtain⟨p,R,hp,hR,rfl⟩:=r.eO
  have own:=hi.own l _ h
  obtain⟨p',hp',he',-⟩:=hi.own l _ h
  rw[hp] at hp';cases hp'
  obtain⟨-,vs,hv⟩:=own.B7 hp hR hs.1 (hs.2 l _ p R h hp hR)
  have hx:xs[i]?=some (xs.getD i []):=by simp[List.getD,List.getElem?_eq_getElem hn]
  refine .cptr (fun j=>vs i (o+j)) (fun j m hm=>?_) (fun j m hm=>?_)
  all_goals
   rw[List.getElem?_drop] at hm
   have:=hv i _ _ m hx hm
  ·refine⟨this.1,?_⟩
   rw[he']
   simpa[Nat.add_assoc] using this.2.1
  ·exact this.2.2
 | agg h hc hv ih =>
  intro v r
  obtain⟨cs,rfl,h1,h2,h3⟩:=r.fK
  refine .agg (by omega) hc (fun i m' hm'=>?_)
  have hlt:=(List.getElem?_eq_some_iff.1 hm').1
  rename_i ms ms'
  obtain⟨m,hm⟩:∃m,ms[i]?=some m:=⟨_,List.getElem?_eq_getElem (by omega)⟩
  exact ih i m m' hm hm' (h3 i m hm)
 | tup h hv ih =>
  intro v r
  obtain⟨cs,rfl,h1,h3⟩:=r.uA
  refine .tup (by omega) (fun i m' hm'=>?_)
  have hlt:=(List.getElem?_eq_some_iff.1 hm').1
  rename_i ms ms'
  obtain⟨m,hm⟩:∃m,ms[i]?=some m:=⟨_,List.getElem?_eq_getElem (by omega)⟩
  exact ih i m m' hm hm' (h3 i m hm)
 | @fn f ms ns ns' h hv ih =>
  intro v r
  obtain⟨first,cap,rfl,h1,h2⟩:=r.lK
  refine .fn f h1.1 (h2.1.trans h) (fun i m hm=>(h1.2 i m hm).mono hs.1) (fun i m' hm'=>?_)
  have hlt:=(List.getElem?_eq_some_iff.1 hm').1
  obtain⟨m,hm⟩:∃m,ns[i]?=some m:=⟨_,List.getElem?_eq_getElem (by omega)⟩
  exact ih i m m' hm hm' (h2.2 i m hm)
def Phi.lZ(Φ:Phi)(w:World)(B:Nat→Prop)[DecidablePred B]:Phi:={ Φ with snap:=fun a=>match Φ.snap a with|some v=>some v|none=>if B a.block then w.cell? a else none }
theorem o7(Φ:Phi)(w:World)(B:Nat→Prop)[DecidablePred B]:Φ.le (Φ.lZ w B):=⟨fun a v h=>by simp[Phi.lZ,h],fun _ _ h=>h,rfl⟩
theorem dD{Φ:Phi}{w:World}{B:Nat→Prop}[DecidablePred B]{a:Addr}{v:Value}(h:(Φ.lZ w B).snap a=some v):Φ.snap a=some v∨(B a.block∧w.cell? a=some v):=by
 simp only[Phi.lZ] at h
 split at h
 ·rename_i u hu;left;rw[hu,←h]
 ·split at h
  ·rename_i hb;exact .inr ⟨hb,h⟩
  ·cases h
theorem vL{Φ:Phi}{w:World}{σ:St}(hi:Inv Φ w σ){B:Nat→Prop}[DecidablePred B]{σv:St}(hle:σv.le σ)(hB:∀R,aN Φ σv R→B R):Fa Φ (Φ.lZ w B) w σv:=by
 refine⟨o7 _ _ _,fun l o p R hl hp hR off v hv=>?_⟩
 have hb:B R:=hB R ⟨l,o,p,hl,hp,hR⟩
 simp only[Phi.lZ]
 split
 ·rename_i u hu
  have:=hi.snap _ _ hu
  rw[hv] at this
  exact this.symm
 ·rw[if_pos hb];exact hv
theorem bU.freeze{n:Nat}{l l1:List (Nat × MV)}{d:List (FuncId × List MV)}{σ σ1:St}(σv:St)(hle:σv.le σ)(h1:σ1.le σ)(hd:∀k o,σ1 k=some o→σv k=none)
 (h:∀p,p∈l1→View σv (bI l p.1) p.2):bU ⟨n,l,d⟩ σ ⟨n,l1,d⟩ σ1:=by
 refine⟨rfl,fun Φ w vs hi hr=>?_⟩
 classical
 have hs:=vL (Φ:=Φ) hi (B:=aN Φ σv) hle (fun R h=>h)
 refine⟨Φ.lZ w (aN Φ σv),⟨?_,?_,?_,?_,hi.fresh.1,fun g i v q=>hs.1.snap _ _ (hi.fresh.2.1 g i v q),hi.fresh.2.2.mono hs.1.snap⟩,⟨hr.1,?_⟩,⟨hs.1,rfl,rfl,rfl,Nat.le_refl _,Nat.le_refl _,fun _ _ _=>rfl,?_,fun l o h=>.inl ⟨o,h1 l o h⟩,fun R hR=>.inl ?_⟩⟩
 ·exact fun k o hk=>(hi.own k o (h1 k o hk)).mono hs.1 (fun _ _ _ _=>rfl)
 ·exact fun k k' o o' p p' R a b c e=>hi.inj k k' o o' p p' R (h1 k o a) (h1 k' o' b) c e
 ·intro a v hv
  rcases dD hv with q|⟨-,q⟩
  ·exact hi.snap a v q
  ·exact q
 ·intro k o p R a v hk hp hR hv
  rcases dD hv with q|⟨⟨k2,o2,p2,q1,q2,q3⟩,-⟩
  ·exact hi.apart k o p R a v (h1 k o hk) hp hR q
  ·intro e
   rw[e] at q3
   have:=hi.inj k k2 o o2 p p2 R (h1 k o hk) (hle k2 o2 q1) hp q2 hR q3
   subst this
   rw[hd k o hk] at q1
   cases q1
 ·intro t
  show Rel _ _ (bI l1 t)
  have key:∀l1':List (Nat × MV),(∀p,p∈l1'→View σv (bI l p.1) p.2)→View σv (bI l t) (bI l1' t):=by
   intro l1'
   induction l1' with
   | nil=>intro _;exact .junk _
   | cons q r ih =>
    obtain⟨k,v⟩:=q
    intro h
    simp only[bI]
    split
    ·rename_i ht;subst ht;exact h (t,v) (by simp)
    ·exact ih fun q hq=>h q (by simp[hq])
  exact(key l1 h).rel (hi.less hle) hs (hr.2 t)
 ·intro a v hv
  rcases dD hv with q|⟨⟨k,o,p,q1,q2,q3⟩,-⟩
  ·exact .inl q
  ·exact .inr (.inr ⟨k,o,p,hle k o q1,q2,q3⟩)
 ·obtain⟨k,o,p,q1,q2,q3⟩:=hR
  exact⟨k,o,p,h1 k o q1,q2,q3⟩
def E9(σv:St)(o o1:aO):Prop:=o1=o∨∃t e xs xs1,o=.row t e xs∧o1=.row t e xs1∧xs.length=xs1.length∧∀(i:Nat) (x x1:List MV),xs[i]?=some x→xs1[i]?=some x1→x.length=x1.length ∧
 ∀(j:Nat) (m m1:MV),x[j]?=some m→x1[j]?=some m1→m1=m∨(m1.aF=true∧View σv m m1)
theorem E9.own{Φ Φ':Phi}{w:World}{σv:St}{k:Nat}{o o1:aO}(hv:E9 σv o o1)(h:cI Φ w k o)(hle:Φ.le Φ')(hi:Inv Φ w σv)(hs:Fa Φ Φ' w σv):cI Φ' w k o1:=by
 rcases hv with rfl|⟨t,e,xs,xs1,rfl,rfl,hl,hx⟩
 ·exact h.mono hle (fun _ _ _ _=>rfl)
 ·obtain⟨p,hp,hpe,q1,q2,q3,q4⟩:=h
  have get:∀(i:Nat) (x1:List MV),xs1[i]?=some x1→∃x,xs[i]?=some x:=fun i x1 h1=>by
   have:=(List.getElem?_eq_some_iff.1 h1).1
   exact⟨xs[i]'(by omega),by simp⟩
  refine⟨p,hle.obj _ _ hp,hpe,by omega,q2,fun i x1 h1=>?_,?_⟩
  ·obtain⟨x,hx0⟩:=get i x1 h1
   rw[←(hx i x x1 hx0 h1).1]
   exact q3 i x hx0
  ·cases hb:p.blk with
   | none=>rw[hb] at q4;exact q4
   | some R =>
    rw[hb] at q4
    obtain⟨c,fz,k1,k2,k3,k4⟩:=q4
    refine⟨c,fz,k1,k2,k3,fun i x1 j m1 h1 hm1=>?_⟩
    obtain⟨x,hx0⟩:=get i x1 h1
    obtain⟨hlen,hview⟩:=hx i x x1 hx0 h1
    have hj:=(List.getElem?_eq_some_iff.1 hm1).1
    obtain⟨m,hm⟩:∃m,x[j]?=some m:=⟨x[j]'(by omega),by simp⟩
    obtain⟨hc0,v,hcv,hrel⟩:=k4 i x j m hx0 hm
    rcases hview j m m1 hm hm1 with rfl|⟨hc,hv⟩
    ·exact⟨hc0,v,hcv,hrel.mono hle⟩
    ·exact⟨hc,v,hcv,hv.rel hi hs hrel⟩
theorem bU.Fz{n:Nat}{l l1:List (Nat × MV)}{d:List (FuncId × List MV)}{σ σ1:St}(σv:St)(hle:σv.le σ)(h1:∀k o1,σ1 k=some o1→∃o,σ k=some o∧E9 σv o o1)(hd:∀k o,σ1 k=some o→σv k=none)
 (h:∀p,p∈l1→View σv (bI l p.1) p.2):bU ⟨n,l,d⟩ σ ⟨n,l1,d⟩ σ1:=by
 refine⟨rfl,fun Φ w vs hi hr=>?_⟩
 classical
 have hs:=vL (Φ:=Φ) hi (B:=aN Φ σv) hle (fun R h=>h)
 refine⟨Φ.lZ w (aN Φ σv),⟨?_,?_,?_,?_,hi.fresh.1,fun g i v q=>hs.1.snap _ _ (hi.fresh.2.1 g i v q),hi.fresh.2.2.mono hs.1.snap⟩,⟨hr.1,?_⟩,⟨hs.1,rfl,rfl,rfl,Nat.le_refl _,Nat.le_refl _,fun _ _ _=>rfl,?_,fun l o h=>?_,fun R hR=>.inl ?_⟩⟩
 ·intro k o1 hk
  obtain⟨o,ho,hv⟩:=h1 k o1 hk
  exact hv.own (hi.own k o ho) hs.1 (hi.less hle) hs
 ·intro k k' o o' p p' R a b c e
  obtain⟨q,hq,-⟩:=h1 k o a
  obtain⟨q',hq',-⟩:=h1 k' o' b
  exact hi.inj k k' q q' p p' R hq hq' c e
 ·intro a v hv
  rcases dD hv with q|⟨-,q⟩
  ·exact hi.snap a v q
  ·exact q
 ·intro k o p R a v hk hp hR hv
  obtain⟨o0,ho0,-⟩:=h1 k o hk
  rcases dD hv with q|⟨⟨k2,o2,p2,q1,q2,q3⟩,-⟩
  ·exact hi.apart k o0 p R a v ho0 hp hR q
  ·intro e
   rw[e] at q3
   have:=hi.inj k k2 o0 o2 p p2 R ho0 (hle k2 o2 q1) hp q2 hR q3
   subst this
   rw[hd k o hk] at q1
   cases q1
 ·intro t
  show Rel _ _ (bI l1 t)
  have key:∀l1':List (Nat × MV),(∀p,p∈l1'→View σv (bI l p.1) p.2)→View σv (bI l t) (bI l1' t):=by
   intro l1'
   induction l1' with
   | nil=>intro _;exact .junk _
   | cons q r ih =>
    obtain⟨k,v⟩:=q
    intro h
    simp only[bI]
    split
    ·rename_i ht;subst ht;exact h (t,v) (by simp)
    ·exact ih fun q hq=>h q (by simp[hq])
  exact(key l1 h).rel (hi.less hle) hs (hr.2 t)
 ·intro a v hv
  rcases dD hv with q|⟨⟨k,o,p,q1,q2,q3⟩,-⟩
  ·exact .inl q
  ·exact .inr (.inr ⟨k,o,p,hle k o q1,q2,q3⟩)
 ·obtain⟨o0,ho0,-⟩:=h1 l o h
  exact .inl ⟨o0,ho0⟩
 ·obtain⟨k,o,p,q1,q2,q3⟩:=hR
  obtain⟨o0,ho0,-⟩:=h1 k o q1
  exact⟨k,o0,p,ho0,q2,q3⟩
theorem bU.less{n:Nat}{l l1:List (Nat × MV)}{d:List (FuncId × List MV)}{σ σ1:St}(h:∀p,p∈l1→l9 (bI l p.1) p.2)(hs:σ1.le σ):bU ⟨n,l,d⟩ σ ⟨n,l1,d⟩ σ1 :=
 (bU.Ij h).trans (bU.drop hs)
end

section
theorem Gh.row{n:Nat}{l:List (Nat × MV)}{d:List (FuncId × List MV)}{σ:St}{K:FR→St→Prop}(t:TypeId)(e:Nat)(l1:Nat→List (Nat × MV))
 (h1:∀k,∀p,p∈l1 k→bI l p.1=p.2∨(p.2=.vec e k 0 0∧(bI l p.1=.aZ∨bI l p.1=.lst e [] true)))
 (h:∀k,σ k=none→Gh ⟨n,l1 k,d⟩ (σ.set k (.row t e [])) K):Gh ⟨n,l,d⟩ σ K:=by
 intro Φ w vs hi hr
 obtain⟨k,hk,hk'⟩:=inv_eq hi
 obtain⟨v1,v2,-⟩:=iU hi (fun _ _ h=>h) hk t e none
 have hfr:bS (Φ.put k ⟨none,0,e,0⟩) vs ⟨n,l1 k,d⟩:=by
  refine⟨hr.1,fun s=>?_⟩
  show Rel _ _ (bI (l1 k) s)
  have key:∀l2:List (Nat × MV),(∀p,p∈l2→bI l p.1=p.2∨(p.2=.vec e k 0 0∧(bI l p.1=.aZ∨bI l p.1=.lst e [] true)))→Rel (Φ.put k ⟨none,0,e,0⟩) (vs.getD s undef) (bI l2 s):=by
   intro l2
   induction l2 with
   | nil=>intro _;exact .junk _
   | cons q r ih =>
    obtain⟨j,v⟩:=q
    intro h
    simp only[bI]
    split
    ·rename_i ht
     subst ht
     have hs:=hr.2 s
     change Rel Φ _ (bI l s) at hs
     rcases h (s,v) (by simp) with q|⟨q1,q2|q2⟩
     ·simp only at q;rw[←q];exact hs.mono v2.le
     ·simp only at q1 q2
      rw[q2] at hs
      have:=hs.cZ
      rw[this,q1]
      exact(iU hi (fun _ _ h=>h) hk t e none).2.2
     ·simp only at q1 q2
      rw[q2] at hs
      obtain⟨a,cap,hv,-,-,h0,-⟩:=hs.gG
      have hcap:cap=0:=by simpa using h0 rfl
      subst hcap
      rw[hv,q1]
      exact(iU hi (fun _ _ h=>h) hk t e a).2.2
    ·exact ih fun q hq=>h q (by simp[hq])
  exact key _ (h1 k)
 obtain⟨f2,σ2,Φ2,e2,k2,i2,r2,s2⟩:=h k hk' _ w vs v1 hfr
 exact⟨f2,σ2,Φ2,e2,k2,i2,r2,v2.trans s2⟩
theorem Gh.CJ{f:FR}{σ:St}{K:FR→St→Prop}{b:Nat}{t:TypeId}{e:Nat}{pre post:List MV}(t':TypeId)(e':Nat)(hs:σ b=some (.row t e [pre++.aZ::post]))
 (h:∀k,σ k=none→Gh f ((σ.set b (.row t e [pre++.vec e' k 0 0::post])).set k (.row t' e' [])) K):Gh f σ K:=by
 intro Φ w vs hi hr
 obtain⟨k,hk,hk'⟩:=inv_eq hi
 obtain⟨v1,v2,-⟩:=iU hi (fun _ _ h=>h) hk t' e' none
 have hbk:b≠k:=fun e=>by subst e;rw[hs] at hk';cases hk'
 have hs':(σ.set k (.row t' e' [])) b=some (.row t e [pre++.aZ::post]):=by rw[aI _ _ _ _ hbk];exact hs
 obtain⟨p,hp,hpe,q1,q2,q3,q4⟩:=v1.own b _ hs'
 have hown:cI (Φ.put k ⟨none,0,e',0⟩) w b (.row t e [pre++.vec e' k 0 0::post]):=by
  refine⟨p,hp,hpe,by simpa using q1,q2,fun i x hx=>?_,?_⟩
  ·match i with
   | 0 =>
    simp only[List.getElem?_cons_zero,Option.some.injEq] at hx
    subst hx
    have:=q3 0 _ rfl
    simpa using this
   | i+1=>simp at hx
  ·cases hb:p.blk with
   | none=>rw[hb] at q4;exact q4
   | some R =>
    rw[hb] at q4
    obtain⟨c,fz,k1,k2,k3,k4⟩:=q4
    refine⟨c,fz,k1,k2,k3,fun i x j m hx hm=>?_⟩
    match i with
    | 0 =>
     simp only[List.getElem?_cons_zero,Option.some.injEq] at hx
     subst hx
     by_cases hj:j=pre.length
     ·subst hj
      simp at hm
      subst hm
      obtain⟨-,v,hv,hrel⟩:=k4 0 _ pre.length .aZ rfl (by simp)
      have:=hrel.cZ
      subst this
      exact⟨rfl,_,hv,.vecn (p:=⟨none,0,e',0⟩) (Phi.bH _ _ _) rfl rfl⟩
     ·refine k4 0 _ j m rfl ?_
      rw[←hm]
      by_cases h:j<pre.length
      ·rw[List.getElem?_append_left h,List.getElem?_append_left h]
      ·rw[List.getElem?_append_right (by omega),List.getElem?_append_right (by omega)]
       obtain⟨q,hq⟩:∃q,j - pre.length=q+1:=⟨j - pre.length - 1,by omega⟩
       rw[hq,List.getElem?_cons_succ,List.getElem?_cons_succ]
    | i+1=>simp at hx
 have i2:Inv (Φ.put k ⟨none,0,e',0⟩) w ((σ.set k (.row t' e' [])).set b (.row t e [pre++.vec e' k 0 0::post])):=by
  refine v1.upd (.refl _) (fun _=>rfl) b _ p hp (fun m o q=>St.a7 q) (fun m o q R hm hs2 hq hR=>?_) (fun a v h=>?_) hown v1.fresh.1
  ·rcases St.a7 hs2 with⟨_,q1⟩|⟨q1,_⟩
   ·exact⟨rfl,fun e2=>hm (v1.inj m b _ _ q p R q1 hs' hq hp hR e2)⟩
   ·exact absurd q1 hm
  ·exact⟨rfl,fun e2=>v1.apart b _ p _ a v hs' hp e2 h rfl⟩
 have hst:(σ.set k (.row t' e' [])).set b (.row t e [pre++.vec e' k 0 0::post])=(σ.set b (.row t e [pre++.vec e' k 0 0::post])).set k (.row t' e' []):=set_comm _ _ _ (Ne.symm hbk)
 rw[hst] at i2
 obtain⟨f2,σ2,Φ2,e2,k2,j2,r2,s2⟩:=h k hk' _ w vs i2 (hr.mono v2.le)
 refine⟨f2,σ2,Φ2,e2,k2,j2,r2,.trans ?_ s2⟩
 refine⟨v2.le,rfl,rfl,rfl,Nat.le_refl _,Nat.le_refl _,fun _ _ _=>rfl,fun _ _ h=>.inl h,fun m o q=>?_,fun R hR=>?_⟩
 ·rcases St.a7 q with⟨_,q1⟩|⟨rfl,_⟩
  ·rcases St.a7 q1 with⟨_,q2⟩|⟨rfl,_⟩
   ·exact .inl ⟨_,q2⟩
   ·exact .inl ⟨_,hs⟩
  ·exact .inr hk
 ·obtain⟨m,o1,p1,t1,t2,t3⟩:=hR
  refine v2.ownd R ?_
  rcases St.a7 t1 with⟨hm,q1⟩|⟨rfl,rfl⟩
  ·rcases St.a7 q1 with⟨_,q2⟩|⟨rfl,_⟩
   ·exact⟨m,o1,p1,by rw[aI _ _ _ _ hm];exact q2,t2,t3⟩
   ·exact⟨m,_,p1,hs',t2,t3⟩
  ·exact⟨m,_,p1,aH _ _ _,t2,t3⟩
theorem aA.gh{P:Program}{g:FuncId}{ms:List MV}{σ:St}{Q:MV→St→Prop}(h:aA P g ms σ fun v σ'=>Gh ⟨1,[(0,v)],[]⟩ σ' fun f1 σ1=>∃v1,f1=⟨1,[(0,v1)],[]⟩∧Q v1 σ1):aA P g ms σ Q:=by
 refine⟨h.1,fun Φ w vs hi hr=>(h.2 Φ w vs hi hr).mono ?_⟩
 rintro e w' ⟨v,mv,σ',Φ',rfl,q1,q2,q3,g⟩
 obtain⟨f1,σ1,Φ1,-,⟨v1,rfl,hq⟩,i1,r1,s1⟩:=g Φ' w' #[v] q2 ⟨rfl,fun t=>by
  simp only[FR.get,bI]
  split
  ·rename_i ht;subst ht;exact q1
  ·exact .junk _⟩
 exact⟨v,v1,σ1,Φ1,rfl,by simpa[FR.get,bI] using r1.2 0,i1,q3.trans s1,hq⟩
def St.over(x y:St):St:=fun l=>match x l with|some o=>some o|Option.none=>y l
def St.minus(x y:St):St:=fun l=>match y l with|some _=>Option.none|Option.none=>x l
theorem fC{x y:St}{l:Nat}{o:aO}(h:(St.over x y) l=some o):x l=some o∨(x l=none∧y l=some o):=by
 simp only[St.over] at h
 split at h
 ·rename_i q hq;exact .inl (by rw[hq,h])
 ·rename_i hq;exact .inr ⟨hq,h⟩
theorem bT{x y:St}{l:Nat}{o:aO}(h:(St.minus x y) l=some o):y l=none∧x l=some o:=by
 simp only[St.minus] at h
 split at h
 ·cases h
 ·rename_i hq;exact⟨hq,h⟩
theorem aA.frame{P:Program}{g:FuncId}{ms:List MV}{σa σ:St}{Q:MV→St→Prop}(h:aA P g ms σa Q)(hle:σa.le σ) :
  aA P g ms σ fun v σ1=>∃σ',Q v σ'∧σ1=σ'.over (σ.minus σa)∧∀l o,σ' l=some o→σ l=none∨∃o',σa l=some o':=by
 refine⟨h.1,fun Φ w vs hi hr=>(h.2 Φ w vs (hi.less hle) hr).mono ?_⟩
 rintro e w' ⟨v,mv,σ',Φ',rfl,r1,i1,s1,hq⟩
 have rest:∀l o,(σ.minus σa) l=some o→∃p,Φ.obj l=some p∧Φ'.obj l=some p∧∀R,p.blk=some R→R<w.heap.size∧¬aN Φ σa R∧w'.heap[R]?=w.heap[R]?:=by
  intro l o hl
  obtain⟨q1,q2⟩:=bT hl
  obtain⟨p,hp,hR⟩:=(hi.own l o q2).place
  refine⟨p,hp,s1.le.obj _ _ hp,fun R hb=>?_⟩
  have hno:¬aN Φ σa R:=by
   rintro⟨l2,o2,p2,u1,u2,u3⟩
   have:=hi.inj l l2 o o2 p p2 R q2 (hle _ _ u1) hp u2 hb u3
   subst this
   rw[q1] at u1;cases u1
  exact⟨hR R hb,hno,s1.block R (hR R hb) hno⟩
 have hdis:∀l o,σ' l=some o→σ l=none∨∃o',σa l=some o':=by
  intro l o hl
  rcases s1.locs l o hl with q|q
  ·exact .inr q
  ·exact .inl (hi.dB q)
 have hnew:∀l o p R,σ' l=some o→Φ'.obj l=some p→p.blk=some R→aN Φ σa R∨w.heap.size≤R:=fun l o p R a b c=>s1.ownd R ⟨l,o,p,a,b,c⟩
 refine⟨v,mv,σ'.over (σ.minus σa),Φ',rfl,r1,⟨?_,?_,i1.snap,?_,i1.fresh⟩,⟨s1.le,s1.os,s1.tape,s1.output,s1.drawn,s1.size,?_,?_,?_,?_⟩,σ',hq,rfl,hdis⟩
 ·intro l o hl
  rcases fC hl with q|⟨q1,q2⟩
  ·exact i1.own l o q
  ·obtain⟨p,hp,hp',hR⟩:=rest l o q2
   exact(hi.own l o (bT q2).2).mono s1.le fun p1 R h1 h2=>by
    rw[hp] at h1;cases h1
    exact(hR R h2).2.2
 ·intro l l' o o' p p' R hl hl' hp hp' hb hb'
  rcases fC hl with q|⟨q1,q2⟩<;>rcases fC hl' with q'|⟨q1',q2'⟩
  ·exact i1.inj l l' o o' p p' R q q' hp hp' hb hb'
  ·obtain⟨p2,u1,u2,u3⟩:=rest l' o' q2'
   rw[hp'] at u2;cases u2
   rcases hnew l o p R q hp hb with k|k
   ·exact absurd k (u3 R hb').2.1
   ·have:=(u3 R hb').1;omega
  ·obtain⟨p2,u1,u2,u3⟩:=rest l o q2
   rw[hp] at u2;cases u2
   rcases hnew l' o' p' R q' hp' hb' with k|k
   ·exact absurd k (u3 R hb).2.1
   ·have:=(u3 R hb).1;omega
  ·obtain⟨p2,u1,u2,u3⟩:=rest l o q2
   rw[hp] at u2;cases u2
   obtain⟨p3,v1,v2,v3⟩:=rest l' o' q2'
   rw[hp'] at v2;cases v2
   exact hi.inj l l' o o' p p' R (bT q2).2 (bT q2').2 u1 v1 hb hb'
 ·intro l o p R a u hl hp hb hu
  rcases fC hl with q|⟨q1,q2⟩
  ·exact i1.apart l o p R a u q hp hb hu
  ·obtain⟨p2,u1,u2,u3⟩:=rest l o q2
   rw[hp] at u2;cases u2
   intro e
   rcases s1.snapn a u hu with k|k|k
   ·exact hi.apart l o p R a u (bT q2).2 u1 hb k e
   ·have:=(u3 R hb).1;omega
   ·rw[e] at k;exact(u3 R hb).2.1 k
 ·exact fun k hk hno=>s1.block k hk fun q=>hno (q.less hle)
 ·intro a u hu
  rcases s1.snapn a u hu with k|k|k
  ·exact .inl k
  ·exact .inr (.inl k)
  ·exact .inr (.inr (k.less hle))
 ·intro l o hl
  rcases fC hl with q|⟨q1,q2⟩
  ·rcases s1.locs l o q with⟨o',k⟩|k
   ·exact .inl ⟨o',hle _ _ k⟩
   ·exact .inr k
  ·exact .inl ⟨o,(bT q2).2⟩
 ·rintro R ⟨l,o,p,hl,hp,hb⟩
  rcases fC hl with q|⟨q1,q2⟩
  ·rcases hnew l o p R q hp hb with k|k
   ·exact .inl (k.less hle)
   ·exact .inr k
  ·obtain⟨p2,u1,u2,u3⟩:=rest l o q2
   rw[hp] at u2;cases u2
   exact .inl ⟨l,o,p,(bT q2).2,u1,hb⟩
theorem aA.less{P:Program}{g:FuncId}{ms:List MV}{σ:St}{Q Q':MV→St→Prop}(h:aA P g ms σ Q')(hq:∀v σ',Q' v σ'→∃σ1,σ1.le σ'∧Q v σ1):aA P g ms σ Q:=by
 refine⟨h.1,fun Φ w vs hi hr=>(h.2 Φ w vs hi hr).mono ?_⟩
 rintro e w' ⟨v,mv,σ',Φ',rfl,r1,i1,s1,k⟩
 obtain⟨σ1,hle,hk⟩:=hq mv σ' k
 exact⟨v,mv,σ1,Φ',rfl,r1,i1.less hle,s1.trans (.less _ hle),hk⟩
theorem aA.dF{P:Program}{g:FuncId}{ms:List MV}{σ:St}{Q:MV→St→Prop}(h:aA P g ms σ fun v σ'=>∃σ1,σ1.le σ'∧Q v σ1):aA P g ms σ Q:=h.less fun _ _ k=>k
theorem gW(σ:St):σ.minus St.none=σ:=by funext l;simp[St.minus,St.none]
theorem aA.pure{P:Program}{g:FuncId}{ms:List MV}{σ:St}{q:MV→Prop}(h:aA P g ms St.none fun v _=>q v):aA P g ms σ fun v σ'=>q v∧σ'=σ:=by
 refine(h.frame (St.none_le σ)).less ?_
 rintro v σ1 ⟨σ',hq,rfl,hd⟩
 refine⟨σ,fun l o hl=>?_,hq,rfl⟩
 rw[gW]
 simp only[St.over]
 cases hs:σ' l with
 | none=>exact hl
 | some o' =>
  rcases hd l o' hs with k|⟨_,k⟩
  ·rw[hl] at k;cases k
  ·simp[St.none] at k
theorem aA.Eb{P:Program}{g:FuncId}{ms:List MV}{q:MV→Prop}(h:aA P g ms St.none fun v _=>q v):aA P g ms St.none fun v σ'=>q v∧σ'=St.none:=h.pure
theorem aT{P:Program}{g:FuncId}{ms:List MV}{σ:St}{r:MV}{k:MV→St→Prop}(h:aA P g ms St.none fun v _=>v=r)(hk:R (bF r σ k)):R (cN P g ms σ k):=by
 refine(aA.pure (σ:=σ) h).mono ?_
 rintro v σ' ⟨rfl,rfl⟩
 exact hk
theorem tJ{P:Program}{g:FuncId}{ms:List MV}{σ:St}{q:MV→Prop}{k:MV→St→Prop}(h:aA P g ms St.none fun v _=>q v)(hk:∀r,q r→R (bF r σ k)):R (cN P g ms σ k):=by
 refine(aA.pure (σ:=σ) h).mono ?_
 rintro v σ' ⟨hq,rfl⟩
 exact hk v hq
inductive Flat:MV→Prop where
 | junk:Flat .junk
 | bool (b:Bool):Flat (.bool b)
 | int (k:IntKind) (n:Int):Flat (.int k n)
 | str (s:ByteArray):Flat (.str s)
 | nilp:Flat .nilp
 | aZ:Flat .aZ
 | lst0 (e:Nat):Flat (.lst e [] true)
 | nilm:Flat .nilm
 | nilfn:Flat .nilfn
 | nili:Flat .nili
 | agg {cs:List MV} (h:∀c,c∈cs→Flat c):Flat (.agg cs)
 | tup {cs:List MV} (h:∀c,c∈cs→Flat c):Flat (.tup cs)
theorem Flat.rel{Φ Φ':Phi}{m:MV}(h:Flat m):∀{v:Value},Rel Φ v m→Rel Φ' v m:=by
 induction h with
 | junk=>intro v r;exact .junk v
 | bool b=>intro v r;cases r;exact .bool b
 | int k n=>intro v r;cases r;exact .int k n
 | str s=>intro v r;cases r;exact .str s
 | nilp=>intro v r;cases r;exact .nilp
 | aZ=>intro v r;cases r;exact .aZ
 | nilm=>intro v r;cases r;exact .nilm
 | nilfn=>intro v r;cases r;exact .nilfn
 | nili=>intro v r;cases r;exact .nili
 | lst0 e =>
  intro v r
  cases r with
  | lstn=>exact .lstn e true
  | lst0 a e cap t ht hm=>exact .lst0 a e cap true ht hm
  | lst hl h0=>simp at hl;omega
 | agg h ih =>
  intro v r
  cases r with
  | agg h hc hr=>exact .agg h hc (fun i m hm=>ih m (List.mem_of_getElem? hm) (hr i m hm))
 | tup h ih =>
  intro v r
  cases r with
  | tup h hr=>exact .tup h (fun i m hm=>ih m (List.mem_of_getElem? hm) (hr i m hm))
theorem aA.Lo{P:Program}{g:FuncId}{ms ms':List MV}{σ:St}{q:MV→Prop}(h:aA P g ms' St.none fun v _=>q v)(hf:∀r,q r→Flat r)(hl:ms.length=ms'.length)
 (hv:∀(i:Nat) (m m':MV),ms[i]?=some m→ms'[i]?=some m'→View σ m m'):aA P g ms σ fun v σ'=>q v∧σ'=σ:=by
 refine⟨h.1,fun Φ w vs hi hr=>?_⟩
 classical
 have hs:Fa Φ (Φ.lZ w (fun _=>True)) w σ:=vL hi (St.le_refl σ) (fun _ _=>trivial)
 have hi':Inv (Φ.lZ w (fun _=>True)) w St.none:=by
  refine⟨fun l o hl=>by simp[St.none] at hl,fun l l' o o' p p' R hl=>by simp[St.none] at hl,fun a v hv=>?_,fun l o p R a v hl=>by simp[St.none] at hl,hi.fresh.1,fun g i v q=>(o7 _ _ _).snap _ _ (hi.fresh.2.1 g i v q),hi.fresh.2.2.mono (o7 _ _ _).snap⟩
  rcases dD hv with q|⟨-,q⟩
  ·exact hi.snap a v q
  ·exact q
 have hr':eI (Φ.lZ w (fun _=>True)) vs ms':=by
  refine⟨hr.1.trans hl,fun i m' hm'=>?_⟩
  have hlt:=(List.getElem?_eq_some_iff.1 hm').1
  obtain⟨m,hm⟩:∃m,ms[i]?=some m:=⟨_,List.getElem?_eq_getElem (by omega)⟩
  exact(hv i m m' hm hm').rel hi hs (hr.2 i m hm)
 refine(h.2 _ w vs hi' hr').mono ?_
 rintro e w' ⟨v,mv,σ',Φ',rfl,r1,i1,s1,hq⟩
 have hblk:∀k,k<w.heap.size→w'.heap[k]?=w.heap[k]?:=fun k hk=>s1.block k hk fun⟨l,o,p,a,_⟩=>by simp[St.none] at a
 have hown:∀l o,σ l=some o→cI Φ w' l o:=fun l o hl'=>by
  obtain⟨p,hp,hR⟩:=(hi.own l o hl').place
  exact(hi.own l o hl').mono (.refl Φ) fun p1 R h1 h2=>by
   rw[hp] at h1;cases h1
   exact hblk R (hR R h2)
 refine⟨v,mv,σ,Φ,rfl,(hf mv hq).rel r1,⟨hown,hi.inj,fun a u hu=>?_,hi.apart,hi.fresh⟩,⟨.refl Φ,s1.os,s1.tape,s1.output,s1.drawn,s1.size,fun k hk _=>hblk k hk,fun _ _ h=>.inl h,fun l o h=>.inl ⟨o,h⟩,fun _ h=>.inl h⟩,hq,rfl⟩
 have h1:=hi.snap a u hu
 have:=World.block_lt_of_cell? w a h1
 rw[World.dK (hblk _ this)]
 exact h1
theorem mV{P:Program}{g:FuncId}{ms:List MV}(ms':List MV){σ:St}{r:MV}{k:MV→St→Prop}(h:aA P g ms' St.none fun v _=>v=r)(hf:Flat r)(hl:ms.length=ms'.length)
 (hv:∀(i:Nat) (m m':MV),ms[i]?=some m→ms'[i]?=some m'→View σ m m')(hk:R (bF r σ k)):R (cN P g ms σ k):=by
 refine(aA.Lo (σ:=σ) h (fun _ e=>e ▸ hf) hl hv).mono ?_
 rintro v σ' ⟨rfl,rfl⟩
 exact hk
theorem bM{P:Program}{g:FuncId}{ms:List MV}{σa σ:St}{Q k:MV→St→Prop}(h:aA P g ms σa Q)(hle:σa.le σ)
 (hk:∀v σ',Q v σ'→(∀l o,σ' l=some o→σ l=none∨∃o',σa l=some o')→R (bF v (σ'.over (σ.minus σa)) k)):R (cN P g ms σ k):=by
 refine(h.frame hle).mono ?_
 rintro v σ1 ⟨σ',hq,rfl,hd⟩
 exact hk v σ' hq hd
theorem lR{σ σa:St}(h:σa.le σ):σa.over (σ.minus σa)=σ:=by
 funext l
 simp only[St.over,St.minus]
 cases ha:σa l with
 | none=>rfl
 | some o=>exact(h l o ha).symm
theorem dW{P:Program}{g:FuncId}{ms:List MV}{σa σ:St}{r:MV}{k:MV→St→Prop}(h:aA P g ms σa fun v σ'=>v=r∧σ'=σa)(hle:σa.le σ)(hk:R (bF r σ k)):R (cN P g ms σ k):=by
 refine bM h hle ?_
 rintro v σ' ⟨rfl,rfl⟩ -
 rw[lR hle]
 exact hk
theorem aW(x y:St)(l:Nat)(o:aO):(x.set l o).over y=(x.over y).set l o:=by
 funext k
 simp only[St.over,St.set]
 by_cases h:k=l
 ·simp[h]
 ·simp[h]
theorem cP(y:St):St.none.over y=y:=rfl
theorem aA.seen{P:Program}{g:FuncId}{ms:List MV}{σ:St}{r:MV}(h:aA P g ms σ fun v σ'=>View σ' v r):aA P g ms σ fun v _=>v=r:=by
 refine aA.ghost (h.mono fun v σ' hv=>⟨r,St.none,?_,rfl⟩)
 exact bU.freeze σ' (St.le_refl _) (St.none_le _) (fun k o hk=>by simp[St.none] at hk) (fun p hp=>by
  simp only[List.mem_singleton] at hp
  subst hp
  simpa[bI] using hv)
theorem View.loose{σ:St}{e:Nat}{xs:List (List MV)}{t:Bool}:View σ (.lst e xs t) (.lst e xs false):=by
 cases t
 ·exact .same _
 ·exact .tight e xs
theorem View.two{σ:St}{a b a' b':MV}(h:View σ a a')(k:View σ b b'):View σ (.tup [a,b]) (.tup [a',b']):=by
 refine .tup rfl fun i m m' hm hm'=>?_
 match i with
 | 0=>simp only[List.getElem?_cons_zero,Option.some.injEq] at hm hm';subst hm;subst hm';exact h
 | 1=>simp only[List.getElem?_cons_succ,List.getElem?_cons_zero,Option.some.injEq] at hm hm';subst hm;subst hm';exact k
 | i+2=>simp at hm
theorem wT{σ:St}{K:Nat→Prop}(h:R (jU σ K)):R (jU σ K):=h
theorem wN{σ:St}{K:Nat→Prop}(h:∀l,σ l=none→R (K l)):R (jU σ K):=h
theorem wS{σ:St}{l k:Nat}{o:aO}{p:Prop}(h:l≠k→k≠l→σ l=none→p):(σ.set k o) l=none→p:=qW h
theorem wI{c A B:Prop}(h1:c→R A)(h2:¬c→R B):R (mif c A B):=JW h1 h2
theorem wF{p:Prop}[Decidable p]{A B:Prop}(h1:p→R A)(h2:¬p→R B):R (fR (.bool (decide p)) A B):=DY h1 h2
theorem wG{p:Prop}[Decidable p]{A B:Prop}(h1:p→R A)(h2:¬p→R B):R (bE (.bool (decide p)) true A B):=Bb h1 h2
theorem wH{p:Prop}[Decidable p]{A B:Prop}(h1:¬p→R A)(h2:p→R B):R (bE (.bool (decide p)) false A B):=yE h1 h2
theorem wL{α:Type}{β:Type}:(∀a b:List α,(a++b).length=a.length+b.length)∧(∀(a:List α) (i:Nat),(a.take i).length=min i a.length)∧(∀(a:List α) (i:Nat),(a.drop i).length=a.length - i) ∧
  (∀(x:α) (a:List α),(x::a).length=a.length+1)∧([]:List α).length=0∧(∀(g:α→β) (a:List α),(a.map g).length=a.length)∧(∀(a:List α) (i:Nat) (x:α),(a.set i x).length=a.length) ∧
  (∀(n:Nat) (x:α),(List.replicate n x).length=n) :=
 ⟨fun _ _=>List.length_append,fun _ _=>List.length_take,fun _ _=>List.length_drop,fun _ _=>rfl,rfl,fun _ _=>List.length_map _,fun _ _ _=>List.length_set,fun _ _=>List.length_replicate⟩
theorem ddL{p:Prop}(h:p:=by first|decide|assumption|omega|(simp only[wL];omega)):p:=h
theorem up{P:Program}{g:FuncId}{ms:List MV}{σ:St}{r:MV}{k:MV→St→Prop}(h:aA P g ms St.none fun v _=>v=r)(hk:R (bF r σ k)):R (cN P g ms σ k):=aT h hk
end

section
structure Eff where
 C:Prop
 kill:Option Nat
 upd:Option St
 new:Option aO
 v:Nat→MV→Prop
abbrev GF:=List Nat × (List aO→Option Eff)
def Eff.upl(e:Eff)(l:Nat):Option aO:=match e.upd with|some u=>u l|none=>none
def Eff.app(e:Eff)(σ:St):St:=fun l=>if (e.upl l).isSome=true then e.upl l else if e.kill=some l then none else σ l
theorem mU{e:Eff}{l:Nat}(h:(e.upl l).isSome=true):∃p,e.upd=some p∧p l≠none:=by
 unfold Eff.upl at h
 cases hu:e.upd with
 | none=>rw[hu] at h;cases h
 | some p=>rw[hu] at h;exact⟨p,rfl,fun q=>by simp only[q] at h;cases h⟩
theorem z7{e:Eff}{l:Nat}(h:∀p,e.upd=some p→p l=none):e.upl l=none:=by
 unfold Eff.upl
 cases hu:e.upd with
 | none=>rfl
 | some p=>exact h p hu
def Eff.out(e:Eff)(U:Nat→Prop)(σ:St)(v:MV)(U':Nat→Prop)(σ':St):Prop :=
 match e.new with
 | none=>e.v 0 v∧U'=U∧σ'=e.app σ
 | some o=>∃l,¬U l∧e.v l v∧U'=(fun x=>x=l∨U x)∧σ'=(e.app σ).set l o
def gs(U:Nat→Prop)(σ:St)(g:GF)(k:MV→(Nat→Prop)→St→Prop):Prop :=
 ∃os e,g.1.map σ=os.map some∧g.2 os=some e∧e.C∧(∀l,∃v,e.v l v)∧∀v U' σ',e.out U σ v U' σ'→k v U' σ'
def Wf(g:GF):Prop:=∀os e,os.length=g.1.length→g.2 os=some e→(∀l,e.kill=some l→l∈g.1)∧(∀p,e.upd=some p→∀l,p l≠none→l∈g.1)
def gP(g:GF):Prop:=∀os e,os.length=g.1.length→g.2 os=some e→e.upd=none
def NoW(g:GF):Prop:=∀os e,os.length=g.1.length→g.2 os=some e→e.upd=none∧e.kill=none
def Dom(U:Nat→Prop)(σ:St):Prop:=∀l,σ l≠none→U l
def Fin(U:Nat→Prop):Prop:=∃n,∀l,n≤l→¬U l
theorem b4{e:Eff}(h:e.upd=none∧e.kill=none)(σ:St):e.app σ=σ:=by
 funext l;simp[Eff.app,Eff.upl,h.1,h.2]
theorem gI{rd:List Nat}{σ:St}{os:List aO}(h:rd.map σ=os.map some):os.length=rd.length:=by
 have:=congrArg List.length h;simpa using this.symm
theorem gJ{rd:List Nat}{σ:St}{os:List aO}(h:rd.map σ=os.map some){l:Nat}(hl:l∈rd):σ l≠none:=by
 have:σ l∈rd.map σ:=List.mem_map_of_mem hl
 rw[h] at this
 obtain⟨o,_,ho⟩:=List.mem_map.1 this
 rw[←ho];simp
theorem map_inj{rd:List Nat}{σ σ':St}{os os':List aO}(h:rd.map σ=os.map some)(h':rd.map σ'=os'.map some)(he:∀l,l∈rd→σ l=σ' l):os=os':=by
 have:rd.map σ=rd.map σ':=List.map_congr_left he
 rw[h,h'] at this
 clear h h' he
 induction os generalizing os' with
 | nil=>cases os' with
  | nil=>rfl
  | cons a r=>simp at this
 | cons b r ih=>cases os' with
  | nil=>simp at this
  | cons a r' =>
   simp only[List.map_cons,List.cons.injEq,Option.some.injEq] at this
   rw[this.1,ih this.2]
theorem oZ{U:Nat→Prop}{σ:St}{g:GF}{k k':MV→(Nat→Prop)→St→Prop}(h:gs U σ g k)(hd:Dom U σ)(hf:Fin U)(hk:∀v U' σ',Dom U' σ'→Fin U'→(∀l,U l→U' l)→k v U' σ'→k' v U' σ')(wf:Wf g):gs U σ g k':=by
 obtain⟨os,e,h1,h2,h3,h4,h5⟩:=h
 refine⟨os,e,h1,h2,h3,h4,fun v U' σ' ho=>?_⟩
 have hw:=wf os e (gI h1) h2
 have hdom:Dom U (e.app σ):=fun l hl=>by
  simp only[Eff.app] at hl
  split at hl
  ·rename_i hu
   obtain⟨p,hup,hp⟩:=mU hu
   exact hd l (gJ h1 (hw.2 p hup l hp))
  ·split at hl
   ·exact absurd rfl hl
   ·exact hd l hl
 refine hk v U' σ' ?_ ?_ ?_ (h5 v U' σ' ho)
 all_goals
  unfold Eff.out at ho
  split at ho
 ·obtain⟨-,rfl,rfl⟩:=ho;exact hdom
 ·obtain⟨l,-,-,rfl,rfl⟩:=ho
  intro k hk
  simp only[St.set] at hk
  split at hk
  ·rename_i e;exact .inl e
  ·exact .inr (hdom k hk)
 ·obtain⟨-,rfl,rfl⟩:=ho;exact hf
 ·obtain⟨l,-,-,rfl,rfl⟩:=ho
  obtain⟨n,hn⟩:=hf
  exact⟨max n (l+1),fun k hk q=>q.elim (fun e=>by omega) (hn k (by omega))⟩
 ·obtain⟨-,rfl,rfl⟩:=ho;exact fun _ h=>h
 ·obtain⟨l,-,-,rfl,rfl⟩:=ho;exact fun _ h=>.inr h
theorem Ic{U U':Nat→Prop}{σ:St}{g:GF}{k:MV→(Nat→Prop)→St→Prop}(h:gs U σ g k)(hu:∀l,U l→U' l)(hk:∀v V V' σ,(∀l,V l→V' l)→k v V σ→k v V' σ):gs U' σ g k:=by
 obtain⟨os,e,h1,h2,h3,h4,h5⟩:=h
 refine⟨os,e,h1,h2,h3,h4,fun v V σ' ho=>?_⟩
 unfold Eff.out at ho h5
 split at ho
 ·rename_i hn
  obtain⟨a,rfl,rfl⟩:=ho
  refine hk v U _ _ hu (h5 v U _ ?_)
  rw[hn];exact⟨a,rfl,rfl⟩
 ·rename_i o hn
  obtain⟨l,a,b,rfl,rfl⟩:=ho
  refine hk v (fun x=>x=l∨U x) _ _ (fun x hx=>hx.imp id (hu x)) (h5 v _ _ ?_)
  rw[hn];exact⟨l,fun q=>a (hu l q),b,rfl,rfl⟩
theorem GW{e:Eff}{U:Nat→Prop}{σ:St}(hf:Fin U)(hv:∀l,∃v,e.v l v)(rd:List Nat):∃v U' σ',e.out U σ v U' σ'∧∀l,l∈rd→σ' l=(e.app σ) l:=by
 unfold Eff.out
 cases e.new with
 | none=>obtain⟨v,hv⟩:=hv 0;exact⟨v,U,e.app σ,⟨hv,rfl,rfl⟩,fun _ _=>rfl⟩
 | some o =>
  obtain⟨n,hn⟩:=hf
  have key:∃m,∀l,l∈rd→l<m:=by
   clear hv
   induction rd with
   | nil=>exact⟨0,by simp⟩
   | cons a r ih =>
    obtain⟨m,hm⟩:=ih
    refine⟨max m (a+1),fun l hl=>?_⟩
    rcases List.mem_cons.1 hl with q|q
    ·omega
    ·have:=hm l q;omega
  obtain⟨m,hm⟩:=key
  obtain⟨v,hv⟩:=hv (max n m)
  refine⟨v,_,_,⟨max n m,hn _ (by omega),hv,rfl,rfl⟩,fun l hl=>?_⟩
  have:=hm l hl
  exact aI _ _ _ _ (by omega)
theorem oW{e:Eff}{σ:St}{l:Nat}{o:aO}(hk:e.kill≠some l)(hu:∀p,e.upd=some p→p l=none):e.app (σ.set l o)=(e.app σ).set l o:=by
 funext k
 simp only[Eff.app,St.set]
 by_cases h:k=l
 ·subst h
  simp[z7 hu,hk]
 ·simp only[if_neg h]
theorem Ig{U:Nat→Prop}{σ:St}{gx gy:GF}{K:MV→MV→(Nat→Prop)→St→Prop}(hd:Dom U σ)(hf:Fin U)(wx:Wf gx)(wy:Wf gy)
 (hc:((gy.1=[]∨gP gx)∧(gx.1=[]∨NoW gy)∧(NoW gx∨NoW gy))∨∀l,l∈gx.1→l∉gy.1)
 (hK:∀v u V V' σ,(∀l,V l→V' l)→K v u V σ→K v u V' σ)
 (h:gs U σ gx fun v U1 σ1=>gs U1 σ1 gy fun u U2 σ2=>K v u U2 σ2) :
  gs U σ gy fun u U1 σ1=>∀U1',(∀l,U1 l→U1' l)→gs U1' σ1 gx fun v U2 σ2=>K v u U2 σ2:=by
 obtain⟨ox,ex,x1,x2,x3,x4,x5⟩:=h
 have wx':=wx ox ex (gI x1) x2
 -- what y reads is there already
 have agree:∀v U1 σ1,ex.out U σ v U1 σ1→∀oy:List aO,gy.1.map σ1=oy.map some→(∀l,l∈gy.1→σ1 l=(ex.app σ) l)→∀l,l∈gy.1→σ1 l=σ l:=by
  intro v U1 σ1 ho oy hoy hsame l hl
  rw[hsame l hl]
  rcases hc.imp_left (·.1) with(c|c)|c
  ·rw[c] at hl;cases hl
  ·have hu:=c ox ex (gI x1) x2
   have hne:=gJ hoy hl
   rw[hsame l hl] at hne
   have hun:ex.upl l=none:=z7 fun p hp=>by rw[hu] at hp;cases hp
   simp only[Eff.app,hun,Option.isSome_none,Bool.false_eq_true,if_false] at hne ⊢
   split at hne
   ·exact absurd rfl hne
   ·rename_i q2;rw[if_neg q2]
  ·simp only[Eff.app]
   rw[if_neg,if_neg]
   ·intro e;exact c l (wx'.1 l e) hl
   ·intro e
    obtain⟨p,hp,he⟩:=mU e
    exact c l (wx'.2 p hp l he) hl
 obtain⟨v0,V0,σ0,out0,same0⟩:=GW (σ:=σ) hf x4 gy.1
 obtain⟨oy,ey,y1,y2,y3,y4,y5⟩:=x5 v0 V0 σ0 out0
 have ag0:=agree v0 V0 σ0 out0 oy y1 same0
 have y1':gy.1.map σ=oy.map some:=by rw[←y1];exact(List.map_congr_left ag0).symm
 have wy':=wy oy ey (gI y1) y2
 refine⟨oy,ey,y1',y2,y3,y4,fun u U1 σ1 hoy U1' hU1=>?_⟩
 -- what x reads is there still
 have hx1:gx.1.map σ1=ox.map some:=by
  rw[←x1]
  refine List.map_congr_left fun l hl=>?_
  rcases hc.imp_left (·.2.1) with(c|c)|c
  ·rw[c] at hl;cases hl
  ·have hw:=c oy ey (gI y1) y2
   unfold Eff.out at hoy
   split at hoy
   ·obtain⟨-,-,rfl⟩:=hoy;rw[b4 hw]
   ·obtain⟨k,q1,q2,q3,rfl⟩:=hoy
    rw[b4 hw]
    refine aI _ _ _ _ (fun e=>q1 ?_)
    subst e
    exact hd l (gJ x1 hl)
  ·have hap:(ey.app σ) l=σ l:=by
    simp only[Eff.app]
    rw[if_neg,if_neg]
    ·intro e;exact c l hl (wy'.1 l e)
    ·intro e
     obtain⟨p,hp,he⟩:=mU e
     exact c l hl (wy'.2 p hp l he)
   unfold Eff.out at hoy
   split at hoy
   ·obtain⟨-,-,rfl⟩:=hoy;exact hap
   ·obtain⟨k,q1,q2,q3,rfl⟩:=hoy
    rw[←hap]
    refine aI _ _ _ _ (fun e=>q1 ?_)
    subst e
    exact hd l (gJ x1 hl)
 refine⟨ox,ex,hx1,x2,x3,x4,fun v U2 σ2 hox=>?_⟩
 -- the two in their old order,at the same places
 have noty:∀l,¬U l→ey.kill≠some l∧∀p,ey.upd=some p→p l=none:=fun l hl =>
  ⟨fun e=>hl (hd l (gJ y1' (wy'.1 l e))),fun p hp=>Classical.byContradiction fun e=>hl (hd l (gJ y1' (wy'.2 p hp l e)))⟩
 have notx:∀l,¬U l→ex.kill≠some l∧∀p,ex.upd=some p→p l=none:=fun l hl =>
  ⟨fun e=>hl (hd l (gJ x1 (wx'.1 l e))),fun p hp=>Classical.byContradiction fun e=>hl (hd l (gJ x1 (wx'.2 p hp l e)))⟩
 have comm:ex.app (ey.app σ)=ey.app (ex.app σ):=by
  rcases hc.imp_left (·.2.2) with(c|c)|c
  ·rw[b4 (c ox ex (gI x1) x2),b4 (c ox ex (gI x1) x2)]
  ·rw[b4 (c oy ey (gI y1) y2),b4 (c oy ey (gI y1) y2)]
  ·funext l
   by_cases hx:l∈gx.1
   ·have hy:=c l hx
    have n1:¬(ey.upl l).isSome=true:=fun e=>by
     obtain⟨p,hp,he⟩:=mU e
     exact hy (wy'.2 p hp l he)
    have n2:ey.kill≠some l:=fun e=>hy (wy'.1 l e)
    simp only[Eff.app,if_neg n1,if_neg n2]
   ·have n1:¬(ex.upl l).isSome=true:=fun e=>by
     obtain⟨p,hp,he⟩:=mU e
     exact hx (wx'.2 p hp l he)
    have n2:ex.kill≠some l:=fun e=>hx (wx'.1 l e)
    simp only[Eff.app,if_neg n1,if_neg n2]
 have finish:∀V σ',ex.out U σ v V σ'→(∀l,l∈gy.1→σ' l=(ex.app σ) l)→∀W σ'',ey.out V σ' u W σ''→K v u W σ'':=by
  intro V σ' ho hsame W σ'' hoy'
  obtain⟨oy2,ey2,z1,z2,z3,z4,z5⟩:=x5 v V σ' ho
  have ag:=agree v V σ' ho oy2 z1 hsame
  have:oy=oy2:=map_inj y1' z1 (fun l hl=>(ag l hl).symm)
  subst this
  rw[y2] at z2;cases z2
  exact z5 u W σ'' hoy'
 have hmem:∀l,¬U l→l∉gy.1:=fun l hl q=>hl (hd l (gJ y1' q))
 unfold Eff.out at hox hoy
 cases hnx:ex.new with
 | none =>
  rw[hnx] at hox
  obtain⟨a1,rfl,rfl⟩:=hox
  have hout:ex.out U σ v U (ex.app σ):=by unfold Eff.out;rw[hnx];exact⟨a1,rfl,rfl⟩
  cases hny:ey.new with
  | none =>
   rw[hny] at hoy
   obtain⟨b1,rfl,rfl⟩:=hoy
   refine hK v u U1 U2 _ hU1 (finish _ _ hout (fun _ _=>rfl) _ _ ?_)
   unfold Eff.out;rw[hny];exact⟨b1,rfl,comm⟩
  | some o =>
   rw[hny] at hoy
   obtain⟨l,b0,b1,rfl,rfl⟩:=hoy
   refine hK v u _ U2 _ hU1 (finish _ _ hout (fun _ _=>rfl) _ _ ?_)
   unfold Eff.out;rw[hny]
   refine⟨l,b0,b1,rfl,?_⟩
   rw[oW (notx l b0).1 (notx l b0).2,comm]
 | some p =>
  rw[hnx] at hox
  obtain⟨k,a0,a1,rfl,rfl⟩:=hox
  have hout:∀W:Nat→Prop,(∀l,U l→W l)→¬W k→ex.out U σ v (fun x=>x=k∨U x) ((ex.app σ).set k p):=fun W hW hk=>by
   unfold Eff.out;rw[hnx];exact⟨k,fun q=>hk (hW k q),a1,rfl,rfl⟩
  cases hny:ey.new with
  | none =>
   rw[hny] at hoy
   obtain⟨b1,rfl,rfl⟩:=hoy
   have hk:¬U1 k:=fun q=>a0 (hU1 k q)
   refine hK v u (fun x=>x=k∨U1 x) _ _ (fun l q=>q.imp id (hU1 l)) (finish _ _ (hout U1' hU1 a0) (fun l hl=>aI _ _ _ _ (fun e=>hmem k hk (e ▸ hl))) _ _ ?_)
   unfold Eff.out;rw[hny]
   refine⟨b1,rfl,?_⟩
   rw[comm,oW (noty k hk).1 (noty k hk).2]
  | some o =>
   rw[hny] at hoy
   obtain⟨l,b0,b1,rfl,rfl⟩:=hoy
   have hk:¬U k:=fun q=>a0 (hU1 k (.inr q))
   have hkl:k≠l:=fun e=>a0 (hU1 k (.inl e))
   refine hK v u (fun x=>x=l∨(x=k∨U x)) _ _ (fun x q=>?_) (finish _ _ (hout U1' (fun x q=>hU1 x (.inr q)) a0) (fun x hx=>aI _ _ _ _ (fun e=>hmem k hk (e ▸ hx))) _ _ ?_)
   ·rcases q with q|q|q
    ·exact .inr (hU1 x (.inl q))
    ·exact .inl q
    ·exact .inr (hU1 x (.inr q))
   ·unfold Eff.out;rw[hny]
    refine⟨l,fun q=>q.elim (fun e=>hkl e.symm) b0,b1,rfl,?_⟩
    rw[oW (notx l b0).1 (notx l b0).2,comm,oW (noty k hk).1 (noty k hk).2,set_comm _ _ _ (Ne.symm hkl)]
end

section
def St.ofList:List Nat→List aO→St
 | l::ls,o::os=>(St.ofList ls os).set l o
 | _,_=>St.none
structure Fact where
 rd:List Nat
 q:MV→Prop
 new:Option (List aO × (Nat→MV))
abbrev bJ:=FuncId→List MV→Option Fact
def bC:GF:=([],fun _=>none)
def cT(pv:PV):GF:=([],fun _=>pv.map fun x=>⟨x.1,none,none,none,fun _ u=>u=x.2⟩)
def eA(C:Prop)(o:aO)(v:Nat→MV):GF:=([],fun _=>some ⟨C,none,none,some o,fun l u=>u=v l⟩)
def gZ:MV→List Nat
 | .vec _ l _ _=>[l]
 | _=>[]
def zW(os:List aO):St:=fun _=>os.head?
def j5(P:Program)(t:TypeId):MV→GF
 | .ptr l i o=>([l],fun os=>match os with
  | [.row _ _ xs]=>some ⟨(td P t).ok=true∧i<xs.length∧o+(td P t).size≤(xs.getD i []).length∧0<(td P t).size,none,none,none,fun _ u=>u=cB (td P t) (xs.getD i []) o⟩
  | _=>none)
 | .cptr cs=>cT (some ((td P t).ok=true∧(td P t).size≤cs.length∧0<(td P t).size,cB (td P t) cs 0))
 | _=>bC
def jE(P:Program)(t:TypeId)(x y:MV):GF :=
 match x with
 | .ptr l i o=>([l],fun os=>match os with
  | [.row tt e xs]=>some ⟨(td P t).ok=true∧i<xs.length∧y.cells.all MV.aF=true∧y.cells.length=(td P t).size∧o+y.cells.length≤(xs.getD i []).length,none,some (St.none.set l (.row tt e (xs.set i (laid (xs.getD i []) o y.cells)))),none,fun _ u=>u=.junk⟩
  | _=>none)
 | _=>bC
def hU(P:Program)(t xt:TypeId)(s x:MV):GF :=
 match (td P t).k with
 | .slice el=>match s with
  | .aZ=>(gZ x,fun os=>match eS (zW os) (td P el).size x with
   | some ys=>some ⟨(td P xt).k.dM=true∧(td P el).zok=true∧Fits ys.length (td P el).bytes,none,none,some (.row el (td P el).size ys),fun l u=>u=.vec (td P el).size l 0 ys.length⟩
   | none=>none)
  | .lst e xs true=>(gZ x,fun os=>match eS (zW os) (td P el).size x with
   | some ys=>some ⟨(td P xt).k.dM=true∧(td P el).zok=true∧e=(td P el).size∧(xs=[]∨0<ys.length)∧Fits (xs.length+ys.length) (td P el).bytes,none,none,some (.row el (td P el).size (xs++ys)),fun l u=>u=.vec (td P el).size l 0 (xs.length+ys.length)⟩
   | none=>none)
  | .vec e l lo n=>(l::gZ x,fun os=>match os with
   | .row tt e' xs::os=>match eS (zW os) (td P el).size x with
    | some ys=>some ⟨(td P xt).k.dM=true∧(td P el).zok=true∧e=(td P el).size∧e'=(td P el).size∧tt=el∧lo=0∧lo+n≤xs.length∧Fits (n+ys.length) (td P el).bytes,some l,none,some (.row el (td P el).size (dE xs lo n ys)),fun l' u=>u=.vec (td P el).size l' 0 (n+ys.length)⟩
    | none=>none
   | _=>none)
  | _=>bC
 | _=>bC
def b6(P:Program)(ρ:Operand→MV)(t:TypeId)(len:Nat)(parts:Array (Nat × Operand)):GF :=
 match (td P t).k with
 | .slice el=>eA ((td P el).zok=true∧parts.toList.map (·.1)=List.range len∧(parts.toList.all fun p=>(ρ p.2).cells.all MV.aF&&(ρ p.2).cells.length==(td P el).size)=true∧len * (td P el).size≤16777216∧len≤16777216)
   (.row el (td P el).size (parts.toList.map fun p=>(ρ p.2).cells)) (fun l=>.vec (td P el).size l 0 len)
 | _=>bC
def dL(P:Program)(t:TypeId)(x y:MV):GF :=
 match (td P t).k,x,y with
 | .slice el,.int .i64 n,.int .i64 c=>eA ((td P el).zok=true∧0≤n∧n≤c∧Fits c.toNat (td P el).bytes) (.row el (td P el).size (List.replicate n.toNat (td P el).zero)) (fun l=>.vec (td P el).size l 0 n.toNat)
 | _,_,_=>bC
def eN(P:Program)(s d:TypeId)(x:MV):GF :=
 match (td P s).k,(td P d).k,x with
 | .str,.slice el,.str b=>eA ((td P el).k=.int .u8∧FZ el=true∧b.size≤140737488355328) (.row el 1 (b.toList.map fun c=>[.int .u8 (c.toNat:Int)])) (fun l=>.vec 1 l 0 b.size)
 | .slice el,.str,.str _=>bC
 | .slice el,.str,x=>(gZ x,fun os=>match eS (zW os) 1 x with
  | some ys=>some ⟨(td P el).k=.int .u8∧ys.all isByte=true,none,none,none,fun _ u=>u=.str (bytesOf ys)⟩
  | none=>none)
 | _,_,x=>cT (mH P s d x)
def Ia(P:Program)(g:FuncId)(ms:List MV)(ts:List aO)(u:Nat→MV):GF:=match ts with
 | [o]=>eA (aA P g ms St.none fun v σ'=>∃l,v=u l∧σ'=St.none.set l o) o u
 | _=>bC
def eE(P:Program)(C:bJ)(g:FuncId)(ms:List MV):GF :=
 match C g ms with
 | some ⟨rd,q,none⟩=>(rd,fun os=>some ⟨aA P g ms (St.ofList rd os) (fun v σ'=>q v∧σ'=St.ofList rd os),none,none,none,fun _ u=>q u⟩)
 | some ⟨[],_,some (ts,u)⟩=>Ia P g ms ts u
 | some ⟨l::rd,_,some (ts,u)⟩=>(l::rd,fun os=>some ⟨aA P g ms (St.ofList (l::rd) os) (fun v σ'=>v=u l∧σ'=(St.ofList (l::rd) ts).over (St.ofList (l::rd) os)),none,some (St.ofList (l::rd) ts),none,fun _ w=>w=u l⟩)
 | _=>bC
def gF(P:Program)(t:TypeId)(m x:MV)(ok:Bool):GF :=
 match (td P t).k,m,x with
 | .map kt et,.mapv l,.int kd n=>([l],fun os=>match os with
  | [.mp es]=>some ⟨(td P kt).k=.int kd∧(td P et).zok=true∧(es.all fun p=>isK kd p.1)=true,none,none,none,fun _ u=>u=if ok=true then .tup [(dJ n es).getD (oA (td P et)),.bool (dJ n es).isSome] else(dJ n es).getD (oA (td P et))⟩
  | _=>none)
 | _,_,_=>bC
def jC(P:Program)(t:TypeId)(m x y:MV):GF :=
 match (td P t).k,m,x with
 | .map kt _,.mapv l,.int kd n=>([l],fun os=>match os with
  | [.mp es]=>some ⟨(td P kt).k=.int kd∧(es.all fun p=>isK kd p.1)=true,none,some (St.none.set l (.mp (gH kd n y es))),none,fun _ u=>u=.junk⟩
  | _=>none)
 | _,_,_=>bC
def Pl(C:bJ):Prop:=∀g ms rd q x,C g ms=some ⟨rd,q,some x⟩→rd=[]
def bJ.pl(C:bJ):bJ:=fun g ms=>(C g ms).map fun F=>match F with
 | ⟨rd,q,none⟩=>⟨rd,q,none⟩
 | ⟨_,q,some x⟩=>⟨[],q,some x⟩
theorem bJ.CH(C:bJ):Pl C.pl:=by
 intro g ms rd q x h
 unfold bJ.pl at h
 cases hC:C g ms with
 | none=>rw[hC] at h;cases h
 | some F =>
  rw[hC] at h
  obtain⟨rd',q',n⟩:=F
  cases n with
  | none=>simp at h
  | some y=>simp at h;exact h.1.symm ▸ rfl
inductive eJ where
 | no
 | all
 | these (L:List FuncId)
def eJ.stays:eJ→Operand→Bool
 | .no,_=>true
 | .these L,.func g=>!L.contains g
 | _,_=>false
def eJ.may:eJ→FuncId→Prop
 | .no,_=>False
 | .all,_=>True
 | .these L,g=>g∈L
def PlU(u:eJ)(C:bJ):Prop:=∀g ms rd q x,C g ms=some ⟨rd,q,some x⟩→rd=[]∨u.may g
theorem Pl.u{C:bJ}(h:Pl C){u:eJ}:PlU u C:=fun g ms rd q x e=>.inl (h g ms rd q x e)
def gop(P:Program)(C:bJ)(f:FR):Op→GF
 | .alloc t=>eA ((td P t).zok=true) (.row t (td P t).size [(td P t).zero]) (fun l=>.ptr l 0 0)
 | .box t x=>eA ((aB f x).cells.all MV.aF=true) (.row t (aB f x).cells.length [(aB f x).cells]) (fun l=>.ptr l 0 0)
 | .load t x=>j5 P t (aB f x)
 | .store t x y=>jE P t (aB f x) (aB f y)
 | .lookup t m x ok=>gF P t (aB f m) (aB f x) ok
 | .mapUpdate t m x y=>jC P t (aB f m) (aB f x) (aB f y)
 | .buildSlice t len parts=>b6 P (aB f) t len parts
 | .makeSlice t x y=>dL P t (aB f x) (aB f y)
 | .convert s d x=>eN P s d (aB f x)
 | .call ⟨.builtin .append,args,ts⟩=>match args.toList,ts.toList with
  | [s,x],[t,xt]=>hU P t xt (aB f s) (aB f x)
  | _,_=>bC
 | .call ⟨.builtin b,args,ts⟩=>if ts.toList.length=args.toList.length then cT (cM P b ts.toList.toArray (args.toList.map (aB f))) else bC
 | .call ⟨.value x,args,ts⟩=>match aB f x with
  | .fn (.func g) ms ns=>eE P C g (ms++args.toList.map (aB f)++ns)
  | _=>bC
 | .call ⟨.invoke _ _,_,_⟩=>bC
 | .defer _=>bC
 | op=>cT (qop P f op)
theorem qI:∀{ls:List Nat} {os:List aO} {k:Nat},St.ofList ls os k≠none→k∈ls
 | [],_,k,h=>absurd rfl h
 | l::ls,[],k,h=>absurd rfl h
 | l::ls,o::os,k,h=>by
  by_cases e:k=l
  ·subst e;exact List.mem_cons_self ..
  ·refine List.mem_cons_of_mem _ (qI (os:=os) fun q=>h ?_)
   simp only[St.ofList]
   rw[aI _ _ _ _ e];exact q
theorem HK{l:Nat}{o:aO}{rd:List Nat}:∀p:St,some (St.none.set l o)=some p→∀k,p k≠none→k∈l::rd:=fun p h k hk=>by
 cases h
 by_cases e:k=l
 ·subst e;exact List.mem_cons_self ..
 ·exact absurd (aI _ _ _ _ e) hk
theorem bR(pv:PV):Wf (cT pv)∧NoW (cT pv)∧gP (cT pv)∧(cT pv).1=[]:=by
 have key:∀os e,(cT pv).2 os=some e→e.upd=none∧e.kill=none:=fun os e h=>by
  simp only[cT,Option.map_eq_some_iff] at h
  obtain⟨x,-,rfl⟩:=h
  exact⟨rfl,rfl⟩
 exact⟨fun os e _ h=>by simp[key os e h],fun os e _ h=>key os e h,fun os e _ h=>(key os e h).1,rfl⟩
theorem cE(C:Prop)(o:aO)(v:Nat→MV):Wf (eA C o v)∧NoW (eA C o v)∧gP (eA C o v)∧(eA C o v).1=[]:=by
 have key:∀os e,(eA C o v).2 os=some e→e.upd=none∧e.kill=none:=fun os e h=>by
  simp only[eA,Option.some.injEq] at h
  subst h;exact⟨rfl,rfl⟩
 exact⟨fun os e _ h=>by simp[key os e h],fun os e _ h=>key os e h,fun os e _ h=>(key os e h).1,rfl⟩
theorem aR:Wf bC∧NoW bC∧gP bC∧bC.1=[]:=⟨fun os e _ h=>by simp[bC] at h,fun os e _ h=>by simp[bC] at h,fun os e _ h=>by simp[bC] at h,rfl⟩
def rd0:Op→Bool
 | .load ..|.store ..|.lookup ..|.mapUpdate ..|.convert ..|.call ⟨.builtin .append,_,_⟩|.call ⟨.value _,_,_⟩=>false
 | _=>true
def qF(u:eJ):Op→Bool
 | .store ..|.mapUpdate ..=>false
 | .call ⟨.value x,_,_⟩=>u.stays x
 | _=>true
def noW(u:eJ):Op→Bool
 | .store ..|.mapUpdate ..|.call ⟨.builtin .append,_,_⟩=>false
 | .call ⟨.value x,_,_⟩=>u.stays x
 | _=>true
theorem vU(P:Program)(t:TypeId)(x:MV):Wf (j5 P t x)∧NoW (j5 P t x)∧gP (j5 P t x):=by
 unfold j5
 split
 ·have key:∀(os:List aO) (e:Eff) (l i o:Nat),(match os with
   | [.row _ _ xs]=>some (⟨(td P t).ok=true∧i<xs.length∧o+(td P t).size≤(xs.getD i []).length∧0<(td P t).size,none,none,none,fun _ u=>u=cB (td P t) (xs.getD i []) o⟩:Eff)
   | _=>none)=some e→e.upd=none∧e.kill=none:=by
   intro os e l i o h
   split at h
   ·cases h;exact⟨rfl,rfl⟩
   ·cases h
  exact⟨fun os e _ h=>by simp[key os e 0 _ _ h],fun os e _ h=>key os e 0 _ _ h,fun os e _ h=>(key os e 0 _ _ h).1⟩
 ·exact⟨(bR _).1,(bR _).2.1,(bR _).2.2.1⟩
 ·exact⟨aR.1,aR.2.1,aR.2.2.1⟩
theorem HM(P:Program)(t:TypeId)(x y:MV):Wf (jE P t x y):=by
 unfold jE
 split
 ·intro os e _ h
  simp only at h
  split at h
  ·cases h;exact⟨fun l h=>by(cases h),HK⟩
  ·cases h
 ·exact aR.1
theorem tK(P:Program)(t xt:TypeId)(s x:MV):Wf (hU P t xt s x)∧gP (hU P t xt s x):=by
 unfold hU
 split
 ·split
  ·refine⟨fun os e _ h=>?_,fun os e _ h=>?_⟩ <;>
   ·simp only at h
    split at h
    ·cases h;simp
    ·cases h
  ·refine⟨fun os e _ h=>?_,fun os e _ h=>?_⟩ <;>
   ·simp only at h
    split at h
    ·cases h;simp
    ·cases h
  ·refine⟨fun os e _ h=>?_,fun os e _ h=>?_⟩ <;>
   ·simp only at h
    split at h
    ·split at h
     ·cases h;simp
     ·cases h
    ·cases h
  ·exact⟨aR.1,aR.2.2.1⟩
 ·exact⟨aR.1,aR.2.2.1⟩
theorem l7(P:Program)(s d:TypeId)(x:MV):Wf (eN P s d x)∧NoW (eN P s d x)∧gP (eN P s d x):=by
 unfold eN
 split
 ·exact⟨(cE _ _ _).1,(cE _ _ _).2.1,(cE _ _ _).2.2.1⟩
 ·exact⟨aR.1,aR.2.1,aR.2.2.1⟩
 ·refine⟨fun os e _ h=>?_,fun os e _ h=>?_,fun os e _ h=>?_⟩ <;>
  ·simp only at h
   split at h
   ·cases h;simp
   ·cases h
 ·exact⟨(bR _).1,(bR _).2.1,(bR _).2.2.1⟩
theorem vT(P:Program)(C:bJ)(g:FuncId)(ms:List MV):Wf (eE P C g ms)∧((∀rd q x,C g ms=some ⟨rd,q,some x⟩→rd=[])→NoW (eE P C g ms)∧gP (eE P C g ms)):=by
 unfold eE
 split
 ·refine⟨fun os e _ h=>?_,fun _=>⟨fun os e _ h=>?_,fun os e _ h=>?_⟩⟩ <;>
  ·simp only[Option.some.injEq] at h
   subst h;simp
 ·unfold Ia
  split
  ·exact⟨(cE _ _ _).1,fun _=>⟨(cE _ _ _).2.1,(cE _ _ _).2.2.1⟩⟩
  ·exact⟨aR.1,fun _=>⟨aR.2.1,aR.2.2.1⟩⟩
 ·rename_i l rd q ts u hC
  refine⟨fun os e _ h=>?_,fun hp=>?_⟩
  ·simp only[Option.some.injEq] at h
   subst h
   exact⟨fun l h=>by(cases h),fun p h k hk=>by cases h;exact qI hk⟩
  ·have:=hp _ _ _ hC;cases this
 ·exact⟨aR.1,fun _=>⟨aR.2.1,aR.2.2.1⟩⟩
theorem fO(P:Program)(ρ:Operand→MV)(t:TypeId)(len:Nat)(parts:Array (Nat × Operand)):Wf (b6 P ρ t len parts)∧NoW (b6 P ρ t len parts)∧gP (b6 P ρ t len parts)∧(b6 P ρ t len parts).1=[]:=by
 unfold b6
 split
 ·exact cE _ _ _
 ·exact aR
theorem gN(P:Program)(t:TypeId)(x y:MV):Wf (dL P t x y)∧NoW (dL P t x y)∧gP (dL P t x y)∧(dL P t x y).1=[]:=by
 unfold dL
 split
 ·exact cE _ _ _
 ·exact aR
theorem nZ(P:Program)(t:TypeId)(m x:MV)(ok:Bool):Wf (gF P t m x ok)∧NoW (gF P t m x ok)∧gP (gF P t m x ok):=by
 unfold gF
 split
 ·refine⟨fun os e _ h=>?_,fun os e _ h=>?_,fun os e _ h=>?_⟩ <;>
  ·simp only at h
   split at h
   ·cases h;simp
   ·cases h
 ·exact⟨aR.1,aR.2.1,aR.2.2.1⟩
theorem E5(P:Program)(t:TypeId)(m x y:MV):Wf (jC P t m x y):=by
 unfold jC
 split
 ·intro os e _ h
  simp only at h
  split at h
  ·cases h;exact⟨fun l h=>by(cases h),HK⟩
  ·cases h
 ·exact aR.1
theorem BZ(P:Program)(C:bJ){u:eJ}(hu:PlU u C)(f:FR)(op:Op):Wf (gop P C f op)∧(qF u op=true→gP (gop P C f op))∧(noW u op=true→NoW (gop P C f op))∧(rd0 op=true→(gop P C f op).1=[]):=by
 cases op
 case load t x=>exact⟨(vU _ _ _).1,fun _=>(vU _ _ _).2.2,fun _=>(vU _ _ _).2.1,fun h=>by simp[rd0] at h⟩
 case store t x y=>exact⟨HM _ _ _ _,fun h=>by simp[qF] at h,fun h=>by simp[noW] at h,fun h=>by simp[rd0] at h⟩
 case convert s d x=>exact⟨(l7 _ _ _ _).1,fun _=>(l7 _ _ _ _).2.2,fun _=>(l7 _ _ _ _).2.1,fun h=>by simp[rd0] at h⟩
 case lookup t m x ok=>exact⟨(nZ _ _ _ _ _).1,fun _=>(nZ _ _ _ _ _).2.2,fun _=>(nZ _ _ _ _ _).2.1,fun h=>by simp[rd0] at h⟩
 case mapUpdate t m x y=>exact⟨E5 _ _ _ _ _,fun h=>by simp[qF] at h,fun h=>by simp[noW] at h,fun h=>by simp[rd0] at h⟩
 case alloc t=>exact⟨(cE _ _ _).1,fun _=>(cE _ _ _).2.2.1,fun _=>(cE _ _ _).2.1,fun _=>rfl⟩
 case box t x=>exact⟨(cE _ _ _).1,fun _=>(cE _ _ _).2.2.1,fun _=>(cE _ _ _).2.1,fun _=>rfl⟩
 case buildSlice t n p=>exact⟨(fO _ _ _ _ _).1,fun _=>(fO _ _ _ _ _).2.2.1,fun _=>(fO _ _ _ _ _).2.1,fun _=>(fO _ _ _ _ _).2.2.2⟩
 case makeSlice t x y=>exact⟨(gN _ _ _ _).1,fun _=>(gN _ _ _ _).2.2.1,fun _=>(gN _ _ _ _).2.1,fun _=>(gN _ _ _ _).2.2.2⟩
 case defer c=>exact⟨aR.1,fun _=>aR.2.2.1,fun _=>aR.2.1,fun _=>rfl⟩
 case call c =>
  obtain⟨callee,args,ts⟩:=c
  cases callee with
  | value x =>
   simp only[gop]
   split
   ·rename_i g ms ns hx
    have hp:u.stays x=true→∀rd q y,C g (ms++args.toList.map (aB f)++ns)=some ⟨rd,q,some y⟩→rd=[]:=fun h rd q y e=>by
     rcases hu _ _ _ _ _ e with q1|q1
     ·exact q1
     ·cases u with
      | no=>exact q1.elim
      | all=>simp[eJ.stays] at h
      | these L =>
       cases x with
       | func g0 =>
        have:g0=g:=by simp[aB] at hx;exact hx.1
        subst this
        simp[eJ.stays] at h
        exact absurd q1 h
       | _=>simp[eJ.stays] at h
    exact⟨(vT _ _ _ _).1,fun h=>((vT _ _ _ _).2 (hp (by simpa[qF] using h))).2,fun h=>((vT _ _ _ _).2 (hp (by simpa[noW] using h))).1,fun h=>by simp[rd0] at h⟩
   ·exact⟨aR.1,fun _=>aR.2.2.1,fun _=>aR.2.1,fun _=>rfl⟩
  | invoke r m=>exact⟨aR.1,fun _=>aR.2.2.1,fun _=>aR.2.1,fun _=>rfl⟩
  | builtin b =>
   by_cases hb:b=.append
   ·subst hb
    simp only[gop]
    split
    ·exact⟨(tK _ _ _ _ _).1,fun _=>(tK _ _ _ _ _).2,fun h=>by simp[noW] at h,fun h=>by simp[rd0] at h⟩
    ·exact⟨aR.1,fun _=>aR.2.2.1,fun _=>aR.2.1,fun _=>rfl⟩
   ·have:gop P C f (.call ⟨.builtin b,args,ts⟩)=if ts.toList.length=args.toList.length then cT (cM P b ts.toList.toArray (args.toList.map (aB f))) else bC:=by
     cases b<;>first|rfl|exact absurd rfl hb
    rw[this]
    split
    ·exact⟨(bR _).1,fun _=>(bR _).2.2.1,fun _=>(bR _).2.1,fun _=>rfl⟩
    ·exact⟨aR.1,fun _=>aR.2.2.1,fun _=>aR.2.1,fun _=>rfl⟩
 all_goals exact⟨(bR _).1,fun _=>(bR _).2.2.1,fun _=>(bR _).2.1,fun _=>rfl⟩
end
end Go.Proofs.YtppdgejjmhdjhaaGreatDoor
