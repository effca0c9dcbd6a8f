/- Parts of the proof, joined; conditions: those that its theorems name. -/
import Derived.Test.YtppdgejjmhdjhaaGreatDoorMba
import Derived.MapKept
import Derived.Maps.RangeRun
import Derived.RangeFuncLeaves
import Derived.RangeFuncRecord
set_option linter.unusedVariables false
set_option linter.unusedSimpArgs false
set_option maxHeartbeats 4000000
namespace Go.Proofs.YtppdgejjmhdjhaaGreatDoor
section
open Go.MapKept
def isK(k:IntKind):MV→Bool
 | .int k' _=>decide (k'=k)
 | _=>false
def cB(n:Int):List (MV × MV)→Option MV
 | []=>none
 | (.int _ m,v)::r=>if m=n then some v else cB n r
 | _::r=>cB n r
def cM(k:IntKind)(n:Int)(v:MV):List (MV × MV)→List (MV × MV)
 | []=>[(.int k n,v)]
 | (.int k' m,u)::r=>if m=n then(.int k' m,v)::r else(.int k' m,u)::cM k n v r
 | x::r=>x::cM k n v r
theorem iE{k:IntKind}{m:MV}(h:isK k m=true):∃n,m=.int k n:=by
 cases m<;>simp[isK] at h
 subst h;exact⟨_,rfl⟩
theorem qT{k:IntKind}{n:Int}{Φ:Phi}(v':MV):∀(l:List MapEntry) (es:List (MV × MV)) (i0:Nat),l.length=es.length→(es.all fun x=>isK k x.1)=true→(∀(i:Nat) (x:MV × MV),es[i]?=some x→∃e:MapEntry,l[i]?=some e∧Rel Φ e.key x.1) →
  (∀x:MapEntry,x∈l→IsKey (.int k) x.key)∧((cB n es=none∧Instr.findNow (.int k) (.int k n) l i0=some none∧cM k n v' es=es++[(.int k n,v')]) ∨
   ∃(j:Nat) (e:MapEntry) (v:MV),cB n es=some v∧Instr.findNow (.int k) (.int k n) l i0=some (some (i0+j,e.val))∧l[j]?=some e∧e.key=.int k n∧es[j]?=some (.int k n,v)∧cM k n v' es=es.set j (.int k n,v'))
 | [],[],_,_,_,_=>⟨by simp,.inl ⟨rfl,rfl,rfl⟩⟩
 | [],_::_,_,h,_,_=>by simp at h
 | _::_,[],_,h,_,_=>by simp at h
 | e::l,(x,u)::es,i0,hl,hk,hr=>by
  simp only[List.all_cons,Bool.and_eq_true] at hk
  obtain⟨m,rfl⟩:=iE hk.1
  obtain⟨e',he',hrel⟩:=hr 0 _ rfl
  simp only[List.getElem?_cons_zero,Option.some.injEq] at he'
  subst he'
  have hkey:=hrel.aS
  obtain⟨q1,q2⟩:=qT (n:=n) v' l es (i0+1) (by simpa using hl) hk.2 fun i x hx=>hr (i+1) x (by simpa using hx)
  refine⟨?_,?_⟩
  ·intro y hy
   rcases List.mem_cons.1 hy with rfl|hy
   ·rw[hkey];exact rfl
   ·exact q1 y hy
  ·by_cases hmn:m=n
   ·subst hmn
    right
    refine⟨0,e,u,by simp[cB],?_,rfl,hkey,rfl,by simp[cM]⟩
    simp[Instr.findNow,Instr.sameNow,hkey]
   ·have hf:Instr.findNow (.int k) (.int k n) (e::l) i0=Instr.findNow (.int k) (.int k n) l (i0+1):=by
     have:(n==m)=false:=by simpa using Ne.symm hmn
     simp[Instr.findNow,Instr.sameNow,hkey,this]
    rw[hf]
    rcases q2 with⟨a,b,c⟩|⟨j,e2,v,a,b,c,d,e3,f⟩
    ·exact .inl ⟨by simp[cB,hmn,a],b,by simp[cM,hmn,c]⟩
    ·refine .inr ⟨j+1,e2,v,by simp[cB,hmn,a],?_,by simpa using c,d,by simpa using e3,by simp[cM,hmn,f]⟩
     rw[b];simp;omega
theorem BU{Φ:Phi}{k:IntKind}{n:Int}:∀{es:List (MV × MV)} {x:MV × MV} {v:Value},cB n es=none→(es.all fun p=>isK k p.1)=true→x∈es→Rel Φ v x.1→v≠.int k n
 | [],_,_,_,_,hx,_=>by cases hx
 | (y,u)::es,x,v,h0,hk,hx,hr=>by
  simp only[List.all_cons,Bool.and_eq_true] at hk
  obtain⟨m,rfl⟩:=iE hk.1
  by_cases hm:m=n
  ·simp[cB,hm] at h0
  ·simp only[cB,if_neg hm] at h0
   rcases List.mem_cons.1 hx with rfl|hx
   ·rw[hr.aS]
    intro e;cases e;exact hm rfl
   ·exact BU h0 hk.2 hx hr
theorem dU.Cb{Φ:Phi}{w:World}{l:Nat}{es:List (MV × MV)}(h:dU Φ w l (.mp es)):∃(p:Place) (R:Nat) (c:Array MapEntry) (clock:Nat),Φ.obj l=some p∧p.blk=some R∧w.heap[R]?=some (.map c clock)∧c.size=es.length∧Stamped c clock ∧
  ∀(i:Nat) (x:MV × MV),es[i]?=some x→∃e,c.toList[i]?=some e∧Rel Φ e.key x.1∧Rel Φ e.val x.2:=by
 obtain⟨p,R,hp,hR,c,clock,hh,⟨hs,hst⟩,hr⟩:=h
 refine⟨p,R,c,clock,hp,hR,hh,hs,hst,fun i x hx=>?_⟩
 have hi:=(List.getElem?_eq_some_iff.1 hx).1
 have hic:i<c.size:=by omega
 have:=hr i x hx
 rw[show c.getD i default=c[i] by simp[Array.getD,hic]] at this
 exact⟨c[i],by simp[hic],this⟩
theorem Dx{P:Program}{o:Oper}{f:FR}{σ:St}{k:MV→St→Prop}{t:TypeId}(ho:o.op=.makeMap t none)(hk:∀l,σ l=none→k (.mapv l) (σ.set l (.mp []))):sop P o f σ k:=by
 intro Φ w a K Q' hi hr hK
 obtain⟨n,hn⟩:=hi.fresh.1.1
 have hl:=hn n (Nat.le_refl _)
 have hrun:(execOp a.eval o).run P w=.ok (.value (.map (some w.heap.size))) (w.alloc (.map #[] 0)):=by
  unfold execOp
  simp only[ho,Instr.makeMap,Option.map_none,Sem.run_bind,run_newObj,Result.andThen_ok,Sem.run_pure]
  rfl
 obtain⟨i1,s1⟩:=hi.alloc (w':=w.alloc (.map #[] 0)) n hl (.mp []) (.map #[] 0) ⟨some w.heap.size,0,1,1⟩ rfl rfl rfl rfl rfl (by first|exact Nat.le_refl _|exact iR (Nat.le_succ _))
  ⟨_,w.heap.size,Phi.b7 _ _ _,rfl,#[],0,heap_alloc_new w _,⟨rfl,stamped_empty 0⟩,fun i x hx=>by simp at hx⟩
 exact bH hrun (hK _ (.mapv n) _ _ _ (Rel.mapv (Phi.b7 _ _ _) rfl) i1 s1 (hk n (hi.eL hl)))
theorem Fy{P:Program}{o:Oper}{f:FR}{σ:St}{k:MV→St→Prop}{t kt et:TypeId}{m x y:Operand}(ho:o.op=.insert t m x y∨o.op=.mapUpdate t m x y)(ht:(td P t).k=.map kt et){kd:IntKind}(hkt:(td P kt).k=.int kd)
 {l:Nat}{es:List (MV × MV)}(hm:aH f m=.mapv l)(hl:σ l=some (.mp es)){n:Int}(hx:aH f x=.int kd n)(he:(es.all fun p=>isK kd p.1)=true)
 (hk:k .junk (σ.set l (.mp (cM kd n (aH f y) es)))):sop P o f σ k:=by
 intro Φ w a K Q' hi hr hK
 have hum:=nS ht
 have huk:=iH hkt
 have rm:=aL hr m
 have rx:=aL hr x
 have ry:=aL hr y
 rw[hm] at rm
 rw[hx] at rx
 obtain⟨p,R,hp,hR,hmv⟩:=rm.kP
 have hxv:=rx.aS
 obtain⟨p',R',c,clock,hp',hR',hh,hs,hst,hrel⟩:=(hi.own l _ hl).Cb
 rw[hp] at hp';cases hp'
 rw[hR] at hR';cases hR'
 obtain⟨hkeys,hfind⟩:=qT (n:=n) (aH f y) c.toList es 0 (by simpa using hs) he fun i z hz=>by
  obtain⟨e,h1,h2,_⟩:=hrel i z hz
  exact⟨e,h1,h2⟩
 have hrt:=(Array.getElem?_eq_some_iff.1 hh).1
 rcases hfind with⟨h0,h1,h2⟩|⟨j,e,v,_,h1,hj,hek,hes,h2⟩
 ·obtain⟨c',hc'⟩:∃c',c'=c.push { key:=a.eval x,val:=a.eval y,born:=clock }:=⟨_,rfl⟩
  have hrun:(execOp a.eval o).run P w=.ok .skip (fA w R (.map c' (clock+1))):=by
   unfold execOp
   rcases ho with ho|ho<;>simp only[ho] <;>
    simp[hmv,hxv,Instr.mapUpdate,run_underlying hum,Go.MapKept.run_getObj_map hh,run_checkKey (d:=.int kd) (k:=.int kd n) huk rfl,run_findKey (d:=.int kd) huk h1,run_setObj_map _ hh,Result.andThen,fA,hc']
  obtain⟨i1,s1⟩:=hi.DC (w':=fA w R (.map c' (clock+1))) l hl (.mp (es++[(.int kd n,aH f y)])) hp hR hY (fun q hq=>eI hq) rfl rfl rfl (Nat.le_refl _)
   ⟨p,R,hp,hR,c',clock+1,gC hrt,⟨by rw[hc'];simp[hs],by
    rw[hc']
    refine stamped_push hst fun e1 he1=>?_
    obtain⟨i,hi1,rfl⟩:=List.mem_iff_getElem.1 he1
    have hi':i<es.length:=by rw[←hs];simpa using hi1
    obtain⟨e',q1,q2,_⟩:=hrel i es[i] (List.getElem?_eq_getElem hi')
    rw[List.getElem?_eq_getElem hi1] at q1
    cases q1
    rw[hxv]
    exact BU h0 he (List.getElem_mem hi') q2⟩,fun i z hz=>by
    rw[hc']
    by_cases hlt:i<es.length
    ·rw[List.getElem?_append_left hlt] at hz
     obtain⟨e,q1,q2,q3⟩:=hrel i z hz
     have:(c.push { key:=a.eval x,val:=a.eval y,born:=clock }).getD i default=e:=by
      have hic:i<c.size:=by omega
      have q1':c[i]?=some e:=by simpa using q1
      rw[Array.getD_eq_getD_getElem?,Array.getElem?_push,if_neg (by omega),q1'];rfl
     rw[this];exact⟨q2,q3⟩
    ·have hie:i=es.length:=by
      have:=(List.getElem?_eq_some_iff.1 hz).1
      simp at this;omega
     subst hie
     rw[List.getElem?_append_right (Nat.le_refl _)] at hz
     simp only[Nat.sub_self,List.getElem?_cons_zero,Option.some.injEq] at hz
     subst hz
     have:(c.push { key:=a.eval x,val:=a.eval y,born:=clock }).getD es.length default={ key:=a.eval x,val:=a.eval y,born:=clock }:=by
      rw[Array.getD_eq_getD_getElem?,Array.getElem?_push,if_pos (by omega)];rfl
     rw[this]
     exact⟨by simp only;rw[hxv];exact .int _ _,ry⟩⟩
  rw[←h2] at i1 s1
  exact Bj hrun (hK _ .junk _ _ _ (.junk _) i1 s1 hk)
 ·have hjc:c[j]?=some e:=by simpa using hj
  obtain⟨c',hc'⟩:∃c',c'=c.modify j fun e=>{ e with key:=a.eval x,val:=a.eval y }:=⟨_,rfl⟩
  have hrun:(execOp a.eval o).run P w=.ok .skip (fA w R (.map c' clock)):=by
   unfold execOp
   rcases ho with ho|ho<;>simp only[ho] <;>
    simp[hmv,hxv,Instr.mapUpdate,run_underlying hum,Go.MapKept.run_getObj_map hh,run_checkKey (d:=.int kd) (k:=.int kd n) huk rfl,run_findKey (d:=.int kd) huk h1,hjc,hek,run_keyThatStays (d:=.int kd) (k:=.int kd n) rfl,run_setObj_map _ hh,Result.andThen,fA,hc']
  have hjlt:=(Array.getElem?_eq_some_iff.1 hjc).1
  obtain⟨i1,s1⟩:=hi.DC (w':=fA w R (.map c' clock)) l hl (.mp (es.set j (.int kd n,aH f y))) hp hR hY (fun q hq=>eI hq) rfl rfl rfl (Nat.le_refl _)
   ⟨p,R,hp,hR,c',clock,gC hrt,⟨by rw[hc'];simp[hs],by
    rw[hc']
    exact stamped_modify hst j _ (fun _ _=>rfl) fun e' _ he'=>by rw[hjc] at he';cases he';exact hxv.trans hek.symm⟩,fun i z hz=>by
    rw[hc',Array.getD_eq_getD_getElem?,Array.getElem?_modify]
    by_cases hij:j=i
    ·subst hij
     rw[List.getElem?_set_self (by omega)] at hz
     cases hz
     rw[if_pos rfl,hjc]
     exact⟨by simp only[Option.map_some,Option.getD_some];rw[hxv];exact .int _ _,ry⟩
    ·rw[List.getElem?_set_ne hij] at hz
     obtain⟨e,q1,q2,q3⟩:=hrel i z hz
     have q1':c[i]?=some e:=by simpa using q1
     rw[if_neg hij,q1'];exact⟨q2,q3⟩⟩
  rw[←h2] at i1 s1
  exact Bj hrun (hK _ .junk _ _ _ (.junk _) i1 s1 hk)
def rS(d:TD):MV:=if d.k.isAgg=true then .agg d.zero else d.zero.headD .junk
theorem FA{P:Program}{o:Oper}{f:FR}{σ:St}{k:MV→St→Prop}{t kt et:TypeId}{m x:Operand}{ok:Bool}(ho:o.op=.lookup t m x ok)(ht:(td P t).k=.map kt et){kd:IntKind}(hkt:(td P kt).k=.int kd)(hz:(td P et).zok=true)
 {l:Nat}{es:List (MV × MV)}(hm:aH f m=.mapv l)(hl:σ l=some (.mp es)){n:Int}(hx:aH f x=.int kd n)(he:(es.all fun p=>isK kd p.1)=true)
 (hk:k (if ok=true then .tup [(cB n es).getD (rS (td P et)),.bool (cB n es).isSome] else(cB n es).getD (rS (td P et))) σ):sop P o f σ k:=by
 intro Φ w a K Q' hi hr hK
 have hum:=nS ht
 have huk:=iH hkt
 have rm:=aL hr m
 have rx:=aL hr x
 rw[hm] at rm
 rw[hx] at rx
 obtain⟨p,R,hp,hR,hmv⟩:=rm.kP
 have hxv:=rx.aS
 obtain⟨p',R',c,clock,hp',hR',hh,hs,hst,hrel⟩:=(hi.own l _ hl).Cb
 rw[hp] at hp';cases hp'
 rw[hR] at hR';cases hR'
 obtain⟨hkeys,hfind⟩:=qT (n:=n) .junk c.toList es 0 (by simpa using hs) he fun i z hz=>by
  obtain⟨e,h1,h2,_⟩:=hrel i z hz
  exact⟨e,h1,h2⟩
 obtain⟨z,hz0,hz1,hz2,hok,hz3,hz4,hz5⟩:=cU hz w
 have fin:∀(v:Value) (u:MV) (b:Bool),Rel Φ v u→(Instr.lookup t (a.eval m) (a.eval x) ok).run P w=.ok (if ok=true then .tuple #[v,.bool b] else v) w→k (if ok=true then .tup [u,.bool b] else u) σ→o.wp P a w K Q':=fun v u b hv hrun hk=>by
  have hrun2:(execOp a.eval o).run P w=.ok (.value (if ok=true then .tuple #[v,.bool b] else v)) w:=by
   unfold execOp
   simp only[ho,Sem.run_bind,hrun,Result.andThen_ok,Sem.run_pure]
  refine bH hrun2 (hK _ _ _ _ _ ?_ hi (.refl _ _ _) hk)
  cases ok
  ·exact hv
  ·refine .tup rfl fun i q hq=>?_
   match i with
   | 0=>simp at hq;subst hq;exact hv
   | 1=>simp at hq;subst hq;exact .bool _
   | i+2=>simp at hq
 rcases hfind with⟨h0,h1,h2⟩|⟨j,e,v,h0,h1,hj,hek,hes,h2⟩
 ·rw[h0] at hk
  refine fin z (rS (td P et)) false ?_ ?_ hk
  ·unfold rS
   by_cases hag:(td P et).k.isAgg=true
   ·rw[if_pos hag]
    obtain⟨cs,rfl⟩:=hz4 hag
    exact(iA (Φ:=Φ) hz1 hz3).agg
   ·rw[if_neg hag]
    have h5:=hz5 (by simpa using hag)
    have rc:=iA (Φ:=Φ) hz1 hz3
    rw[h5] at rc
    have hlen:=rc.1
    match hzz:(td P et).zero with
    | []=>rw[hzz] at hlen;simp at hlen
    | q::_ =>
     rw[hzz] at rc
     have:=rc.2.2 0 q rfl
     simpa using this
  ·simp[hmv,hxv,Instr.lookup,run_underlying hum,Go.MapKept.run_getObj_map hh,run_checkKey (d:=.int kd) (k:=.int kd n) huk rfl,run_findKey (d:=.int kd) huk h1,hz0,Result.andThen]
 ·rw[h0] at hk
  obtain⟨e',q1,q2,q3⟩:=hrel j _ hes
  rw[hj] at q1;cases q1
  refine fin e.val v true q3 ?_ hk
  simp[hmv,hxv,Instr.lookup,run_underlying hum,Go.MapKept.run_getObj_map hh,run_checkKey (d:=.int kd) (k:=.int kd n) huk rfl,run_findKey (d:=.int kd) huk h1,Result.andThen]
end

section
open Go.MapKept
theorem Jo{P:Program}{o:Oper}{f:FR}{σ:St}{k:MV→St→Prop}{t kt et:TypeId}{m:Operand}(ho:o.op=.range t m)(ht:(td P t).k=.map kt et)
 {l:Nat}{es:List (MV × MV)}(hm:aH f m=.mapv l)(hl:σ l=some (.mp es))
 (hk:∀q st ck,σ q=none→st.length=es.length→st.Nodup→(∀s,s∈st→s<ck)→k (.ptr q 0 0) ((σ.set l (.mk es st ck)).set q (.it l ck []))):sop P o f σ k:=by
 intro Φ w a K Q' hi hr hK
 have hum:=nS ht
 have rm:=aL hr m
 rw[hm] at rm
 obtain⟨p,R,hp,hR,hmv⟩:=rm.kP
 obtain⟨p',R',hp',hR',c,clock,hh,⟨hs,hst⟩,hrel⟩:=hi.own l _ hl
 rw[hp] at hp';cases hp'
 rw[hR] at hR';cases hR'
 have hst':=(stamped_iff c clock).1 hst
 obtain⟨i1,s1⟩:=hi.DC (w':=w) l hl (.mk es (c.toList.map (·.born)) clock) hp hR rfl (fun _ _=>rfl) rfl rfl rfl (Nat.le_refl _) ⟨p,R,hp,hR,c,hh,⟨hs,hst,rfl⟩,hrel⟩
 obtain⟨n,hn⟩:=i1.fresh.1.1
 have hfr:=hn n (Nat.le_refl _)
 have hrun:(execOp a.eval o).run P w=.ok (.value (.pointer (some ⟨w.heap.size,0,none⟩))) (w.alloc (.mapIter (some R) clock #[] clock)):=by
  unfold execOp
  simp only[ho,hmv,Sem.run_bind,run_range_map w t kt et R c clock hum hh,Result.andThen_ok,Sem.run_pure]
 have hln:l≠n:=fun e=>by subst e;rw[hp] at hfr;cases hfr
 obtain⟨i2,s2⟩:=i1.alloc (w':=w.alloc (.mapIter (some R) clock #[] clock)) n hfr (.it l clock []) (.mapIter (some R) clock #[] clock) ⟨some w.heap.size,0,1,1⟩ rfl rfl rfl rfl rfl (by first|exact Nat.le_refl _|exact iR (Nat.le_succ _))
  ⟨_,w.heap.size,p,R,Phi.b7 _ _ _,rfl,rfl,(Phi.o7 _ hfr).obj _ _ hp,hR,heap_alloc_new w _⟩
 refine bH hrun (hK _ (.ptr n 0 0) _ _ _ ?_ i2 (s1.trans s2) (hk n _ clock (hi.eL hfr) (by simp[hs]) ?_ fun s h=>?_))
 ·have:=Rel.ptr (Φ:=Φ.put n ⟨some w.heap.size,0,1,1⟩) (l:=n) (i:=0) (o:=0) (Phi.b7 _ _ _) rfl
  simpa using this
 ·exact hst'.2.1
 ·obtain⟨x,hx,rfl⟩:=List.mem_map.1 h
  exact hst'.1 x hx
theorem LO{P:Program}{o:Oper}{f:FR}{σ:St}{k:MV→St→Prop}{x:Operand}(ho:o.op=.next x false){q l ck:Nat}{seen st:List Nat}{es:List (MV × MV)}(hx:aH f x=.ptr q 0 0)
 (hq:σ q=some (.it l ck seen))(hl:σ l=some (.mk es st ck))(h0:(∀s,s∈st→s∈seen)→k (.tup [.bool false]) σ)
 (h1:∀(i:Nat) (z:MV × MV) (s:Nat),es[i]?=some z→st[i]?=some s→s∉seen→k (.tup [.bool true,z.1,z.2]) (σ.set q (.it l ck (seen++[s])))):sop P o f σ k:=by
 intro Φ w a K Q' hi hr hK
 have rx:=aL hr x
 rw[hx] at rx
 obtain⟨p,R,hp,hR,hv⟩:=rx.gL
 obtain⟨p',R',pm,Rm,hp',hR',hbo,hpm,hRm,hit⟩:=hi.own q _ hq
 rw[hp] at hp';cases hp'
 rw[hR] at hR';cases hR'
 obtain⟨pl,Rl,hpl,hRl,c,hh,⟨hs,hst,hbn⟩,hrel⟩:=hi.own l _ hl
 rw[hpm] at hpl;cases hpl
 rw[hRm] at hRl;cases hRl
 have hst':=(stamped_iff c ck).1 hst
 rw[hbo,Nat.zero_mul] at hv
 have hv:a.eval x=.pointer (some ⟨R,0,none⟩):=by simpa using hv
 rcases run_next_at (P:=P) w o.type R Rm ck ck seen.toArray c ck hit hh hst'.1 (Nat.le_refl _) with⟨h2,hrun⟩|⟨e,he,w1,hw1,hrun⟩
 ·have hrun':(execOp a.eval o).run P w=.ok (.value (.tuple #[.bool false])) w:=by
   unfold execOp
   simp only[ho,hv,Sem.run_bind,hrun,Result.andThen_ok,Sem.run_pure]
  refine bH hrun' (hK _ (.tup [.bool false]) _ _ _ ?_ hi (.refl _ _ _) (h0 fun s h=>?_))
  ·refine .tup rfl fun i z hz=>?_
   match i with
   | 0=>simp at hz;subst hz;exact .bool _
   | i+1=>simp at hz
  ·rw[←hbn] at h
   obtain⟨y,hy,rfl⟩:=List.mem_map.1 h
   have:=all_seen c seen.toArray h2 y hy
   simpa using this
 ·obtain⟨hem,hes⟩:=mem_left he
  obtain⟨i,hi1,hie⟩:=List.mem_iff_getElem.1 hem
  have hic:i<c.size:=by simpa using hi1
  have hie':c.toList[i]?=some e:=by rw[List.getElem?_eq_getElem hi1,hie]
  have hz:es[i]?=some (es[i]'(by omega)):=List.getElem?_eq_getElem (by omega)
  obtain⟨z,hzz⟩:∃z,es[i]'(by omega)=z:=⟨_,rfl⟩
  rw[hzz] at hz
  have hrz:=hrel i z hz
  rw[show c.getD i default=e by
   have:c[i]=e:=by rw[←hie];simp
   simp[Array.getD,hic,this]] at hrz
  have hsi:st[i]?=some e.born:=by rw[←hbn,List.getElem?_map,hie'];rfl
  have hns:e.born∉seen:=by simpa using hes
  have hrun':(execOp a.eval o).run P w=.ok (.value (.tuple #[.bool true,e.key,e.val])) (Go.ChangeMaps.setBlock w1 R (.mapIter (some Rm) ck (seen.toArray.push e.born) ck)):=by
   unfold execOp
   simp only[ho,hv,Sem.run_bind,hrun,Result.andThen_ok,Sem.run_pure]
  have hRlt:=(Array.getElem?_eq_some_iff.1 hit).1
  have hheap:(Go.ChangeMaps.setBlock w1 R (.mapIter (some Rm) ck (seen.toArray.push e.born) ck)).heap=w.heap.setIfInBounds R (.mapIter (some Rm) ck (seen.toArray.push e.born) ck):=by
   rcases hw1 with rfl|rfl<;>rfl
  have hdr:drw w≤drw (Go.ChangeMaps.setBlock w1 R (.mapIter (some Rm) ck (seen.toArray.push e.born) ck)):=by
   rcases hw1 with rfl|rfl
   ·exact Nat.le_refl _
   ·exact iR (Nat.le_succ _)
  obtain⟨i1,s1⟩:=hi.DC (w':=Go.ChangeMaps.setBlock w1 R (.mapIter (some Rm) ck (seen.toArray.push e.born) ck)) q hq (.it l ck (seen++[e.born])) hp hR (by rw[hheap];simp) (fun j hj=>by
    rw[hheap,Array.getElem?_setIfInBounds,if_neg (Ne.symm hj)]) (by rcases hw1 with rfl|rfl<;>rfl) (by rcases hw1 with rfl|rfl<;>rfl) (by rcases hw1 with rfl|rfl<;>rfl) hdr
   ⟨p,R,pm,Rm,hp,hR,hbo,hpm,hRm,by
    rw[hheap,Array.getElem?_setIfInBounds,if_pos rfl,if_pos hRlt]
    simp⟩
  refine bH hrun' (hK _ (.tup [.bool true,z.1,z.2]) _ _ _ ?_ i1 s1 (h1 i z e.born hz hsi hns))
  refine .tup rfl fun j m hm=>?_
  match j with
  | 0=>simp at hm;subst hm;exact .bool _
  | 1=>simp at hm;subst hm;exact hrz.1
  | 2=>simp at hm;subst hm;exact hrz.2
  | j+3=>simp at hm
theorem Jm{P:Program}{o:Oper}{f:FR}{σ:St}{k:MV→St→Prop}{x:Operand}(ho:o.op=.entry x){q l ck:Nat}{seen st:List Nat}{es:List (MV × MV)}(hx:aH f x=.ptr q 0 0)
 {i s:Nat}{z:MV × MV}(hq:σ q=some (.it l ck (seen++[s])))(hl:σ l=some (.mk es st ck))(hz:es[i]?=some z)(hsi:st[i]?=some s)(hk:k (.tup [z.1,z.2]) σ):sop P o f σ k:=by
 intro Φ w a K Q' hi hr hK
 have rx:=aL hr x
 rw[hx] at rx
 obtain⟨p,R,hp,hR,hv⟩:=rx.gL
 obtain⟨p',R',pm,Rm,hp',hR',hbo,hpm,hRm,hit⟩:=hi.own q _ hq
 rw[hp] at hp';cases hp'
 rw[hR] at hR';cases hR'
 obtain⟨pl,Rl,hpl,hRl,c,hh,⟨hs,hst,hbn⟩,hrel⟩:=hi.own l _ hl
 rw[hpm] at hpl;cases hpl
 rw[hRm] at hRl;cases hRl
 have hst':=(stamped_iff c ck).1 hst
 rw[hbo,Nat.zero_mul] at hv
 have hv:a.eval x=.pointer (some ⟨R,0,none⟩):=by simpa using hv
 have hil:i<es.length:=(List.getElem?_eq_some_iff.1 hz).1
 have hic:i<c.size:=by omega
 have hci:c.toList[i]?=some c[i]:=by simp[hic]
 have hbi:c[i].born=s:=by
  rw[←hbn,List.getElem?_map,hci] at hsi
  simpa using hsi
 have hrz:=hrel i z hz
 rw[show c.getD i default=c[i] by simp[Array.getD,hic]] at hrz
 have hrun:(execOp a.eval o).run P w=.ok (.value (.tuple #[c[i].key,c[i].val])) w:=by
  unfold execOp
  simp only[ho,hv,Sem.run_bind,run_entry_at (P:=P) w R Rm ck seen.toArray c ck c[i] (by rw[hbi];simpa using hit) hh (List.mem_of_getElem? hci) (hst'.2.1),Result.andThen_ok,Sem.run_pure]
 refine bH hrun (hK _ (.tup [z.1,z.2]) _ _ _ ?_ hi (.refl _ _ _) hk)
 refine .tup rfl fun j m hm=>?_
 match j with
 | 0=>simp at hm;subst hm;exact hrz.1
 | 1=>simp at hm;subst hm;exact hrz.2
 | j+2=>simp at hm
end

section
def Fits(n b:Nat):Prop:=n≤140737488355328∧n * b≤140737488355328
def mpure(σ:St)(k:MV→St→Prop):PV→Prop
  | some (C,v)=>C∧k v σ
  | none=>False
def kA(P:Program)(t:TypeId)(x:MV)(σ:St)(k:MV→St→Prop):Prop :=
  match x with
  | .ptr l i o=>match σ l with
    | some (.row _ _ xs)=>((td P t).ok=true∧i<xs.length∧o+(td P t).size≤(xs.getD i []).length∧0<(td P t).size)∧k (dA (td P t) (xs.getD i []) o) σ
    | _=>False
  | .cptr cs=>((td P t).ok=true∧(td P t).size≤cs.length∧0<(td P t).size)∧k (dA (td P t) cs 0) σ
  | _=>False
def mN(P:Program)(t:TypeId)(x y:MV)(σ:St)(k:MV→St→Prop):Prop :=
  match x with
  | .ptr l i o=>match σ l with
    | some (.row tt e xs)=>((td P t).ok=true∧i<xs.length∧y.cells.all MV.aN=true∧y.cells.length=(td P t).size∧o+y.cells.length≤(xs.getD i []).length)∧k .junk (σ.set l (.row tt e (xs.set i (laid (xs.getD i []) o y.cells))))
    | _=>False
  | _=>False
def jE(P:Program)(t xt:TypeId)(s x:MV)(σ:St)(k:MV→St→Prop):Prop :=
  match (td P t).k with
  | .slice el=>match gO σ (td P el).size x with
    | some ys=>match s with
      | .aZ=>((td P xt).k.eW=true∧(td P el).zok=true∧Fits ys.length (td P el).bytes)∧∀l,σ l=none→k (.vec (td P el).size l 0 ys.length) (σ.set l (.row el (td P el).size ys))
      | .lst e xs true=>((td P xt).k.eW=true∧(td P el).zok=true∧e=(td P el).size∧(xs=[]∨0<ys.length)∧Fits (xs.length+ys.length) (td P el).bytes) ∧
          ∀l,σ l=none→k (.vec (td P el).size l 0 (xs.length+ys.length)) (σ.set l (.row el (td P el).size (xs++ys)))
      | .vec e l lo n=>match σ l with
        | some (.row tt e' xs)=>((td P xt).k.eW=true∧(td P el).zok=true∧e=(td P el).size∧e'=(td P el).size∧tt=el∧lo=0∧lo+n≤xs.length∧Fits (n+ys.length) (td P el).bytes) ∧
            ∀l',σ l'=none→k (.vec (td P el).size l' 0 (n+ys.length)) ((σ.del l).set l' (.row el (td P el).size (eO xs lo n ys)))
        | _=>False
      | _=>False
    | none=>False
  | _=>False
def dL(P:Program)(f:FR)(t:TypeId)(len:Nat)(parts:Array (Nat × Operand))(σ:St)(k:MV→St→Prop):Prop :=
  match (td P t).k with
  | .slice el=>((td P el).zok=true∧parts.toList.map (·.1)=List.range len∧(parts.toList.all fun p=>(aH f p.2).cells.all MV.aN&&(aH f p.2).cells.length==(td P el).size)=true∧len * (td P el).size≤16777216∧len≤16777216) ∧
      ∀l,σ l=none→k (.vec (td P el).size l 0 len) (σ.set l (.row el (td P el).size (parts.toList.map fun p=>(aH f p.2).cells)))
  | _=>False
def hJ(P:Program)(t:TypeId)(x y:MV)(σ:St)(k:MV→St→Prop):Prop :=
  match (td P t).k,x,y with
  | .slice el,.int .i64 n,.int .i64 c=>((td P el).zok=true∧0≤n∧n≤c∧Fits c.toNat (td P el).bytes)∧∀l,σ l=none→k (.vec (td P el).size l 0 n.toNat) (σ.set l (.row el (td P el).size (List.replicate n.toNat (td P el).zero)))
  | _,_,_=>False
def gN(P:Program)(s d:TypeId)(x:MV)(σ:St)(k:MV→St→Prop):Prop :=
  match (td P s).k,(td P d).k,x with
  | .str,.slice el,.str b=>((td P el).k=.int .u8∧FZ el=true∧b.size≤140737488355328)∧∀l,σ l=none→k (.vec 1 l 0 b.size) (σ.set l (.row el 1 (b.toList.map fun c=>[.int .u8 (c.toNat:Int)])))
  | .slice el,.str,.str _=>False
  | .slice el,.str,x=>match gO σ 1 x with
    | some ys=>((td P el).k=.int .u8∧ys.all isByte=true)∧k (.str (bytesOf ys)) σ
    | none=>False
  | _,_,x=>mpure σ k (pV P s d x)
def eX(P:Program)(f:FR)(b:Builtin)(args:List Operand)(ts:List TypeId)(σ:St)(k:MV→St→Prop):Prop :=
  match b with
  | .append=>match args,ts with
    | [s,x],[t,xt]=>jE P t xt (aH f s) (aH f x) σ k
    | _,_=>False
  | b=>ts.length=args.length∧mpure σ k (dM P b ts.toArray (args.map (aH f)))
def Gq(P:Program)(f:FR)(c:Call)(σ:St)(k:MV→St→Prop):Prop :=
  match c.callee with
  | .builtin b=>eX P f b c.args.toList c.argTypes.toList σ k
  | .value x=>match aH f x with
    | .fn (.func g) ms ns=>aA P g (ms++c.args.toList.map (aH f)++ns) σ k
    | _=>False
  | .invoke _ _=>False
def mapOf(σ:St):MV→Option aW
  | .mapv l=>σ l
  | _=>none
def fB(P:Program)(t:TypeId)(m x y:MV)(o:Option aW)(σ:St)(k:MV→St→Prop):Prop :=
  match (td P t).k,m,x,o with
  | .map kt _,.mapv l,.int kd n,some (.mp es)=>((td P kt).k=.int kd∧(es.all fun p=>isK kd p.1)=true)∧k .junk (σ.set l (.mp (cM kd n y es)))
  | _,_,_,_=>False
def fP(P:Program)(t:TypeId)(m x:MV)(ok:Bool)(o:Option aW)(σ:St)(k:MV→St→Prop):Prop :=
  match (td P t).k,m,x,o with
  | .map kt et,.mapv _,.int kd n,some (.mp es)=>((td P kt).k=.int kd∧(td P et).zok=true∧(es.all fun p=>isK kd p.1)=true)∧k (if ok=true then .tup [(cB n es).getD (rS (td P et)),.bool (cB n es).isSome] else(cB n es).getD (rS (td P et))) σ
  | _,_,_,_=>False
def rE(P:Program)(t:TypeId)(m:MV)(o:Option aW)(σ:St)(k:MV→St→Prop):Prop :=
  match (td P t).k,m,o with
  | .map _ _,.mapv l,some (.mp es)=>∀q st ck,σ q=none→st.length=es.length→st.Nodup→(∀s,s∈st→s<ck)→k (.ptr q 0 0) ((σ.set l (.mk es st ck)).set q (.it l ck []))
  | _,_,_=>False
def zD(x:MV)(σ:St)(k:MV→St→Prop):Prop :=
  match x with
  | .ptr q 0 0=>∃l ck seen es st,σ q=some (.it l ck seen)∧σ l=some (.mk es st ck)∧((∀s,s∈st→s∈seen)→k (.tup [.bool false]) σ) ∧
      ∀(i:Nat) (z:MV × MV) (s:Nat),es[i]?=some z→st[i]?=some s→s∉seen→k (.tup [.bool true,z.1,z.2]) (σ.set q (.it l ck (seen++[s])))
  | _=>False
def uP(x:MV)(σ:St)(k:MV→St→Prop):Prop :=
  match x with
  | .ptr q 0 0=>∃l ck seen es st,∃(i:Nat) (z:MV × MV) (s:Nat),σ q=some (.it l ck (seen++[s]))∧σ l=some (.mk es st ck)∧es[i]?=some z∧st[i]?=some s∧k (.tup [z.1,z.2]) σ
  | _=>False
def mop(P:Program)(f:FR)(σ:St)(k:MV→St→Prop):Op→Prop
  | .alloc t=>(td P t).zok=true∧∀l,σ l=none→k (.ptr l 0 0) (σ.set l (.row t (td P t).size [(td P t).zero]))
  | .box t x=>(aH f x).cells.all MV.aN=true∧∀l,σ l=none→k (.ptr l 0 0) (σ.set l (.row t (aH f x).cells.length [(aH f x).cells]))
  | .load t x=>kA P t (aH f x) σ k
  | .store t x y=>mN P t (aH f x) (aH f y) σ k
  | .buildSlice t len parts=>dL P f t len parts σ k
  | .makeSlice t x y=>hJ P t (aH f x) (aH f y) σ k
  | .convert s d x=>gN P s d (aH f x) σ k
  | .call c=>Gq P f c σ k
  | .lookup t m x ok=>fP P t (aH f m) (aH f x) ok (mapOf σ (aH f m)) σ k
  | .mapUpdate t m x y=>fB P t (aH f m) (aH f x) (aH f y) (mapOf σ (aH f m)) σ k
  | op=>mpure σ k (qop P f op)
theorem mL{P:Program}{o:Oper}{f:FR}{σ:St}{k:MV→St→Prop}(h:mpure σ k (qop P f o.op))(hot:pZ o.op=true):sop P o f σ k:=by
  cases hq:qop P f o.op with
  | none=>rw[hq] at h;exact h.elim
  | some q=>obtain⟨C,v⟩:=q;rw[hq] at h;exact LP hq hot h.1 h.2
theorem kR{n:Nat}(h:n≤140737488355328):n≤maxLen:=Nat.le_trans h (by unfold maxLen;omega)
theorem zY{l:List MV}(h:l.all MV.aN=true):∀c,c∈l→c.aN=true:=by simpa using h
theorem Ct{P:Program}{o:Oper}{f:FR}{σ:St}{k:MV→St→Prop}{t:TypeId}{x:Operand}(ho:o.op=.load t x)(h:kA P t (aH f x) σ k):sop P o f σ k:=by
  unfold kA at h
  split at h
  · rename_i l i of hx
    split at h
    · rename_i tt e xs hs
      exact LN ho hx hs h.1.1 h.1.2.1 h.1.2.2.1 h.1.2.2.2 h.2
    · exact h.elim
  · rename_i cs hx
    exact Jl ho hx h.1.1 h.1.2.1 h.1.2.2 h.2
  · exact h.elim
theorem kJ{P:Program}{o:Oper}{f:FR}{σ:St}{k:MV→St→Prop}{t:TypeId}{m x y:Operand}(ho:o.op=.insert t m x y∨o.op=.mapUpdate t m x y)(h:fB P t (aH f m) (aH f x) (aH f y) (mapOf σ (aH f m)) σ k):sop P o f σ k:=by
  unfold fB at h
  split at h
  · rename_i kt et l kd n es h1 h2 h3 h4
    rw[h2] at h4
    exact Fy ho h1 h.1.1 h2 h4 h3 h.1.2 h.2
  · exact h.elim
theorem oH{P:Program}{o:Oper}{f:FR}{σ:St}{k:MV→St→Prop}{t:TypeId}{m x:Operand}{ok:Bool}(ho:o.op=.lookup t m x ok)(h:fP P t (aH f m) (aH f x) ok (mapOf σ (aH f m)) σ k):sop P o f σ k:=by
  unfold fP at h
  split at h
  · rename_i kt et l kd n es h1 h2 h3 h4
    rw[h2] at h4
    exact FA ho h1 h.1.1 h.1.2.1 h2 h4 h3 h.1.2.2 h.2
  · exact h.elim
theorem AF{P:Program}{o:Oper}{f:FR}{σ:St}{k:MV→St→Prop}{t:TypeId}{m:Operand}(ho:o.op=.range t m)(h:rE P t (aH f m) (mapOf σ (aH f m)) σ k):sop P o f σ k:=by
  unfold rE at h
  split at h
  · rename_i kt et l es h1 h2 h3
    rw[h2] at h3
    exact Jo ho h1 h2 h3 h
  · exact h.elim
theorem Cv{P:Program}{o:Oper}{f:FR}{σ:St}{k:MV→St→Prop}{x:Operand}(ho:o.op=.next x false)(h:zD (aH f x) σ k):sop P o f σ k:=by
  unfold zD at h
  split at h
  · rename_i q hx
    obtain⟨l,ck,seen,es,st,h1,h2,h3,h4⟩:=h
    exact LO ho hx h1 h2 h3 h4
  · exact h.elim
theorem Ax{P:Program}{o:Oper}{f:FR}{σ:St}{k:MV→St→Prop}{x:Operand}(ho:o.op=.entry x)(h:uP (aH f x) σ k):sop P o f σ k:=by
  unfold uP at h
  split at h
  · rename_i q hx
    obtain⟨l,ck,seen,es,st,i,z,s,h1,h2,h3,h4,h5⟩:=h
    exact Jm ho hx h1 h2 h3 h4 h5
  · exact h.elim
theorem kT{P:Program}{o:Oper}{f:FR}{σ:St}{k:MV→St→Prop}(h:mop P f σ k o.op):sop P o f σ k:=by
  cases ho:o.op<;>rw[ho] at h<;>simp only[mop] at h
  case alloc t=>exact Jj ho h.1 h.2
  case box t x=>exact NJ ho (zY h.1) h.2
  case load t x=>exact Ct ho h
  case lookup t m x ok=>exact oH ho h
  case mapUpdate t m x y=>exact kJ (.inr ho) h
  case store t x y =>
    unfold mN at h
    split at h
    · rename_i l i of hx
      split at h
      · rename_i tt e xs hs
        obtain⟨⟨h1,h2,h3,h4,h5⟩,h6⟩:=h
        exact Jp ho hx hs h1 h2 (zY h3) h4 h5 h6
      · exact h.elim
    · exact h.elim
  case buildSlice t len parts =>
    unfold dL at h
    split at h
    · rename_i el hk
      obtain⟨⟨h1,h2,h3,h4,h5⟩,h6⟩:=h
      refine wO ho hk h1 h2 (fun p hp=>?_) h4 (kR (by omega)) h6
      have:=List.all_eq_true.1 h3 p hp
      simp only[Bool.and_eq_true,beq_iff_eq] at this
      exact⟨zY this.1,this.2⟩
    · exact h.elim
  case makeSlice t x y =>
    unfold hJ at h
    split at h
    · rename_i el n c hk hx hy
      obtain⟨⟨h1,h2,h3,h4⟩,h6⟩:=h
      obtain⟨h7,h8⟩:=h4
      refine yG ho hk h1 hx hy h2 h3 (by omega) ?_ h6
      have:c=(c.toNat:Int):=by omega
      rw[this,Int.mul_comm,←Int.natCast_mul]
      exact Int.ofNat_le.2 h8
    · exact h.elim
  case convert s d x =>
    unfold gN at h
    split at h
    · rename_i el b hs hd hx
      exact Jn ho hs hd h.1.1 h.1.2.1 hx (kR h.1.2.2) h.2
    · exact h.elim
    · rename_i el hs hd hne
      split at h
      · rename_i ys hy
        exact Jq ho hs h.1.1 hd hy (fun b hb=>hne b hb) h.1.2 h.2
      · exact h.elim
    · refine mL ?_ (by rw[ho];rfl)
      rw[ho]
      exact h
  case call c =>
    obtain⟨callee,args,ts⟩:=c
    unfold Gq at h
    cases callee with
    | builtin b =>
      simp only[eX] at h
      split at h
      · split at h
        · rename_i s x t xt ha hts
          have ha':args=#[s,x]:=by rw[←Array.toArray_toList (xs:=args),ha]
          have hts':ts=#[t,xt]:=by rw[←Array.toArray_toList (xs:=ts),hts]
          subst ha';subst hts'
          unfold jE at h
          split at h
          · rename_i el hk
            split at h
            · rename_i ys hy
              split at h
              · rename_i hs
                obtain⟨⟨h1,h2,h3⟩,h4⟩:=h
                have:=mW (P:=P) (f:=f) (σ:=σ) (k:=k) ho hk h1 h2 (xs:=[]) (ys:=ys) (.inl ⟨hs,rfl⟩) hy (.inl rfl) (kR (by simpa using h3.1)) (by simpa using h3.2) (by simpa using h4)
                exact this
              · rename_i e xs hs
                obtain⟨⟨h1,h2,rfl,h3,h4⟩,h5⟩:=h
                exact mW (P:=P) (f:=f) (σ:=σ) (k:=k) ho hk h1 h2 (.inr hs) hy h3 (kR h4.1) h4.2 h5
              · rename_i e l lo n hs
                split at h
                · rename_i tt e' xs hsl
                  obtain⟨⟨h1,h2,rfl,rfl,h3,hlo,h4,h5⟩,h6⟩:=h
                  exact wM (P:=P) (f:=f) (σ:=σ) (k:=k) ho hk h1 h2 hs hsl h3 hlo h4 hy (kR h5.1) h5.2 h6
                · exact h.elim
              · exact h.elim
            · exact h.elim
          · exact h.elim
        · exact h.elim
      · rename_i b' hne
        refine mL (P:=P) (f:=f) ?_ (by rw[ho];simp only[pZ,beq_iff_eq];simpa using h.1)
        rw[ho]
        simpa[qop] using h.2
    | value x =>
      simp only at h
      split at h
      · rename_i g ms ns hx
        exact LM ho hx h
      · exact h.elim
    | invoke r m=>exact h.elim
  all_goals first
    | exact mL (by rw[ho];exact h) (by rw[ho];rfl)
    | exact h.elim
def bD(f:FR)(dst:Option Tmp)(v:MV):FR :=
  match dst with
  | some d=>if d<f.n then⟨f.n,(d,v)::f.l,f.d⟩ else f
  | none=>f
theorem cO{Φ:Phi}{a:Act}{f:FR}(hr:cL Φ a.tmps f)(dst:Option Tmp){v:Value}{m:MV}(h:Rel Φ v m):cL Φ (a.put dst v).tmps (bD f dst m):=by
  cases dst with
  | none=>exact hr
  | some d =>
    have e1:=hr.1
    simp only[bD]
    split
    · rename_i hd
      refine⟨by simp[Act.put,e1],fun t=>?_⟩
      simp only[Act.put,Array.getD_eq_getD_getElem?,Array.getElem?_setIfInBounds,FR.get,cA]
      by_cases ht:t=d
      · subst ht
        rw[if_pos rfl,if_pos rfl,if_pos (show t<a.tmps.size by rw[e1];exact hd)]
        exact h
      · rw[if_neg (Ne.symm ht),if_neg ht]
        have:=hr.2 t
        rwa [Array.getD_eq_getD_getElem?] at this
    · rename_i hd
      refine⟨by simp[Act.put,e1],fun t=>?_⟩
      have hd':¬d<a.tmps.size:=by rw[e1];exact hd
      have:(a.put (some d) v).tmps=a.tmps:=by simp only[Act.put,Array.setIfInBounds,dif_neg hd']
      rw[this]
      exact hr.2 t
theorem bN{a:Act}(dst:Option Tmp)(v:Value):(a.put dst v).defers=a.defers:=by cases dst<;>rfl
theorem gA{Φ:Phi}:Rel Φ undef (.tup []):=.tup rfl (fun i m h=>by simp at h)
def fJ(ops:Array Oper)(f:FR)(o:Oper)(yes no:Prop):Prop :=
  match o.guard with
  | none=>yes
  | some (j,want)=>match (ops[j]?).bind (·.dst) with
    | some t=>match f.get t with
      | .bool b=>(b=want→yes)∧(b=(!want)→no)
      | .tup []=>no
      | _=>False
    | none=>False
theorem cF{Φ:Phi}{ops:Array Oper}{f:FR}{o:Oper}{yes no:Prop}(h:fJ ops f o yes no){a:Act}(hr:cL Φ a.tmps f) :
    (Region.wanted o (yielded ops a.tmps)=true∧yes)∨(Region.wanted o (yielded ops a.tmps)=false∧no):=by
  unfold fJ at h
  unfold Region.wanted
  split at h
  · rename_i hg;rw[hg];exact .inl ⟨rfl,h⟩
  · rename_i j want hg
    rw[hg]
    simp only
    split at h
    · rename_i t ht
      split at h
      · rename_i b hb
        have hy:yielded ops a.tmps j=some b:=by
          unfold yielded
          rw[ht]
          have hrel:=hr.2 t
          rw[hb] at hrel
          have hrel:=hrel.jN
          have hlt2:t<a.tmps.size:=by
            rcases Nat.lt_or_ge t a.tmps.size with q|q
            · exact q
            · simp[Array.getD_eq_getD_getElem?,Array.getElem?_eq_none q,undef] at hrel
          rw[Array.getD_eq_getD_getElem?,Array.getElem?_eq_getElem hlt2] at hrel
          simp only[Option.getD_some] at hrel
          simp[Array.getElem?_eq_getElem hlt2,hrel]
        rw[hy]
        by_cases hw:b=want
        · left;subst hw;exact⟨by simp,h.1 rfl⟩
        · right
          have hb':b=!want:=by cases b<;>cases want<;>simp at hw ⊢
          exact⟨by simp[hw],h.2 hb'⟩
      · rename_i hb
        right
        have hrel:=hr.2 t
        rw[hb] at hrel
        obtain⟨cs,e,hs,_⟩:=hrel.An
        have hy:yielded ops a.tmps j=none:=by
          unfold yielded
          rw[ht]
          rcases Nat.lt_or_ge t a.tmps.size with q|q
          · rw[Array.getD_eq_getD_getElem?,Array.getElem?_eq_getElem q] at e
            simp only[Option.getD_some] at e
            simp[Array.getElem?_eq_getElem q,e]
          · simp[Array.getElem?_eq_none q]
        rw[hy]
        exact⟨by simp,h⟩
      · exact h.elim
    · exact h.elim
def uO(f:FR)(c:Call)(K:FR→Prop):Prop:=match c.callee with
  | .value x=>match aH f x with
    | .fn (.func g) ms ns=>K ⟨f.n,f.l,(g,ms++c.args.toList.map (aH f)++ns)::f.d⟩
    | _=>False
  | _=>False
def AN(P:Program)(t:TypeId)(x lo hi:MV)(o:Option aW)(σ:St)(k:MV→St→Prop):Prop :=
  match x,lo,hi,o,(td P t).k with
  | .vec e l l0 _,.int _ a,.int _ h,some (.row _ e' xs),.slice el=>((td P el).ok=true∧e=(td P el).size∧e'=(td P el).size∧0≤a∧a≤h∧l0+h.toNat≤xs.length)∧k (.vec e l (l0+a.toNat) (h.toNat - a.toNat)) σ
  | _,_,_,_,_=>False
def Ko(σ:St):MV→Option aW
  | .vec _ l _ _=>σ l
  | _=>none
def beyond:MV→MV→Prop
  | .vec _ _ _ n,.int _ h=>(n:Int)<h
  | _,_=>False
instance (x y:MV):Decidable (beyond x y):=by unfold beyond;split<;>infer_instance
def mclear(P:Program)(t:TypeId)(x:MV)(o:Option aW)(σ:St)(k:MV→St→Prop):Prop :=
  match x,o,(td P t).k with
  | .vec e l l0 n,some (.row tt e' xs),.slice el=>((td P el).zok=true∧0<(td P el).size∧e=(td P el).size∧e'=(td P el).size∧l0+n≤xs.length)∧k .junk (σ.set l (.row tt e' (iG xs l0 (List.replicate n (td P el).zero))))
  | _,_,_=>False
def K8(P:Program)(t:TypeId)(s x:MV)(σ:St)(k:MV→St→Prop):Prop :=
  match (td P t).k,s,x with
  | .slice el,.aZ,.int .i64 n=>((td P el).zok=true∧0<(td P el).size∧0<n∧Fits n.toNat (td P el).bytes)∧∀l,σ l=none→k (.vec (td P el).size l 0 n.toNat) (σ.set l (.row el (td P el).size (List.replicate n.toNat (td P el).zero)))
  | _,_,_=>False
def Ni(b:Bool)(A B:Prop):Prop:=if b=true then A else B
def fM(P:Program)(f:FR)(σ:St)(dst:Option Tmp)(K:FR→St→Prop):Op→Prop
  | .defer c=>uO f c fun f'=>K (bD f' dst .junk) σ
  | .makeMap _ none=>∀l,σ l=none→K (bD f dst (.mapv l)) (σ.set l (.mp []))
  | .insert t m x y=>fB P t (aH f m) (aH f x) (aH f y) (mapOf σ (aH f m)) σ (fun v σ'=>K (bD f dst v) σ')
  | .mapUpdate t m x y=>fB P t (aH f m) (aH f x) (aH f y) (mapOf σ (aH f m)) σ (fun v σ'=>K (bD f dst v) σ')
  | .lookup t m x ok=>fP P t (aH f m) (aH f x) ok (mapOf σ (aH f m)) σ (fun v σ'=>K (bD f dst v) σ')
  | .range t m=>rE P t (aH f m) (mapOf σ (aH f m)) σ (fun v σ'=>K (bD f dst v) σ')
  | .next x false=>zD (aH f x) σ (fun v σ'=>K (bD f dst v) σ')
  | .entry x=>uP (aH f x) σ (fun v σ'=>K (bD f dst v) σ')
  | .slice t x (some y) (some z) none=>if beyond (aH f x) (aH f z) then AN P t (aH f x) (aH f y) (aH f z) (Ko σ (aH f x)) σ (fun v σ'=>K (bD f dst v) σ')
      else mop P f σ (fun v σ'=>K (bD f dst v) σ') (.slice t x (some y) (some z) none)
  | .call ⟨.builtin .clear,args,ts⟩=>match args.toList,ts.toList with
    | [x],[t]=>mclear P t (aH f x) (Ko σ (aH f x)) σ (fun v σ'=>K (bD f dst v) σ')
    | _,_=>False
  | .call ⟨.builtin .append,args,ts⟩=>match args.toList,ts.toList with
    | [s,x],[t,xt]=>Ni (td P xt).k.isInt (K8 P t (aH f s) (aH f x) σ (fun v σ'=>K (bD f dst v) σ')) (mop P f σ (fun v σ'=>K (bD f dst v) σ') (.call ⟨.builtin .append,args,ts⟩))
    | _,_=>False
  | op=>mop P f σ (fun v σ'=>K (bD f dst v) σ') op
def eB(P:Program)(ops:Array Oper)(K:FR→St→Prop):List Oper→FR→St→Prop
  | [],f,σ=>K f σ
  | o::rest,f,σ=>fJ ops f o (fM P f σ o.dst (eB P ops K rest) o.op) (eB P ops K rest (bD f o.dst (.tup [])) σ)
theorem eF(f:FR)(dst:Option Tmp)(v:MV):(bD f dst v).d=f.d:=by
  unfold bD
  split<;>(try split)<;>rfl
def dP:Op→Bool
  | .defer _|.makeMap _ none|.insert ..|.mapUpdate ..|.lookup ..|.range ..|.next _ false|.entry ..|.slice _ _ (some _) (some _) none|.call ⟨.builtin .clear,_,_⟩|.call ⟨.builtin .append,_,_⟩=>false
  | _=>true
theorem CI{P:Program}{f:FR}{σ:St}{dst:Option Tmp}{K:FR→St→Prop}{op:Op}(h:dP op=true):fM P f σ dst K op=mop P f σ (fun v σ'=>K (bD f dst v) σ') op:=by
  cases op<;>first|rfl|skip
  case slice t x lo hi mx=>cases lo<;>cases hi<;>cases mx<;>first|rfl|(simp[dP] at h;done)
  case defer c=>simp[dP] at h
  case makeMap t r=>cases r<;>first|rfl|(simp[dP] at h;done)
  case insert=>simp[dP] at h
  case range=>simp[dP] at h
  case entry=>simp[dP] at h
  case next x b=>cases b<;>first|rfl|(simp[dP] at h;done)
  case call c =>
    obtain⟨callee,args,ts⟩:=c
    cases callee<;>first|rfl|skip
    rename_i b
    cases b<;>first|rfl|(simp[dP] at h;done)
theorem kB{P:Program}{o:Oper}{f:FR}{σ:St}{K:FR→St→Prop}(hd:∀c,o.op≠.defer c)(h:fM P f σ o.dst K o.op):sop P o f σ fun v σ'=>K (bD f o.dst v) σ':=by
  by_cases hp:dP o.op=true
  · rw[CI hp] at h
    exact kT h
  · cases ho:o.op<;>rw[ho] at h hp<;>(try simp[dP] at hp)
    case slice t x lo hi mx =>
      cases lo<;>cases hi<;>cases mx<;>(try simp[dP] at hp)
      rename_i y z
      simp only[fM] at h
      split at h
      · unfold AN at h
        split at h
        · rename_i e l l0 n k1 a k2 hh tt e' xs el hx hy hz hl hk
          obtain⟨⟨h1,rfl,rfl,h3,h4,h5⟩,h6⟩:=h
          rw[hx] at hl
          exact FC ho hk h1 hx hl hy hz h3 h4 h5 h6
        · exact h.elim
      · rw[←ho] at h
        exact kT h
    case defer c=>exact absurd ho (hd c)
    case makeMap t r =>
      cases r<;>(try simp[dP] at hp)
      exact Dx ho h
    case insert t m x y=>exact kJ (.inl ho) h
    case mapUpdate t m x y=>exact kJ (.inr ho) h
    case lookup t m x ok=>exact oH ho h
    case range t m=>exact AF ho h
    case next x b =>
      cases b<;>(try simp[dP] at hp)
      exact Cv ho h
    case entry x=>exact Ax ho h
    case call c =>
      obtain⟨callee,args,ts⟩:=c
      cases callee<;>(try simp[dP] at hp)
      rename_i b
      cases b<;>(try simp[dP] at hp)
      case append =>
        simp only[fM] at h
        split at h
        · rename_i s x t xt ha ht
          have ha':args=#[s,x]:=by rw[←Array.toArray_toList (xs:=args),ha]
          have ht':ts=#[t,xt]:=by rw[←Array.toArray_toList (xs:=ts),ht]
          subst ha';subst ht'
          unfold Ni at h
          split at h
          · rename_i hxt
            unfold K8 at h
            split at h
            · rename_i el n hk hs hx
              obtain⟨⟨h1,h2,h3,h4,h5⟩,h6⟩:=h
              exact rM ho hk hxt h1 h2 hs hx h3 h4 h5 h6
            · exact h.elim
          · rw[←ho] at h
            exact kT h
        · exact h.elim
      case clear =>
        simp only[fM] at h
        split at h
        · rename_i x t ha ht
          have ha':args=#[x]:=by rw[←Array.toArray_toList (xs:=args),ha]
          have ht':ts=#[t]:=by rw[←Array.toArray_toList (xs:=ts),ht]
          subst ha';subst ht'
          unfold mclear at h
          split at h
          · rename_i e l l0 n tt e' xs el hx hl hk
            obtain⟨⟨h1,h2,rfl,rfl,h3⟩,h4⟩:=h
            rw[hx] at hl
            exact Jk ho hk h1 h2 hx hl h3 h4
          · exact h.elim
        · exact h.elim
theorem Dg{Φ:Phi}{x y:Array Value}{m n:List MV}(h1:gE Φ x m)(h2:gE Φ y n):gE Φ (x++y) (m++n):=by
  refine⟨by simp[h1.1,h2.1],fun i q hq=>?_⟩
  have e1:=h1.1
  by_cases h:i<m.length
  · rw[List.getElem?_append_left h] at hq
    have:=h1.2 i q hq
    simpa[Array.getD_eq_getD_getElem?,Array.getElem?_append_left (show i<x.size by omega)] using this
  · rw[List.getElem?_append_right (by omega)] at hq
    have:=h2.2 _ q hq
    simpa[Array.getD_eq_getD_getElem?,Array.getElem?_append_right (show x.size≤i by omega),e1] using this
theorem pW{P:Program}{o:Oper}{c:Call}(ho:o.op=.defer c){f:FR}{K:FR→Prop}(h:uO f c K){Φ:Phi}{a:Act}{w:World}(hr:cL Φ a.tmps f)(hd:dR Φ w a.defers f.d) :
    ∃d f',(execOp a.eval o).run P w=.ok (.defer d) w∧cL Φ a.tmps f'∧dR Φ w (d::a.defers) f'.d∧K f':=by
  unfold uO at h
  obtain⟨callee,args,ts⟩:=c
  simp only at h
  split at h
  · rename_i x
    split at h
    · rename_i g ms ns hx
      have rx:=aL hr x
      rw[hx] at rx
      obtain⟨first,cap,he,r1,r2⟩:=rx.oU
      refine⟨⟨.fn (.func g) cap,first++args.map a.eval⟩,_,?_,?_,?_,h⟩
      · unfold execOp
        simp only[ho,resolve,he,Deferred.ofValue,Sem.run_bind,Sem.run_pure,Result.andThen_ok]
      · exact hr
      · exact .inr ⟨_,_,_,cap,rfl,rfl,Dg (Dg r1 (kU hr args)) r2,hd⟩
    · exact h.elim
  · exact h.elim
theorem A5{F:Fence}(hF:F=Fence.wide∨∃l,F=Fence.wide.inRound l){n:Nat}{P:Program}{row:String}{args:Array Value}{w:World}{R:Value→World→Prop}(h:Rows P row args w R):RowsIn F n P row args w R:=by
  intro c cs _
  obtain⟨v,w',r,s⟩:=h c cs
  refine⟨v,w',r,?_⟩
  rcases hF with rfl|⟨l,rfl⟩
  · exact stepsIn_wide.2 s
  · rw[fenced_inRound];exact stepsIn_wide.2 s
theorem xG{F:Fence}(hF:F=Fence.wide∨∃l,F=Fence.wide.inRound l){n:Nat}{P:Program}{f:FuncId}{args:Array Value}{w:World}{R:Ending→World→Prop}(h:Calls P f args w R):CallsIn F n P f args w R:=by
  rcases hF with rfl|⟨l,rfl⟩
  · exact callsIn_wide.2 h
  · exact CallsIn.inRound l (callsIn_wide.2 h)
theorem eZ{F:Fence}{n:Nat}{P:Program}{o:Oper}{a:Act}{w:World}{K:Act→World→Prop}{Q:Exit→Act→World→Prop}
   (hF:F=Fence.wide∨∃l,F=Fence.wide.inRound l∧∀c,o.op≠.defer c)(h:o.wp P a w K Q):o.wpIn F n P a w K Q:=by
  have hF':F=Fence.wide∨∃l,F=Fence.wide.inRound l:=hF.imp id fun⟨l,e,_⟩=>⟨l,e⟩
  have hfn:∀g,F.fn g:=fun g=>by rcases hF' with rfl|⟨l,rfl⟩<;>trivial
  have hd:F.depth.isSome=true→1≤n:=fun q=>by rcases hF' with rfl|⟨l,rfl⟩<;>cases q
  have hs:o.semAt F.round a.eval=execOp a.eval o:=by
    rcases hF with rfl|⟨l,rfl,hc⟩
    · exact Oper.semAt_none _ _
    · exact Oper.semAt_eq _ _ _ hc
  refine⟨fun f _=>hfn f,?_⟩
  rw[hs]
  unfold Oper.wp at h
  generalize (execOp a.eval o).run P w=r at h ⊢
  cases r with
  | ok x w' =>
    cases x with
    | value v=>exact h
    | skip=>exact h
    | defer d=>exact h
    | enter f args=>exact⟨hd,(xG hF' h).mono fun e w'' q=>by cases e<;>exact q⟩
    | row row args=>exact⟨hd,A5 hF' h⟩
    | _=>exact h.elim
  | halt x w' =>
    cases x with
    | panic v=>exact h
    | _=>exact h.elim
theorem uX{P:Program}{ops:Array Oper}{Q:MQ}{Φ0:Phi}{σ0:St}{w0:World}{F:Fence}:∀(l:List Oper),(F=Fence.wide∨∃l0,F=Fence.wide.inRound l0∧∀o,o∈l→∀c,o.op≠.defer c)→∀(f:FR) (σ:St) (Φ:Phi) (w:World) (a:Act),eB P ops (Q .normal) l f σ→Inv Φ w σ→cL Φ a.tmps f→dR Φ w a.defers f.d →
    Step Φ0 σ0 w0 Φ σ w→wpListIn F 0 P ops (lift Φ0 σ0 w0 Q) l a w:=by
  intro l
  induction l with
  | nil=>intro _ f σ Φ w a h hi hr hd hs;exact⟨f,σ,Φ,hd,hr,hi,hs,h⟩
  | cons o rest ih =>
    intro hF f σ Φ w a h hi hr hd hs
    have hFr:F=Fence.wide∨∃l0,F=Fence.wide.inRound l0∧∀o,o∈rest→∀c,o.op≠.defer c:=hF.imp id fun⟨l0,e,q⟩=>⟨l0,e,fun o ho=>q o (by simp[ho])⟩
    have hFo:F=Fence.wide∨∃l0,F=Fence.wide.inRound l0∧∀c,o.op≠.defer c:=hF.imp id fun⟨l0,e,q⟩=>⟨l0,e,q o (by simp)⟩
    have hfn:∀g,F.fn g:=fun g=>by rcases hF with rfl|⟨l,rfl,_⟩<;>trivial
    simp only[eB] at h
    unfold wpListIn
    rcases cF h hr with⟨hw,hy⟩|⟨hw,hn⟩
    · rw[if_pos hw]
      refine eZ hFo ?_
      by_cases hdef:∃c,o.op=.defer c
      · obtain⟨c,hc⟩:=hdef
        rw[hc] at hy
        have hy:uO f c fun f'=>eB P ops (Q .normal) rest (bD f' o.dst .junk) σ:=hy
        obtain⟨d,f',h1,h2,h3,h4⟩:=pW (P:=P) (w:=w) hc hy hr hd
        unfold Oper.wp
        rw[h1]
        refine ih hFr _ _ Φ w _ h4 hi (cO (a:={ a with defers:=d::a.defers }) h2 o.dst (.junk _)) ?_ hs
        rw[bN,eF]
        exact h3
      · exact kB (fun c hc=>hdef ⟨c,hc⟩) hy Φ w a _ _ hi hr (fun v mv σ' Φ' w' r1 i1 s1 hk=>ih hFr _ _ Φ' w' (a.put o.dst v) hk i1 (cO (hr.mono s1.le) o.dst r1) (by rw[bN,eF];exact hd.step hi s1) (hs.trans s1))
    · rw[if_neg (by simp[hw])]
      exact⟨fun f _=>hfn f,ih hFr _ _ Φ w (a.put o.dst undef) hn hi (cO hr o.dst gA) (by rw[bN,eF];exact hd) hs⟩
theorem FOk.ops{F:Fence}{id:Nat}{ops:Array Oper}{dr:Bool}(h:FOk F (.region id ops dr)):F=Fence.wide∨∃l0,F=Fence.wide.inRound l0∧∀o,o∈ops.toList→∀c,o.op≠.defer c :=
  Or.imp (fun q=>q) (fun⟨l0,e,q⟩=>⟨l0,e,fun o ho c hc=>by
    have:=List.all_eq_true.1 q o ho
    rw[hc] at this
    cases this⟩) h
theorem Fc{P:Program}{id:Nat}{ops:Array Oper}{f:FR}{σ:St}{Q:MQ}(h:eB P ops (Q .normal) ops.toList f σ):mwp P (.region id ops false) f σ Q :=
  fun F hF Φ w a hi hr hd=>wpIn_region_list (uX ops.toList hF.ops f σ Φ w a h hi hr hd (.refl _ _ _))
def CE(P:Program)(f:FR)(σ:St):ResultVar→(MV→Prop)→Prop
  | .tmp t,k=>k (f.get t)
  | .cell a t,k=>kA P t (f.get a) σ (fun v _=>k v)
def dZ(P:Program)(f:FR)(σ:St):List ResultVar→(List MV→Prop)→Prop
  | [],k=>k []
  | r::rs,k=>CE P f σ r fun v=>dZ P f σ rs fun vs=>k (v::vs)
def oneOf:List MV→MV
  | [v]=>v
  | vs=>.tup vs
def zW(P:Program)(g:FuncId)(ms:List MV)(σ:St)(Q:St→Prop):Prop :=
  ∃fn,P.funcs[g]?=some fn∧fn.body.isNone=false∧(fn.name == "runtime.NumGoroutine")=false ∧
    ∀Φ w vs,Inv Φ w σ→gE Φ vs ms→CallsD P g vs .returning w fun e u' w'=>u'=.returning∧∃v σ' Φ',e=.returned v∧Inv Φ' w' σ'∧Step Φ σ w Φ' σ' w'∧Q σ'
def mleave(P:Program)(n:Nat)(l:List (Nat × MV))(rs:List ResultVar)(Q:MV→St→Prop):List (FuncId × List MV)→St→Prop
  | [],σ=>dZ P ⟨n,l,[]⟩ σ rs fun vs=>Q (oneOf vs) σ
  | (g,ms)::d,σ=>zW P g ms σ fun σ'=>mleave P n l rs Q d σ'
def Lr(P:Program)(rs:List ResultVar)(Q:MV→St→Prop):MQ
  | .normal,f,σ|.ret,f,σ=>mleave P f.n f.l rs Q f.d σ
  | _,_,_=>False
theorem Iq{P:Program}{t:TypeId}{x:MV}{σ:St}{k:MV→St→Prop}(h:kA P t x σ k){Φ:Phi}{w:World}(hi:Inv Φ w σ){v:Value}(r:Rel Φ v x):∃ad u m,v=.pointer (some ad)∧(loadVar t ad).run P w=.ok u w∧Rel Φ u m∧k m σ:=by
  unfold kA at h
  split at h
  · rename_i l i of
    split at h
    · rename_i tt e xs hs
      obtain⟨⟨hok,hi',h1,h0⟩,hk⟩:=h
      obtain⟨p,R,hp,hR,he⟩:=r.gL
      obtain⟨p',hp',hpe,hlen,R',hR',hcells⟩:=(hi.own l _ hs).elem (iC hi' (d:=[]))
      rw[hp] at hp';cases hp'
      rw[hR] at hR';cases hR'
      obtain⟨v2,hv,hrel⟩:=jF (P:=P) (Φ:=Φ) (w:=w) (t:=t) (b:=R) (off:=p.bo+i * p.e+of) (ms:=(xs.getD i []).drop of) hok (by rw[List.length_drop];omega) h0 (fun j m hm=>by
        rw[List.getElem?_drop] at hm
        have:=hcells _ m hm
        rw[Nat.add_assoc (p.bo+i * p.e),hpe]
        exact this)
      have e2:dA (td P t) ((xs.getD i []).drop of) 0=dA (td P t) (xs.getD i []) of:=by
        unfold dA
        simp[List.getD,List.getElem?_drop]
      rw[e2] at hrel
      exact⟨_,v2,_,he,hv,hrel,hk⟩
    · exact h.elim
  · rename_i cs
    obtain⟨⟨hok,h1,h0⟩,hk⟩:=h
    obtain⟨b,off,vs,he,hc,hrr⟩:=r.kO
    obtain⟨v2,hv,hrel⟩:=jF (P:=P) (Φ:=Φ) (w:=w) (t:=t) (b:=b) (off:=off) (ms:=cs) hok h1 h0 (fun j m hm=>⟨(hc j m hm).1,vs j,hi.snap _ _ (hc j m hm).2,hrr j m hm⟩)
    exact⟨_,v2,_,he,hv,hrel,hk⟩
  · exact h.elim
theorem Df{Φ:Phi}{tmps:Array Value}{f:FR}(hr:cL Φ tmps f)(t:Nat):Rel Φ (tmps.getD t undef) (f.get t):=hr.2 t
def zP(tmps:Array Value):ResultVar→Sem Value
  | .tmp t=>pure (tmps.getD t undef)
  | .cell a t=>do loadVar t (←asAddr (tmps.getD a undef))
theorem lR(fn:Func)(tmps:Array Value):results fn tmps=(do
    let vs ←fn.results.mapM (zP tmps)
    pure (if h:vs.size=1 then vs[0] else .tuple vs)):=rfl
theorem AH{P:Program}{f:FR}{σ:St}{Φ:Phi}{w:World}(hi:Inv Φ w σ){tmps:Array Value}(hr:cL Φ tmps f):∀(rs:List ResultVar) (k:List MV→Prop),dZ P f σ rs k →
    ∃vs ms,(rs.mapM (m:=Sem) (zP tmps)).run P w=.ok vs w∧vs.length=ms.length∧(∀(i:Nat) v m,vs[i]?=some v→ms[i]?=some m→Rel Φ v m)∧k ms:=by
  intro rs
  induction rs with
  | nil=>intro k h;exact⟨[],[],by simp,rfl,by simp,h⟩
  | cons r rs ih =>
    intro k h
    simp only[dZ] at h
    cases r with
    | tmp t =>
      obtain⟨vs,ms,h1,h2,h3,h4⟩:=ih _ h
      refine⟨tmps.getD t undef::vs,f.get t::ms,?_,by simp[h2],fun i v m hv hm=>?_,h4⟩
      · rw[List.mapM_cons]
        simp only[zP,Sem.run_bind,Sem.run_pure,Result.andThen_ok]
        rw[h1]
        rfl
      · cases i with
        | zero=>simp only[List.getElem?_cons_zero,Option.some.injEq] at hv hm;subst hv;subst hm;exact Df hr t
        | succ i=>exact h3 i v m (by simpa using hv) (by simpa using hm)
    | cell a t =>
      simp only[CE] at h
      obtain⟨ad,u,m1,he,hl,hrel,hk⟩:=Iq h hi (Df hr a)
      obtain⟨vs,ms,h1,h2,h3,h4⟩:=ih _ hk
      refine⟨u::vs,m1::ms,?_,by simp[h2],fun i v m hv hm=>?_,h4⟩
      · rw[List.mapM_cons]
        simp only[zP,Sem.run_bind,he,asAddr,Sem.run_pure,Result.andThen_ok,hl]
        rw[h1]
        rfl
      · cases i with
        | zero=>simp only[List.getElem?_cons_zero,Option.some.injEq] at hv hm;subst hv;subst hm;exact hrel
        | succ i=>exact h3 i v m (by simpa using hv) (by simpa using hm)
theorem Dh{P:Program}{fn:Func}{f:FR}{σ:St}{Φ:Phi}{w:World}(hi:Inv Φ w σ){tmps:Array Value}(hr:cL Φ tmps f){Q:MV→St→Prop}(h:dZ P f σ fn.results.toList fun vs=>Q (oneOf vs) σ) :
    ∃v m,(results fn tmps).run P w=.ok v w∧Rel Φ v m∧Q m σ:=by
  obtain⟨vs,ms,h1,h2,h3,h4⟩:=AH (P:=P) hi hr fn.results.toList _ h
  have hm:∃va:Array Value,(fn.results.mapM (m:=Sem) (zP tmps)).run P w=.ok va w∧va.toList=vs:=by
    rw[←Array.toList_mapM] at h1
    simp only[Sem.run_map] at h1
    generalize hg:(fn.results.mapM (m:=Sem) (zP tmps)).run P w=res at h1 ⊢
    cases res with
    | halt x w'=>simp at h1
    | ok va w' =>
      simp only[Result.andThen_ok,Result.ok.injEq] at h1
      obtain⟨h1,rfl⟩:=h1
      exact⟨va,rfl,h1⟩
  obtain⟨va,hva,rfl⟩:=hm
  by_cases hs:va.size=1
  · match ms,h2 with
    | [m],h2 =>
      refine⟨va[0],m,?_,h3 0 _ m (by simp[hs]) rfl,h4⟩
      rw[lR]
      simp only[Sem.run_bind,hva,Result.andThen_ok,Sem.run_pure,dif_pos hs]
    | [],h2=>simp[hs] at h2
    | _::_::_,h2=>simp[hs] at h2
  · refine⟨.tuple va,oneOf ms,?_,?_,h4⟩
    · rw[lR]
      simp only[Sem.run_bind,hva,Result.andThen_ok,Sem.run_pure,dif_neg hs]
    · have:oneOf ms=.tup ms:=by
        match ms,h2 with
        | [],_=>rfl
        | [m],h2=>exact absurd (by simpa using h2) hs
        | _::_::_,_=>rfl
      rw[this]
      refine .tup (by simpa using h2) (fun i m hm'=>?_)
      have hlt:i<va.size:=by have:=(List.getElem?_eq_some_iff.1 hm').1;simp at h2;omega
      have hv:va.toList[i]?=some (va.getD i undef):=by
        rw[Array.getElem?_toList]
        simp[Array.getD_eq_getD_getElem?,Array.getElem?_eq_getElem hlt]
      exact h3 i _ m hv hm'
def j0:Nat→List MV→List (Nat × MV)
  | _,[]=>[]
  | i,m::ms=>(i,m)::j0 (i+1) ms
theorem qP:∀(ms:List MV) (i t:Nat),cA (j0 i ms) t=if i≤t then(ms[t - i]?).getD .junk else .junk:=by
  intro ms
  induction ms with
  | nil=>intro i t;simp[j0,cA]
  | cons m ms ih =>
    intro i t
    simp only[j0,cA,ih]
    by_cases h:t=i
    · subst h;simp
    · rw[if_neg h]
      by_cases h2:i≤t
      · obtain⟨k,rfl⟩:∃k,t=i+1+k:=⟨t - (i+1),by omega⟩
        rw[if_pos (by omega),if_pos h2,show i+1+k - (i+1)=k from by omega,show i+1+k - i=k+1 from by omega]
        rfl
      · rw[if_neg (by omega),if_neg h2]
def iB(P:Program)(fn:Func)(tmps:Array Value)(R:Ending→World→Prop):List Deferred→World→Prop
  | [],w=>∃v,(results fn tmps).run P w=.ok v w∧R (.returned v) w
  | d::ds,w=>(∃r w',d.target=.collected r∧(Instr.takeDeferred r).run P w=.ok [] w'∧iB P fn tmps R ds w') ∨
      ∃fv cap f args,d.target=.fn fv cap∧(invoke d.target d.args).run P w=.ok (.enter f args) w∧CallsD P f args .returning w fun e u' w'=>(∃v,e=.returned v)∧u'=.returning∧iB P fn tmps R ds w'
theorem oE{P:Program}{fn:Func}{tmps:Array Value}{R:Ending→World→Prop}:∀(ds:List Deferred) (w:World) (fr:Frame) (cs:List Frame),fr.mode=.returning→fr.defers=ds→fr.tmps=tmps→P.funcs[fr.fn]?=some fn→fr.kind=.normal →
    iB P fn tmps R ds w→∃e w' fr',R e w'∧Comes P (lone fr cs w) (lone fr' cs w') e∧fr'.fn=fr.fn∧fr'.leaving P w' e:=by
  intro ds
  induction ds with
  | nil =>
    intro w fr cs hu hd ht hf hk h
    obtain⟨v,hr,hR⟩:=h
    exact⟨.returned v,w,fr,hR,Steps.refl P _,rfl,hu,hd,hk,fn,hf,ht ▸ hr⟩
  | cons d ds ih =>
    intro w fr cs hu hd ht hf hk h
    have hrun:fr.mode≠.run:=by rw[hu];simp
    rcases h with⟨r,w',h1,h2,h3⟩|⟨fv,cap,f,args,h1,h2,h3⟩
    · have s1:=step_collected (cs:=cs) hrun hd h1 h2
      obtain⟨e,w2,fr',q1,q2,q3,q4⟩:=ih w' { fr with defers:=[]++ds } cs hu rfl ht hf hk h3
      exact⟨e,w2,fr',q1,Comes.of_steps (.one s1) q2,q3,q4⟩
    · have s1:=step_defer (cs:=cs) hrun hd h1 h2
      obtain⟨e,u',w',frX,hR,hsteps,hkX,hgo⟩:=h3 { fr with defers:=ds } cs hu
      obtain⟨⟨v,rfl⟩,rfl,hR⟩:=hR
      have s2:=step_going_returned (c:={ { fr with defers:=ds } with mode:=.returning }) (cs:=cs) hkX hgo
      obtain⟨e,w2,fr',q1,q2,q3,q4⟩:=ih w' { { { fr with defers:=ds } with mode:=.returning } with mode:=settle .returning } cs rfl rfl ht hf hk hR
      exact⟨e,w2,fr',q1,Comes.of_steps (.head s1 (Steps.trans hsteps (.one s2))) q2,q3,q4⟩
theorem k9{P:Program}{f:FuncId}{fn:Func}{c:Code}{args:Array Value}{w:World}{R:Ending→World→Prop}(hf:P.funcs[f]?=some fn)(hb:fn.body=some c)
   (h:c.wp P (fun e a w=>(e=.normal∨e=.ret)∧iB P fn a.tmps R a.defers w) { tmps:=args++Array.replicate (fn.ntmps - args.size) undef,defers:=[] } w):Calls P f args w R:=by
  intro cs
  let b:Frame:={ (default:Frame) with fn:=f,kind:=.normal }
  have henter:Frame.enter P f args .normal=b.at { tmps:=args++Array.replicate (fn.ntmps - args.size) undef,defers:=[] } [.code c]:=by
    simp[Frame.enter,Frame.at,hf,hb,b]
  obtain⟨e,a',w',⟨he,hq⟩,harr⟩:=h b [] cs
  rw[←henter] at harr
  rcases he with rfl|rfl
  · obtain⟨e',w'',fr',hR,hs,hfn,hl⟩:=oE a'.defers w' { b.at a' [] with mode:=.returning } cs rfl rfl rfl hf rfl hq
    exact⟨e',w'',fr',hR,Comes.of_steps (Steps.trans harr (.one step_end)) hs,hfn,hl⟩
  · obtain⟨todo,hs₀⟩:=harr
    obtain⟨e',w'',fr',hR,hs,hfn,hl⟩:=oE a'.defers w' { b.at a' todo with mode:=.returning } cs rfl rfl rfl hf rfl hq
    exact⟨e',w'',fr',hR,Comes.of_steps hs₀ hs,hfn,hl⟩
theorem Inv.putObj{Φ:Phi}{w:World}{σ:St}(hi:Inv Φ w σ){D:Nat}{o:Obj}(o':Obj)(hD:w.heap[D]?=some o)(h:∀c t fz,o≠.cells c t fz)(h':∀c k,o≠.map c k)(h2':∀m a b c,o≠.mapIter m a b c:=by intro _ _ _ _ e;cases e):Inv Φ (w.putObj D o') σ:=by
  have hno:¬aU Φ σ D:=hi.vB (fun c t fz e=>h c t fz (by rw[hD] at e;exact Option.some.inj e)) (fun c k e=>h' c k (by rw[hD] at e;exact Option.some.inj e)) (fun m a b c e=>h2' m a b c (by rw[hD] at e;exact Option.some.inj e))
  refine⟨fun l ob hl=>(hi.own l ob hl).mono (.refl _) fun p R h1 h2=>World.putObj_heap_other fun e=>hno ⟨l,ob,p,hl,h1,e ▸ h2⟩,hi.inj,fun a v hv=>?_,hi.apart,hi.fresh⟩
  have hc:=hi.snap a v hv
  rw[←hc]
  refine World.eS (World.putObj_heap_other fun e=>?_)
  rw[World.cell?,e,hD] at hc
  cases o with
  | cells c t fz=>exact h _ _ _ rfl
  | map c k=>exact h' _ _ rfl
  | _=>simp at hc
theorem y7{P:Program}{fn:Func}{tmps:Array Value}{n:Nat}{l:List (Nat × MV)}{Q:MV→St→Prop}{Φ0:Phi}{σ0:St}{w0:World}(h0:Φ0.base=w0.heap.size) :
    ∀(ds:List Deferred) (d:List (FuncId × List MV)) (Φ:Phi) (w:World) (σ:St),dR Φ w ds d→cL Φ tmps ⟨n,l,[]⟩→Inv Φ w σ→Step Φ0 σ0 w0 Φ σ w→mleave P n l fn.results.toList Q d σ →
    iB P fn tmps (fun e w'=>∃v mv σ' Φ',e=.returned v∧Rel Φ' v mv∧Inv Φ' w' σ'∧Step Φ0 σ0 w0 Φ' σ' w'∧Q mv σ') ds w:=by
  intro ds
  induction ds with
  | nil =>
    intro d Φ w σ hd hr hi hs h
    obtain⟨rfl,-⟩:=hd
    obtain⟨v,m,h1,h2,h3⟩:=Dh (P:=P) (fn:=fn) hi hr h
    exact⟨v,h1,v,m,σ,Φ,rfl,h2,hi,hs,h3⟩
  | cons x ds ih =>
    intro d Φ w σ hd hr hi hs h
    rcases hd with⟨D,h1,h2,h3,h4,h5⟩|⟨g,ms,r,cap,rfl,h1,h2,h3⟩
    · refine .inl ⟨D,_,h1,run_takeDeferred h3,?_⟩
      have hi':=hi.putObj (.deferred none) h3 (fun _ _ _ e=>by cases e) (fun _ _ e=>by cases e)
      have hDb:w0.heap.size≤D:=by rw[←h0,←hs.le.base];exact h2
      have hs':Step Φ0 σ0 w0 Φ σ (w.putObj D (.deferred none)) :=
        ⟨hs.le,hs.os,hs.tape,hs.output,hs.drawn,by rw[World.putObj_size];exact hs.size,fun k hk hn=>(World.putObj_heap_other (by omega)).trans (hs.block k hk hn),hs.snapn,hs.locs,hs.ownd⟩
      refine ih d Φ _ σ ?_ hr hi' hs' h
      have:∀(xs:List Deferred) (d:List (FuncId × List MV)),(∀y,y∈xs→y.target≠.collected D)→dR Φ w xs d→dR Φ (w.putObj D (.deferred none)) xs d:=by
        intro xs
        induction xs with
        | nil=>intro d _ h;exact⟨h.1,by rw[World.putObj_size];exact h.2⟩
        | cons y xs ihx =>
          intro d hy h
          rcases h with⟨D',k1,k2,k3,k4,k5⟩|⟨g,ms,r,cap,k1,k2,k3,k4⟩
          · refine .inl ⟨D',k1,k2,?_,k4,ihx d (fun z hz=>hy z (by simp[hz])) k5⟩
            rw[World.putObj_heap_other]
            · exact k3
            · intro e;exact hy y (by simp) (by rw[k1,e])
          · exact .inr ⟨g,ms,r,cap,k1,k2,k3,ihx r (fun z hz=>hy z (by simp[hz])) k4⟩
      exact this ds d h4 h5
    · obtain⟨fn',hf,hb,hn,hc⟩:=h
      obtain⟨t,ags⟩:=x
      simp only at h1 h2
      subst h1
      refine .inr ⟨.func g,cap,g,ags++cap,rfl,?_,?_⟩
      · simp only[invoke,callFunc,Sem.run_bind,run_program,hf,hn,hb,Result.andThen_ok,Bool.false_eq_true,if_false,Sem.run_pure]
      · intro c cs hcu
        obtain⟨e,u',w',fr,⟨rfl,v,σ',Φ',rfl,i1,s1,q⟩,q2,q3,q4⟩:=hc Φ w _ hi h2 c cs hcu
        exact⟨_,_,w',fr,⟨⟨v,rfl⟩,rfl,ih r Φ' w' σ' (h3.step hi s1) (hr.mono s1.le) i1 (hs.trans s1) q⟩,q2,q3,q4⟩
theorem G8{P:Program}{fn:Func}{Q:MV→St→Prop}{Φ0:Phi}{σ0:St}{w0:World}{e:Exit}{a':Act}{w':World}(h0:Φ0.base=w0.heap.size)
   (h:lift Φ0 σ0 w0 (Lr P fn.results.toList Q) e a' w'):(e=.normal∨e=.ret)∧iB P fn a'.tmps (fun e w'=>∃v mv σ' Φ',e=.returned v∧Rel Φ' v mv∧Inv Φ' w' σ'∧Step Φ0 σ0 w0 Φ' σ' w'∧Q mv σ') a'.defers w':=by
  obtain⟨f',σ',Φ',x1,x2,x3,x4,q⟩:=h
  obtain⟨n,l,d⟩:=f'
  cases e with
  | normal=>exact⟨.inl rfl,y7 h0 _ d Φ' w' σ' x1 x2 x3 x4 q⟩
  | ret=>exact⟨.inr rfl,y7 h0 _ d Φ' w' σ' x1 x2 x3 x4 q⟩
  | _=>exact q.elim
theorem qU{Φ:Phi}{fn:Func}{vs:Array Value}{ms:List MV}(hr:gE Φ vs ms):cL Φ (vs++Array.replicate (fn.ntmps - vs.size) undef) ⟨max fn.ntmps ms.length,j0 0 ms,[]⟩:=by
  refine⟨by simp[hr.1];omega,fun t=>?_⟩
  simp only[FR.get,qP,Nat.sub_zero,Nat.zero_le,if_true]
  cases hm:ms[t]? with
  | none=>exact .junk _
  | some m =>
    have hlt:=(List.getElem?_eq_some_iff.1 hm).1
    have e1:=hr.1
    have:=hr.2 t m hm
    simpa[Array.getD_eq_getD_getElem?,Array.getElem?_append_left (show t<vs.size by omega)] using this
def Phi.aT(Φ:Phi)(n:Nat):Phi:={ Φ with base:=n }
theorem Rel.aT{Φ:Phi}{v:Value}{m:MV}(h:Rel Φ v m)(n:Nat):Rel (Φ.aT n) v m:=Rel.Cw (Φ:=Φ) (Φ':=Φ.aT n) (fun _ _ q=>q) (fun _ _ q=>q) h
theorem Inv.aT{Φ:Phi}{w:World}{σ:St}(hi:Inv Φ w σ)(n:Nat):Inv (Φ.aT n) w σ:=by
  refine⟨fun l o hl=>?_,hi.inj,hi.snap,hi.apart,hi.fresh⟩
  have:=hi.own l o hl
  cases o with
  | row t e xs =>
    obtain⟨p,h1,h2,h3,h4,h5,h6⟩:=this
    refine⟨p,h1,h2,h3,h4,h5,?_⟩
    split
    · rename_i hb;rw[hb] at h6;exact h6
    · rename_i R hb
      rw[hb] at h6
      obtain⟨c,fz,k1,k2,k3,k4⟩:=h6
      exact⟨c,fz,k1,k2,k3,fun i x j m hx hm=>⟨(k4 i x j m hx hm).1,(k4 i x j m hx hm).2.imp fun v hv=>⟨hv.1,hv.2.aT n⟩⟩⟩
  | mp es =>
    obtain⟨p,R,h1,h2,c,k,h3,h4,h5⟩:=this
    exact⟨p,R,h1,h2,c,k,h3,h4,fun i x hx=>⟨(h5 i x hx).1.aT n,(h5 i x hx).2.aT n⟩⟩
  | mk es st ck =>
    obtain⟨p,R,h1,h2,c,h3,h4,h5⟩:=this
    exact⟨p,R,h1,h2,c,h3,h4,fun i x hx=>⟨(h5 i x hx).1.aT n,(h5 i x hx).2.aT n⟩⟩
  | it m ck seen=>exact this
theorem Step.aT{Φ Φ':Phi}{σ σ':St}{w w':World}{n:Nat}(h:Step (Φ.aT n) σ w Φ' σ' w'):Step Φ σ w (Φ'.aT Φ.base) σ' w' :=
  ⟨⟨h.le.snap,h.le.obj,rfl⟩,h.os,h.tape,h.output,h.drawn,h.size,h.block,h.snapn,h.locs,h.ownd⟩
theorem aA.lL{P:Program}{g:FuncId}{fn:Func}{c:Code}{ms:List MV}{σ:St}{Q:MV→St→Prop}(n:Nat)(rs:List ResultVar)(hf:P.funcs[g]?=some fn)(hb:fn.body=some c)(hn:(fn.name == "runtime.NumGoroutine")=false)
   (hn':max fn.ntmps ms.length=n)(hrs:fn.results.toList=rs)(h:mwp P c ⟨n,j0 0 ms,[]⟩ σ (Lr P rs Q)):aA P g ms σ Q:=by
  subst hn';subst hrs
  refine⟨⟨fn,hf,by simp[hb],hn⟩,fun Φ w vs hi hr=>?_⟩
  have hr':gE (Φ.aT w.heap.size) vs ms:=⟨hr.1,fun i m hm=>(hr.2 i m hm).aT _⟩
  refine(k9 hf hb (wp_mono (wpIn_wide.1 (h _ .wide (Φ.aT w.heap.size) w { tmps:=vs++Array.replicate (fn.ntmps - vs.size) undef,defers:=[] } (hi.aT _) (qU hr') ⟨rfl,Nat.le_refl _⟩)) fun e a' w' hq=>G8 rfl hq)).mono ?_
  rintro e w' ⟨v,mv,σ',Φ',q1,q2,q3,q4,q5⟩
  exact⟨v,mv,σ',Φ'.aT Φ.base,q1,q2.aT _,q3.aT _,q4.aT,q5⟩
theorem aA.ghost{P:Program}{g:FuncId}{ms:List MV}{σ:St}{Q:MV→St→Prop}(h:aA P g ms σ fun v σ'=>∃v1 σ1,bM ⟨1,[(0,v)],[]⟩ σ' ⟨1,[(0,v1)],[]⟩ σ1∧Q v1 σ1):aA P g ms σ Q:=by
  refine⟨h.1,fun Φ w vs hi hr=>(h.2 Φ w vs hi hr).mono ?_⟩
  rintro e w' ⟨v,mv,σ',Φ',rfl,q1,q2,q3,v1,σ1,g,hq⟩
  obtain⟨Φ1,i1,r1,s1⟩:=g.2 Φ' w' #[v] q2 ⟨rfl,fun t=>by
    simp only[FR.get,cA]
    split
    · rename_i ht;subst ht;exact q1
    · exact .junk _⟩
  exact⟨v,v1,σ1,Φ1,rfl,by simpa[FR.get,cA] using r1.2 0,i1,q3.trans s1,hq⟩
end

section
def E{α:Sort _}(x:α):α:=x
theorem Qd{α:Sort _}(x:α):E x=x:=rfl
def R(p:Prop):Prop:=p
theorem Oe:R True=True:=rfl
theorem Qe{α:Sort _}{a b:α}:R (a=b)=(a=b):=rfl
theorem Pc{a b:Prop}:R (a∧b)=(R a∧R b):=rfl
theorem Qf{α:Sort _}{p:α→Prop}:R (∃x,p x)=∃x,R (p x):=rfl
theorem Pd{p:Prop}:R (¬p)=¬p:=rfl
theorem Qh{a b:Prop}:R (a∨b)=(R a∨R b):=rfl
theorem jW{p:Prop}(h:p):R p:=h
def l5(σ:St)(K:Nat→Prop):Prop:=∀l,σ l=none→K l
def iM(x:MV)(A B:Prop):Prop:=match x with
 | .bool b=>(b=true→A)∧(b=false→B)
 | _=>False
def fN(C:Prop)(A:Prop):Prop:=C∧A
theorem ES(A B:Prop):R (iM (.bool true) A B)=R A:=by simp[iM]
theorem Cn(A B:Prop):R (iM (.bool false) A B)=R B:=by simp[iM]
theorem Ie{p:Prop}[Decidable p]{A B:Prop}(h:p):R (iM (.bool (decide p)) A B)=R A:=by simp[iM,h]
theorem KM{p:Prop}[Decidable p]{A B:Prop}(h:¬p):R (iM (.bool (decide p)) A B)=R B:=by simp[iM,h]
theorem Ic{p:Prop}[Decidable p]{A B:Prop}(h1:p→R A)(h2:¬p→R B):R (iM (.bool (decide p)) A B):=by
 simp only[R,iM,decide_eq_true_eq,decide_eq_false_iff_not];exact⟨h1,h2⟩
theorem aG{b:Bool}{A B:Prop}(h1:b=true→R A)(h2:b=false→R B):R (iM (.bool b) A B):=⟨h1,h2⟩
def oG(P:Program)(id:Nat)(ops:List Oper)(f:FR)(σ:St)(Q:MQ):Prop:=mwp P (.region id ops.toArray true) f σ Q
def KO(P:Program)(c:Code)(f:FR)(σ:St)(Q:MQ):Prop:=mwp P (.loop c) f σ Q
def PH(P:Program)(c:Code)(f:FR)(σ:St)(Q:MQ):Prop:=mwp P c f σ Q
def dC(P:Program):Code→FR→St→MQ→Prop
 | .skip,f,σ,Q=>Q .normal f σ
 | .seq a b,f,σ,Q=>dC P a f σ (sN (fun f' σ'=>dC P b f' σ' Q) Q)
 | .cond c a b,f,σ,Q=>iM (aH f c) (dC P a f σ Q) (dC P b f σ Q)
 | .block id b,f,σ,Q=>dC P b f σ (kH id Q)
 | .scope b,f,σ,Q=>dC P b f σ (LA Q)
 | .label _,f,σ,Q=>Q .normal f σ
 | .ret,f,σ,Q=>Q .ret f σ
 | .exit id,f,σ,Q=>Q (.exit id) f σ
 | .region id ops true,f,σ,Q=>oG P id ops.toList f σ Q
 | .region _ ops false,f,σ,Q=>eB P ops (Q .normal) ops.toList f σ
 | .loop b,f,σ,Q=>KO P b f σ Q
 | c,f,σ,Q=>PH P c f σ Q
theorem j8{P:Program}:∀(c:Code) (f:FR) (σ:St) (Q:MQ),dC P c f σ Q→mwp P c f σ Q:=by
 intro c
 induction c with
 | skip=>intro f σ Q h;exact K7 h
 | region id ops draw=>intro f σ Q h;cases draw with
  | true=>exact h
  | false=>exact Fc h
 | seq a b iha ihb =>
  intro f σ Q h
  refine fC (K6 (iha f σ _ h) fun e f' σ' hq=>?_)
  cases e with
  | normal=>exact ihb f' σ' Q hq
  | _=>exact hq
 | cond c a b iha ihb =>
  intro f σ Q h
  simp only[dC,iM] at h
  split at h
  ·rename_i t ht
   exact K0 ht (fun hh=>iha f σ Q (h.1 hh)) (fun hh=>ihb f σ Q (h.2 hh))
  ·exact h.elim
 | block id b ih=>intro f σ Q h;exact IH (ih f σ _ h)
 | scope b ih=>intro f σ Q h;exact IM (ih f σ _ h)
 | label l=>intro f σ Q h;exact IL h
 | loop b _=>intro f σ Q h;exact h
 | ret=>intro f σ Q h;exact Nq h
 | exit id=>intro f σ Q h;exact K3 h
 | _=>intro f σ Q h;exact h
theorem aA.body{P:Program}{g:FuncId}{fn:Func}{c:Code}{ms:List MV}{σ:St}{Q:MV→St→Prop}(n:Nat)(rs:List ResultVar)(hf:P.funcs[g]?=some fn)(hb:fn.body=some c)(hn:(fn.name == "runtime.NumGoroutine")=false)
 (hn':max fn.ntmps ms.length=n)(hrs:fn.results.toList=rs)(h:R (dC P (@OfNat.ofNat Code (nat_lit 0) (@_root_.id (OfNat Code (nat_lit 0)) (OfNat.mk c))) ⟨n,j0 0 ms,[]⟩ σ (Lr P rs Q))):aA P g ms σ Q :=
 aA.lL n rs hf hb hn hn' hrs (j8 c _ σ _ h)
theorem aF{P:Program}{c:Code}{f:FR}{σ:St}{Q:MQ}{α:Type}(F:α→FR)(S:α→St)(p:α→Prop)(μ:α→Nat)(h0:Gh f σ fun f1 σ1=>∃a,f1=F a∧σ1=S a∧p a)
 (round:∀a,p a→R (dC P c (F a) (S a) (sN (fun f' σ'=>Gh f' σ' fun f1 σ1=>∃b,f1=F b∧σ1=S b∧p b∧μ b<μ a) Q))):R (KO P c f σ Q) :=
 K5 F S p μ h0 fun a ha=>j8 c _ _ _ (round a ha)
section
variable {P:Program} {f:FR} {σ:St} {Q:MQ} {k:MV→St→Prop} {K:FR→St→Prop} {ops:Array Oper} {rest:List Oper}
theorem EO:R (dC P .skip f σ Q)=R (Q .normal f σ):=rfl
theorem EN{c:Code}:R (dC P (@OfNat.ofNat Code (nat_lit 0) (@_root_.id (OfNat Code (nat_lit 0)) (OfNat.mk c))) f σ Q)=R (dC P c f σ Q):=congrArg R rfl
theorem H9{a b:Code}:R (dC P (.seq a b) f σ Q)=R (dC P (@OfNat.ofNat Code (nat_lit 0) (@_root_.id (OfNat Code (nat_lit 0)) (OfNat.mk a))) f σ (sN (fun f' σ'=>dC P (@OfNat.ofNat Code (nat_lit 0) (@_root_.id (OfNat Code (nat_lit 0)) (OfNat.mk b))) f' σ' Q) Q)):=congrArg R rfl
theorem EJ{c:Operand}{a b:Code}:R (dC P (.cond c a b) f σ Q)=R (iM (E (aH f c)) (dC P (@OfNat.ofNat Code (nat_lit 0) (@_root_.id (OfNat Code (nat_lit 0)) (OfNat.mk a))) f σ Q) (dC P (@OfNat.ofNat Code (nat_lit 0) (@_root_.id (OfNat Code (nat_lit 0)) (OfNat.mk b))) f σ Q)):=congrArg R rfl
theorem Ch{id:Nat}{b:Code}:R (dC P (.block id b) f σ Q)=R (dC P (@OfNat.ofNat Code (nat_lit 0) (@_root_.id (OfNat Code (nat_lit 0)) (OfNat.mk b))) f σ (kH id Q)):=congrArg R rfl
theorem H8:R (dC P .ret f σ Q)=R (Q .ret f σ):=rfl
theorem EL{id:Nat}:R (dC P (.exit id) f σ Q)=R (Q (.exit id) f σ):=congrArg R rfl
theorem EK{id:Nat}{l:List Oper}:R (dC P (.region id l.toArray true) f σ Q)=R (oG P id (@OfNat.ofNat (List Oper) (nat_lit 0) (@_root_.id (OfNat (List Oper) (nat_lit 0)) (OfNat.mk l))) (E f) σ Q):=congrArg R rfl
theorem Aw{id:Nat}{l:List Oper}:R (dC P (.region id l.toArray false) f σ Q)=R (eB P (@OfNat.ofNat (Array Oper) (nat_lit 0) (@_root_.id (OfNat (Array Oper) (nat_lit 0)) (OfNat.mk (l.toArray)))) (Q .normal) (@OfNat.ofNat (List Oper) (nat_lit 0) (@_root_.id (OfNat (List Oper) (nat_lit 0)) (OfNat.mk l))) f σ):=congrArg R rfl
theorem IC{l:List Oper}:R (eB P ops K (@OfNat.ofNat (List Oper) (nat_lit 0) (@_root_.id (OfNat (List Oper) (nat_lit 0)) (OfNat.mk l))) f σ)=R (eB P ops K l f σ):=congrArg R rfl
theorem EM{b:Code}:R (dC P (.loop b) f σ Q)=R (KO P (@OfNat.ofNat Code (nat_lit 0) (@_root_.id (OfNat Code (nat_lit 0)) (OfNat.mk b))) (E f) σ Q):=congrArg R rfl
theorem Be{next:FR→St→Prop}:R (sN next Q .normal f σ)=R (next f σ):=congrArg R rfl
theorem Jt{next:FR→St→Prop}:R (sN next Q .ret f σ)=R (Q .ret f σ):=congrArg R rfl
theorem FF{next:FR→St→Prop}{id:Nat}:R (sN next Q (.exit id) f σ)=R (Q (.exit id) f σ):=congrArg R rfl
theorem xE{id:Nat}:R (kH id Q .normal f σ)=R (Q .normal f σ):=congrArg R rfl
theorem DZ{id:Nat}:R (kH id Q .ret f σ)=R (Q .ret f σ):=congrArg R rfl
theorem DY{id:Nat}:R (kH id Q (.exit id) f σ)=R (Q .normal f σ):=by simp[kH]
theorem Bo{id id':Nat}(h:id'≠id):R (kH id Q (.exit id') f σ)=R (Q (.exit id') f σ):=by simp[kH,h]
theorem KU:R (eB P ops K [] f σ)=R (K f σ):=rfl
theorem IB{dst:Option Tmp}{op:Op}{ty:TypeId}{pos:String}{after:Array Edge}:R (eB P ops K (⟨dst,op,ty,pos,after,none⟩::rest) f σ)=R (fM P f σ dst (eB P ops K (@OfNat.ofNat (List Oper) (nat_lit 0) (@_root_.id (OfNat (List Oper) (nat_lit 0)) (OfNat.mk rest)))) op):=congrArg R rfl
theorem KW{dst:Option Tmp}{op:Op}(h:dP op=true):R (fM P f σ dst K op)=R (mop P f σ (fun v σ'=>K (bD f dst v) σ') op):=by
 rw[CI h]
def N1(f:FR)(x:MV)(args:List MV)(K:FR→Prop):Prop:=match x with
 | .fn (.func g) ms ns=>K ⟨f.n,f.l,(g,ms++args++ns)::f.d⟩
 | _=>False
theorem CG{dst:Option Tmp}{x:Operand}{args:Array Operand}{ts:Array TypeId}:R (fM P f σ dst K (.defer ⟨.value x,args,ts⟩))=R (N1 f (E (aH f x)) (E (args.toList.map (aH f))) fun f'=>K (bD f' dst .junk) σ):=congrArg R rfl
theorem KJ{n:Nat}{l:List (Nat × MV)}{d:List (FuncId × List MV)}{g:FuncId}{ms ns args:List MV}{H:FR→Prop}:R (N1 ⟨n,l,d⟩ (.fn (.func g) ms ns) args H)=R (H ⟨n,l,(g,ms++args++ns)::d⟩):=congrArg R rfl
def nV:List Oper→Nat→Option Tmp
 | [],_=>none
 | o::_,0=>o.dst
 | _::r,n+1=>nV r n
theorem Gf:∀(l:List Oper) (j:Nat),(l.toArray[j]?).bind (·.dst)=nV l j:=by
 intro l
 induction l with
 | nil=>intro j;simp[nV]
 | cons o r ih =>
  intro j
  cases j with
  | zero=>simp[nV]
  | succ j=>simpa[nV] using ih j
def bY(x:MV)(want:Bool)(yes no:Prop):Prop:=match x with
 | .bool b=>(b=want→yes)∧(b=(!want)→no)
 | .tup []=>no
 | _=>False
theorem Cp(want:Bool)(A B:Prop):R (bY (.tup []) want A B)=R (B):=congrArg R (by simp[bY])
theorem Io(A B:Prop):R (bY (.bool true) true A B)=R (A):=congrArg R (by simp[bY])
theorem Im(A B:Prop):R (bY (.bool true) false A B)=R (B):=congrArg R (by simp[bY])
theorem Il(A B:Prop):R (bY (.bool false) true A B)=R (B):=congrArg R (by simp[bY])
theorem Ik(A B:Prop):R (bY (.bool false) false A B)=R (A):=congrArg R (by simp[bY])
theorem aE{b want:Bool}{A B:Prop}(h1:b=want→R A)(h2:b=(!want)→R B):R (bY (.bool b) want A B):=⟨h1,h2⟩
theorem ET{p:Prop}[Decidable p]{A B:Prop}(h1:p→R A)(h2:¬p→R B):R (bY (.bool (decide p)) true A B):=by
 simp only[R,bY,decide_eq_true_eq,Bool.not_true,decide_eq_false_iff_not];exact⟨h1,h2⟩
theorem Co{p:Prop}[Decidable p]{A B:Prop}(h1:¬p→R A)(h2:p→R B):R (bY (.bool (decide p)) false A B):=by
 simp only[R,bY,decide_eq_true_eq,Bool.not_false,decide_eq_false_iff_not];exact⟨h1,h2⟩
theorem Ih{p:Prop}[Decidable p]{A B:Prop}(h:p):R (bY (.bool (decide p)) true A B)=R A:=by simp[bY,h]
theorem Ig{p:Prop}[Decidable p]{A B:Prop}(h:¬p):R (bY (.bool (decide p)) true A B)=R B:=by simp[bY,h]
theorem Ij{p:Prop}[Decidable p]{A B:Prop}(h:¬p):R (bY (.bool (decide p)) false A B)=R A:=by simp[bY,h]
theorem Ii{p:Prop}[Decidable p]{A B:Prop}(h:p):R (bY (.bool (decide p)) false A B)=R B:=by simp[bY,h]
def J6(f:FR):Option Tmp→MV
 | some t=>f.get t
 | none=>.junk
theorem E6{l:List Oper}{dst:Option Tmp}{op:Op}{ty:TypeId}{pos:String}{after:Array Edge}{j:Nat}{want:Bool}:R (eB P (@OfNat.ofNat (Array Oper) (nat_lit 0) (@_root_.id (OfNat (Array Oper) (nat_lit 0)) (OfNat.mk (l.toArray)))) K (⟨dst,op,ty,pos,after,some (j,want)⟩::rest) f σ)=R (bY (E (J6 f (nV (@OfNat.ofNat (List Oper) (nat_lit 0) (@_root_.id (OfNat (List Oper) (nat_lit 0)) (OfNat.mk l))) j))) want (fM P f σ dst (eB P (@OfNat.ofNat (Array Oper) (nat_lit 0) (@_root_.id (OfNat (Array Oper) (nat_lit 0)) (OfNat.mk (l.toArray)))) K (@OfNat.ofNat (List Oper) (nat_lit 0) (@_root_.id (OfNat (List Oper) (nat_lit 0)) (OfNat.mk rest)))) op) (eB P (@OfNat.ofNat (Array Oper) (nat_lit 0) (@_root_.id (OfNat (Array Oper) (nat_lit 0)) (OfNat.mk (l.toArray)))) K (@OfNat.ofNat (List Oper) (nat_lit 0) (@_root_.id (OfNat (List Oper) (nat_lit 0)) (OfNat.mk rest))) (bD f dst (.tup [])) σ)):=congrArg R (by
 show eB P l.toArray K (⟨dst,op,ty,pos,after,some (j,want)⟩::rest) f σ=bY (J6 f (nV l j)) want (fM P f σ dst (eB P l.toArray K rest) op) (eB P l.toArray K rest (bD f dst (.tup [])) σ)
 simp only[eB,fJ,Gf]
 cases nV l j<;>rfl)
theorem HH{t:Tmp}:J6 f (some t)=f.get t:=rfl
theorem Hz{l:List Oper}{j:Nat}:nV (@OfNat.ofNat (List Oper) (nat_lit 0) (@_root_.id (OfNat (List Oper) (nat_lit 0)) (OfNat.mk l))) j=nV l j:=rfl
theorem HB{o:Oper}{r:List Oper}:nV (o::r) 0=o.dst:=rfl
theorem HA{o:Oper}{r:List Oper}{n:Nat}:nV (o::r) (n+1)=nV r n:=rfl
theorem IE{n:Nat}{l:List (Nat × MV)}{d:Nat}{v:MV}{ds:List (FuncId × List MV)}(h:d<n):bD ⟨n,l,ds⟩ (some d) v=⟨n,(d,v)::l,ds⟩:=by simp[bD,h]
theorem ID{v:MV}:bD f none v=f:=rfl
theorem Ow{n:Nat}{l:List (Nat × MV)}{t:Nat}{ds:List (FuncId × List MV)}:FR.get ⟨n,l,ds⟩ t=cA l t:=rfl
theorem Km{t:Nat}:cA [] t=.junk:=rfl
theorem Kl{k:Nat}{v:MV}{r:List (Nat × MV)}:cA ((k,v)::r) k=v:=by simp[cA]
theorem HP{k:Nat}{v:MV}{r:List (Nat × MV)}{t:Nat}(h:t≠k):cA ((k,v)::r) t=cA r t:=by simp[cA,h]
theorem KZ{n:Nat}{l:List (Nat × MV)}{t:Nat}{ds:List (FuncId × List MV)}:aH ⟨n,l,ds⟩ (.tmp t)=cA l t:=rfl
theorem Fa{v:Value}:aH f (.const v)=ofV v:=rfl
theorem IG{g:FuncId}:aH f (.func g)=.fn (.func g) [] []:=rfl
theorem Ld{b:Bool}:ofV (.bool b)=.bool b:=rfl
theorem Nu{i:IntKind}{n:Int}:ofV (.int i n)=.int i n:=rfl
theorem Nv{s:ByteArray}:ofV (.string s)=.str s:=rfl
theorem Lg:ofV (.pointer none)=.nilp:=rfl
theorem Lh:ofV (.slice none 0 0)=.aZ:=rfl
theorem Lf:ofV (.map none)=.nilm:=rfl
theorem IP:ofV .nilFunc=.nilfn:=rfl
theorem Le:ofV .nilIface=.nili:=rfl
def cQ(P:Program)(g:FuncId)(ms:List MV)(σ:St)(Q:MV→St→Prop):Prop:=aA P g ms σ Q
def KI(P:Program)(x:MV)(args:List MV)(σ:St)(k:MV→St→Prop):Prop :=
 match x with
 | .fn (.func g) ms ns=>aA P g (ms++args++ns) σ k
 | _=>False
theorem H7{g:FuncId}{ms ns args:List MV}:R (KI P (.fn (.func g) ms ns) args σ k)=R (cQ P g (E (ms++args++ns)) σ k):=congrArg R rfl
def bQ(v:MV)(σ:St)(k:MV→St→Prop):Prop:=k v σ
theorem Nh{v:MV}:R (bQ v σ k)=R (k v σ):=congrArg R rfl
theorem Nx{C A:Prop}(h:C):R (fN C A)=R A:=by simp[fN,h]
theorem E7{C:Prop}{v:MV}:R (mpure σ k (some (C,v)))=R (fN (E C) (bQ (E v) σ k)):=congrArg R rfl
def Gt(P:Program)(t:TypeId)(o:Option aW)(i of:Nat)(σ:St)(k:MV→St→Prop):Prop :=
 match o with
 | some (.row _ _ xs)=>fN ((td P t).ok=true∧i<xs.length∧of+(td P t).size≤(xs.getD i []).length∧0<(td P t).size) (bQ (dA (td P t) (xs.getD i []) of) σ k)
 | _=>False
theorem Ip{t:TypeId}{l i o:Nat}:R (kA P t (.ptr l i o) σ k)=R (Gt P t (E (σ l)) i o σ k):=congrArg R rfl
theorem EY{t:TypeId}{cs:List MV}:R (kA P t (.cptr cs) σ k)=R (fN (E ((td P t).ok=true∧(td P t).size≤cs.length∧0<(td P t).size)) (bQ (E (dA (td P t) cs 0)) σ k)):=congrArg R rfl
theorem Cs{t tt:TypeId}{e i o:Nat}{xs:List (List MV)}:R (Gt P t (some (.row tt e xs)) i o σ k)=R (fN (E ((td P t).ok=true∧i<xs.length∧o+(td P t).size≤(xs.getD i []).length∧0<(td P t).size)) (bQ (E (dA (td P t) (xs.getD i []) o)) σ k)):=congrArg R rfl
def CL(P:Program)(t:TypeId)(o:Option aW)(l i of:Nat)(y:MV)(σ:St)(k:MV→St→Prop):Prop :=
 match o with
 | some (.row tt e xs)=>fN ((td P t).ok=true∧i<xs.length∧y.cells.all MV.aN=true∧y.cells.length=(td P t).size∧of+y.cells.length≤(xs.getD i []).length) (bQ .junk (σ.set l (.row tt e (xs.set i (laid (xs.getD i []) of y.cells)))) k)
 | _=>False
theorem E9{t:TypeId}{l i o:Nat}{y:MV}:R (mN P t (.ptr l i o) y σ k)=R (CL P t (E (σ l)) l i o y σ k):=congrArg R rfl
theorem AM{t tt:TypeId}{e l i o:Nat}{y:MV}{xs:List (List MV)}:R (CL P t (some (.row tt e xs)) l i o y σ k)=R (fN (E ((td P t).ok=true∧i<xs.length∧y.cells.all MV.aN=true∧y.cells.length=(td P t).size∧o+y.cells.length≤(xs.getD i []).length)) (bQ (E .junk) (σ.set l (.row tt e (xs.set i (laid (xs.getD i []) o y.cells)))) k)):=congrArg R rfl
theorem Fg(k:Nat):St.none k=Option.none:=rfl
theorem set_set(σ:St)(l:Nat)(o o':aW):(σ.set l o).set l o'=σ.set l o':=by
 funext k;simp only[St.set];split<;>rfl
theorem set_comm(σ:St){l k:Nat}(o o':aW)(h:l≠k):(σ.set l o).set k o'=(σ.set k o').set l o:=by
 funext j;simp only[St.set]
 by_cases h1:j=k
 ·subst h1;simp[Ne.symm h]
 ·simp[h1]
theorem xJ(σ:St){l k:Nat}(o:aW)(h:k≠l):(σ.set k o).del l=(σ.del l).set k o:=by
 funext j;simp only[St.set,St.del]
 by_cases h1:j=l
 ·subst h1;simp[Ne.symm h]
 ·simp[h1]
theorem aJ(σ:St)(l:Nat)(o:aW):(σ.set l o) l=some o:=by simp[St.set]
theorem aM(σ:St)(l k:Nat)(o:aW)(h:k≠l):(σ.set l o) k=σ k:=by simp[St.set,h]
theorem LI(σ:St)(l k:Nat)(o:aW):(σ.set l o) k=none↔k≠l∧σ k=none:=by
 simp only[St.set];split<;>simp_all
theorem KR{x:Operand}:R (mop P f σ k (.move x))=R (bQ (E (aH f x)) σ k):=congrArg R (by simp[mop,qop,mpure,bQ,E])
theorem E2{x:Operand}:R (mop P f σ k (.assign x))=R (bQ (E (aH f x)) σ k):=congrArg R (by simp[mop,qop,mpure,bQ,E])
def vQ(c a b:MV):PV:=match c with
 | .bool t=>some (True,if t=true then a else b)
 | _=>none
theorem KS{c a b:Operand}:R (mop P f σ k (.pick c a b))=R (mpure σ k (E (vQ (aH f c) (aH f a) (aH f b)))):=congrArg R rfl
theorem NF{p:Prop}[Decidable p]{a b:MV}(h:p):vQ (.bool (decide p)) a b=some (True,a):=by simp[vQ,h]
theorem NB{p:Prop}[Decidable p]{a b:MV}(h:¬p):vQ (.bool (decide p)) a b=some (True,b):=by simp[vQ,h]
theorem NC{a b:MV}:vQ (.bool true) a b=some (True,a):=rfl
theorem NA{a b:MV}:vQ (.bool false) a b=some (True,b):=rfl
theorem Nt{p:Prop}[Decidable p]:(!decide p)=decide (¬p):=by simp
def OP(x:MV):PV:=match x with
 | .ptr l i o=>some (True,.ptr l i o)
 | .cptr cs=>some (True,.cptr cs)
 | _=>none
theorem AE{x:Operand}:R (mop P f σ k (.nilCheck x))=R (mpure σ k (E (OP (aH f x)))):=congrArg R rfl
theorem Lp{l i o:Nat}:OP (.ptr l i o)=some (True,.ptr l i o):=rfl
theorem I6{cs:List MV}:OP (.cptr cs)=some (True,.cptr cs):=rfl
theorem Iv{op:BinOp}{t yt:TypeId}{x y:Operand}:R (mop P f σ k (.binOp op t x y yt))=R (mpure σ k (E (bT P t op (aH f x) (aH f y)))):=congrArg R rfl
theorem KT{op:UnOp}{t:TypeId}{x:Operand}:R (mop P f σ k (.unOp op t x))=R (mpure σ k (E (mun op (aH f x)))):=congrArg R rfl
theorem Cy{s d:TypeId}{x:Operand}:R (mop P f σ k (.convert s d x))=R (gN P s d (E (aH f x)) σ k):=congrArg R rfl
theorem AD{fn:Fn}{a b:Array Operand}:R (mop P f σ k (.makeFunc fn a b))=R (bQ (E (.fn fn (a.toList.map (aH f)) (b.toList.map (aH f)))) σ k):=congrArg R (by simp[mop,qop,mpure,bQ,E])
theorem Iy{t:TypeId}{x:Operand}{lo hi mx:Option Operand}:R (mop P f σ k (.slice t x lo hi mx))=R (mpure σ k (E (mM P t (aH f x) (lo.map (aH f)) (hi.map (aH f)) (mx.map (aH f))))):=congrArg R rfl
theorem xP{t:TypeId}{x:Operand}{i:Nat}:R (mop P f σ k (.fieldAddr t x i))=R (mpure σ k (E (gZ P t (aH f x) i))):=congrArg R rfl
theorem xQ{t:TypeId}{x:Tmp}{i:Operand}:R (mop P f σ k (.indexAddr t (.tmp x) i))=R (mpure σ k (E (jP P t (aH f (.tmp x)) (aH f i)))):=congrArg R rfl
theorem uW{t:TypeId}{g:Nat}{i:Operand}:R (mop P f σ k (.indexAddr t (.global g) i))=R (mpure σ k (Em P t g (E (aH f i)))):=congrArg R rfl
theorem Ix{t:TypeId}{x i:Operand}:R (mop P f σ k (.index t x i))=R (mpure σ k (E (uS P t (aH f x) (aH f i)))):=congrArg R rfl
def vP(x:MV)(i:Nat):PV:=match x with
 | .tup vs=>match vs[i]? with|some v=>some (True,v)|none=>none
 | _=>none
theorem Cz{x:Operand}{i:Nat}:R (mop P f σ k (.extract x i))=R (mpure σ k (E (vP (aH f x) i))):=congrArg R rfl
theorem A1{vs:List MV}{i:Nat}:vP (.tup vs) i=(vs[i]?).map fun v=>(True,v):=by simp only[vP];cases vs[i]?<;>rfl
theorem Iw{t:TypeId}{parts:Array (Nat × Operand)}:R (mop P f σ k (.build t parts))=R (mpure σ k (E (mJ P f t parts))):=congrArg R rfl
theorem E3{t:TypeId}{m x:Operand}{ok:Bool}:R (mop P f σ k (.lookup t m x ok))=R (fP P t (E (aH f m)) (E (aH f x)) ok (E (mapOf σ (aH f m))) σ k):=congrArg R rfl
theorem xR{t:TypeId}{m x y:Operand}:R (mop P f σ k (.mapUpdate t m x y))=R (fB P t (E (aH f m)) (E (aH f x)) (E (aH f y)) (E (mapOf σ (aH f m))) σ k):=congrArg R rfl
theorem KQ{t:TypeId}{x:Operand}:R (mop P f σ k (.load t x))=R (kA P t (E (aH f x)) σ k):=congrArg R rfl
theorem Iz{t:TypeId}{x y:Operand}:R (mop P f σ k (.store t x y))=R (mN P t (E (aH f x)) (E (aH f y)) σ k):=congrArg R rfl
theorem Iu{t:TypeId}:R (mop P f σ k (.alloc t))=R (fN (E ((td P t).zok=true)) (l5 (E σ) (fun l=>bQ (E (.ptr l 0 0)) (σ.set l (.row t (td P t).size [(td P t).zero])) k))):=congrArg R rfl
def PF(t:TypeId)(x:MV)(σ:St)(k:MV→St→Prop):Prop:=x.cells.all MV.aN=true∧∀l,σ l=none→k (.ptr l 0 0) (σ.set l (.row t x.cells.length [x.cells]))
theorem Nk{t:TypeId}{x:Operand}:R (mop P f σ k (.box t x))=R (PF t (E (aH f x)) σ k):=congrArg R rfl
theorem Nc{t:TypeId}{x:MV}:R (PF t x σ k)=R (fN (E (x.cells.all MV.aN=true)) (l5 (E σ) (fun l=>bQ (E (.ptr l 0 0)) (σ.set l (.row t x.cells.length [x.cells])) k))):=congrArg R rfl
theorem uV{t:TypeId}{n:Nat}{parts:Array (Nat × Operand)}:R (mop P f σ k (.buildSlice t n parts))=R (dL P f t n parts σ k):=congrArg R rfl
def mbs(P:Program)(d:TK)(len:Nat)(parts:List (Nat × MV))(σ:St)(k:MV→St→Prop):Prop :=
 match d with
 | .slice el=>fN ((td P el).zok=true∧parts.map (·.1)=List.range len∧(parts.all fun p=>p.2.cells.all MV.aN&&p.2.cells.length==(td P el).size)=true∧len * (td P el).size≤16777216∧len≤16777216)
   (l5 σ fun l=>bQ (.vec (td P el).size l 0 len) (σ.set l (.row el (td P el).size (parts.map fun p=>p.2.cells))) k)
 | _=>False
theorem uM{t:TypeId}{n:Nat}{parts:Array (Nat × Operand)}:R (dL P f t n parts σ k)=R (mbs P (E (td P t).k) n (E (parts.toList.map fun p=>(p.1,aH f p.2))) σ k):=congrArg R (by
 unfold dL mbs fN l5 bQ E
 cases (td P t).k<;>first|rfl|(simp only[List.map_map,List.all_map];rfl))
theorem H6{el:TypeId}{len:Nat}{parts:List (Nat × MV)}:R (mbs P (.slice el) len parts σ k)=R (fN (E ((td P el).zok=true∧parts.map (·.1)=List.range len∧(parts.all fun p=>p.2.cells.all MV.aN&&p.2.cells.length==(td P el).size)=true∧len * (td P el).size≤16777216∧len≤16777216))
   (l5 (E σ) (fun l=>bQ (E (.vec (td P el).size l 0 len)) (σ.set l (.row el (td P el).size (parts.map fun p=>p.2.cells))) k))):=rfl
theorem KP{x:Operand}{args:Array Operand}{ts:Array TypeId}:R (mop P f σ k (.call ⟨.value x,args,ts⟩))=R (KI P (E (aH f x)) (E (args.toList.map (aH f))) σ k):=congrArg R rfl
theorem Cx{b:Builtin}{args:Array Operand}{ts:Array TypeId}:R (mop P f σ k (.call ⟨.builtin b,args,ts⟩))=R (eX P f b args.toList ts.toList σ k):=congrArg R rfl
def mvs(P:Program)(t:TypeId)(x lo hi:MV)(σ:St)(k:MV→St→Prop):Prop:=if beyond x hi then AN P t x lo hi (Ko σ x) σ k else mpure σ k (mM P t x (some lo) (some hi) none)
theorem CK{dst:Option Tmp}{t:TypeId}{x y z:Operand}:R (fM P f σ dst K (.slice t x (some y) (some z) none))=R (mvs P t (E (aH f x)) (E (aH f y)) (E (aH f z)) σ (fun v σ'=>K (bD f dst v) σ')):=congrArg R rfl
theorem No{t:TypeId}{e:Nat}{xs:List (List MV)}{tt:Bool}{lo hi:MV}:R (mvs P t (.lst e xs tt) lo hi σ k)=R (mpure σ k (E (mM P t (.lst e xs tt) (some lo) (some hi) none))):=by
 apply congrArg R;unfold mvs;rw[if_neg (show ¬beyond (.lst e xs tt) hi by simp[beyond])];rfl
theorem Np{t:TypeId}{s:ByteArray}{lo hi:MV}:R (mvs P t (.str s) lo hi σ k)=R (mpure σ k (E (mM P t (.str s) (some lo) (some hi) none))):=by
 apply congrArg R;unfold mvs;rw[if_neg (show ¬beyond (.str s) hi by simp[beyond])];rfl
theorem AK{dst:Option Tmp}{s x:Operand}{t xt:TypeId}:R (fM P f σ dst K (.call ⟨.builtin .append,#[s,x],#[t,xt]⟩))=R (Ni (E (td P xt).k.isInt) (K8 P t (aH f s) (aH f x) σ (fun v σ'=>K (bD f dst v) σ')) (mop P f σ (fun v σ'=>K (bD f dst v) σ') (.call ⟨.builtin .append,#[s,x],#[t,xt]⟩))):=congrArg R rfl
theorem OI{A B:Prop}:R (Ni false A B)=R B:=congrArg R rfl
end
end

section
section
variable {P:Program} {f:FR} {σ:St} {k:MV→St→Prop} {t:TypeId}
theorem Kt{i:IntKind}{a b:Int}:bT P t .add (.int i a) (.int i b)=some (True,.int i (i.wrap (a+b))):=by simp[bT,eV]
theorem KG{i:IntKind}{a b:Int}:bT P t .sub (.int i a) (.int i b)=some (True,.int i (i.wrap (a - b))):=by simp[bT,eV]
theorem KA{i:IntKind}{a b:Int}:bT P t .mul (.int i a) (.int i b)=some (True,.int i (i.wrap (a * b))):=by simp[bT,eV]
theorem KC{i:IntKind}{a b:Int}:bT P t .quo (.int i a) (.int i b)=some (b≠0,.int i (i.wrap (a.tdiv b))):=by simp[bT,eV]
theorem KD{i:IntKind}{a b:Int}:bT P t .rem (.int i a) (.int i b)=some (b≠0,.int i (a.tmod b)):=by simp[bT,eV]
theorem Ku{i:IntKind}{a b:Int}:bT P t .and (.int i a) (.int i b)=some (True,.int i (kZ i a b)):=by simp only[bT,if_true,eV]
theorem M8{i:IntKind}{a b:Int}:bT P t .or (.int i a) (.int i b)=some (True,.int i (orK i a b)):=by simp only[bT,if_true,eV]
theorem Cf{i:IntKind}{a b:Int}:bT P t .andNot (.int i a) (.int i b)=some (True,.int i (pM i a b)):=by simp only[bT,if_true,eV]
theorem Kv{i:IntKind}{a b:Int}:bT P t .eql (.int i a) (.int i b)=some (True,.bool (decide (a=b))):=by simp[bT,eV];rfl
theorem KB{i:IntKind}{a b:Int}:bT P t .neq (.int i a) (.int i b)=some (True,.bool (decide (¬a=b))):=by simp[bT,eV];rfl
theorem Kz{i:IntKind}{a b:Int}:bT P t .lss (.int i a) (.int i b)=some (True,.bool (decide (a<b))):=by simp[bT,eV]
theorem Ky{i:IntKind}{a b:Int}:bT P t .leq (.int i a) (.int i b)=some (True,.bool (decide (a≤b))):=by simp[bT,eV]
theorem Kx{i:IntKind}{a b:Int}:bT P t .gtr (.int i a) (.int i b)=some (True,.bool (decide (b<a))):=by simp[bT,eV]
theorem Kw{i:IntKind}{a b:Int}:bT P t .geq (.int i a) (.int i b)=some (True,.bool (decide (b≤a))):=by simp[bT,eV]
theorem KE{i j:IntKind}{a b:Int}:bT P t .shl (.int i a) (.int j b)=some (0≤b,.int i (i.wrap (a * 2 ^ (min b.toNat i.bits)))):=by simp[bT,mG]
theorem KF{i j:IntKind}{a b:Int}:bT P t .shr (.int i a) (.int j b)=some (0≤b,.int i (a.fdiv (2 ^ (min b.toNat i.bits)))):=by simp[bT,mG]
theorem oN(x y:ByteArray):x.toList=y.toList↔x=y:=by
 rw[ByteArray.toList_eq,ByteArray.toList_eq]
 obtain⟨⟨a⟩⟩:=x
 obtain⟨⟨b⟩⟩:=y
 simp
theorem pG(x y:ByteArray):(x.toList==y.toList)=decide (x=y):=by
 rw[Bool.eq_iff_iff];simp[oN]
theorem HZ{x y:ByteArray}:bT P t .eql (.str x) (.str y)=some (True,.bool (decide (x=y))):=by simp only[bT,mY,pG]
theorem H3{x y:ByteArray}:bT P t .neq (.str x) (.str y)=some (True,.bool (decide (¬x=y))):=by simp only[bT,mY,pG];simp
theorem HY{x y:ByteArray}:bT P t .add (.str x) (.str y)=some (((x.size+y.size:Nat):Int)≤9223372036854775807,.str (x++y)):=by simp only[bT,mY]
theorem H2{x y:ByteArray}:bT P t .lss (.str x) (.str y)=some (True,.bool (Op.bytesLess x.toList y.toList)):=by simp only[bT,mY]
theorem H0{x y:ByteArray}:bT P t .gtr (.str x) (.str y)=some (True,.bool (!(Op.bytesLess x.toList y.toList || decide (x=y)))):=by simp only[bT,mY,pG]
theorem HW{x y:Bool}:bT P t .eql (.bool x) (.bool y)=some ((td P t).k.isBool=true,.bool (x==y)):=rfl
theorem HX{x y:Bool}:bT P t .neq (.bool x) (.bool y)=some ((td P t).k.isBool=true,.bool (!(x==y))):=rfl
theorem M9{op:BinOp}{l i o:Nat}:bT P t op (.ptr l i o) .nilp=eqV op ((td P t).k.pT=true) false:=rfl
theorem M7{op:BinOp}{l i o:Nat}:bT P t op .nilp (.ptr l i o)=eqV op ((td P t).k.pT=true) false:=rfl
theorem M3{op:BinOp}{cs:List MV}:bT P t op (.cptr cs) .nilp=eqV op ((td P t).k.pT=true) false:=rfl
theorem Na{op:BinOp}{e:Nat}{x:List MV}{xs:List (List MV)}{b:Bool}:bT P t op (.lst e (x::xs) b) .aZ=eqV op ((td P t).k.Ev=true) false:=rfl
theorem Nb{op:BinOp}:bT P t op .aZ .aZ=eqV op ((td P t).k.Ev=true) true:=rfl
theorem M5{op:BinOp}:bT P t op .nilfn .nilfn=eqV op ((td P t).k.Eu=true) true:=rfl
theorem M4{op:BinOp}{f:Fn}{a b:List MV}:bT P t op (.fn f a b) .nilfn=eqV op ((td P t).k.Eu=true) false:=rfl
theorem M6{op:BinOp}:bT P t op .nilp .nilp=eqV op ((td P t).k.pT=true) true:=rfl
def Kp(P:Program)(op:BinOp)(t:TypeId)(o:Option Bool):PV:=match o with
 | some b=>eqV op (cP P t=true) b
 | none=>none
theorem uL{op:BinOp}{xs ys:List MV}:bT P t op (.agg xs) (.agg ys)=Kp P op t (gT P 6 t (.agg xs) (.agg ys)):=rfl
theorem mI{op:BinOp}{b:Bool}:Kp P op t (some b)=eqV op (cP P t=true) b:=rfl
theorem wA{σ:St}{l k:Nat}{o:aW}{p:Prop}(h:l≠k→k≠l→σ l=none→p):(σ.set k o) l=none→p:=fun hn =>
 have e:l≠k∧σ l=none:=(LI σ k l o).mp hn
 h e.1 (Ne.symm e.1) e.2
theorem Bw(σ:St)(l:Nat)(o:aW):(σ.set l o).del l=σ.del l:=by
 funext k;simp only[St.set,St.del];split<;>rfl
theorem Lb(l:Nat):St.none.del l=St.none:=by
 funext k;simp only[St.none,St.del];split<;>rfl
theorem Js{α β:Type}{f:α→β}{l:List α}{n:Nat}:(l.map f).take n=(l.take n).map f:=by rw[List.map_take]
theorem Hp{α β:Type}{f:α→β}{l:List α}{n:Nat}:(l.map f).drop n=(l.drop n).map f:=by rw[List.map_drop]
theorem Du(σ:St){l a:Nat}(o o' oa:aW)(h:l≠a):((σ.set l o).set a oa).set l o'=(σ.set l o').set a oa:=by rw[set_comm _ _ _ (Ne.symm h),set_set]
theorem zQ(σ:St){l a b:Nat}(o o' oa ob:aW)(h:l≠a)(h2:l≠b):(((σ.set l o).set a oa).set b ob).set l o'=((σ.set l o').set a oa).set b ob:=by rw[set_comm _ _ _ (Ne.symm h2),Du _ _ _ _ h]
theorem Jg(σ:St){l a b c:Nat}(o o' oa ob oc:aW)(h:l≠a)(h2:l≠b)(h3:l≠c):((((σ.set l o).set a oa).set b ob).set c oc).set l o'=(((σ.set l o').set a oa).set b ob).set c oc:=by rw[set_comm _ _ _ (Ne.symm h3),zQ _ _ _ _ _ h h2]
theorem Mq{p q:Prop}[Decidable p][Decidable q]:(decide p&&decide q)=decide (p∧q):=by simp
theorem M0{b:Bool}{o:Bool}:(some o).map (fun c=>b&&c)=some (b&&o):=rfl
theorem F2{C:Prop}{b:Bool}:eqV .eql C b=some (C,.bool b):=rfl
theorem F3{C:Prop}{b:Bool}:eqV .neq C b=some (C,.bool (!b)):=rfl
theorem xN{s x:Operand}{t xt:TypeId}:R (eX P f .append [s,x] [t,xt] σ k)=R (jE P t xt (E (aH f s)) (E (aH f x)) σ k):=congrArg R rfl
theorem EC{x:Operand}{t:TypeId}:R (eX P f .len [x] [t] σ k)=R (mpure σ k (E (KN P t (aH f x)))):=congrArg R (by simp[eX,dM,E])
theorem EF{x y:Operand}{t u:TypeId}:R (eX P f .min [x,y] [t,u] σ k)=R (mpure σ k (E (Gv (aH f x) (aH f y)))):=congrArg R (by simp[eX,dM,E])
theorem EE{x y:Operand}{t u:TypeId}:R (eX P f .max [x,y] [t,u] σ k)=R (mpure σ k (E (Gu (aH f x) (aH f y)))):=congrArg R (by simp[eX,dM,E])
def mcv(P:Program)(s d:TypeId)(ks kd:TK)(x:MV)(σ:St)(k:MV→St→Prop):Prop :=
 match ks,kd,x with
 | .str,.slice el,.str b=>((td P el).k=.int .u8∧FZ el=true∧b.size≤140737488355328)∧∀l,σ l=none→k (.vec 1 l 0 b.size) (σ.set l (.row el 1 (b.toList.map fun c=>[.int .u8 (c.toNat:Int)])))
 | .slice el,.str,.str _=>False
 | .slice el,.str,x=>match gO σ 1 x with
  | some ys=>((td P el).k=.int .u8∧ys.all isByte=true)∧k (.str (bytesOf ys)) σ
  | none=>False
 | _,_,x=>mpure σ k (pV P s d x)
theorem Cj{s d:TypeId}{x:MV}:R (gN P s d x σ k)=R (mcv P s d (E (td P s).k) (E (td P d).k) x σ k):=congrArg R (by unfold gN mcv E;rfl)
theorem Nf{s d:TypeId}{i j j':IntKind}{n:Int}:R (mcv P s d (.int j) (.int i) (.int j' n) σ k)=R (mpure σ k (E (pV P s d (.int j' n)))):=congrArg R rfl
theorem OC{s d el:TypeId}{b:ByteArray}:R (mcv P s d .str (.slice el) (.str b) σ k)=R (fN (E ((td P el).k=.int .u8∧FZ el=true∧b.size≤140737488355328)) (l5 (E σ) (fun l=>bQ (E (.vec 1 l 0 b.size)) (σ.set l (.row el 1 (b.toList.map fun c=>[.int .u8 (c.toNat:Int)]))) k))):=congrArg R rfl
def OD(P:Program)(el:TypeId)(o:Option (List (List MV)))(σ:St)(k:MV→St→Prop):Prop:=match o with
 | some ys=>fN ((td P el).k=.int .u8∧ys.all isByte=true) (bQ (.str (bytesOf ys)) σ k)
 | none=>False
theorem OB{s d el:TypeId}{e l lo n:Nat}:R (mcv P s d (.slice el) .str (.vec e l lo n) σ k)=R (OD P el (E (gO σ 1 (.vec e l lo n))) σ k):=congrArg R (by unfold mcv OD E;simp only;split<;>rfl)
theorem Ia{el:TypeId}{ys:List (List MV)}:R (OD P el (some ys) σ k)=R (fN (E ((td P el).k=.int .u8∧ys.all isByte=true)) (bQ (E (.str (bytesOf ys))) σ k)):=congrArg R rfl
attribute [go_sem] OI TK.isInt Cj Nf OC OB Ia pV Nd
def M1(P:Program)(d:TK)(xt:TypeId)(s:MV)(ys:Option (List (List MV)))(σ:St)(k:MV→St→Prop):Prop :=
 match d with
 | .slice el=>match ys with
  | some ys=>match s with
   | .aZ=>fN ((td P xt).k.eW=true∧(td P el).zok=true∧Fits ys.length (td P el).bytes) (l5 σ fun l=>bQ (.vec (td P el).size l 0 ys.length) (σ.set l (.row el (td P el).size ys)) k)
   | .lst e xs true=>fN ((td P xt).k.eW=true∧(td P el).zok=true∧e=(td P el).size∧(xs=[]∨0<ys.length)∧Fits (xs.length+ys.length) (td P el).bytes)
     (l5 σ fun l=>bQ (.vec (td P el).size l 0 (xs.length+ys.length)) (σ.set l (.row el (td P el).size (xs++ys))) k)
   | .vec e l lo n=>match σ l with
    | some (.row tt e' xs)=>fN ((td P xt).k.eW=true∧(td P el).zok=true∧e=(td P el).size∧e'=(td P el).size∧tt=el∧lo=0∧lo+n≤xs.length∧Fits (n+ys.length) (td P el).bytes)
      (l5 σ fun l'=>bQ (.vec (td P el).size l' 0 (n+ys.length)) ((σ.del l).set l' (.row el (td P el).size (eO xs lo n ys))) k)
    | _=>False
   | _=>False
  | none=>False
 | _=>False
def OS:TK→Option TypeId
 | .slice el=>some el
 | _=>none
def KV(P:Program)(σ:St)(x:MV):Option TypeId→Option (List (List MV))
 | some el=>gO σ (td P el).size x
 | none=>none
theorem EB{t xt:TypeId}{s x:MV}:R (jE P t xt s x σ k)=R (M1 P (E (td P t).k) xt s (E (KV P σ x (OS (td P t).k))) σ k):=congrArg R (by
 unfold jE M1 KV OS fN l5 bQ E
 cases (td P t).k<;>rfl)
theorem Kq{el xt:TypeId}{ys xs:List (List MV)}{e:Nat}:R (M1 P (.slice el) xt (.lst e xs true) (some ys) σ k)=R (fN (E ((td P xt).k.eW=true∧(td P el).zok=true∧e=(td P el).size∧(xs=[]∨0<ys.length)∧Fits (xs.length+ys.length) (td P el).bytes))
     (l5 (E σ) (fun l=>bQ (E (.vec (td P el).size l 0 (xs.length+ys.length))) (σ.set l (.row el (td P el).size (xs++ys))) k))):=rfl
def Ks(P:Program)(el xt:TypeId)(e l lo n:Nat)(o:Option aW)(ys:List (List MV))(σ:St)(k:MV→St→Prop):Prop :=
 match o with
 | some (.row tt e' xs)=>fN ((td P xt).k.eW=true∧(td P el).zok=true∧e=(td P el).size∧e'=(td P el).size∧tt=el∧lo=0∧lo+n≤xs.length∧Fits (n+ys.length) (td P el).bytes)
      (l5 σ fun l'=>bQ (.vec (td P el).size l' 0 (n+ys.length)) ((σ.del l).set l' (.row el (td P el).size (eO xs lo n ys))) k)
 | _=>False
theorem Kr{el xt:TypeId}{ys:List (List MV)}{e l lo n:Nat}:R (M1 P (.slice el) xt (.vec e l lo n) (some ys) σ k)=R (Ks P el xt e l lo n (E (σ l)) ys σ k):=congrArg R rfl
def mif(c:Prop)(A B:Prop):Prop:=(c→A)∧(¬c→B)
theorem Ng{c A B:Prop}(h:c):R (mif c A B)=R A:=by simp[mif,h]
theorem OE{c A B:Prop}(h1:c→R A)(h2:¬c→R B):R (mif c A B):=⟨h1,h2⟩
theorem HV{el xt tt:TypeId}{ys xs:List (List MV)}{e e' l lo n:Nat}:R (Ks P el xt e l lo n (some (.row tt e' xs)) ys σ k)=R (mif (E (lo+n=xs.length))
      (fN (E ((td P xt).k.eW=true∧(td P el).zok=true∧e=(td P el).size∧e'=(td P el).size∧tt=el∧lo=0∧Fits (n+ys.length) (td P el).bytes))
       (l5 (E σ) (fun l'=>bQ (E (.vec (td P el).size l' 0 (n+ys.length))) ((σ.del l).set l' (.row el (td P el).size (xs.drop lo++ys))) k)))
      (fN (E ((td P xt).k.eW=true∧(td P el).zok=true∧e=(td P el).size∧e'=(td P el).size∧tt=el∧lo=0∧lo+n≤xs.length∧Fits (n+ys.length) (td P el).bytes))
       (l5 (E σ) (fun l'=>bQ (E (.vec (td P el).size l' 0 (n+ys.length))) ((σ.del l).set l' (.row el (td P el).size (eO xs lo n ys))) k)))):=by
 apply congrArg R
 simp only[Ks,mif,E]
 by_cases h:lo+n=xs.length
 ·simp only[h,true_implies,not_true_eq_false,false_implies,and_true,Nat.le_refl,true_and,DS h]
 ·simp only[h,false_implies,not_false_eq_true,true_implies,true_and]
theorem Di{rs:List ResultVar}{Q:MV→St→Prop}{n:Nat}{l:List (Nat × MV)}:R (Lr P rs Q .normal ⟨n,l,[]⟩ σ)=R (dZ P ⟨n,l,[]⟩ σ rs fun vs=>Q (oneOf vs) σ):=congrArg R rfl
theorem Ls{rs:List ResultVar}{Q:MV→St→Prop}{n:Nat}{l:List (Nat × MV)}:R (Lr P rs Q .ret ⟨n,l,[]⟩ σ)=R (dZ P ⟨n,l,[]⟩ σ rs fun vs=>Q (oneOf vs) σ):=congrArg R rfl
theorem EW{rs:List ResultVar}{Q:MV→St→Prop}{n:Nat}{l:List (Nat × MV)}:R (mleave P n l rs Q [] σ)=R (dZ P ⟨n,l,[]⟩ σ rs fun vs=>Q (oneOf vs) σ):=congrArg R rfl
theorem AG{K:List MV→Prop}:R (dZ P f σ [] K)=R (K []):=congrArg R rfl
theorem AI{K:List MV→Prop}{t:Nat}{rs:List ResultVar}:R (dZ P f σ (.tmp t::rs) K)=R (bQ (E (f.get t)) σ (fun v _=>dZ P f σ rs fun vs=>K (v::vs))):=congrArg R rfl
theorem xS{K:List MV→Prop}{a:Nat}{t:TypeId}{rs:List ResultVar}:R (dZ P f σ (.cell a t::rs) K)=R (kA P t (E (f.get a)) σ (fun v _=>dZ P f σ rs fun vs=>K (v::vs))):=congrArg R rfl
theorem IS{v:MV}:oneOf [v]=v:=rfl
theorem IU{v w:MV}{vs:List MV}:oneOf (v::w::vs)=.tup (v::w::vs):=rfl
theorem IQ:oneOf []=.tup []:=rfl
theorem Hh{cs:List MV}:(MV.agg cs).cells=cs:=rfl
theorem Hi{i:IntKind}{n:Int}:(MV.int i n).cells=[.int i n]:=rfl
theorem D5{b:Bool}:(MV.bool b).cells=[.bool b]:=rfl
theorem Hl{s:ByteArray}:(MV.str s).cells=[.str s]:=rfl
theorem Ea:MV.nilp.cells=[.nilp]:=rfl
theorem Hk{l i o:Nat}:(MV.ptr l i o).cells=[.ptr l i o]:=rfl
theorem D6{cs:List MV}:(MV.cptr cs).cells=[.cptr cs]:=rfl
theorem Eb:MV.aZ.cells=[.aZ]:=rfl
theorem Hj{e:Nat}{xs:List (List MV)}{t:Bool}:(MV.lst e xs t).cells=[.lst e xs t]:=rfl
theorem Hm{e l lo n:Nat}:(MV.vec e l lo n).cells=[.vec e l lo n]:=rfl
theorem D9:MV.nilm.cells=[.nilm]:=rfl
theorem D7{l:Nat}:(MV.mapv l).cells=[.mapv l]:=rfl
theorem Br:MV.nilfn.cells=[.nilfn]:=rfl
theorem JR{fn:Fn}{a b:List MV}:(MV.fn fn a b).cells=[.fn fn a b]:=rfl
theorem aC{k k':IntKind}{a b:Int}:l6 (.int k a) (.int k' b)↔k=k'∧a=b:=⟨fun h=>by cases h;exact⟨rfl,rfl⟩,fun⟨h,g⟩=>h ▸ g ▸ .same _⟩
theorem aB{m:MV}:l6 m m↔True:=⟨fun _=>trivial,fun _=>.same m⟩
theorem all_nil{p:MV→Bool}:List.all [] p=true:=rfl
theorem Ou{α:Type}{p:α→Prop}:(∀c,c∈([]:List α)→p c)↔True:=by simp
theorem Mx{α:Type}{p:α→Prop}{a:α}{l:List α}:(∀c,c∈a::l→p c)↔p a∧∀c,c∈l→p c:=by simp
theorem JM{i:IntKind}{n:Int}:(MV.int i n).aN=true:=rfl
theorem Ha{b:Bool}:(MV.bool b).aN=true:=rfl
theorem JP{s:ByteArray}:(MV.str s).aN=true:=rfl
theorem Hf:MV.nilp.aN=true:=rfl
theorem JO{l i o:Nat}:(MV.ptr l i o).aN=true:=rfl
theorem Hb{cs:List MV}:(MV.cptr cs).aN=true:=rfl
theorem Hg:MV.aZ.aN=true:=rfl
theorem JN{e:Nat}{xs:List (List MV)}{t:Bool}:(MV.lst e xs t).aN=true:=rfl
theorem JQ{e l lo n:Nat}:(MV.vec e l lo n).aN=true:=rfl
theorem He:MV.nilm.aN=true:=rfl
theorem Hc{l:Nat}:(MV.mapv l).aN=true:=rfl
theorem D4:MV.nilfn.aN=true:=rfl
theorem Mo{fn:Fn}{a b:List MV}:(MV.fn fn a b).aN=true:=rfl
theorem Hd:MV.nili.aN=true:=rfl
theorem D3{t:TypeId}{v:MV}:(MV.iface t v).aN=true:=rfl
theorem D8:MV.nili.cells=[.nili]:=rfl
theorem Bq{t:TypeId}{v:MV}:(MV.iface t v).cells=[.iface t v]:=rfl
end
section
variable {P:Program} {f:FR} {σ:St} {k:MV→St→Prop} {K:FR→St→Prop}
theorem xT{dst:Option Tmp}{t:TypeId}:R (fM P f σ dst K (.makeMap t none))=R (l5 (E σ) fun l=>K (bD f dst (.mapv l)) (σ.set l (.mp []))):=congrArg R rfl
theorem sR{dst:Option Tmp}{t:TypeId}{m x y:Operand}:R (fM P f σ dst K (.mapUpdate t m x y))=R (fB P t (E (aH f m)) (E (aH f x)) (E (aH f y)) (E (mapOf σ (aH f m))) σ fun v σ'=>K (bD f dst v) σ'):=congrArg R rfl
theorem AL{dst:Option Tmp}{t:TypeId}{m x:Operand}{ok:Bool}:R (fM P f σ dst K (.lookup t m x ok))=R (fP P t (E (aH f m)) (E (aH f x)) ok (E (mapOf σ (aH f m))) σ fun v σ'=>K (bD f dst v) σ'):=congrArg R rfl
theorem CJ{dst:Option Tmp}{t:TypeId}{m:Operand}:R (fM P f σ dst K (.range t m))=R (rE P t (E (aH f m)) (E (mapOf σ (aH f m))) σ fun v σ'=>K (bD f dst v) σ'):=congrArg R rfl
theorem E8{dst:Option Tmp}{x:Operand}:R (fM P f σ dst K (.next x false))=R (zD (E (aH f x)) σ fun v σ'=>K (bD f dst v) σ'):=congrArg R rfl
theorem CH{dst:Option Tmp}{x:Operand}:R (fM P f σ dst K (.entry x))=R (uP (E (aH f x)) σ fun v σ'=>K (bD f dst v) σ'):=congrArg R rfl
def uT(P:Program)(d:TK)(l:Nat)(kd:IntKind)(n:Int)(y:MV)(es:List (MV × MV))(σ:St)(k:MV→St→Prop):Prop:=match d with
 | .map kt _=>fN ((td P kt).k=.int kd∧(es.all fun p=>isK kd p.1)=true) (bQ .junk (σ.set l (.mp (cM kd n y es))) k)
 | _=>False
theorem EU{t:TypeId}{l:Nat}{kd:IntKind}{n:Int}{y:MV}{es:List (MV × MV)}:R (fB P t (.mapv l) (.int kd n) y (some (.mp es)) σ k)=R (uT P (E (td P t).k) l kd n y es σ k):=congrArg R (by
 unfold fB uT fN bQ E
 cases (td P t).k<;>rfl)
theorem Cq{kt et:TypeId}{l:Nat}{kd:IntKind}{n:Int}{y:MV}{es:List (MV × MV)}:R (uT P (.map kt et) l kd n y es σ k)=R (fN (E ((td P kt).k=.int kd∧(es.all fun p=>isK kd p.1)=true)) (bQ (E .junk) (σ.set l (.mp (cM kd n y es))) k)):=congrArg R rfl
def uU(P:Program)(d:TK)(kd:IntKind)(n:Int)(ok:Bool)(es:List (MV × MV))(σ:St)(k:MV→St→Prop):Prop:=match d with
 | .map kt et=>fN ((td P kt).k=.int kd∧(td P et).zok=true∧(es.all fun p=>isK kd p.1)=true) (bQ (if ok=true then .tup [(cB n es).getD (rS (td P et)),.bool (cB n es).isSome] else(cB n es).getD (rS (td P et))) σ k)
 | _=>False
theorem E0{t:TypeId}{l:Nat}{kd:IntKind}{n:Int}{ok:Bool}{es:List (MV × MV)}:R (fP P t (.mapv l) (.int kd n) ok (some (.mp es)) σ k)=R (uU P (E (td P t).k) kd n ok es σ k):=congrArg R (by
 unfold fP uU fN bQ E
 cases (td P t).k<;>rfl)
theorem Cu{kt et:TypeId}{kd:IntKind}{n:Int}{ok:Bool}{es:List (MV × MV)}:R (uU P (.map kt et) kd n ok es σ k)=R (fN (E ((td P kt).k=.int kd∧(td P et).zok=true∧(es.all fun p=>isK kd p.1)=true)) (bQ (E (if ok=true then .tup [(cB n es).getD (rS (td P et)),.bool (cB n es).isSome] else(cB n es).getD (rS (td P et)))) σ k)):=congrArg R rfl
theorem HT{l:Nat}:mapOf σ (.mapv l)=σ l:=rfl
theorem Kd{kd:IntKind}{n:Int}{v:MV}:cM kd n v []=[(.int kd n,v)]:=rfl
theorem Ka{n:Int}:cB n []=none:=rfl
end
attribute [go_sem ↓] Kl Km HP EN IC Hz HB HA EO H9 EJ Ch H8 EL EK Aw EM Be Jt FF xE DZ DY Bo KU IB E6 CG CK AK xT sR AL CJ E8 CH KW KR E2 KS AE Iv KT Cy AD Iy xP xQ uW Ix Cz Iw KQ E3 xR Iz Iu Nk uV uM KP Cx xN EC EF EE Di Ls EW AG AI xS
theorem O9{t:TypeId}:FZ t=decide (t=5):=rfl
attribute [go_sem] O9 EU Cq E0 Cu HT Kd Ka rS Oe Pd Qh Qe Pc Qf Qd ES Cn Ie KM Ih Ig Ij Ii Cp Io Im Il Ik HH IE ID Ow KZ Fa IG Ld Nu Nv Lg Lh Lf IP Le No Np H7 KJ Nh Nx E7 Ip EY Cs E9 AM aJ aM Fg set_set NF NB NC NA Nt Lp I6 A1 Nc H6 Kt KG KA KC KD Ku M8 Cf Kv KB Kz Ky Kx Kw KE KF HZ H3 HY H2 H0 HW HX M9 M7 M3 M6 Na Nb M5 M4 TK.Eu Js Hp List.length_take List.length_drop List.length_append if_pos if_neg Du zQ Jg Fits Bw Lb xJ F2 F3 uL mI Mq gT bP M0 EB OS KV Kq Kr Ng eO HV IS IU IQ Hh Hi D5 Hl Ea Hk D6 Eb Hj Hm D9 D7 Br JR j0 mM gZ jP dA uS Ay laid dV mJ KN Gv Gu mun pV gO TK.isAgg TK.eW TK.pT TK.Ev TK.isBool JM Ha JP Hf JO Hb Hg JN JQ He Hc D4 Mo Hd D3 D8 Bq Ou Mx List.map_cons List.map_nil List.length_cons List.length_nil List.length_map Int.toNat_natCast List.drop_succ_cons List.drop_zero List.drop_nil List.take_succ_cons List.take_zero List.take_nil List.getD_cons_zero List.getD_cons_succ List.getElem?_cons_zero List.getElem?_cons_succ List.set_cons_zero List.set_cons_succ List.all_cons List.all_nil List.cons_append List.nil_append List.append_nil List.toList_toArray Option.map_some Option.map_none Bool.and_self Bool.and_true Bool.true_and beq_self_eq_true IntWalk.i64_in IntWalk.u8_in IntWalk.u32_in IntWalk.i32_in IntWalk.u64_in decide_true decide_false Bool.not_true Bool.not_false if_true if_false and_true true_and and_self ne_eq not_true_eq_false not_false_eq_true eq_self reduceCtorEq MV.bool.injEq Nat.zero_add Nat.add_zero
end

section
def St.le(σ1 σ:St):Prop:=∀l o,σ1 l=some o→σ l=some o
theorem St.le_refl(σ:St):σ.le σ:=fun _ _ h=>h
theorem St.none_le(σ:St):St.none.le σ:=fun _ _ h=>by simp[St.none] at h
theorem St.b6{σ1 σ:St}{l:Nat}{o:aW}(h:σ1.le σ)(hl:σ1 l=Option.none):σ1.le (σ.set l o):=fun k q hk=>by
 by_cases e:k=l
 ·subst e;rw[hl] at hk;cases hk
 ·rw[aM _ _ _ _ e];exact h k q hk
theorem St.pD{σ1 σ:St}{l:Nat}{o:aW}(h:σ1.le σ):(σ1.set l o).le (σ.set l o):=fun k q hk=>by
 by_cases e:k=l
 ·subst e;rw[aJ] at hk ⊢;exact hk
 ·rw[aM _ _ _ _ e] at hk ⊢;exact h k q hk
theorem St.aD{σ1 σ:St}{l:Nat}{o:aW}(h:σ1.le σ)(hl:σ l=some o):(σ1.set l o).le σ:=fun k q hk=>by
 by_cases e:k=l
 ·subst e;rw[aJ] at hk;rw[hl];exact hk
 ·rw[aM _ _ _ _ e] at hk;exact h k q hk
theorem Qg{x y:St}:R (x.le y)=x.le y:=rfl
attribute [go_sem] Qg
inductive View (σ:St):MV→MV→Prop where
 | same (m:MV):View σ m m
 | junk (m:MV):View σ m .junk
 | nil (e:Nat) (t:Bool):View σ .aZ (.lst e [] t)
 | tight (e:Nat) (xs:List (List MV)):View σ (.lst e xs true) (.lst e xs false)
 | vec {l lo n:Nat} {t:TypeId} {e:Nat} {xs:List (List MV)} (h:σ l=some (.row t e xs)) (hn:lo+n≤xs.length):View σ (.vec e l lo n) (.lst e ((xs.drop lo).take n) false)
 | vecAll {l n:Nat} {t:TypeId} {e:Nat} {xs:List (List MV)} (h:σ l=some (.row t e xs)) (hn:n=xs.length):View σ (.vec e l 0 n) (.lst e xs false)
 | ptr {l i o:Nat} {t:TypeId} {e:Nat} {xs:List (List MV)} (h:σ l=some (.row t e xs)) (hn:i<xs.length):View σ (.ptr l i o) (.cptr ((xs.getD i []).drop o))
 | agg {ms ms':List MV} (h:ms.length=ms'.length) (hc:∀(i:Nat) (m:MV),ms'[i]?=some m→m.aN=true) (hv:∀(i:Nat) (m m':MV),ms[i]?=some m→ms'[i]?=some m'→View σ m m'):View σ (.agg ms) (.agg ms')
 | tup {ms ms':List MV} (h:ms.length=ms'.length) (hv:∀(i:Nat) (m m':MV),ms[i]?=some m→ms'[i]?=some m'→View σ m m'):View σ (.tup ms) (.tup ms')
 | fn {f:Fn} {ms ns ns':List MV} (h:ns.length=ns'.length) (hv:∀(i:Nat) (m m':MV),ns[i]?=some m→ns'[i]?=some m'→View σ m m'):View σ (.fn f ms ns) (.fn f ms ns')
def JG(Φ Φ':Phi)(w:World)(σ:St):Prop:=Φ.le Φ'∧∀l o p R,σ l=some o→Φ.obj l=some p→p.blk=some R→∀off v,w.cell? ⟨R,off,none⟩=some v→Φ'.snap ⟨R,off,none⟩=some v
theorem dU.cells{Φ:Phi}{w:World}{l:Nat}{t:TypeId}{e:Nat}{xs:List (List MV)}(h:dU Φ w l (.row t e xs)){p:Place}(hp:Φ.obj l=some p){R:Nat}(hR:p.blk=some R) :
  ∀(i:Nat) (x:List MV) (j:Nat) (m:MV),xs[i]?=some x→x[j]?=some m→m.aN=true∧∃v,w.cell? ⟨R,p.bo+(i * e+j),none⟩=some v∧Rel Φ v m:=by
 obtain⟨p',hp',he,h1,h2,h3,h4⟩:=h
 rw[hp] at hp';cases hp'
 rw[hR] at h4
 obtain⟨c,fz,hc,hf,hs,hv⟩:=h4
 intro i x j m hx hm
 obtain⟨hcell,v,hv1,hv2⟩:=hv i x j m hx hm
 exact⟨hcell,v,by simpa[World.cell?,hc] using hv1,hv2⟩
theorem dU.F0{Φ Φ':Phi}{w:World}{l:Nat}{t:TypeId}{e:Nat}{xs:List (List MV)}(h:dU Φ w l (.row t e xs)){p:Place}(hp:Φ.obj l=some p){R:Nat}(hR:p.blk=some R)
 (hle:Φ.le Φ')(hs:∀off v,w.cell? ⟨R,off,none⟩=some v→Φ'.snap ⟨R,off,none⟩=some v):iX Φ' R p.bo e xs:=by
 refine⟨h.Ol,fun i j=>(w.cell? ⟨R,p.bo+(i * e+j),none⟩).getD undef,fun i x j m hx hm=>?_⟩
 obtain⟨hcell,v,hv1,hv2⟩:=h.cells hp hR i x j m hx hm
 have:=hs _ _ hv1
 simp only[Nat.add_assoc] at this hv1 ⊢
 refine⟨hcell,?_,?_⟩
 ·rw[this,hv1];rfl
 ·rw[hv1];exact hv2.mono hle
theorem DM{Φ Φ':Phi}{w:World}{σ:St}(hi:Inv Φ w σ)(hs:JG Φ Φ' w σ){l lo n:Nat}{t:TypeId}{e:Nat}{xs:List (List MV)}(h:σ l=some (.row t e xs))(hn:lo+n≤xs.length){v:Value}(r:Rel Φ v (.vec e l lo n)) :
  Rel Φ' v (.lst e ((xs.drop lo).take n) false):=by
 obtain⟨a,cap,p,rfl,hp,he,hcap,hn',hva⟩:=r.gM
 have own:=hi.own l _ h
 obtain⟨p',hp',he',h1,h2,h3,h4⟩:=hi.own l _ h
 rw[hp] at hp';cases hp'
 refine Rel.AB (by simp;omega) hn' (by omega) (by simp) (fun ha=>?_) (fun h0=>?_)
 ·rcases hva with⟨R,hR,ha'⟩|hva
  ·rw[ha'] at ha;cases ha
  ·exact hva
 ·rcases hva with⟨R,hR,ha⟩|hva
  ·subst ha
   refine⟨_,_,rfl,?_⟩
   rw[he]
   exact((own.F0 hp hR hs.1 (hs.2 l _ p R h hp hR)).drop).take
  ·omega
theorem View.rel{Φ Φ':Phi}{w:World}{σ:St}(hi:Inv Φ w σ)(hs:JG Φ Φ' w σ){m m':MV}(h:View σ m m'):∀{v:Value},Rel Φ v m→Rel Φ' v m':=by
 induction h with
 | same m=>intro v r;exact r.mono hs.1
 | junk m=>intro v r;exact .junk v
 | nil e t=>intro v r;cases r;exact .lstn e t
 | tight e xs=>intro v r;exact((l6.tight e xs).rel r).mono hs.1
 | vec h hn=>intro v r;exact DM hi hs h hn r
 | @vecAll l n t e xs h hn =>
  intro v r
  have:=DM hi hs h (lo:=0) (n:=n) (by omega) r
  subst hn
  simpa using this
 | @ptr l i o t e xs h hn =>
  intro v r
  obtain⟨p,R,hp,hR,rfl⟩:=r.gL
  have own:=hi.own l _ h
  obtain⟨p',hp',he',-⟩:=hi.own l _ h
  rw[hp] at hp';cases hp'
  obtain⟨-,vs,hv⟩:=own.F0 hp hR hs.1 (hs.2 l _ p R h hp hR)
  have hx:xs[i]?=some (xs.getD i []):=by simp[List.getD,List.getElem?_eq_getElem hn]
  refine .cptr (fun j=>vs i (o+j)) (fun j m hm=>?_) (fun j m hm=>?_)
  all_goals
   rw[List.getElem?_drop] at hm
   have:=hv i _ _ m hx hm
  ·refine⟨this.1,?_⟩
   rw[he']
   simpa[Nat.add_assoc] using this.2.1
  ·exact this.2.2
 | agg h hc hv ih =>
  intro v r
  obtain⟨cs,rfl,h1,h2,h3⟩:=r.iD
  refine .agg (by omega) hc (fun i m' hm'=>?_)
  have hlt:=(List.getElem?_eq_some_iff.1 hm').1
  rename_i ms ms'
  obtain⟨m,hm⟩:∃m,ms[i]?=some m:=⟨_,List.getElem?_eq_getElem (by omega)⟩
  exact ih i m m' hm hm' (h3 i m hm)
 | tup h hv ih =>
  intro v r
  obtain⟨cs,rfl,h1,h3⟩:=r.An
  refine .tup (by omega) (fun i m' hm'=>?_)
  have hlt:=(List.getElem?_eq_some_iff.1 hm').1
  rename_i ms ms'
  obtain⟨m,hm⟩:∃m,ms[i]?=some m:=⟨_,List.getElem?_eq_getElem (by omega)⟩
  exact ih i m m' hm hm' (h3 i m hm)
 | @fn f ms ns ns' h hv ih =>
  intro v r
  obtain⟨first,cap,rfl,h1,h2⟩:=r.oU
  refine .fn f h1.1 (h2.1.trans h) (fun i m hm=>(h1.2 i m hm).mono hs.1) (fun i m' hm'=>?_)
  have hlt:=(List.getElem?_eq_some_iff.1 hm').1
  obtain⟨m,hm⟩:∃m,ns[i]?=some m:=⟨_,List.getElem?_eq_getElem (by omega)⟩
  exact ih i m m' hm hm' (h2.2 i m hm)
def Phi.pF(Φ:Phi)(w:World)(B:Nat→Prop)[DecidablePred B]:Phi:={ Φ with snap:=fun a=>match Φ.snap a with|some v=>some v|none=>if B a.block then w.cell? a else none }
theorem s9(Φ:Phi)(w:World)(B:Nat→Prop)[DecidablePred B]:Φ.le (Φ.pF w B):=⟨fun a v h=>by simp[Phi.pF,h],fun _ _ h=>h,rfl⟩
theorem eN{Φ:Phi}{w:World}{B:Nat→Prop}[DecidablePred B]{a:Addr}{v:Value}(h:(Φ.pF w B).snap a=some v):Φ.snap a=some v∨(B a.block∧w.cell? a=some v):=by
 simp only[Phi.pF] at h
 split at h
 ·rename_i u hu;left;rw[hu,←h]
 ·split at h
  ·rename_i hb;exact .inr ⟨hb,h⟩
  ·cases h
theorem A9{Φ:Phi}{w:World}{σ:St}(hi:Inv Φ w σ){B:Nat→Prop}[DecidablePred B]{σv:St}(hle:σv.le σ)(hB:∀R,aU Φ σv R→B R):JG Φ (Φ.pF w B) w σv:=by
 refine⟨s9 _ _ _,fun l o p R hl hp hR off v hv=>?_⟩
 have hb:B R:=hB R ⟨l,o,p,hl,hp,hR⟩
 simp only[Phi.pF]
 split
 ·rename_i u hu
  have:=hi.snap _ _ hu
  rw[hv] at this
  exact this.symm
 ·rw[if_pos hb];exact hv
theorem bM.freeze{n:Nat}{l l1:List (Nat × MV)}{d:List (FuncId × List MV)}{σ σ1:St}(σv:St)(hle:σv.le σ)(h1:σ1.le σ)(hd:∀k o,σ1 k=some o→σv k=none)
 (h:∀p,p∈l1→View σv (cA l p.1) p.2):bM ⟨n,l,d⟩ σ ⟨n,l1,d⟩ σ1:=by
 refine⟨rfl,fun Φ w vs hi hr=>?_⟩
 classical
 have hs:=A9 (Φ:=Φ) hi (B:=aU Φ σv) hle (fun R h=>h)
 refine⟨Φ.pF w (aU Φ σv),⟨?_,?_,?_,?_,hi.fresh.1,fun g i v q=>hs.1.snap _ _ (hi.fresh.2.1 g i v q),hi.fresh.2.2.mono hs.1.snap⟩,⟨hr.1,?_⟩,⟨hs.1,rfl,rfl,rfl,Nat.le_refl _,Nat.le_refl _,fun _ _ _=>rfl,?_,fun l o h=>.inl ⟨o,h1 l o h⟩,fun R hR=>.inl ?_⟩⟩
 ·exact fun k o hk=>(hi.own k o (h1 k o hk)).mono hs.1 (fun _ _ _ _=>rfl)
 ·exact fun k k' o o' p p' R a b c e=>hi.inj k k' o o' p p' R (h1 k o a) (h1 k' o' b) c e
 ·intro a v hv
  rcases eN hv with q|⟨-,q⟩
  ·exact hi.snap a v q
  ·exact q
 ·intro k o p R a v hk hp hR hv
  rcases eN hv with q|⟨⟨k2,o2,p2,q1,q2,q3⟩,-⟩
  ·exact hi.apart k o p R a v (h1 k o hk) hp hR q
  ·intro e
   rw[e] at q3
   have:=hi.inj k k2 o o2 p p2 R (h1 k o hk) (hle k2 o2 q1) hp q2 hR q3
   subst this
   rw[hd k o hk] at q1
   cases q1
 ·intro t
  show Rel _ _ (cA l1 t)
  have key:∀l1':List (Nat × MV),(∀p,p∈l1'→View σv (cA l p.1) p.2)→View σv (cA l t) (cA l1' t):=by
   intro l1'
   induction l1' with
   | nil=>intro _;exact .junk _
   | cons q r ih =>
    obtain⟨k,v⟩:=q
    intro h
    simp only[cA]
    split
    ·rename_i ht;subst ht;exact h (t,v) (by simp)
    ·exact ih fun q hq=>h q (by simp[hq])
  exact(key l1 h).rel (hi.less hle) hs (hr.2 t)
 ·intro a v hv
  rcases eN hv with q|⟨⟨k,o,p,q1,q2,q3⟩,-⟩
  ·exact .inl q
  ·exact .inr (.inr ⟨k,o,p,hle k o q1,q2,q3⟩)
 ·obtain⟨k,o,p,q1,q2,q3⟩:=hR
  exact⟨k,o,p,h1 k o q1,q2,q3⟩
def JF(σv:St)(o o1:aW):Prop:=o1=o∨∃t e xs xs1,o=.row t e xs∧o1=.row t e xs1∧xs.length=xs1.length∧∀(i:Nat) (x x1:List MV),xs[i]?=some x→xs1[i]?=some x1→x.length=x1.length ∧
 ∀(j:Nat) (m m1:MV),x[j]?=some m→x1[j]?=some m1→m1=m∨(m1.aN=true∧View σv m m1)
theorem JF.own{Φ Φ':Phi}{w:World}{σv:St}{k:Nat}{o o1:aW}(hv:JF σv o o1)(h:dU Φ w k o)(hle:Φ.le Φ')(hi:Inv Φ w σv)(hs:JG Φ Φ' w σv):dU Φ' w k o1:=by
 rcases hv with rfl|⟨t,e,xs,xs1,rfl,rfl,hl,hx⟩
 ·exact h.mono hle (fun _ _ _ _=>rfl)
 ·obtain⟨p,hp,hpe,q1,q2,q3,q4⟩:=h
  have get:∀(i:Nat) (x1:List MV),xs1[i]?=some x1→∃x,xs[i]?=some x:=fun i x1 h1=>by
   have:=(List.getElem?_eq_some_iff.1 h1).1
   exact⟨xs[i]'(by omega),by simp⟩
  refine⟨p,hle.obj _ _ hp,hpe,by omega,q2,fun i x1 h1=>?_,?_⟩
  ·obtain⟨x,hx0⟩:=get i x1 h1
   rw[←(hx i x x1 hx0 h1).1]
   exact q3 i x hx0
  ·cases hb:p.blk with
   | none=>rw[hb] at q4;exact q4
   | some R =>
    rw[hb] at q4
    obtain⟨c,fz,k1,k2,k3,k4⟩:=q4
    refine⟨c,fz,k1,k2,k3,fun i x1 j m1 h1 hm1=>?_⟩
    obtain⟨x,hx0⟩:=get i x1 h1
    obtain⟨hlen,hview⟩:=hx i x x1 hx0 h1
    have hj:=(List.getElem?_eq_some_iff.1 hm1).1
    obtain⟨m,hm⟩:∃m,x[j]?=some m:=⟨x[j]'(by omega),by simp⟩
    obtain⟨hc0,v,hcv,hrel⟩:=k4 i x j m hx0 hm
    rcases hview j m m1 hm hm1 with rfl|⟨hc,hv⟩
    ·exact⟨hc0,v,hcv,hrel.mono hle⟩
    ·exact⟨hc,v,hcv,hv.rel hi hs hrel⟩
theorem bM.BJ{n:Nat}{l l1:List (Nat × MV)}{d:List (FuncId × List MV)}{σ σ1:St}(σv:St)(hle:σv.le σ)(h1:∀k o1,σ1 k=some o1→∃o,σ k=some o∧JF σv o o1)(hd:∀k o,σ1 k=some o→σv k=none)
 (h:∀p,p∈l1→View σv (cA l p.1) p.2):bM ⟨n,l,d⟩ σ ⟨n,l1,d⟩ σ1:=by
 refine⟨rfl,fun Φ w vs hi hr=>?_⟩
 classical
 have hs:=A9 (Φ:=Φ) hi (B:=aU Φ σv) hle (fun R h=>h)
 refine⟨Φ.pF w (aU Φ σv),⟨?_,?_,?_,?_,hi.fresh.1,fun g i v q=>hs.1.snap _ _ (hi.fresh.2.1 g i v q),hi.fresh.2.2.mono hs.1.snap⟩,⟨hr.1,?_⟩,⟨hs.1,rfl,rfl,rfl,Nat.le_refl _,Nat.le_refl _,fun _ _ _=>rfl,?_,fun l o h=>?_,fun R hR=>.inl ?_⟩⟩
 ·intro k o1 hk
  obtain⟨o,ho,hv⟩:=h1 k o1 hk
  exact hv.own (hi.own k o ho) hs.1 (hi.less hle) hs
 ·intro k k' o o' p p' R a b c e
  obtain⟨q,hq,-⟩:=h1 k o a
  obtain⟨q',hq',-⟩:=h1 k' o' b
  exact hi.inj k k' q q' p p' R hq hq' c e
 ·intro a v hv
  rcases eN hv with q|⟨-,q⟩
  ·exact hi.snap a v q
  ·exact q
 ·intro k o p R a v hk hp hR hv
  obtain⟨o0,ho0,-⟩:=h1 k o hk
  rcases eN hv with q|⟨⟨k2,o2,p2,q1,q2,q3⟩,-⟩
  ·exact hi.apart k o0 p R a v ho0 hp hR q
  ·intro e
   rw[e] at q3
   have:=hi.inj k k2 o0 o2 p p2 R ho0 (hle k2 o2 q1) hp q2 hR q3
   subst this
   rw[hd k o hk] at q1
   cases q1
 ·intro t
  show Rel _ _ (cA l1 t)
  have key:∀l1':List (Nat × MV),(∀p,p∈l1'→View σv (cA l p.1) p.2)→View σv (cA l t) (cA l1' t):=by
   intro l1'
   induction l1' with
   | nil=>intro _;exact .junk _
   | cons q r ih =>
    obtain⟨k,v⟩:=q
    intro h
    simp only[cA]
    split
    ·rename_i ht;subst ht;exact h (t,v) (by simp)
    ·exact ih fun q hq=>h q (by simp[hq])
  exact(key l1 h).rel (hi.less hle) hs (hr.2 t)
 ·intro a v hv
  rcases eN hv with q|⟨⟨k,o,p,q1,q2,q3⟩,-⟩
  ·exact .inl q
  ·exact .inr (.inr ⟨k,o,p,hle k o q1,q2,q3⟩)
 ·obtain⟨o0,ho0,-⟩:=h1 l o h
  exact .inl ⟨o0,ho0⟩
 ·obtain⟨k,o,p,q1,q2,q3⟩:=hR
  obtain⟨o0,ho0,-⟩:=h1 k o q1
  exact⟨k,o0,p,ho0,q2,q3⟩
theorem bM.less{n:Nat}{l l1:List (Nat × MV)}{d:List (FuncId × List MV)}{σ σ1:St}(h:∀p,p∈l1→l6 (cA l p.1) p.2)(hs:σ1.le σ):bM ⟨n,l,d⟩ σ ⟨n,l1,d⟩ σ1 :=
 (bM.ML h).trans (bM.drop hs)
end

section
theorem Gh.row{n:Nat}{l:List (Nat × MV)}{d:List (FuncId × List MV)}{σ:St}{K:FR→St→Prop}(t:TypeId)(e:Nat)(l1:Nat→List (Nat × MV))
 (h1:∀k,∀p,p∈l1 k→cA l p.1=p.2∨(p.2=.vec e k 0 0∧(cA l p.1=.aZ∨cA l p.1=.lst e [] true)))
 (h:∀k,σ k=none→Gh ⟨n,l1 k,d⟩ (σ.set k (.row t e [])) K):Gh ⟨n,l,d⟩ σ K:=by
 intro Φ w vs hi hr
 obtain⟨k,hk,hk'⟩:=inv_eq hi
 obtain⟨v1,v2,-⟩:=kY hi (fun _ _ h=>h) hk t e none
 have hfr:cL (Φ.put k ⟨none,0,e,0⟩) vs ⟨n,l1 k,d⟩:=by
  refine⟨hr.1,fun s=>?_⟩
  show Rel _ _ (cA (l1 k) s)
  have key:∀l2:List (Nat × MV),(∀p,p∈l2→cA l p.1=p.2∨(p.2=.vec e k 0 0∧(cA l p.1=.aZ∨cA l p.1=.lst e [] true)))→Rel (Φ.put k ⟨none,0,e,0⟩) (vs.getD s undef) (cA l2 s):=by
   intro l2
   induction l2 with
   | nil=>intro _;exact .junk _
   | cons q r ih =>
    obtain⟨j,v⟩:=q
    intro h
    simp only[cA]
    split
    ·rename_i ht
     subst ht
     have hs:=hr.2 s
     change Rel Φ _ (cA l s) at hs
     rcases h (s,v) (by simp) with q|⟨q1,q2|q2⟩
     ·simp only at q;rw[←q];exact hs.mono v2.le
     ·simp only at q1 q2
      rw[q2] at hs
      have:=hs.eJ
      rw[this,q1]
      exact(kY hi (fun _ _ h=>h) hk t e none).2.2
     ·simp only at q1 q2
      rw[q2] at hs
      obtain⟨a,cap,hv,-,-,h0,-⟩:=hs.jB
      have hcap:cap=0:=by simpa using h0 rfl
      subst hcap
      rw[hv,q1]
      exact(kY hi (fun _ _ h=>h) hk t e a).2.2
    ·exact ih fun q hq=>h q (by simp[hq])
  exact key _ (h1 k)
 obtain⟨f2,σ2,Φ2,e2,k2,i2,r2,s2⟩:=h k hk' _ w vs v1 hfr
 exact⟨f2,σ2,Φ2,e2,k2,i2,r2,v2.trans s2⟩
theorem Gh.vW{f:FR}{σ:St}{K:FR→St→Prop}{b:Nat}{t:TypeId}{e:Nat}{pre post:List MV}(t':TypeId)(e':Nat)(hs:σ b=some (.row t e [pre++.aZ::post]))
 (h:∀k,σ k=none→Gh f ((σ.set b (.row t e [pre++.vec e' k 0 0::post])).set k (.row t' e' [])) K):Gh f σ K:=by
 intro Φ w vs hi hr
 obtain⟨k,hk,hk'⟩:=inv_eq hi
 obtain⟨v1,v2,-⟩:=kY hi (fun _ _ h=>h) hk t' e' none
 have hbk:b≠k:=fun e=>by subst e;rw[hs] at hk';cases hk'
 have hs':(σ.set k (.row t' e' [])) b=some (.row t e [pre++.aZ::post]):=by rw[aM _ _ _ _ hbk];exact hs
 obtain⟨p,hp,hpe,q1,q2,q3,q4⟩:=v1.own b _ hs'
 have hown:dU (Φ.put k ⟨none,0,e',0⟩) w b (.row t e [pre++.vec e' k 0 0::post]):=by
  refine⟨p,hp,hpe,by simpa using q1,q2,fun i x hx=>?_,?_⟩
  ·match i with
   | 0 =>
    simp only[List.getElem?_cons_zero,Option.some.injEq] at hx
    subst hx
    have:=q3 0 _ rfl
    simpa using this
   | i+1=>simp at hx
  ·cases hb:p.blk with
   | none=>rw[hb] at q4;exact q4
   | some R =>
    rw[hb] at q4
    obtain⟨c,fz,k1,k2,k3,k4⟩:=q4
    refine⟨c,fz,k1,k2,k3,fun i x j m hx hm=>?_⟩
    match i with
    | 0 =>
     simp only[List.getElem?_cons_zero,Option.some.injEq] at hx
     subst hx
     by_cases hj:j=pre.length
     ·subst hj
      simp at hm
      subst hm
      obtain⟨-,v,hv,hrel⟩:=k4 0 _ pre.length .aZ rfl (by simp)
      have:=hrel.eJ
      subst this
      exact⟨rfl,_,hv,.vecn (p:=⟨none,0,e',0⟩) (Phi.b7 _ _ _) rfl rfl⟩
     ·refine k4 0 _ j m rfl ?_
      rw[←hm]
      by_cases h:j<pre.length
      ·rw[List.getElem?_append_left h,List.getElem?_append_left h]
      ·rw[List.getElem?_append_right (by omega),List.getElem?_append_right (by omega)]
       obtain⟨q,hq⟩:∃q,j - pre.length=q+1:=⟨j - pre.length - 1,by omega⟩
       rw[hq,List.getElem?_cons_succ,List.getElem?_cons_succ]
    | i+1=>simp at hx
 have i2:Inv (Φ.put k ⟨none,0,e',0⟩) w ((σ.set k (.row t' e' [])).set b (.row t e [pre++.vec e' k 0 0::post])):=by
  refine v1.upd (.refl _) (fun _=>rfl) b _ p hp (fun m o q=>St.bK q) (fun m o q R hm hs2 hq hR=>?_) (fun a v h=>?_) hown v1.fresh.1
  ·rcases St.bK hs2 with⟨_,q1⟩|⟨q1,_⟩
   ·exact⟨rfl,fun e2=>hm (v1.inj m b _ _ q p R q1 hs' hq hp hR e2)⟩
   ·exact absurd q1 hm
  ·exact⟨rfl,fun e2=>v1.apart b _ p _ a v hs' hp e2 h rfl⟩
 have hst:(σ.set k (.row t' e' [])).set b (.row t e [pre++.vec e' k 0 0::post])=(σ.set b (.row t e [pre++.vec e' k 0 0::post])).set k (.row t' e' []):=set_comm _ _ _ (Ne.symm hbk)
 rw[hst] at i2
 obtain⟨f2,σ2,Φ2,e2,k2,j2,r2,s2⟩:=h k hk' _ w vs i2 (hr.mono v2.le)
 refine⟨f2,σ2,Φ2,e2,k2,j2,r2,.trans ?_ s2⟩
 refine⟨v2.le,rfl,rfl,rfl,Nat.le_refl _,Nat.le_refl _,fun _ _ _=>rfl,fun _ _ h=>.inl h,fun m o q=>?_,fun R hR=>?_⟩
 ·rcases St.bK q with⟨_,q1⟩|⟨rfl,_⟩
  ·rcases St.bK q1 with⟨_,q2⟩|⟨rfl,_⟩
   ·exact .inl ⟨_,q2⟩
   ·exact .inl ⟨_,hs⟩
  ·exact .inr hk
 ·obtain⟨m,o1,p1,t1,t2,t3⟩:=hR
  refine v2.ownd R ?_
  rcases St.bK t1 with⟨hm,q1⟩|⟨rfl,rfl⟩
  ·rcases St.bK q1 with⟨_,q2⟩|⟨rfl,_⟩
   ·exact⟨m,o1,p1,by rw[aM _ _ _ _ hm];exact q2,t2,t3⟩
   ·exact⟨m,_,p1,hs',t2,t3⟩
  ·exact⟨m,_,p1,aJ _ _ _,t2,t3⟩
theorem aA.gh{P:Program}{g:FuncId}{ms:List MV}{σ:St}{Q:MV→St→Prop}(h:aA P g ms σ fun v σ'=>Gh ⟨1,[(0,v)],[]⟩ σ' fun f1 σ1=>∃v1,f1=⟨1,[(0,v1)],[]⟩∧Q v1 σ1):aA P g ms σ Q:=by
 refine⟨h.1,fun Φ w vs hi hr=>(h.2 Φ w vs hi hr).mono ?_⟩
 rintro e w' ⟨v,mv,σ',Φ',rfl,q1,q2,q3,g⟩
 obtain⟨f1,σ1,Φ1,-,⟨v1,rfl,hq⟩,i1,r1,s1⟩:=g Φ' w' #[v] q2 ⟨rfl,fun t=>by
  simp only[FR.get,cA]
  split
  ·rename_i ht;subst ht;exact q1
  ·exact .junk _⟩
 exact⟨v,v1,σ1,Φ1,rfl,by simpa[FR.get,cA] using r1.2 0,i1,q3.trans s1,hq⟩
def St.over(x y:St):St:=fun l=>match x l with|some o=>some o|Option.none=>y l
def St.minus(x y:St):St:=fun l=>match y l with|some _=>Option.none|Option.none=>x l
theorem fZ{x y:St}{l:Nat}{o:aW}(h:(St.over x y) l=some o):x l=some o∨(x l=none∧y l=some o):=by
 simp only[St.over] at h
 split at h
 ·rename_i q hq;exact .inl (by rw[hq,h])
 ·rename_i hq;exact .inr ⟨hq,h⟩
theorem cN{x y:St}{l:Nat}{o:aW}(h:(St.minus x y) l=some o):y l=none∧x l=some o:=by
 simp only[St.minus] at h
 split at h
 ·cases h
 ·rename_i hq;exact⟨hq,h⟩
theorem aA.frame{P:Program}{g:FuncId}{ms:List MV}{σa σ:St}{Q:MV→St→Prop}(h:aA P g ms σa Q)(hle:σa.le σ) :
  aA P g ms σ fun v σ1=>∃σ',Q v σ'∧σ1=σ'.over (σ.minus σa)∧∀l o,σ' l=some o→σ l=none∨∃o',σa l=some o':=by
 refine⟨h.1,fun Φ w vs hi hr=>(h.2 Φ w vs (hi.less hle) hr).mono ?_⟩
 rintro e w' ⟨v,mv,σ',Φ',rfl,r1,i1,s1,hq⟩
 have rest:∀l o,(σ.minus σa) l=some o→∃p,Φ.obj l=some p∧Φ'.obj l=some p∧∀R,p.blk=some R→R<w.heap.size∧¬aU Φ σa R∧w'.heap[R]?=w.heap[R]?:=by
  intro l o hl
  obtain⟨q1,q2⟩:=cN hl
  obtain⟨p,hp,hR⟩:=(hi.own l o q2).place
  refine⟨p,hp,s1.le.obj _ _ hp,fun R hb=>?_⟩
  have hno:¬aU Φ σa R:=by
   rintro⟨l2,o2,p2,u1,u2,u3⟩
   have:=hi.inj l l2 o o2 p p2 R q2 (hle _ _ u1) hp u2 hb u3
   subst this
   rw[q1] at u1;cases u1
  exact⟨hR R hb,hno,s1.block R (hR R hb) hno⟩
 have hdis:∀l o,σ' l=some o→σ l=none∨∃o',σa l=some o':=by
  intro l o hl
  rcases s1.locs l o hl with q|q
  ·exact .inr q
  ·exact .inl (hi.eL q)
 have hnew:∀l o p R,σ' l=some o→Φ'.obj l=some p→p.blk=some R→aU Φ σa R∨w.heap.size≤R:=fun l o p R a b c=>s1.ownd R ⟨l,o,p,a,b,c⟩
 refine⟨v,mv,σ'.over (σ.minus σa),Φ',rfl,r1,⟨?_,?_,i1.snap,?_,i1.fresh⟩,⟨s1.le,s1.os,s1.tape,s1.output,s1.drawn,s1.size,?_,?_,?_,?_⟩,σ',hq,rfl,hdis⟩
 ·intro l o hl
  rcases fZ hl with q|⟨q1,q2⟩
  ·exact i1.own l o q
  ·obtain⟨p,hp,hp',hR⟩:=rest l o q2
   exact(hi.own l o (cN q2).2).mono s1.le fun p1 R h1 h2=>by
    rw[hp] at h1;cases h1
    exact(hR R h2).2.2
 ·intro l l' o o' p p' R hl hl' hp hp' hb hb'
  rcases fZ hl with q|⟨q1,q2⟩<;>rcases fZ hl' with q'|⟨q1',q2'⟩
  ·exact i1.inj l l' o o' p p' R q q' hp hp' hb hb'
  ·obtain⟨p2,u1,u2,u3⟩:=rest l' o' q2'
   rw[hp'] at u2;cases u2
   rcases hnew l o p R q hp hb with k|k
   ·exact absurd k (u3 R hb').2.1
   ·have:=(u3 R hb').1;omega
  ·obtain⟨p2,u1,u2,u3⟩:=rest l o q2
   rw[hp] at u2;cases u2
   rcases hnew l' o' p' R q' hp' hb' with k|k
   ·exact absurd k (u3 R hb).2.1
   ·have:=(u3 R hb).1;omega
  ·obtain⟨p2,u1,u2,u3⟩:=rest l o q2
   rw[hp] at u2;cases u2
   obtain⟨p3,v1,v2,v3⟩:=rest l' o' q2'
   rw[hp'] at v2;cases v2
   exact hi.inj l l' o o' p p' R (cN q2).2 (cN q2').2 u1 v1 hb hb'
 ·intro l o p R a u hl hp hb hu
  rcases fZ hl with q|⟨q1,q2⟩
  ·exact i1.apart l o p R a u q hp hb hu
  ·obtain⟨p2,u1,u2,u3⟩:=rest l o q2
   rw[hp] at u2;cases u2
   intro e
   rcases s1.snapn a u hu with k|k|k
   ·exact hi.apart l o p R a u (cN q2).2 u1 hb k e
   ·have:=(u3 R hb).1;omega
   ·rw[e] at k;exact(u3 R hb).2.1 k
 ·exact fun k hk hno=>s1.block k hk fun q=>hno (q.less hle)
 ·intro a u hu
  rcases s1.snapn a u hu with k|k|k
  ·exact .inl k
  ·exact .inr (.inl k)
  ·exact .inr (.inr (k.less hle))
 ·intro l o hl
  rcases fZ hl with q|⟨q1,q2⟩
  ·rcases s1.locs l o q with⟨o',k⟩|k
   ·exact .inl ⟨o',hle _ _ k⟩
   ·exact .inr k
  ·exact .inl ⟨o,(cN q2).2⟩
 ·rintro R ⟨l,o,p,hl,hp,hb⟩
  rcases fZ hl with q|⟨q1,q2⟩
  ·rcases hnew l o p R q hp hb with k|k
   ·exact .inl (k.less hle)
   ·exact .inr k
  ·obtain⟨p2,u1,u2,u3⟩:=rest l o q2
   rw[hp] at u2;cases u2
   exact .inl ⟨l,o,p,(cN q2).2,u1,hb⟩
theorem aA.less{P:Program}{g:FuncId}{ms:List MV}{σ:St}{Q Q':MV→St→Prop}(h:aA P g ms σ Q')(hq:∀v σ',Q' v σ'→∃σ1,σ1.le σ'∧Q v σ1):aA P g ms σ Q:=by
 refine⟨h.1,fun Φ w vs hi hr=>(h.2 Φ w vs hi hr).mono ?_⟩
 rintro e w' ⟨v,mv,σ',Φ',rfl,r1,i1,s1,k⟩
 obtain⟨σ1,hle,hk⟩:=hq mv σ' k
 exact⟨v,mv,σ1,Φ',rfl,r1,i1.less hle,s1.trans (.less _ hle),hk⟩
theorem aA.bZ{P:Program}{g:FuncId}{ms:List MV}{σ:St}{Q:MV→St→Prop}(h:aA P g ms σ fun v σ'=>∃σ1,σ1.le σ'∧Q v σ1):aA P g ms σ Q:=h.less fun _ _ k=>k
theorem hE(σ:St):σ.minus St.none=σ:=by funext l;simp[St.minus,St.none]
theorem aA.pure{P:Program}{g:FuncId}{ms:List MV}{σ:St}{q:MV→Prop}(h:aA P g ms St.none fun v _=>q v):aA P g ms σ fun v σ'=>q v∧σ'=σ:=by
 refine(h.frame (St.none_le σ)).less ?_
 rintro v σ1 ⟨σ',hq,rfl,hd⟩
 refine⟨σ,fun l o hl=>?_,hq,rfl⟩
 rw[hE]
 simp only[St.over]
 cases hs:σ' l with
 | none=>exact hl
 | some o' =>
  rcases hd l o' hs with k|⟨_,k⟩
  ·rw[hl] at k;cases k
  ·simp[St.none] at k
theorem aA.Ir{P:Program}{g:FuncId}{ms:List MV}{q:MV→Prop}(h:aA P g ms St.none fun v _=>q v):aA P g ms St.none fun v σ'=>q v∧σ'=St.none:=h.pure
theorem aQ{P:Program}{g:FuncId}{ms:List MV}{σ:St}{r:MV}{k:MV→St→Prop}(h:aA P g ms St.none fun v _=>v=r)(hk:R (bQ r σ k)):R (cQ P g ms σ k):=by
 refine(aA.pure (σ:=σ) h).mono ?_
 rintro v σ' ⟨rfl,rfl⟩
 exact hk
theorem fG{P:Program}{g:FuncId}{ms:List MV}{σ:St}{q:MV→Prop}{k:MV→St→Prop}(h:aA P g ms St.none fun v _=>q v)(hk:∀r,q r→R (bQ r σ k)):R (cQ P g ms σ k):=by
 refine(aA.pure (σ:=σ) h).mono ?_
 rintro v σ' ⟨hq,rfl⟩
 exact hk v hq
inductive Flat:MV→Prop where
 | junk:Flat .junk
 | bool (b:Bool):Flat (.bool b)
 | int (k:IntKind) (n:Int):Flat (.int k n)
 | str (s:ByteArray):Flat (.str s)
 | nilp:Flat .nilp
 | aZ:Flat .aZ
 | lst0 (e:Nat):Flat (.lst e [] true)
 | nilm:Flat .nilm
 | nilfn:Flat .nilfn
 | nili:Flat .nili
 | agg {cs:List MV} (h:∀c,c∈cs→Flat c):Flat (.agg cs)
 | tup {cs:List MV} (h:∀c,c∈cs→Flat c):Flat (.tup cs)
theorem Flat.rel{Φ Φ':Phi}{m:MV}(h:Flat m):∀{v:Value},Rel Φ v m→Rel Φ' v m:=by
 induction h with
 | junk=>intro v r;exact .junk v
 | bool b=>intro v r;cases r;exact .bool b
 | int k n=>intro v r;cases r;exact .int k n
 | str s=>intro v r;cases r;exact .str s
 | nilp=>intro v r;cases r;exact .nilp
 | aZ=>intro v r;cases r;exact .aZ
 | nilm=>intro v r;cases r;exact .nilm
 | nilfn=>intro v r;cases r;exact .nilfn
 | nili=>intro v r;cases r;exact .nili
 | lst0 e =>
  intro v r
  cases r with
  | lstn=>exact .lstn e true
  | lst0 a e cap t ht hm=>exact .lst0 a e cap true ht hm
  | lst hl h0=>simp at hl;omega
 | agg h ih =>
  intro v r
  cases r with
  | agg h hc hr=>exact .agg h hc (fun i m hm=>ih m (List.mem_of_getElem? hm) (hr i m hm))
 | tup h ih =>
  intro v r
  cases r with
  | tup h hr=>exact .tup h (fun i m hm=>ih m (List.mem_of_getElem? hm) (hr i m hm))
theorem aA.Ql{P:Program}{g:FuncId}{ms ms':List MV}{σ:St}{q:MV→Prop}(h:aA P g ms' St.none fun v _=>q v)(hf:∀r,q r→Flat r)(hl:ms.length=ms'.length)
 (hv:∀(i:Nat) (m m':MV),ms[i]?=some m→ms'[i]?=some m'→View σ m m'):aA P g ms σ fun v σ'=>q v∧σ'=σ:=by
 refine⟨h.1,fun Φ w vs hi hr=>?_⟩
 classical
 have hs:JG Φ (Φ.pF w (fun _=>True)) w σ:=A9 hi (St.le_refl σ) (fun _ _=>trivial)
 have hi':Inv (Φ.pF w (fun _=>True)) w St.none:=by
  refine⟨fun l o hl=>by simp[St.none] at hl,fun l l' o o' p p' R hl=>by simp[St.none] at hl,fun a v hv=>?_,fun l o p R a v hl=>by simp[St.none] at hl,hi.fresh.1,fun g i v q=>(s9 _ _ _).snap _ _ (hi.fresh.2.1 g i v q),hi.fresh.2.2.mono (s9 _ _ _).snap⟩
  rcases eN hv with q|⟨-,q⟩
  ·exact hi.snap a v q
  ·exact q
 have hr':gE (Φ.pF w (fun _=>True)) vs ms':=by
  refine⟨hr.1.trans hl,fun i m' hm'=>?_⟩
  have hlt:=(List.getElem?_eq_some_iff.1 hm').1
  obtain⟨m,hm⟩:∃m,ms[i]?=some m:=⟨_,List.getElem?_eq_getElem (by omega)⟩
  exact(hv i m m' hm hm').rel hi hs (hr.2 i m hm)
 refine(h.2 _ w vs hi' hr').mono ?_
 rintro e w' ⟨v,mv,σ',Φ',rfl,r1,i1,s1,hq⟩
 have hblk:∀k,k<w.heap.size→w'.heap[k]?=w.heap[k]?:=fun k hk=>s1.block k hk fun⟨l,o,p,a,_⟩=>by simp[St.none] at a
 have hown:∀l o,σ l=some o→dU Φ w' l o:=fun l o hl'=>by
  obtain⟨p,hp,hR⟩:=(hi.own l o hl').place
  exact(hi.own l o hl').mono (.refl Φ) fun p1 R h1 h2=>by
   rw[hp] at h1;cases h1
   exact hblk R (hR R h2)
 refine⟨v,mv,σ,Φ,rfl,(hf mv hq).rel r1,⟨hown,hi.inj,fun a u hu=>?_,hi.apart,hi.fresh⟩,⟨.refl Φ,s1.os,s1.tape,s1.output,s1.drawn,s1.size,fun k hk _=>hblk k hk,fun _ _ h=>.inl h,fun l o h=>.inl ⟨o,h⟩,fun _ h=>.inl h⟩,hq,rfl⟩
 have h1:=hi.snap a u hu
 have:=World.block_lt_of_cell? w a h1
 rw[World.eS (hblk _ this)]
 exact h1
theorem gR{P:Program}{g:FuncId}{ms:List MV}(ms':List MV){σ:St}{r:MV}{k:MV→St→Prop}(h:aA P g ms' St.none fun v _=>v=r)(hf:Flat r)(hl:ms.length=ms'.length)
 (hv:∀(i:Nat) (m m':MV),ms[i]?=some m→ms'[i]?=some m'→View σ m m')(hk:R (bQ r σ k)):R (cQ P g ms σ k):=by
 refine(aA.Ql (σ:=σ) h (fun _ e=>e ▸ hf) hl hv).mono ?_
 rintro v σ' ⟨rfl,rfl⟩
 exact hk
theorem bX{P:Program}{g:FuncId}{ms:List MV}{σa σ:St}{Q k:MV→St→Prop}(h:aA P g ms σa Q)(hle:σa.le σ)
 (hk:∀v σ',Q v σ'→(∀l o,σ' l=some o→σ l=none∨∃o',σa l=some o')→R (bQ v (σ'.over (σ.minus σa)) k)):R (cQ P g ms σ k):=by
 refine(h.frame hle).mono ?_
 rintro v σ1 ⟨σ',hq,rfl,hd⟩
 exact hk v σ' hq hd
theorem o5{σ σa:St}(h:σa.le σ):σa.over (σ.minus σa)=σ:=by
 funext l
 simp only[St.over,St.minus]
 cases ha:σa l with
 | none=>rfl
 | some o=>exact(h l o ha).symm
theorem dB{P:Program}{g:FuncId}{ms:List MV}{σa σ:St}{r:MV}{k:MV→St→Prop}(h:aA P g ms σa fun v σ'=>v=r∧σ'=σa)(hle:σa.le σ)(hk:R (bQ r σ k)):R (cQ P g ms σ k):=by
 refine bX h hle ?_
 rintro v σ' ⟨rfl,rfl⟩ -
 rw[o5 hle]
 exact hk
theorem a8(x y:St)(l:Nat)(o:aW):(x.set l o).over y=(x.over y).set l o:=by
 funext k
 simp only[St.over,St.set]
 by_cases h:k=l
 ·simp[h]
 ·simp[h]
theorem cT(y:St):St.none.over y=y:=rfl
theorem aA.seen{P:Program}{g:FuncId}{ms:List MV}{σ:St}{r:MV}(h:aA P g ms σ fun v σ'=>View σ' v r):aA P g ms σ fun v _=>v=r:=by
 refine aA.ghost (h.mono fun v σ' hv=>⟨r,St.none,?_,rfl⟩)
 exact bM.freeze σ' (St.le_refl _) (St.none_le _) (fun k o hk=>by simp[St.none] at hk) (fun p hp=>by
  simp only[List.mem_singleton] at hp
  subst hp
  simpa[cA] using hv)
theorem View.loose{σ:St}{e:Nat}{xs:List (List MV)}{t:Bool}:View σ (.lst e xs t) (.lst e xs false):=by
 cases t
 ·exact .same _
 ·exact .tight e xs
theorem View.two{σ:St}{a b a' b':MV}(h:View σ a a')(k:View σ b b'):View σ (.tup [a,b]) (.tup [a',b']):=by
 refine .tup rfl fun i m m' hm hm'=>?_
 match i with
 | 0=>simp only[List.getElem?_cons_zero,Option.some.injEq] at hm hm';subst hm;subst hm';exact h
 | 1=>simp only[List.getElem?_cons_succ,List.getElem?_cons_zero,Option.some.injEq] at hm hm';subst hm;subst hm';exact k
 | i+2=>simp at hm
theorem wT{σ:St}{K:Nat→Prop}(h:R (l5 σ K)):R (l5 σ K):=h
theorem wN{σ:St}{K:Nat→Prop}(h:∀l,σ l=none→R (K l)):R (l5 σ K):=h
theorem wS{σ:St}{l k:Nat}{o:aW}{p:Prop}(h:l≠k→k≠l→σ l=none→p):(σ.set k o) l=none→p:=wA h
theorem wI{c A B:Prop}(h1:c→R A)(h2:¬c→R B):R (mif c A B):=OE h1 h2
theorem wF{p:Prop}[Decidable p]{A B:Prop}(h1:p→R A)(h2:¬p→R B):R (iM (.bool (decide p)) A B):=Ic h1 h2
theorem wG{p:Prop}[Decidable p]{A B:Prop}(h1:p→R A)(h2:¬p→R B):R (bY (.bool (decide p)) true A B):=ET h1 h2
theorem wH{p:Prop}[Decidable p]{A B:Prop}(h1:¬p→R A)(h2:p→R B):R (bY (.bool (decide p)) false A B):=Co h1 h2
theorem wL{α:Type}{β:Type}:(∀a b:List α,(a++b).length=a.length+b.length)∧(∀(a:List α) (i:Nat),(a.take i).length=min i a.length)∧(∀(a:List α) (i:Nat),(a.drop i).length=a.length - i) ∧
  (∀(x:α) (a:List α),(x::a).length=a.length+1)∧([]:List α).length=0∧(∀(g:α→β) (a:List α),(a.map g).length=a.length)∧(∀(a:List α) (i:Nat) (x:α),(a.set i x).length=a.length) ∧
  (∀(n:Nat) (x:α),(List.replicate n x).length=n) :=
 ⟨fun _ _=>List.length_append,fun _ _=>List.length_take,fun _ _=>List.length_drop,fun _ _=>rfl,rfl,fun _ _=>List.length_map _,fun _ _ _=>List.length_set,fun _ _=>List.length_replicate⟩
theorem ddL{p:Prop}(h:p:=by first|decide|assumption|omega|(simp only[wL];omega)):p:=h
theorem up{P:Program}{g:FuncId}{ms:List MV}{σ:St}{r:MV}{k:MV→St→Prop}(h:aA P g ms St.none fun v _=>v=r)(hk:R (bQ r σ k)):R (cQ P g ms σ k):=aQ h hk
end

section
structure Eff where
 C:Prop
 kill:Option Nat
 upd:Option St
 new:Option aW
 v:Nat→MV→Prop
abbrev GF:=List Nat × (List aW→Option Eff)
def Eff.upl(e:Eff)(l:Nat):Option aW:=match e.upd with|some u=>u l|none=>none
def Eff.app(e:Eff)(σ:St):St:=fun l=>if (e.upl l).isSome=true then e.upl l else if e.kill=some l then none else σ l
theorem qJ{e:Eff}{l:Nat}(h:(e.upl l).isSome=true):∃p,e.upd=some p∧p l≠none:=by
 unfold Eff.upl at h
 cases hu:e.upd with
 | none=>rw[hu] at h;cases h
 | some p=>rw[hu] at h;exact⟨p,rfl,fun q=>by simp only[q] at h;cases h⟩
theorem DG{e:Eff}{l:Nat}(h:∀p,e.upd=some p→p l=none):e.upl l=none:=by
 unfold Eff.upl
 cases hu:e.upd with
 | none=>rfl
 | some p=>exact h p hu
def Eff.out(e:Eff)(U:Nat→Prop)(σ:St)(v:MV)(U':Nat→Prop)(σ':St):Prop :=
 match e.new with
 | none=>e.v 0 v∧U'=U∧σ'=e.app σ
 | some o=>∃l,¬U l∧e.v l v∧U'=(fun x=>x=l∨U x)∧σ'=(e.app σ).set l o
def gs(U:Nat→Prop)(σ:St)(g:GF)(k:MV→(Nat→Prop)→St→Prop):Prop :=
 ∃os e,g.1.map σ=os.map some∧g.2 os=some e∧e.C∧(∀l,∃v,e.v l v)∧∀v U' σ',e.out U σ v U' σ'→k v U' σ'
def Wf(g:GF):Prop:=∀os e,os.length=g.1.length→g.2 os=some e→(∀l,e.kill=some l→l∈g.1)∧(∀p,e.upd=some p→∀l,p l≠none→l∈g.1)
def jK(g:GF):Prop:=∀os e,os.length=g.1.length→g.2 os=some e→e.upd=none
def NoW(g:GF):Prop:=∀os e,os.length=g.1.length→g.2 os=some e→e.upd=none∧e.kill=none
def Dom(U:Nat→Prop)(σ:St):Prop:=∀l,σ l≠none→U l
def Fin(U:Nat→Prop):Prop:=∃n,∀l,n≤l→¬U l
theorem dE{e:Eff}(h:e.upd=none∧e.kill=none)(σ:St):e.app σ=σ:=by
 funext l;simp[Eff.app,Eff.upl,h.1,h.2]
theorem jC{rd:List Nat}{σ:St}{os:List aW}(h:rd.map σ=os.map some):os.length=rd.length:=by
 have:=congrArg List.length h;simpa using this.symm
theorem jD{rd:List Nat}{σ:St}{os:List aW}(h:rd.map σ=os.map some){l:Nat}(hl:l∈rd):σ l≠none:=by
 have:σ l∈rd.map σ:=List.mem_map_of_mem hl
 rw[h] at this
 obtain⟨o,_,ho⟩:=List.mem_map.1 this
 rw[←ho];simp
theorem map_inj{rd:List Nat}{σ σ':St}{os os':List aW}(h:rd.map σ=os.map some)(h':rd.map σ'=os'.map some)(he:∀l,l∈rd→σ l=σ' l):os=os':=by
 have:rd.map σ=rd.map σ':=List.map_congr_left he
 rw[h,h'] at this
 clear h h' he
 induction os generalizing os' with
 | nil=>cases os' with
  | nil=>rfl
  | cons a r=>simp at this
 | cons b r ih=>cases os' with
  | nil=>simp at this
  | cons a r' =>
   simp only[List.map_cons,List.cons.injEq,Option.some.injEq] at this
   rw[this.1,ih this.2]
theorem sY{U:Nat→Prop}{σ:St}{g:GF}{k k':MV→(Nat→Prop)→St→Prop}(h:gs U σ g k)(hd:Dom U σ)(hf:Fin U)(hk:∀v U' σ',Dom U' σ'→Fin U'→(∀l,U l→U' l)→k v U' σ'→k' v U' σ')(wf:Wf g):gs U σ g k':=by
 obtain⟨os,e,h1,h2,h3,h4,h5⟩:=h
 refine⟨os,e,h1,h2,h3,h4,fun v U' σ' ho=>?_⟩
 have hw:=wf os e (jC h1) h2
 have hdom:Dom U (e.app σ):=fun l hl=>by
  simp only[Eff.app] at hl
  split at hl
  ·rename_i hu
   obtain⟨p,hup,hp⟩:=qJ hu
   exact hd l (jD h1 (hw.2 p hup l hp))
  ·split at hl
   ·exact absurd rfl hl
   ·exact hd l hl
 refine hk v U' σ' ?_ ?_ ?_ (h5 v U' σ' ho)
 all_goals
  unfold Eff.out at ho
  split at ho
 ·obtain⟨-,rfl,rfl⟩:=ho;exact hdom
 ·obtain⟨l,-,-,rfl,rfl⟩:=ho
  intro k hk
  simp only[St.set] at hk
  split at hk
  ·rename_i e;exact .inl e
  ·exact .inr (hdom k hk)
 ·obtain⟨-,rfl,rfl⟩:=ho;exact hf
 ·obtain⟨l,-,-,rfl,rfl⟩:=ho
  obtain⟨n,hn⟩:=hf
  exact⟨max n (l+1),fun k hk q=>q.elim (fun e=>by omega) (hn k (by omega))⟩
 ·obtain⟨-,rfl,rfl⟩:=ho;exact fun _ h=>h
 ·obtain⟨l,-,-,rfl,rfl⟩:=ho;exact fun _ h=>.inr h
theorem MG{U U':Nat→Prop}{σ:St}{g:GF}{k:MV→(Nat→Prop)→St→Prop}(h:gs U σ g k)(hu:∀l,U l→U' l)(hk:∀v V V' σ,(∀l,V l→V' l)→k v V σ→k v V' σ):gs U' σ g k:=by
 obtain⟨os,e,h1,h2,h3,h4,h5⟩:=h
 refine⟨os,e,h1,h2,h3,h4,fun v V σ' ho=>?_⟩
 unfold Eff.out at ho h5
 split at ho
 ·rename_i hn
  obtain⟨a,rfl,rfl⟩:=ho
  refine hk v U _ _ hu (h5 v U _ ?_)
  rw[hn];exact⟨a,rfl,rfl⟩
 ·rename_i o hn
  obtain⟨l,a,b,rfl,rfl⟩:=ho
  refine hk v (fun x=>x=l∨U x) _ _ (fun x hx=>hx.imp id (hu x)) (h5 v _ _ ?_)
  rw[hn];exact⟨l,fun q=>a (hu l q),b,rfl,rfl⟩
theorem Lj{e:Eff}{U:Nat→Prop}{σ:St}(hf:Fin U)(hv:∀l,∃v,e.v l v)(rd:List Nat):∃v U' σ',e.out U σ v U' σ'∧∀l,l∈rd→σ' l=(e.app σ) l:=by
 unfold Eff.out
 cases e.new with
 | none=>obtain⟨v,hv⟩:=hv 0;exact⟨v,U,e.app σ,⟨hv,rfl,rfl⟩,fun _ _=>rfl⟩
 | some o =>
  obtain⟨n,hn⟩:=hf
  have key:∃m,∀l,l∈rd→l<m:=by
   clear hv
   induction rd with
   | nil=>exact⟨0,by simp⟩
   | cons a r ih =>
    obtain⟨m,hm⟩:=ih
    refine⟨max m (a+1),fun l hl=>?_⟩
    rcases List.mem_cons.1 hl with q|q
    ·omega
    ·have:=hm l q;omega
  obtain⟨m,hm⟩:=key
  obtain⟨v,hv⟩:=hv (max n m)
  refine⟨v,_,_,⟨max n m,hn _ (by omega),hv,rfl,rfl⟩,fun l hl=>?_⟩
  have:=hm l hl
  exact aM _ _ _ _ (by omega)
theorem sT{e:Eff}{σ:St}{l:Nat}{o:aW}(hk:e.kill≠some l)(hu:∀p,e.upd=some p→p l=none):e.app (σ.set l o)=(e.app σ).set l o:=by
 funext k
 simp only[Eff.app,St.set]
 by_cases h:k=l
 ·subst h
  simp[DG hu,hk]
 ·simp only[if_neg h]
theorem MI{U:Nat→Prop}{σ:St}{gx gy:GF}{K:MV→MV→(Nat→Prop)→St→Prop}(hd:Dom U σ)(hf:Fin U)(wx:Wf gx)(wy:Wf gy)
 (hc:((gy.1=[]∨jK gx)∧(gx.1=[]∨NoW gy)∧(NoW gx∨NoW gy))∨∀l,l∈gx.1→l∉gy.1)
 (hK:∀v u V V' σ,(∀l,V l→V' l)→K v u V σ→K v u V' σ)
 (h:gs U σ gx fun v U1 σ1=>gs U1 σ1 gy fun u U2 σ2=>K v u U2 σ2) :
  gs U σ gy fun u U1 σ1=>∀U1',(∀l,U1 l→U1' l)→gs U1' σ1 gx fun v U2 σ2=>K v u U2 σ2:=by
 obtain⟨ox,ex,x1,x2,x3,x4,x5⟩:=h
 have wx':=wx ox ex (jC x1) x2
 -- what y reads is there already
 have agree:∀v U1 σ1,ex.out U σ v U1 σ1→∀oy:List aW,gy.1.map σ1=oy.map some→(∀l,l∈gy.1→σ1 l=(ex.app σ) l)→∀l,l∈gy.1→σ1 l=σ l:=by
  intro v U1 σ1 ho oy hoy hsame l hl
  rw[hsame l hl]
  rcases hc.imp_left (·.1) with(c|c)|c
  ·rw[c] at hl;cases hl
  ·have hu:=c ox ex (jC x1) x2
   have hne:=jD hoy hl
   rw[hsame l hl] at hne
   have hun:ex.upl l=none:=DG fun p hp=>by rw[hu] at hp;cases hp
   simp only[Eff.app,hun,Option.isSome_none,Bool.false_eq_true,if_false] at hne ⊢
   split at hne
   ·exact absurd rfl hne
   ·rename_i q2;rw[if_neg q2]
  ·simp only[Eff.app]
   rw[if_neg,if_neg]
   ·intro e;exact c l (wx'.1 l e) hl
   ·intro e
    obtain⟨p,hp,he⟩:=qJ e
    exact c l (wx'.2 p hp l he) hl
 obtain⟨v0,V0,σ0,out0,same0⟩:=Lj (σ:=σ) hf x4 gy.1
 obtain⟨oy,ey,y1,y2,y3,y4,y5⟩:=x5 v0 V0 σ0 out0
 have ag0:=agree v0 V0 σ0 out0 oy y1 same0
 have y1':gy.1.map σ=oy.map some:=by rw[←y1];exact(List.map_congr_left ag0).symm
 have wy':=wy oy ey (jC y1) y2
 refine⟨oy,ey,y1',y2,y3,y4,fun u U1 σ1 hoy U1' hU1=>?_⟩
 -- what x reads is there still
 have hx1:gx.1.map σ1=ox.map some:=by
  rw[←x1]
  refine List.map_congr_left fun l hl=>?_
  rcases hc.imp_left (·.2.1) with(c|c)|c
  ·rw[c] at hl;cases hl
  ·have hw:=c oy ey (jC y1) y2
   unfold Eff.out at hoy
   split at hoy
   ·obtain⟨-,-,rfl⟩:=hoy;rw[dE hw]
   ·obtain⟨k,q1,q2,q3,rfl⟩:=hoy
    rw[dE hw]
    refine aM _ _ _ _ (fun e=>q1 ?_)
    subst e
    exact hd l (jD x1 hl)
  ·have hap:(ey.app σ) l=σ l:=by
    simp only[Eff.app]
    rw[if_neg,if_neg]
    ·intro e;exact c l hl (wy'.1 l e)
    ·intro e
     obtain⟨p,hp,he⟩:=qJ e
     exact c l hl (wy'.2 p hp l he)
   unfold Eff.out at hoy
   split at hoy
   ·obtain⟨-,-,rfl⟩:=hoy;exact hap
   ·obtain⟨k,q1,q2,q3,rfl⟩:=hoy
    rw[←hap]
    refine aM _ _ _ _ (fun e=>q1 ?_)
    subst e
    exact hd l (jD x1 hl)
 refine⟨ox,ex,hx1,x2,x3,x4,fun v U2 σ2 hox=>?_⟩
 -- the two in their old order,at the same places
 have noty:∀l,¬U l→ey.kill≠some l∧∀p,ey.upd=some p→p l=none:=fun l hl =>
  ⟨fun e=>hl (hd l (jD y1' (wy'.1 l e))),fun p hp=>Classical.byContradiction fun e=>hl (hd l (jD y1' (wy'.2 p hp l e)))⟩
 have notx:∀l,¬U l→ex.kill≠some l∧∀p,ex.upd=some p→p l=none:=fun l hl =>
  ⟨fun e=>hl (hd l (jD x1 (wx'.1 l e))),fun p hp=>Classical.byContradiction fun e=>hl (hd l (jD x1 (wx'.2 p hp l e)))⟩
 have comm:ex.app (ey.app σ)=ey.app (ex.app σ):=by
  rcases hc.imp_left (·.2.2) with(c|c)|c
  ·rw[dE (c ox ex (jC x1) x2),dE (c ox ex (jC x1) x2)]
  ·rw[dE (c oy ey (jC y1) y2),dE (c oy ey (jC y1) y2)]
  ·funext l
   by_cases hx:l∈gx.1
   ·have hy:=c l hx
    have n1:¬(ey.upl l).isSome=true:=fun e=>by
     obtain⟨p,hp,he⟩:=qJ e
     exact hy (wy'.2 p hp l he)
    have n2:ey.kill≠some l:=fun e=>hy (wy'.1 l e)
    simp only[Eff.app,if_neg n1,if_neg n2]
   ·have n1:¬(ex.upl l).isSome=true:=fun e=>by
     obtain⟨p,hp,he⟩:=qJ e
     exact hx (wx'.2 p hp l he)
    have n2:ex.kill≠some l:=fun e=>hx (wx'.1 l e)
    simp only[Eff.app,if_neg n1,if_neg n2]
 have finish:∀V σ',ex.out U σ v V σ'→(∀l,l∈gy.1→σ' l=(ex.app σ) l)→∀W σ'',ey.out V σ' u W σ''→K v u W σ'':=by
  intro V σ' ho hsame W σ'' hoy'
  obtain⟨oy2,ey2,z1,z2,z3,z4,z5⟩:=x5 v V σ' ho
  have ag:=agree v V σ' ho oy2 z1 hsame
  have:oy=oy2:=map_inj y1' z1 (fun l hl=>(ag l hl).symm)
  subst this
  rw[y2] at z2;cases z2
  exact z5 u W σ'' hoy'
 have hmem:∀l,¬U l→l∉gy.1:=fun l hl q=>hl (hd l (jD y1' q))
 unfold Eff.out at hox hoy
 cases hnx:ex.new with
 | none =>
  rw[hnx] at hox
  obtain⟨a1,rfl,rfl⟩:=hox
  have hout:ex.out U σ v U (ex.app σ):=by unfold Eff.out;rw[hnx];exact⟨a1,rfl,rfl⟩
  cases hny:ey.new with
  | none =>
   rw[hny] at hoy
   obtain⟨b1,rfl,rfl⟩:=hoy
   refine hK v u U1 U2 _ hU1 (finish _ _ hout (fun _ _=>rfl) _ _ ?_)
   unfold Eff.out;rw[hny];exact⟨b1,rfl,comm⟩
  | some o =>
   rw[hny] at hoy
   obtain⟨l,b0,b1,rfl,rfl⟩:=hoy
   refine hK v u _ U2 _ hU1 (finish _ _ hout (fun _ _=>rfl) _ _ ?_)
   unfold Eff.out;rw[hny]
   refine⟨l,b0,b1,rfl,?_⟩
   rw[sT (notx l b0).1 (notx l b0).2,comm]
 | some p =>
  rw[hnx] at hox
  obtain⟨k,a0,a1,rfl,rfl⟩:=hox
  have hout:∀W:Nat→Prop,(∀l,U l→W l)→¬W k→ex.out U σ v (fun x=>x=k∨U x) ((ex.app σ).set k p):=fun W hW hk=>by
   unfold Eff.out;rw[hnx];exact⟨k,fun q=>hk (hW k q),a1,rfl,rfl⟩
  cases hny:ey.new with
  | none =>
   rw[hny] at hoy
   obtain⟨b1,rfl,rfl⟩:=hoy
   have hk:¬U1 k:=fun q=>a0 (hU1 k q)
   refine hK v u (fun x=>x=k∨U1 x) _ _ (fun l q=>q.imp id (hU1 l)) (finish _ _ (hout U1' hU1 a0) (fun l hl=>aM _ _ _ _ (fun e=>hmem k hk (e ▸ hl))) _ _ ?_)
   unfold Eff.out;rw[hny]
   refine⟨b1,rfl,?_⟩
   rw[comm,sT (noty k hk).1 (noty k hk).2]
  | some o =>
   rw[hny] at hoy
   obtain⟨l,b0,b1,rfl,rfl⟩:=hoy
   have hk:¬U k:=fun q=>a0 (hU1 k (.inr q))
   have hkl:k≠l:=fun e=>a0 (hU1 k (.inl e))
   refine hK v u (fun x=>x=l∨(x=k∨U x)) _ _ (fun x q=>?_) (finish _ _ (hout U1' (fun x q=>hU1 x (.inr q)) a0) (fun x hx=>aM _ _ _ _ (fun e=>hmem k hk (e ▸ hx))) _ _ ?_)
   ·rcases q with q|q|q
    ·exact .inr (hU1 x (.inl q))
    ·exact .inl q
    ·exact .inr (hU1 x (.inr q))
   ·unfold Eff.out;rw[hny]
    refine⟨l,fun q=>q.elim (fun e=>hkl e.symm) b0,b1,rfl,?_⟩
    rw[sT (notx l b0).1 (notx l b0).2,comm,sT (noty k hk).1 (noty k hk).2,set_comm _ _ _ (Ne.symm hkl)]
end

section
def St.ofList:List Nat→List aW→St
 | l::ls,o::os=>(St.ofList ls os).set l o
 | _,_=>St.none
structure Fact where
 rd:List Nat
 q:MV→Prop
 new:Option (List aW × (Nat→MV))
abbrev bR:=FuncId→List MV→Option Fact
def bS:GF:=([],fun _=>none)
def eD(pv:PV):GF:=([],fun _=>pv.map fun x=>⟨x.1,none,none,none,fun _ u=>u=x.2⟩)
def fS(C:Prop)(o:aW)(v:Nat→MV):GF:=([],fun _=>some ⟨C,none,none,some o,fun l u=>u=v l⟩)
def jU:MV→List Nat
 | .vec _ l _ _=>[l]
 | _=>[]
def Dy(os:List aW):St:=fun _=>os.head?
def mF(P:Program)(t:TypeId):MV→GF
 | .ptr l i o=>([l],fun os=>match os with
  | [.row _ _ xs]=>some ⟨(td P t).ok=true∧i<xs.length∧o+(td P t).size≤(xs.getD i []).length∧0<(td P t).size,none,none,none,fun _ u=>u=dA (td P t) (xs.getD i []) o⟩
  | _=>none)
 | .cptr cs=>eD (some ((td P t).ok=true∧(td P t).size≤cs.length∧0<(td P t).size,dA (td P t) cs 0))
 | _=>bS
def lH(P:Program)(t:TypeId)(x y:MV):GF :=
 match x with
 | .ptr l i o=>([l],fun os=>match os with
  | [.row tt e xs]=>some ⟨(td P t).ok=true∧i<xs.length∧y.cells.all MV.aN=true∧y.cells.length=(td P t).size∧o+y.cells.length≤(xs.getD i []).length,none,some (St.none.set l (.row tt e (xs.set i (laid (xs.getD i []) o y.cells)))),none,fun _ u=>u=.junk⟩
  | _=>none)
 | _=>bS
def j7(P:Program)(t xt:TypeId)(s x:MV):GF :=
 match (td P t).k with
 | .slice el=>match s with
  | .aZ=>(jU x,fun os=>match gO (Dy os) (td P el).size x with
   | some ys=>some ⟨(td P xt).k.eW=true∧(td P el).zok=true∧Fits ys.length (td P el).bytes,none,none,some (.row el (td P el).size ys),fun l u=>u=.vec (td P el).size l 0 ys.length⟩
   | none=>none)
  | .lst e xs true=>(jU x,fun os=>match gO (Dy os) (td P el).size x with
   | some ys=>some ⟨(td P xt).k.eW=true∧(td P el).zok=true∧e=(td P el).size∧(xs=[]∨0<ys.length)∧Fits (xs.length+ys.length) (td P el).bytes,none,none,some (.row el (td P el).size (xs++ys)),fun l u=>u=.vec (td P el).size l 0 (xs.length+ys.length)⟩
   | none=>none)
  | .vec e l lo n=>(l::jU x,fun os=>match os with
   | .row tt e' xs::os=>match gO (Dy os) (td P el).size x with
    | some ys=>some ⟨(td P xt).k.eW=true∧(td P el).zok=true∧e=(td P el).size∧e'=(td P el).size∧tt=el∧lo=0∧lo+n≤xs.length∧Fits (n+ys.length) (td P el).bytes,some l,none,some (.row el (td P el).size (eO xs lo n ys)),fun l' u=>u=.vec (td P el).size l' 0 (n+ys.length)⟩
    | none=>none
   | _=>none)
  | _=>bS
 | _=>bS
def dI(P:Program)(ρ:Operand→MV)(t:TypeId)(len:Nat)(parts:Array (Nat × Operand)):GF :=
 match (td P t).k with
 | .slice el=>fS ((td P el).zok=true∧parts.toList.map (·.1)=List.range len∧(parts.toList.all fun p=>(ρ p.2).cells.all MV.aN&&(ρ p.2).cells.length==(td P el).size)=true∧len * (td P el).size≤16777216∧len≤16777216)
   (.row el (td P el).size (parts.toList.map fun p=>(ρ p.2).cells)) (fun l=>.vec (td P el).size l 0 len)
 | _=>bS
def eT(P:Program)(t:TypeId)(x y:MV):GF :=
 match (td P t).k,x,y with
 | .slice el,.int .i64 n,.int .i64 c=>fS ((td P el).zok=true∧0≤n∧n≤c∧Fits c.toNat (td P el).bytes) (.row el (td P el).size (List.replicate n.toNat (td P el).zero)) (fun l=>.vec (td P el).size l 0 n.toNat)
 | _,_,_=>bS
def gK(P:Program)(s d:TypeId)(x:MV):GF :=
 match (td P s).k,(td P d).k,x with
 | .str,.slice el,.str b=>fS ((td P el).k=.int .u8∧FZ el=true∧b.size≤140737488355328) (.row el 1 (b.toList.map fun c=>[.int .u8 (c.toNat:Int)])) (fun l=>.vec 1 l 0 b.size)
 | .slice el,.str,.str _=>bS
 | .slice el,.str,x=>(jU x,fun os=>match gO (Dy os) 1 x with
  | some ys=>some ⟨(td P el).k=.int .u8∧ys.all isByte=true,none,none,none,fun _ u=>u=.str (bytesOf ys)⟩
  | none=>none)
 | _,_,x=>eD (pV P s d x)
def MF(P:Program)(g:FuncId)(ms:List MV)(ts:List aW)(u:Nat→MV):GF:=match ts with
 | [o]=>fS (aA P g ms St.none fun v σ'=>∃l,v=u l∧σ'=St.none.set l o) o u
 | _=>bS
def fY(P:Program)(C:bR)(g:FuncId)(ms:List MV):GF :=
 match C g ms with
 | some ⟨rd,q,none⟩=>(rd,fun os=>some ⟨aA P g ms (St.ofList rd os) (fun v σ'=>q v∧σ'=St.ofList rd os),none,none,none,fun _ u=>q u⟩)
 | some ⟨[],_,some (ts,u)⟩=>MF P g ms ts u
 | some ⟨l::rd,_,some (ts,u)⟩=>(l::rd,fun os=>some ⟨aA P g ms (St.ofList (l::rd) os) (fun v σ'=>v=u l∧σ'=(St.ofList (l::rd) ts).over (St.ofList (l::rd) os)),none,some (St.ofList (l::rd) ts),none,fun _ w=>w=u l⟩)
 | _=>bS
def jA(P:Program)(t:TypeId)(m x:MV)(ok:Bool):GF :=
 match (td P t).k,m,x with
 | .map kt et,.mapv l,.int kd n=>([l],fun os=>match os with
  | [.mp es]=>some ⟨(td P kt).k=.int kd∧(td P et).zok=true∧(es.all fun p=>isK kd p.1)=true,none,none,none,fun _ u=>u=if ok=true then .tup [(cB n es).getD (rS (td P et)),.bool (cB n es).isSome] else(cB n es).getD (rS (td P et))⟩
  | _=>none)
 | _,_,_=>bS
def lF(P:Program)(t:TypeId)(m x y:MV):GF :=
 match (td P t).k,m,x with
 | .map kt _,.mapv l,.int kd n=>([l],fun os=>match os with
  | [.mp es]=>some ⟨(td P kt).k=.int kd∧(es.all fun p=>isK kd p.1)=true,none,some (St.none.set l (.mp (cM kd n y es))),none,fun _ u=>u=.junk⟩
  | _=>none)
 | _,_,_=>bS
def Pl(C:bR):Prop:=∀g ms rd q x,C g ms=some ⟨rd,q,some x⟩→rd=[]
def bR.pl(C:bR):bR:=fun g ms=>(C g ms).map fun F=>match F with
 | ⟨rd,q,none⟩=>⟨rd,q,none⟩
 | ⟨_,q,some x⟩=>⟨[],q,some x⟩
theorem bR.GD(C:bR):Pl C.pl:=by
 intro g ms rd q x h
 unfold bR.pl at h
 cases hC:C g ms with
 | none=>rw[hC] at h;cases h
 | some F =>
  rw[hC] at h
  obtain⟨rd',q',n⟩:=F
  cases n with
  | none=>simp at h
  | some y=>simp at h;exact h.1.symm ▸ rfl
inductive gF where
 | no
 | all
 | these (L:List FuncId)
def gF.stays:gF→Operand→Bool
 | .no,_=>true
 | .these L,.func g=>!L.contains g
 | _,_=>false
def gF.may:gF→FuncId→Prop
 | .no,_=>False
 | .all,_=>True
 | .these L,g=>g∈L
def PlU(u:gF)(C:bR):Prop:=∀g ms rd q x,C g ms=some ⟨rd,q,some x⟩→rd=[]∨u.may g
theorem Pl.u{C:bR}(h:Pl C){u:gF}:PlU u C:=fun g ms rd q x e=>.inl (h g ms rd q x e)
def gop(P:Program)(C:bR)(f:FR):Op→GF
 | .alloc t=>fS ((td P t).zok=true) (.row t (td P t).size [(td P t).zero]) (fun l=>.ptr l 0 0)
 | .box t x=>fS ((aH f x).cells.all MV.aN=true) (.row t (aH f x).cells.length [(aH f x).cells]) (fun l=>.ptr l 0 0)
 | .load t x=>mF P t (aH f x)
 | .store t x y=>lH P t (aH f x) (aH f y)
 | .lookup t m x ok=>jA P t (aH f m) (aH f x) ok
 | .mapUpdate t m x y=>lF P t (aH f m) (aH f x) (aH f y)
 | .buildSlice t len parts=>dI P (aH f) t len parts
 | .makeSlice t x y=>eT P t (aH f x) (aH f y)
 | .convert s d x=>gK P s d (aH f x)
 | .call ⟨.builtin .append,args,ts⟩=>match args.toList,ts.toList with
  | [s,x],[t,xt]=>j7 P t xt (aH f s) (aH f x)
  | _,_=>bS
 | .call ⟨.builtin b,args,ts⟩=>if ts.toList.length=args.toList.length then eD (dM P b ts.toList.toArray (args.toList.map (aH f))) else bS
 | .call ⟨.value x,args,ts⟩=>match aH f x with
  | .fn (.func g) ms ns=>fY P C g (ms++args.toList.map (aH f)++ns)
  | _=>bS
 | .call ⟨.invoke _ _,_,_⟩=>bS
 | .defer _=>bS
 | op=>eD (qop P f op)
theorem vD:∀{ls:List Nat} {os:List aW} {k:Nat},St.ofList ls os k≠none→k∈ls
 | [],_,k,h=>absurd rfl h
 | l::ls,[],k,h=>absurd rfl h
 | l::ls,o::os,k,h=>by
  by_cases e:k=l
  ·subst e;exact List.mem_cons_self ..
  ·refine List.mem_cons_of_mem _ (vD (os:=os) fun q=>h ?_)
   simp only[St.ofList]
   rw[aM _ _ _ _ e];exact q
theorem Mc{l:Nat}{o:aW}{rd:List Nat}:∀p:St,some (St.none.set l o)=some p→∀k,p k≠none→k∈l::rd:=fun p h k hk=>by
 cases h
 by_cases e:k=l
 ·subst e;exact List.mem_cons_self ..
 ·exact absurd (aM _ _ _ _ e) hk
theorem cK(pv:PV):Wf (eD pv)∧NoW (eD pv)∧jK (eD pv)∧(eD pv).1=[]:=by
 have key:∀os e,(eD pv).2 os=some e→e.upd=none∧e.kill=none:=fun os e h=>by
  simp only[eD,Option.map_eq_some_iff] at h
  obtain⟨x,-,rfl⟩:=h
  exact⟨rfl,rfl⟩
 exact⟨fun os e _ h=>by simp[key os e h],fun os e _ h=>key os e h,fun os e _ h=>(key os e h).1,rfl⟩
theorem dQ(C:Prop)(o:aW)(v:Nat→MV):Wf (fS C o v)∧NoW (fS C o v)∧jK (fS C o v)∧(fS C o v).1=[]:=by
 have key:∀os e,(fS C o v).2 os=some e→e.upd=none∧e.kill=none:=fun os e h=>by
  simp only[fS,Option.some.injEq] at h
  subst h;exact⟨rfl,rfl⟩
 exact⟨fun os e _ h=>by simp[key os e h],fun os e _ h=>key os e h,fun os e _ h=>(key os e h).1,rfl⟩
theorem bA:Wf bS∧NoW bS∧jK bS∧bS.1=[]:=⟨fun os e _ h=>by simp[bS] at h,fun os e _ h=>by simp[bS] at h,fun os e _ h=>by simp[bS] at h,rfl⟩
def rd0:Op→Bool
 | .load ..|.store ..|.lookup ..|.mapUpdate ..|.convert ..|.call ⟨.builtin .append,_,_⟩|.call ⟨.value _,_,_⟩=>false
 | _=>true
def vA(u:gF):Op→Bool
 | .store ..|.mapUpdate ..=>false
 | .call ⟨.value x,_,_⟩=>u.stays x
 | _=>true
def noW(u:gF):Op→Bool
 | .store ..|.mapUpdate ..|.call ⟨.builtin .append,_,_⟩=>false
 | .call ⟨.value x,_,_⟩=>u.stays x
 | _=>true
theorem Bi(P:Program)(t:TypeId)(x:MV):Wf (mF P t x)∧NoW (mF P t x)∧jK (mF P t x):=by
 unfold mF
 split
 ·have key:∀(os:List aW) (e:Eff) (l i o:Nat),(match os with
   | [.row _ _ xs]=>some (⟨(td P t).ok=true∧i<xs.length∧o+(td P t).size≤(xs.getD i []).length∧0<(td P t).size,none,none,none,fun _ u=>u=dA (td P t) (xs.getD i []) o⟩:Eff)
   | _=>none)=some e→e.upd=none∧e.kill=none:=by
   intro os e l i o h
   split at h
   ·cases h;exact⟨rfl,rfl⟩
   ·cases h
  exact⟨fun os e _ h=>by simp[key os e 0 _ _ h],fun os e _ h=>key os e 0 _ _ h,fun os e _ h=>(key os e 0 _ _ h).1⟩
 ·exact⟨(cK _).1,(cK _).2.1,(cK _).2.2.1⟩
 ·exact⟨bA.1,bA.2.1,bA.2.2.1⟩
theorem Md(P:Program)(t:TypeId)(x y:MV):Wf (lH P t x y):=by
 unfold lH
 split
 ·intro os e _ h
  simp only at h
  split at h
  ·cases h;exact⟨fun l h=>by(cases h),Mc⟩
  ·cases h
 ·exact bA.1
theorem zS(P:Program)(t xt:TypeId)(s x:MV):Wf (j7 P t xt s x)∧jK (j7 P t xt s x):=by
 unfold j7
 split
 ·split
  ·refine⟨fun os e _ h=>?_,fun os e _ h=>?_⟩ <;>
   ·simp only at h
    split at h
    ·cases h;simp
    ·cases h
  ·refine⟨fun os e _ h=>?_,fun os e _ h=>?_⟩ <;>
   ·simp only at h
    split at h
    ·cases h;simp
    ·cases h
  ·refine⟨fun os e _ h=>?_,fun os e _ h=>?_⟩ <;>
   ·simp only at h
    split at h
    ·split at h
     ·cases h;simp
     ·cases h
    ·cases h
  ·exact⟨bA.1,bA.2.2.1⟩
 ·exact⟨bA.1,bA.2.2.1⟩
theorem pJ(P:Program)(s d:TypeId)(x:MV):Wf (gK P s d x)∧NoW (gK P s d x)∧jK (gK P s d x):=by
 unfold gK
 split
 ·exact⟨(dQ _ _ _).1,(dQ _ _ _).2.1,(dQ _ _ _).2.2.1⟩
 ·exact⟨bA.1,bA.2.1,bA.2.2.1⟩
 ·refine⟨fun os e _ h=>?_,fun os e _ h=>?_,fun os e _ h=>?_⟩ <;>
  ·simp only at h
   split at h
   ·cases h;simp
   ·cases h
 ·exact⟨(cK _).1,(cK _).2.1,(cK _).2.2.1⟩
theorem Bh(P:Program)(C:bR)(g:FuncId)(ms:List MV):Wf (fY P C g ms)∧((∀rd q x,C g ms=some ⟨rd,q,some x⟩→rd=[])→NoW (fY P C g ms)∧jK (fY P C g ms)):=by
 unfold fY
 split
 ·refine⟨fun os e _ h=>?_,fun _=>⟨fun os e _ h=>?_,fun os e _ h=>?_⟩⟩ <;>
  ·simp only[Option.some.injEq] at h
   subst h;simp
 ·unfold MF
  split
  ·exact⟨(dQ _ _ _).1,fun _=>⟨(dQ _ _ _).2.1,(dQ _ _ _).2.2.1⟩⟩
  ·exact⟨bA.1,fun _=>⟨bA.2.1,bA.2.2.1⟩⟩
 ·rename_i l rd q ts u hC
  refine⟨fun os e _ h=>?_,fun hp=>?_⟩
  ·simp only[Option.some.injEq] at h
   subst h
   exact⟨fun l h=>by(cases h),fun p h k hk=>by cases h;exact vD hk⟩
  ·have:=hp _ _ _ hC;cases this
 ·exact⟨bA.1,fun _=>⟨bA.2.1,bA.2.2.1⟩⟩
theorem iI(P:Program)(ρ:Operand→MV)(t:TypeId)(len:Nat)(parts:Array (Nat × Operand)):Wf (dI P ρ t len parts)∧NoW (dI P ρ t len parts)∧jK (dI P ρ t len parts)∧(dI P ρ t len parts).1=[]:=by
 unfold dI
 split
 ·exact dQ _ _ _
 ·exact bA
theorem jH(P:Program)(t:TypeId)(x y:MV):Wf (eT P t x y)∧NoW (eT P t x y)∧jK (eT P t x y)∧(eT P t x y).1=[]:=by
 unfold eT
 split
 ·exact dQ _ _ _
 ·exact bA
theorem rR(P:Program)(t:TypeId)(m x:MV)(ok:Bool):Wf (jA P t m x ok)∧NoW (jA P t m x ok)∧jK (jA P t m x ok):=by
 unfold jA
 split
 ·refine⟨fun os e _ h=>?_,fun os e _ h=>?_,fun os e _ h=>?_⟩ <;>
  ·simp only at h
   split at h
   ·cases h;simp
   ·cases h
 ·exact⟨bA.1,bA.2.1,bA.2.2.1⟩
theorem JA(P:Program)(t:TypeId)(m x y:MV):Wf (lF P t m x y):=by
 unfold lF
 split
 ·intro os e _ h
  simp only at h
  split at h
  ·cases h;exact⟨fun l h=>by(cases h),Mc⟩
  ·cases h
 ·exact bA.1
theorem FM(P:Program)(C:bR){u:gF}(hu:PlU u C)(f:FR)(op:Op):Wf (gop P C f op)∧(vA u op=true→jK (gop P C f op))∧(noW u op=true→NoW (gop P C f op))∧(rd0 op=true→(gop P C f op).1=[]):=by
 cases op
 case load t x=>exact⟨(Bi _ _ _).1,fun _=>(Bi _ _ _).2.2,fun _=>(Bi _ _ _).2.1,fun h=>by simp[rd0] at h⟩
 case store t x y=>exact⟨Md _ _ _ _,fun h=>by simp[vA] at h,fun h=>by simp[noW] at h,fun h=>by simp[rd0] at h⟩
 case convert s d x=>exact⟨(pJ _ _ _ _).1,fun _=>(pJ _ _ _ _).2.2,fun _=>(pJ _ _ _ _).2.1,fun h=>by simp[rd0] at h⟩
 case lookup t m x ok=>exact⟨(rR _ _ _ _ _).1,fun _=>(rR _ _ _ _ _).2.2,fun _=>(rR _ _ _ _ _).2.1,fun h=>by simp[rd0] at h⟩
 case mapUpdate t m x y=>exact⟨JA _ _ _ _ _,fun h=>by simp[vA] at h,fun h=>by simp[noW] at h,fun h=>by simp[rd0] at h⟩
 case alloc t=>exact⟨(dQ _ _ _).1,fun _=>(dQ _ _ _).2.2.1,fun _=>(dQ _ _ _).2.1,fun _=>rfl⟩
 case box t x=>exact⟨(dQ _ _ _).1,fun _=>(dQ _ _ _).2.2.1,fun _=>(dQ _ _ _).2.1,fun _=>rfl⟩
 case buildSlice t n p=>exact⟨(iI _ _ _ _ _).1,fun _=>(iI _ _ _ _ _).2.2.1,fun _=>(iI _ _ _ _ _).2.1,fun _=>(iI _ _ _ _ _).2.2.2⟩
 case makeSlice t x y=>exact⟨(jH _ _ _ _).1,fun _=>(jH _ _ _ _).2.2.1,fun _=>(jH _ _ _ _).2.1,fun _=>(jH _ _ _ _).2.2.2⟩
 case defer c=>exact⟨bA.1,fun _=>bA.2.2.1,fun _=>bA.2.1,fun _=>rfl⟩
 case call c =>
  obtain⟨callee,args,ts⟩:=c
  cases callee with
  | value x =>
   simp only[gop]
   split
   ·rename_i g ms ns hx
    have hp:u.stays x=true→∀rd q y,C g (ms++args.toList.map (aH f)++ns)=some ⟨rd,q,some y⟩→rd=[]:=fun h rd q y e=>by
     rcases hu _ _ _ _ _ e with q1|q1
     ·exact q1
     ·cases u with
      | no=>exact q1.elim
      | all=>simp[gF.stays] at h
      | these L =>
       cases x with
       | func g0 =>
        have:g0=g:=by simp[aH] at hx;exact hx.1
        subst this
        simp[gF.stays] at h
        exact absurd q1 h
       | _=>simp[gF.stays] at h
    exact⟨(Bh _ _ _ _).1,fun h=>((Bh _ _ _ _).2 (hp (by simpa[vA] using h))).2,fun h=>((Bh _ _ _ _).2 (hp (by simpa[noW] using h))).1,fun h=>by simp[rd0] at h⟩
   ·exact⟨bA.1,fun _=>bA.2.2.1,fun _=>bA.2.1,fun _=>rfl⟩
  | invoke r m=>exact⟨bA.1,fun _=>bA.2.2.1,fun _=>bA.2.1,fun _=>rfl⟩
  | builtin b =>
   by_cases hb:b=.append
   ·subst hb
    simp only[gop]
    split
    ·exact⟨(zS _ _ _ _ _).1,fun _=>(zS _ _ _ _ _).2,fun h=>by simp[noW] at h,fun h=>by simp[rd0] at h⟩
    ·exact⟨bA.1,fun _=>bA.2.2.1,fun _=>bA.2.1,fun _=>rfl⟩
   ·have:gop P C f (.call ⟨.builtin b,args,ts⟩)=if ts.toList.length=args.toList.length then eD (dM P b ts.toList.toArray (args.toList.map (aH f))) else bS:=by
     cases b<;>first|rfl|exact absurd rfl hb
    rw[this]
    split
    ·exact⟨(cK _).1,fun _=>(cK _).2.2.1,fun _=>(cK _).2.1,fun _=>rfl⟩
    ·exact⟨bA.1,fun _=>bA.2.2.1,fun _=>bA.2.1,fun _=>rfl⟩
 all_goals exact⟨(cK _).1,fun _=>(cK _).2.2.1,fun _=>(cK _).2.1,fun _=>rfl⟩
end
end Go.Proofs.YtppdgejjmhdjhaaGreatDoor
