/- Parts of the proof; conditions: as its theorems name them. -/
import Derived.Test.YtppdgejjmhdjhaaGreatDoorM9o
import Derived.Test.YtppdgejjmhdjhaaGreatDoorM9q
set_option linter.unusedVariables false
set_option linter.unusedSimpArgs false
set_option maxHeartbeats 8000000
set_option maxRecDepth 100000
namespace Go.Proofs.YtppdgejjmhdjhaaGreatDoor
section
abbrev VY(a:Int):Prop:=-9223372036854775808≤a∧a≤9223372036854775807
end

section
theorem tX{n:Int}{v:MV}:∀{es:List (MV × MV)},(es.all fun p=>isK .i64 p.1)=true→((dG .i64 n v es).all fun p=>isK .i64 p.1)=true
 | [],_=>by simp[dG,isK]
 | (x,u)::es,h=>by
  simp only[List.all_cons,Bool.and_eq_true] at h
  obtain⟨m,rfl⟩:=mH h.1
  by_cases hm:m=n
  ·subst hm
   simp only[dG,if_true,List.all_cons,Bool.and_eq_true]
   exact⟨by simp[isK],h.2⟩
  ·simp only[dG,if_neg hm,List.all_cons,Bool.and_eq_true]
   exact⟨by simp[isK],tX h.2⟩
theorem qV{n m:Int}{v:MV}:∀{es:List (MV × MV)},(es.all fun p=>isK .i64 p.1)=true→dT m (dG .i64 n v es)=if m=n then some v else dT m es
 | [],_=>by
  by_cases h:m=n
  ·subst h;simp[dG,dT]
  ·rw[if_neg h];simp[dG,dT,Ne.symm h]
 | (x,u)::es,h=>by
  simp only[List.all_cons,Bool.and_eq_true] at h
  obtain⟨k,rfl⟩:=mH h.1
  have ih:=qV (n:=n) (m:=m) (v:=v) h.2
  by_cases hk:k=n
  ·subst hk
   by_cases hm:m=k
   ·subst hm;simp[dG,dT]
   ·simp[dG,dT,hm,Ne.symm hm]
  ·by_cases hm:m=n
   ·subst hm
    rw[if_pos rfl] at ih ⊢
    simp only[dG,if_neg hk,dT,ih]
   ·rw[if_neg hm] at ih ⊢
    simp only[dG,if_neg hk,dT,ih]
theorem zZ{n:Int}{v:MV}:∀{es:List (MV × MV)},(dG .i64 n v es).length≤es.length+1
 | []=>by simp[dG]
 | (.int k m,u)::es=>by
  simp only[dG]
  split
  ·simp
  ·simpa using zZ (es:=es)
 | (.junk,u)::es|(.bool _,u)::es|(.str _,u)::es|(.nilp,u)::es|(.ptr _ _ _,u)::es|(.cptr _,u)::es|(.aN,u)::es|(.lst _ _ _,u)::es|(.vec _ _ _ _,u)::es|(.nilm,u)::es|(.mapv _,u)::es|(.nilfn,u)::es|(.fn _ _ _,u)::es|(.nili,u)::es|(.iface _ _,u)::es|(.agg _,u)::es|(.tup _,u)::es=>by
  simpa[dG] using zZ (es:=es)
def LW(es:List (MV × MV)):Prop:=(eF es).Nodup
theorem qY{es:List (MV × MV)}(h:(es.all fun p=>isK .i64 p.1)=true){n:Int}:n∈eF es↔dT n es≠none:=by
 induction es with
 | nil=>simp[eF,dT]
 | cons p es ih =>
  obtain⟨x,u⟩:=p
  simp only[List.all_cons,Bool.and_eq_true] at h
  obtain⟨k,rfl⟩:=mH h.1
  have ih:=ih h.2
  have e:eF ((MV.int .i64 k,u)::es)=k::eF es:=rfl
  rw[e,List.mem_cons,dT]
  by_cases hk:k=n
  ·subst hk;simp
  ·rw[if_neg hk,←ih]
   exact⟨fun h=>h.elim (fun e=>absurd e.symm hk) id,.inr⟩
theorem CG{n:Int}{v:MV}:∀{es:List (MV × MV)},(es.all fun p=>isK .i64 p.1)=true→LW es→LW (dG .i64 n v es)
 | [],_,_=>by simp[LW,dG,eF]
 | (x,u)::es,h,ho=>by
  simp only[List.all_cons,Bool.and_eq_true] at h
  obtain⟨k,rfl⟩:=mH h.1
  have e:∀(u:MV) (es:List (MV × MV)),eF ((MV.int .i64 k,u)::es)=k::eF es:=fun _ _=>rfl
  unfold LW at ho ⊢
  rw[e] at ho
  obtain⟨h1,h2⟩:=List.nodup_cons.1 ho
  by_cases hk:k=n
  ·simp only[dG,if_pos hk]
   rw[e]
   exact List.nodup_cons.2 ⟨h1,h2⟩
  ·simp only[dG,if_neg hk]
   rw[e]
   refine List.nodup_cons.2 ⟨fun hm=>?_,CG h.2 h2⟩
   rw[qY (tX h.2),qV h.2,if_neg hk,←qY h.2] at hm
   exact h1 hm
def vEs(cs:List CA):List (MV × MV):=cs.map fun c=>(.int .i64 c.id,.int .i64 c.ver)
theorem Tc(cs:List CA):((vEs cs).all fun p=>isK .i64 p.1)=true:=by
 simp[vEs,isK]
theorem Fu{c:CA}:∀{cs:List CA},c.id∉cs.map CA.id→dG .i64 c.id (.int .i64 c.ver) (vEs cs)=vEs (cs++[c])
 | [],_=>rfl
 | d::cs,h=>by
  simp only[List.map_cons,List.mem_cons,not_or] at h
  have ih:=Fu h.2
  simp only[vEs,List.map_cons,List.cons_append,dG] at ih ⊢
  rw[if_neg (Ne.symm h.1),ih]
end

section
theorem TI{P:Program}{ops:Array Oper}{F:Fence}(o:Oper)(r:List Oper):∀(l:List Oper),(F=Fence.wide∨∃l0,F=Fence.wide.inRound l0∧∀x,x∈l++o::r→∀c,x.op≠.defer c)→o.guard=none→∀{Q:MQ} {Φ0:Phi} {σ0:St} {w0:World} (f:FR) (σ:St) (Φ:Phi) (w:World) (a:Act),
  dP P ops (fun f σ=>sop P o f σ fun v σ'=>dP P ops (Q .normal) r (bM f o.dst v) σ') l f σ→Inv Φ w σ→dD Φ a.tmps f→eG Φ w a.defers f.d →
  Step Φ0 σ0 w0 Φ σ w→wpListIn F 0 P ops (lift Φ0 σ0 w0 Q) (l++o::r) a w:=by
 intro l
 induction l with
 | nil =>
  intro hF hg Q Φ0 σ0 w0 f σ Φ w a h hi hr hd hs
  have hFo:F=Fence.wide∨∃l0,F=Fence.wide.inRound l0∧∀c,o.op≠.defer c:=hF.imp id fun⟨l0,e,q⟩=>⟨l0,e,q o (by simp)⟩
  have hFr:F=Fence.wide∨∃l0,F=Fence.wide.inRound l0∧∀y,y∈r→∀c,y.op≠.defer c:=hF.imp id fun⟨l0,e,q⟩=>⟨l0,e,fun y ho=>q y (by simp[ho])⟩
  have h:sop P o f σ fun v σ'=>dP P ops (Q .normal) r (bM f o.dst v) σ':=h
  simp only[List.nil_append]
  have h':fZ ops f o (sop P o f σ fun v σ'=>dP P ops (Q .normal) r (bM f o.dst v) σ') False:=by unfold fZ;rw[hg];exact h
  unfold wpListIn
  rcases cL h' hr with⟨hw,hy⟩|⟨hw,hn⟩
  ·rw[if_pos hw]
   refine eT hFo ?_
   exact h Φ w a _ _ hi hr (fun v mv σ' Φ' w' r1 i1 s1 hk=>sO r hFr _ _ Φ' w' (a.put o.dst v) hk i1 (cO (hr.mono s1.le) o.dst r1) (by rw[bT,eE];exact hd.step hi s1) (hs.trans s1))
  ·exact hn.elim
 | cons x rest ih =>
  intro hF hg Q Φ0 σ0 w0 f σ Φ w a h hi hr hd hs
  have hFr:F=Fence.wide∨∃l0,F=Fence.wide.inRound l0∧∀y,y∈rest++o::r→∀c,y.op≠.defer c:=hF.imp id fun⟨l0,e,q⟩=>⟨l0,e,fun y ho=>q y (List.mem_cons_of_mem _ ho)⟩
  have hFo:F=Fence.wide∨∃l0,F=Fence.wide.inRound l0∧∀c,x.op≠.defer c:=hF.imp id fun⟨l0,e,q⟩=>⟨l0,e,q x (List.mem_cons_self ..)⟩
  have hfn:∀g,F.fn g:=fun g=>by rcases hF with rfl|⟨l,rfl,_⟩<;>trivial
  simp only[dP] at h
  simp only[List.cons_append]
  unfold wpListIn
  rcases cL h hr with⟨hw,hy⟩|⟨hw,hn⟩
  ·rw[if_pos hw]
   refine eT hFo ?_
   by_cases hdef:∃c,x.op=.defer c
   ·obtain⟨c,hc⟩:=hdef
    rw[hc] at hy
    have hy:vT f c fun f'=>dP P ops (fun f σ=>sop P o f σ fun v σ'=>dP P ops (Q .normal) r (bM f o.dst v) σ') rest (bM f' x.dst .junk) σ:=hy
    obtain⟨d,f',h1,h2,h3,h4⟩:=oF (P:=P) (w:=w) hc hy hr hd
    unfold Oper.wp
    rw[h1]
    refine ih hFr hg _ _ Φ w _ h4 hi (cO (a:={ a with defers:=d::a.defers }) h2 x.dst (.junk _)) ?_ hs
    rw[bT,eE]
    exact h3
   ·exact kH (fun c hc=>hdef ⟨c,hc⟩) hy Φ w a _ _ hi hr (fun v mv σ' Φ' w' r1 i1 s1 hk=>ih hFr hg _ _ Φ' w' (a.put x.dst v) hk i1 (cO (hr.mono s1.le) x.dst r1) (by rw[bT,eE];exact hd.step hi s1) (hs.trans s1))
  ·rw[if_neg (by simp[hw])]
   exact⟨fun f _=>hfn f,ih hFr hg _ _ Φ w (a.put x.dst undef) hn hi (cO hr x.dst gU) (by rw[bT,eE];exact hd) hs⟩
theorem BA{P:Program}{id:Nat}{ops:Array Oper}{f:FR}{σ:St}{Q:MQ}(l:List Oper)(o:Oper)(r:List Oper)(he:ops.toList=l++o::r)(hg:o.guard=none)
 (h:dP P ops (fun f σ=>sop P o f σ fun v σ'=>dP P ops (Q .normal) r (bM f o.dst v) σ') l f σ):mwp P (.region id ops false) f σ Q :=
 fun F hF Φ w a hi hr hd=>wpIn_region_list (by
  rw[he]
  refine TI o r l ?_ hg f σ Φ w a h hi hr hd (.refl _ _ _)
  have:=hF.ops
  rw[he] at this
  exact this)
theorem bX{P:Program}{id:Nat}{L:List Oper}{f:FR}{σ:St}{Q:MQ}(l:List Oper)(o:Oper)(r:List Oper)(he:L=l++o::r)(hg:o.guard=none)
 (h:R (dP P (@OfNat.ofNat (Array Oper) (nat_lit 0) (@_root_.id (OfNat (Array Oper) (nat_lit 0)) (OfNat.mk (L.toArray)))) (fun f σ=>sop P o f σ fun v σ'=>R (dP P (@OfNat.ofNat (Array Oper) (nat_lit 0) (@_root_.id (OfNat (Array Oper) (nat_lit 0)) (OfNat.mk (L.toArray)))) (Q .normal) r (bM f o.dst v) σ')) l f σ)):mwp P (.region id L.toArray false) f σ Q :=
 BA (ops:=L.toArray) l o r he hg h
theorem A0{P:Program}{o:Oper}{f:FR}{σ:St}{k:MV→St→Prop}{t kt et:TypeId}{x:Operand}(ho:o.op=.call { callee:=.builtin .len,args:=#[x],argTypes:=#[t] })(ht:(td P t).k=.map kt et)
 {l:Nat}{es:List (MV × MV)}(hm:aH f x=.mapv l)(hl:σ l=some (.mp es))(hk:k (.int .i64 (es.length:Int)) σ):sop P o f σ k:=by
 intro Φ w a K Q' hi hr hK
 have hum:=rF ht
 have rm:=aJ hr x
 rw[hm] at rm
 obtain⟨p,R,hp,hR,hmv⟩:=rm.nE
 obtain⟨p',R',c,clock,hp',hR',hh,hs,hst,hrel⟩:=(hi.own l _ hl).FH
 rw[hp] at hp';cases hp'
 rw[hR] at hR';cases hR'
 have hop:∀r w',(Builtin.len_ #[t] o.type #[a.eval x]).run P w=.ok r w'→(execOp a.eval o).run P w=.ok (.value r) w':=fun r w' h=>by
  unfold execOp
  simp only[ho,resolve,List.map_toArray,List.map_cons,List.map_nil,Sem.run_bind,Sem.run_pure,Result.andThen_ok,invoke]
  show Sem.run P (do pure (Next.value (←Builtin.len_ #[t] o.type #[a.eval x]))) w=_
  simp only[Sem.run_bind,h,Result.andThen_ok,Sem.run_pure]
 refine bL (hop (.int .i64 (es.length:Int)) w ?_) (hK _ _ _ Φ w (.int _ _) hi (.refl _ _ _) hk)
 rw[hmv]
 simp[Builtin.len_,aK hum,Go.MapKept.run_getObj_map hh,goInt,hs]
end

section
open Go.MapKept
def tV(n:Int):List (MV × MV)→List (MV × MV)
 | []=>[]
 | (.int k m,v)::r=>if m=n then r else(.int k m,v)::tV n r
 | x::r=>x::tV n r
theorem Cc{k:IntKind}{n:Int}{Φ:Phi}:∀(l:List MapEntry) (es:List (MV × MV)) (i0:Nat),l.length=es.length→(es.all fun x=>isK k x.1)=true→(∀(i:Nat) (x:MV × MV),es[i]?=some x→∃e:MapEntry,l[i]?=some e∧Rel Φ e.key x.1) →
  (Instr.findNow (.int k) (.int k n) l i0=some none∧tV n es=es)∨∃(j:Nat) (e:MapEntry),Instr.findNow (.int k) (.int k n) l i0=some (some (i0+j,e.val))∧j<es.length∧tV n es=es.eraseIdx j
 | [],[],_,_,_,_=>.inl ⟨rfl,rfl⟩
 | [],_::_,_,h,_,_=>by simp at h
 | _::_,[],_,h,_,_=>by simp at h
 | e::l,(x,u)::es,i0,hl,hk,hr=>by
  simp only[List.all_cons,Bool.and_eq_true] at hk
  obtain⟨m,rfl⟩:=mH hk.1
  obtain⟨e',he',hrel⟩:=hr 0 _ rfl
  simp only[List.getElem?_cons_zero,Option.some.injEq] at he'
  subst he'
  have hkey:=hrel.aT
  have q:=Cc (n:=n) l es (i0+1) (by simpa using hl) hk.2 fun i x hx=>hr (i+1) x (by simpa using hx)
  by_cases hmn:m=n
  ·subst hmn
   exact .inr ⟨0,e,by simp[Instr.findNow,Instr.sameNow,hkey],by simp,by simp[tV]⟩
  ·have hf:Instr.findNow (.int k) (.int k n) (e::l) i0=Instr.findNow (.int k) (.int k n) l (i0+1):=by
    have:(n==m)=false:=by simpa using Ne.symm hmn
    simp[Instr.findNow,Instr.sameNow,hkey,this]
   rw[hf]
   rcases q with⟨a,b⟩|⟨j,e2,a,b,c⟩
   ·exact .inl ⟨a,by simp[tV,hmn,b]⟩
   ·refine .inr ⟨j+1,e2,?_,by simpa using b,by simp[tV,hmn,c]⟩
    rw[a];simp;omega
theorem E6{α:Type _}{l:List α}{j i:Nat}:(l.eraseIdx j)[i]?=l[if i<j then i else i+1]?:=by
 rw[List.getElem?_eraseIdx]
 split<;>rfl
theorem j5{P:Program}{o:Oper}{f:FR}{σ:St}{k:MV→St→Prop}{t kt et kt':TypeId}{m x:Operand}(ho:o.op=.call { callee:=.builtin .delete,args:=#[m,x],argTypes:=#[t,kt'] })(ht:(td P t).k=.map kt et){kd:IntKind}(hkt:(td P kt).k=.int kd)
 {l:Nat}{es:List (MV × MV)}(hm:aH f m=.mapv l)(hl:σ l=some (.mp es)){n:Int}(hx:aH f x=.int kd n)(he:(es.all fun p=>isK kd p.1)=true)
 (hk:k .junk (σ.set l (.mp (tV n es)))):sop P o f σ k:=by
 intro Φ w a K Q' hi hr hK
 have hum:=rF ht
 have huk:=j6 hkt
 have rm:=aJ hr m
 have rx:=aJ hr x
 rw[hm] at rm
 rw[hx] at rx
 obtain⟨p,R,hp,hR,hmv⟩:=rm.nE
 have hxv:=rx.aT
 obtain⟨p',R',c,clock,hp',hR',hh,hs,hst,hrel⟩:=(hi.own l _ hl).FH
 rw[hp] at hp';cases hp'
 rw[hR] at hR';cases hR'
 have hrt:=(Array.getElem?_eq_some_iff.1 hh).1
 have hop:∀r w',(Builtin.delete_ #[t,kt'] o.type #[a.eval m,a.eval x]).run P w=.ok r w'→(execOp a.eval o).run P w=.ok (.value r) w':=fun r w' h=>by
  unfold execOp
  simp only[ho,resolve,List.map_toArray,List.map_cons,List.map_nil,Sem.run_bind,Sem.run_pure,Result.andThen_ok,invoke]
  show Sem.run P (do pure (Next.value (←Builtin.delete_ #[t,kt'] o.type #[a.eval m,a.eval x]))) w=_
  simp only[Sem.run_bind,h,Result.andThen_ok,Sem.run_pure]
 rcases Cc (n:=n) c.toList es 0 (by simpa using hs) he fun i z hz=>by
  obtain⟨e,h1,h2,_⟩:=hrel i z hz
  exact⟨e,h1,h2⟩ with⟨h1,h2⟩|⟨j,e,h1,hj,h2⟩
 ·have hrun:=hop (.tuple #[]) (fW w R (.map c clock)) (by
   rw[hmv,hxv]
   simp[Builtin.delete_,run_underlying hum,Go.MapKept.run_getObj_map hh,run_checkKey (d:=.int kd) (k:=.int kd n) huk rfl,run_findKey (d:=.int kd) huk h1,run_setObj_map _ hh,Result.andThen,fW])
  have hw:fW w R (.map c clock)=w:=CY hh
  rw[hw] at hrun
  have hσ:σ.set l (.mp (tV n es))=σ:=by
   rw[h2];funext q;by_cases hq:q=l
   ·subst hq;simp[St.set,hl]
   ·simp[St.set,hq]
  rw[hσ] at hk
  exact bL hrun (hK _ .junk _ Φ w (.junk _) hi (.refl _ _ _) hk)
 ·obtain⟨c',hc'⟩:∃c',c'=c.eraseIdxIfInBounds j:=⟨_,rfl⟩
  have hjs:j<c.size:=by omega
  have hl':c'.toList=c.toList.eraseIdx j:=by
   rw[hc']
   unfold Array.eraseIdxIfInBounds
   rw[dif_pos hjs]
   simp
  have hrun:=hop (.tuple #[]) (fW w R (.map c' clock)) (by
   rw[hmv,hxv]
   simp[Builtin.delete_,run_underlying hum,Go.MapKept.run_getObj_map hh,run_checkKey (d:=.int kd) (k:=.int kd n) huk rfl,run_findKey (d:=.int kd) huk h1,run_setObj_map _ hh,Result.andThen,fW,hc'])
  have hsz:c'.size=c.size - 1:=by
   rw[←Array.length_toList,hl',List.length_eraseIdx_of_lt (by simpa using hjs),Array.length_toList]
  obtain⟨i1,s1⟩:=hi.EC (w':=fW w R (.map c' clock)) l hl (.mp (es.eraseIdx j)) hp hR iS (fun q hq=>eU hq) rfl rfl rfl (Nat.le_refl _)
   ⟨p,R,hp,hR,c',clock,gX hrt,⟨by rw[hsz,List.length_eraseIdx_of_lt hj,hs],by rw[hc'];exact stamped_erase hst j⟩,fun i z hz=>by
    rw[E6] at hz
    obtain⟨e,q1,q2,q3⟩:=hrel _ z hz
    have:c'.getD i default=e:=by
     rw[Array.getD_eq_getD_getElem?,←Array.getElem?_toList,hl',E6,q1];rfl
    rw[this]
    exact⟨q2,q3⟩⟩
  rw[←h2] at i1 s1
  exact bL hrun (hK _ .junk _ _ _ (.junk _) i1 s1 hk)
end
end Go.Proofs.YtppdgejjmhdjhaaGreatDoor
