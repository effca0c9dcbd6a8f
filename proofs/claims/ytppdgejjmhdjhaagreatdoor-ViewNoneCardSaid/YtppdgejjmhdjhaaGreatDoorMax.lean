/- Parts of the proof, joined; conditions: those that its theorems name. -/
import Derived.Test.YtppdgejjmhdjhaaGreatDoorMaw
set_option linter.unusedVariables false
set_option linter.unusedSimpArgs false
set_option maxHeartbeats 4000000
namespace Go.Proofs.YtppdgejjmhdjhaaGreatDoor
section
def Ld(es:List (MV × MV)):Prop:=(eW es).Nodup
def vEs(cs:List CA):List (MV × MV):=cs.map fun c=>(.int .i64 c.id,.int .i64 c.ver)
theorem Ii(cs:List CA):((vEs cs).all fun p=>isK .i64 p.1)=true:=by
 simp[vEs,isK]
theorem xN{c:CA}:∀{cs:List CA},c.id∉cs.map CA.id→gH .i64 c.id (.int .i64 c.ver) (vEs cs)=vEs (cs++[c])
 | [],_=>rfl
 | d::cs,h=>by
  simp only[List.map_cons,List.mem_cons,not_or] at h
  have ih:=xN h.2
  simp only[vEs,List.map_cons,List.cons_append,gH] at ih ⊢
  rw[if_neg (Ne.symm h.1),ih]
end

section
open Go.MapKept
def pS(n:Int):List (MV × MV)→List (MV × MV)
 | []=>[]
 | (.int k m,v)::r=>if m=n then r else(.int k m,v)::pS n r
 | x::r=>x::pS n r
theorem sR{k:IntKind}{n:Int}{Φ:Phi}:∀(l:List MapEntry) (es:List (MV × MV)) (i0:Nat),l.length=es.length→(es.all fun x=>isK k x.1)=true→(∀(i:Nat) (x:MV × MV),es[i]?=some x→∃e:MapEntry,l[i]?=some e∧Rel Φ e.key x.1) →
  (Instr.findNow (.int k) (.int k n) l i0=some none∧pS n es=es)∨∃(j:Nat) (e:MapEntry),Instr.findNow (.int k) (.int k n) l i0=some (some (i0+j,e.val))∧j<es.length∧pS n es=es.eraseIdx j
 | [],[],_,_,_,_=>.inl ⟨rfl,rfl⟩
 | [],_::_,_,h,_,_=>by simp at h
 | _::_,[],_,h,_,_=>by simp at h
 | e::l,(x,u)::es,i0,hl,hk,hr=>by
  simp only[List.all_cons,Bool.and_eq_true] at hk
  obtain⟨m,rfl⟩:=o4 hk.1
  obtain⟨e',he',hrel⟩:=hr 0 _ rfl
  simp only[List.getElem?_cons_zero,Option.some.injEq] at he'
  subst he'
  have hkey:=hrel.aL
  have q:=sR (n:=n) l es (i0+1) (by simpa using hl) hk.2 fun i x hx=>hr (i+1) x (by simpa using hx)
  by_cases hmn:m=n
  ·subst hmn
   exact .inr ⟨0,e,by simp[Instr.findNow,Instr.sameNow,hkey],by simp,by simp[pS]⟩
  ·have hf:Instr.findNow (.int k) (.int k n) (e::l) i0=Instr.findNow (.int k) (.int k n) l (i0+1):=by
    have:(n==m)=false:=by simpa using Ne.symm hmn
    simp[Instr.findNow,Instr.sameNow,hkey,this]
   rw[hf]
   rcases q with⟨a,b⟩|⟨j,e2,a,b,c⟩
   ·exact .inl ⟨a,by simp[pS,hmn,b]⟩
   ·refine .inr ⟨j+1,e2,?_,by simpa using b,by simp[pS,hmn,c]⟩
    rw[a];simp;omega
theorem wV{α:Type _}{l:List α}{j i:Nat}:(l.eraseIdx j)[i]?=l[if i<j then i else i+1]?:=by
 rw[List.getElem?_eraseIdx]
 split<;>rfl
theorem lC{P:Program}{o:Oper}{f:FR}{σ:St}{k:MV→St→Prop}{t kt et kt':TypeId}{m x:Operand}(ho:o.op=.call { callee:=.builtin .delete,args:=#[m,x],argTypes:=#[t,kt'] })(ht:(td P t).k=.map kt et){kd:IntKind}(hkt:(td P kt).k=.int kd)
 {l:Nat}{es:List (MV × MV)}(hm:aB f m=.mapv l)(hl:σ l=some (.mp es)){n:Int}(hx:aB f x=.int kd n)(he:(es.all fun p=>isK kd p.1)=true)
 (hk:k .junk (σ.set l (.mp (pS n es)))):sop P o f σ k:=by
 intro Φ w a K Q' hi hr hK
 have hum:=kR ht
 have huk:=fN hkt
 have rm:=aD hr m
 have rx:=aD hr x
 rw[hm] at rm
 rw[hx] at rx
 obtain⟨p,R,hp,hR,hmv⟩:=rm.iM
 have hxv:=rx.aL
 obtain⟨p',R',c,clock,hp',hR',hh,hs,hst,hrel⟩:=(hi.own l _ hl).xY
 rw[hp] at hp';cases hp'
 rw[hR] at hR';cases hR'
 have hrt:=(Array.getElem?_eq_some_iff.1 hh).1
 have hop:∀r w',(Builtin.delete_ #[t,kt'] o.type #[a.eval m,a.eval x]).run P w=.ok r w'→(execOp a.eval o).run P w=.ok (.value r) w':=fun r w' h=>by
  unfold execOp
  simp only[ho,resolve,List.map_toArray,List.map_cons,List.map_nil,Sem.run_bind,Sem.run_pure,Result.andThen_ok,invoke]
  show Sem.run P (do pure (Next.value (←Builtin.delete_ #[t,kt'] o.type #[a.eval m,a.eval x]))) w=_
  simp only[Sem.run_bind,h,Result.andThen_ok,Sem.run_pure]
 rcases sR (n:=n) c.toList es 0 (by simpa using hs) he fun i z hz=>by
  obtain⟨e,h1,h2,_⟩:=hrel i z hz
  exact⟨e,h1,h2⟩ with⟨h1,h2⟩|⟨j,e,h1,hj,h2⟩
 ·have hrun:=hop (.tuple #[]) (dP w R (.map c clock)) (by
   rw[hmv,hxv]
   simp[Builtin.delete_,run_underlying hum,Go.MapKept.run_getObj_map hh,run_checkKey (d:=.int kd) (k:=.int kd n) huk rfl,run_findKey (d:=.int kd) huk h1,run_setObj_map _ hh,Result.andThen,dP])
  have hw:dP w R (.map c clock)=w:=tL hh
  rw[hw] at hrun
  have hσ:σ.set l (.mp (pS n es))=σ:=by
   rw[h2];funext q;by_cases hq:q=l
   ·subst hq;simp[St.set,hl]
   ·simp[St.set,hq]
  rw[hσ] at hk
  exact aX hrun (hK _ .junk _ Φ w (.junk _) hi (.refl _ _ _) hk)
 ·obtain⟨c',hc'⟩:∃c',c'=c.eraseIdxIfInBounds j:=⟨_,rfl⟩
  have hjs:j<c.size:=by omega
  have hl':c'.toList=c.toList.eraseIdx j:=by
   rw[hc']
   unfold Array.eraseIdxIfInBounds
   rw[dif_pos hjs]
   simp
  have hrun:=hop (.tuple #[]) (dP w R (.map c' clock)) (by
   rw[hmv,hxv]
   simp[Builtin.delete_,run_underlying hum,Go.MapKept.run_getObj_map hh,run_checkKey (d:=.int kd) (k:=.int kd n) huk rfl,run_findKey (d:=.int kd) huk h1,run_setObj_map _ hh,Result.andThen,dP,hc'])
  have hsz:c'.size=c.size - 1:=by
   rw[←Array.length_toList,hl',List.length_eraseIdx_of_lt (by simpa using hjs),Array.length_toList]
  obtain⟨i1,s1⟩:=hi.zZ (w':=dP w R (.map c' clock)) l hl (.mp (es.eraseIdx j)) hp hR fG (fun q hq=>cY hq) rfl rfl rfl (Nat.le_refl _)
   ⟨p,R,hp,hR,c',clock,eG hrt,⟨by rw[hsz,List.length_eraseIdx_of_lt hj,hs],by rw[hc'];exact stamped_erase hst j⟩,fun i z hz=>by
    rw[wV] at hz
    obtain⟨e,q1,q2,q3⟩:=hrel _ z hz
    have:c'.getD i default=e:=by
     rw[Array.getD_eq_getD_getElem?,←Array.getElem?_toList,hl',wV,q1];rfl
    rw[this]
    exact⟨q2,q3⟩⟩
  rw[←h2] at i1 s1
  exact aX hrun (hK _ .junk _ _ _ (.junk _) i1 s1 hk)
end

section
def Room(l C:Nat)(Φ:Phi):Prop:=∃p,Φ.obj l=some p∧p.C=C
theorem Room.le{l C:Nat}{Φ Φ':Phi}(h:Room l C Φ)(hle:Φ.le Φ'):Room l C Φ':=h.imp fun p q=>⟨hle.obj _ _ q.1,q.2⟩
section
variable {l C:Nat} {P:Program} {f:FR} {σ:St} {Q:MQ}
end
end

section
section
variable {P:Program} {ops:Array Oper}
theorem Bt(hm:P.follows .mixedOrders=true)(C:bJ)(pre:List Oper)(y:Oper)(post:List Oper)(ho:ops=(pre++y::post).toArray)(hdef:qE (pre++y::post)=true)(hchk:(chk ops&&gate ops pre.length&&gate ops (pre.length+1))=true)(hg:y.guard=none){id:Nat}{f:FR}{σ:St}{Q:MQ}
 (h:fS P C ops (fun f1 σ1=>sop P y f1 σ1 fun v σ'=>fS P C ops (Q .normal) post (aU f1 y.dst v) σ') pre f σ):mwp P (.region id ops true) f σ Q:=by
 intro F hF Φ w a hi hr hd
 simp only[Bool.and_eq_true] at hchk
 have hF':F=Fence.wide∨∃l0,F=Fence.wide.inRound l0:=Or.imp (fun q=>q) (fun⟨l0,e,_⟩=>⟨l0,e⟩) hF
 have hfn:∀g,F.fn g:=fun g=>by rcases hF' with rfl|⟨l,rfl⟩<;>trivial
 have hdef':∀o,o∈ops.toList→∀c,o.op≠.defer c:=fun o h=>jH hdef o (by rw[ho] at h;simpa using h)
 refine qS (C:=C.pl) (MC:=lQ P C) hm .no C.CH.u (fun _ _ hd _ _ _ h=>oY hd h) pre y post ho hdef' hchk.1.1 hchk.1.2 hchk.2 hF' hi hr hd ?_ h
 intro f1 σ1 Φ1 w1 a1 N i1 r1 d1 s1 k1 hN
 have hyd:∀c,y.op≠.defer c:=hdef' y (by rw[ho];simp)
 have hFo:F=Fence.wide∨∃l0,F=Fence.wide.inRound l0∧∀c,y.op≠.defer c:=hF'.imp (fun q=>q) fun⟨l0,e⟩=>⟨l0,e,hyd⟩
 unfold BY
 have k1':dT ops f1 y (sop P y f1 σ1 fun v σ'=>fS P C ops (Q .normal) post (aU f1 y.dst v) σ') False:=by unfold dT;rw[hg];exact k1
 rcases bN k1' r1 with⟨hw,hk⟩|⟨hw,hk⟩
 ·rw[if_pos hw]
  refine dO hFo (k1 Φ1 w1 a1 _ _ i1 r1 fun v mv σ' Φ' w' r2 i2 s2 hk2=>?_)
  exact hN (Q .normal) _ σ' Φ' w' (a1.put y.dst v) i2 (bV (r1.mono s2.le) y.dst r2) (by rw[a8,cX];exact d1.step i1 s2) (fun f3 σ3 Φ3 w3 a3 i3 r3 d3 s3 k3=>⟨f3,σ3,Φ3,d3,r3,i3,s1.trans (s2.trans s3),k3⟩) hk2
 ·exact hk.elim
theorem mJ{id:Nat}{l:List Oper}{f:FR}{σ:St}{Q:MQ}(hm:P.follows .mixedOrders=true)(C:bJ)(pre:List Oper){dst:Option Tmp}{op:Op}{ty:TypeId}{pos:String}{after:Array Edge}(post:List Oper)(ho:l=pre++⟨dst,op,ty,pos,after,none⟩::post)
 (hchk:(qE l&&(chk l.toArray&&gate l.toArray pre.length&&gate l.toArray (pre.length+1)))=true)
 (h:R (fS P C (@OfNat.ofNat (Array Oper) (nat_lit 0) (@_root_.id (OfNat (Array Oper) (nat_lit 0)) (OfNat.mk (l.toArray)))) (fun f1 σ1=>sop P ⟨dst,op,ty,pos,after,none⟩ f1 σ1 fun v σ'=>R (fS P C (@OfNat.ofNat (Array Oper) (nat_lit 0) (@_root_.id (OfNat (Array Oper) (nat_lit 0)) (OfNat.mk (l.toArray)))) (Q .normal) (@OfNat.ofNat (List Oper) (nat_lit 0) (@_root_.id (OfNat (List Oper) (nat_lit 0)) (OfNat.mk post))) (aU f1 dst v) σ'))
   (@OfNat.ofNat (List Oper) (nat_lit 0) (@_root_.id (OfNat (List Oper) (nat_lit 0)) (OfNat.mk pre))) f σ)):R (k8 P id (@OfNat.ofNat (List Oper) (nat_lit 0) (@_root_.id (OfNat (List Oper) (nat_lit 0)) (OfNat.mk l))) f σ Q):=by
 rw[Bool.and_eq_true] at hchk
 exact Bt hm C pre ⟨dst,op,ty,pos,after,none⟩ post (by rw[←ho]) (by rw[←ho];exact hchk.1) hchk.2 rfl h
end
end
end Go.Proofs.YtppdgejjmhdjhaaGreatDoor
