/- Parts of the proof, joined; conditions: those that its theorems name. -/
import Derived.Test.YtaojijkdamfbnaaGreatDoorMazc
set_option linter.unusedVariables false
set_option linter.unusedSimpArgs false
set_option maxHeartbeats 4000000
namespace Go.Proofs.YtaojijkdamfbnaaGreatDoor
section
set_option maxRecDepth 100000
set_option maxHeartbeats 8000000
structure Pf (l:List TU) (es:List (MV × MV)):Prop where
 k:(es.all fun p=>isK .i64 p.1)=true
 o:OO es
 g:∀id,fC id es=(MI l id).map fun n=>.int .i64 n
 n:es.length≤l.length
end

section
theorem LW{P:Program}{ops:Array Oper}{F:Fence}(o:Oper)(r:List Oper):∀(l:List Oper),(F=Fence.wide∨∃l0,F=Fence.wide.inRound l0∧∀x,x∈l++o::r→∀c,x.op≠.defer c)→o.guard=none→∀{Q:MQ} {Φ0:Phi} {σ0:St} {w0:World} (f:FR) (σ:St) (Φ:Phi) (w:World) (a:Act),
  eE P ops (fun f σ=>sop P o f σ fun v σ'=>eE P ops (Q .normal) r (bC f o.dst v) σ') l f σ→Inv Φ w σ→cK Φ a.tmps f→cW Φ w a.defers f.d →
  Step Φ0 σ0 w0 Φ σ w→wpListIn F 0 P ops (lift Φ0 σ0 w0 Q) (l++o::r) a w:=by
 intro l
 induction l with
 | nil =>
  intro hF hg Q Φ0 σ0 w0 f σ Φ w a h hi hr hd hs
  have hFo:F=Fence.wide∨∃l0,F=Fence.wide.inRound l0∧∀c,o.op≠.defer c:=hF.imp id fun⟨l0,e,q⟩=>⟨l0,e,q o (by simp)⟩
  have hFr:F=Fence.wide∨∃l0,F=Fence.wide.inRound l0∧∀y,y∈r→∀c,y.op≠.defer c:=hF.imp id fun⟨l0,e,q⟩=>⟨l0,e,fun y ho=>q y (by simp[ho])⟩
  have h:sop P o f σ fun v σ'=>eE P ops (Q .normal) r (bC f o.dst v) σ':=h
  simp only[List.nil_append]
  have h':eZ ops f o (sop P o f σ fun v σ'=>eE P ops (Q .normal) r (bC f o.dst v) σ') False:=by unfold eZ;rw[hg];exact h
  unfold wpListIn
  rcases cH h' hr with⟨hw,hy⟩|⟨hw,hn⟩
  ·rw[if_pos hw]
   refine fW hFo ?_
   exact h Φ w a _ _ hi hr (fun v mv σ' Φ' w' r1 i1 s1 hk=>uD r hFr _ _ Φ' w' (a.put o.dst v) hk i1 (cM (hr.mono s1.le) o.dst r1) (by rw[bM,eA];exact hd.step hi s1) (hs.trans s1))
  ·exact hn.elim
 | cons x rest ih =>
  intro hF hg Q Φ0 σ0 w0 f σ Φ w a h hi hr hd hs
  have hFr:F=Fence.wide∨∃l0,F=Fence.wide.inRound l0∧∀y,y∈rest++o::r→∀c,y.op≠.defer c:=hF.imp id fun⟨l0,e,q⟩=>⟨l0,e,fun y ho=>q y (List.mem_cons_of_mem _ ho)⟩
  have hFo:F=Fence.wide∨∃l0,F=Fence.wide.inRound l0∧∀c,x.op≠.defer c:=hF.imp id fun⟨l0,e,q⟩=>⟨l0,e,q x (List.mem_cons_self ..)⟩
  have hfn:∀g,F.fn g:=fun g=>by rcases hF with rfl|⟨l,rfl,_⟩<;>trivial
  simp only[eE] at h
  simp only[List.cons_append]
  unfold wpListIn
  rcases cH h hr with⟨hw,hy⟩|⟨hw,hn⟩
  ·rw[if_pos hw]
   refine fW hFo ?_
   by_cases hdef:∃c,x.op=.defer c
   ·obtain⟨c,hc⟩:=hdef
    rw[hc] at hy
    have hy:tW f c fun f'=>eE P ops (fun f σ=>sop P o f σ fun v σ'=>eE P ops (Q .normal) r (bC f o.dst v) σ') rest (bC f' x.dst .junk) σ:=hy
    obtain⟨d,f',h1,h2,h3,h4⟩:=pR (P:=P) (w:=w) hc hy hr hd
    unfold Oper.wp
    rw[h1]
    refine ih hFr hg _ _ Φ w _ h4 hi (cM (a:={ a with defers:=d::a.defers }) h2 x.dst (.junk _)) ?_ hs
    rw[bM,eA]
    exact h3
   ·exact kF (fun c hc=>hdef ⟨c,hc⟩) hy Φ w a _ _ hi hr (fun v mv σ' Φ' w' r1 i1 s1 hk=>ih hFr hg _ _ Φ' w' (a.put x.dst v) hk i1 (cM (hr.mono s1.le) x.dst r1) (by rw[bM,eA];exact hd.step hi s1) (hs.trans s1))
  ·rw[if_neg (by simp[hw])]
   exact⟨fun f _=>hfn f,ih hFr hg _ _ Φ w (a.put x.dst undef) hn hi (cM hr x.dst fD) (by rw[bM,eA];exact hd) hs⟩
theorem wR{P:Program}{id:Nat}{ops:Array Oper}{f:FR}{σ:St}{Q:MQ}(l:List Oper)(o:Oper)(r:List Oper)(he:ops.toList=l++o::r)(hg:o.guard=none)
 (h:eE P ops (fun f σ=>sop P o f σ fun v σ'=>eE P ops (Q .normal) r (bC f o.dst v) σ') l f σ):mwp P (.region id ops false) f σ Q :=
 fun F hF Φ w a hi hr hd=>wpIn_region_list (by
  rw[he]
  refine LW o r l ?_ hg f σ Φ w a h hi hr hd (.refl _ _ _)
  have:=hF.ops
  rw[he] at this
  exact this)
theorem uF{P:Program}{id:Nat}{L:List Oper}{f:FR}{σ:St}{Q:MQ}(l:List Oper)(o:Oper)(r:List Oper)(he:L=l++o::r)(hg:o.guard=none)
 (h:R (eE P (@OfNat.ofNat (Array Oper) (nat_lit 0) (@_root_.id (OfNat (Array Oper) (nat_lit 0)) (OfNat.mk (L.toArray)))) (fun f σ=>sop P o f σ fun v σ'=>R (eE P (@OfNat.ofNat (Array Oper) (nat_lit 0) (@_root_.id (OfNat (Array Oper) (nat_lit 0)) (OfNat.mk (L.toArray)))) (Q .normal) r (bC f o.dst v) σ')) l f σ)):mwp P (.region id L.toArray false) f σ Q :=
 wR (ops:=L.toArray) l o r he hg h
theorem EH{P:Program}{o:Oper}{f:FR}{σ:St}{k:MV→St→Prop}{t kt et:TypeId}{x:Operand}(ho:o.op=.call { callee:=.builtin .len,args:=#[x],argTypes:=#[t] })(ht:(td P t).k=.map kt et)
 {l:Nat}{es:List (MV × MV)}(hm:aF f x=.mapv l)(hl:σ l=some (.mp es))(hk:k (.int .i64 (es.length:Int)) σ):sop P o f σ k:=by
 intro Φ w a K Q' hi hr hK
 have hum:=qB ht
 have rm:=aM hr x
 rw[hm] at rm
 obtain⟨p,R,hp,hR,hmv⟩:=rm.mL
 obtain⟨p',R',c,clock,hp',hR',hh,hs,hst,hrel⟩:=(hi.own l _ hl).Fw
 rw[hp] at hp';cases hp'
 rw[hR] at hR';cases hR'
 have hop:∀r w',(Builtin.len_ #[t] o.type #[a.eval x]).run P w=.ok r w'→(execOp a.eval o).run P w=.ok (.value r) w':=fun r w' h=>by
  unfold execOp
  simp only[ho,resolve,List.map_toArray,List.map_cons,List.map_nil,Sem.run_bind,Sem.run_pure,Result.andThen_ok,invoke]
  show Sem.run P (do pure (Next.value (←Builtin.len_ #[t] o.type #[a.eval x]))) w=_
  simp only[Sem.run_bind,h,Result.andThen_ok,Sem.run_pure]
 refine bK (hop (.int .i64 (es.length:Int)) w ?_) (hK _ _ _ Φ w (.int _ _) hi (.refl _ _ _) hk)
 rw[hmv]
 simp[Builtin.len_,aR hum,Go.MapKept.run_getObj_map hh,goInt,hs]
end

section
set_option maxRecDepth 100000
set_option maxHeartbeats 8000000
def fN:Int→List Int→List (List MV)
 | _,[]=>[]
 | s,i::r=>[.int .i64 (s+1),.int .i64 i]::fN (s+1) r
theorem s9:∀(s:Int) (l:List Int),(fN s l).length=l.length
 | _,[]=>rfl
 | s,i::r=>by simp[fN,s9]
theorem xL:∀(s:Int) (l:List Int) (x:Int),fN s (l++[x])=fN s l++[[.int .i64 (s+l.length+1),.int .i64 x]]
 | s,[],x=>by simp[fN]
 | s,i::r,x=>by
  simp only[List.cons_append,fN,xL (s+1) r x,List.length_cons]
  have:s+1+(r.length:Int)+1=s+((r.length+1:Nat):Int)+1:=by omega
  rw[this]
theorem rV{sq:Int}(l:Nat)(g:MV){b p:Nat}(hbp:b≠p)(ids:List Int)(h0:0≤sq)(h1:sq≤1099511627776)(hl:ids.length≤1000000) :
  aA Tryz.prog 109 [.ptr b 0 0,.vec 1 p 0 ids.length] ((St.none.set p (.row 3 1 (ids.map aS))).set b (bJ sq l g)) (fun v σ'=>v=.lst 2 (fN sq ids) false∧σ'=St.none.set b (bJ (sq+ids.length) l g)):=by
 refine aA.FM (aA.body 32 [.tmp 4] Tryz.func109 rfl rfl rfl rfl ?_)
 have hpb:=Ne.symm hbp
 repeat' (first|(with_reducible first|(refine wT ?_;(first|((fail_if_success (have:=nl1));refine wN fun nl1 hnl=>?_)|((fail_if_success (have:=nl2));refine wN fun nl2 hnl=>?_)|refine wN fun _ hnl=>?_);revert hnl;(repeat refine wS fun _ _=>?_);intro hnl)|refine wE ?_|(refine wK ?_ ?_<;>intro h)|(refine wB ?_ ?_<;>intro h<;>simp only[h]))|simp(maxSteps:=4000000) (disch:=first|exact ddL|fail) only[go_sem,simprocAttr,Tryz.f109])
 refine aJ (α:=Nat × Nat × List (List MV)) (fun z=>⟨32,[(10,.int .i64 (z.1:Int)),(9,.int .i64 (ids.length:Int)),(8,.vec 1 p 0 ids.length),(5,.vec 2 z.2.1 0 z.1),(0,.ptr b 0 0)],[]⟩)
  (fun z=>((St.none.set p (.row 3 1 (ids.map aS))).set b (bJ (sq+z.1) l g)).set z.2.1 (.row 194 2 (fN sq (ids.take z.1)++z.2.2))) (fun z=>z.1≤ids.length∧z.2.1≠p∧z.2.1≠b) (fun z=>ids.length - z.1) ?_ ?_
 ·refine Gh.Az 194 2 (fun r=>[(10,.int .i64 0),(9,.int .i64 (ids.length:Int)),(8,.vec 1 p 0 ids.length),(5,.vec 2 r 0 0),(0,.ptr b 0 0)]) (fun k=>by(repeat' (refine And.intro ?_ ?_))<;>first|exact trivial|exact .inl rfl|exact .inr ⟨rfl,.inl rfl⟩|exact .inr ⟨rfl,.inr rfl⟩) fun r hr=>?_
  simp only[aQ] at hr
  obtain⟨r1,r2,-⟩:=hr
  exact .done ⟨(0,r,[]),rfl,by simp[fN],Nat.zero_le _,by assumption,by assumption⟩
 ·rintro⟨i,r,xx⟩ ⟨hi,r1,r2⟩
  simp only at hi r1 r2 ⊢
  have r1':=Ne.symm r1
  have r2':=Ne.symm r2
  by_cases hlt:i<ids.length
  ·obtain⟨x,hx⟩:=bO ids hlt
   have hat:=bH (f:=aS) hx
   have hml:(ids.map aS).length=ids.length:=List.length_map _
   have htk:=bB hx
   have hLl:(ids.take i).length=i:=by rw[List.length_take];omega
   obtain⟨L,hL⟩:∃L,ids.take i=L:=⟨_,rfl⟩
   rw[hL] at htk hLl ⊢
   have hsn:=xL sq L x
   rw[hLl] at hsn
   have hcl:=s9 sq L
   rw[hLl] at hcl
   obtain⟨Q,hQ⟩:∃Q,fN sq L=Q:=⟨_,rfl⟩
   rw[hQ] at hsn hcl ⊢
   have hdr:(Q++xx).drop (i+1)=xx.drop 1:=by rw[←hcl,←List.drop_drop,List.drop_left]
   have htk':(Q++xx).take i=Q:=List.take_left' hcl
   have hq1:sq+((i+1:Nat):Int)=sq+(i:Int)+1:=by omega
   repeat' (first|(with_reducible first|(refine wT ?_;(first|((fail_if_success (have:=nl1));refine wN fun nl1 hnl=>?_)|((fail_if_success (have:=nl2));refine wN fun nl2 hnl=>?_)|refine wN fun _ hnl=>?_);revert hnl;(repeat refine wS fun _ _=>?_);intro hnl)|refine wE ?_|(refine wK ?_ ?_<;>intro h)|(refine wB ?_ ?_<;>intro h<;>simp only[h]))|simp(maxSteps:=4000000) (disch:=first|exact ddL|fail) only[go_sem,simprocAttr,hat,hml,hcl,htk',hdr])
   all_goals (try (exfalso;omega))
   all_goals
    clear hat htk' hdr
    have p1:nl2≠p:=by assumption
    have p2:nl2≠b:=by assumption
   ·have hex:xx=[]:=List.eq_nil_of_length_eq_zero (by omega)
    subst hex
    clear h
    refine .of (.less ?_ ?_) ⟨(i+1,nl2,[]),rfl,rfl,⟨by simp only;omega,p1,p2⟩,by simp only;omega⟩
    ·simp(maxSteps:=4000000) (disch:=first|exact ddL|fail) only[go_sem,simprocAttr,aC,aB]
     all_goals first|rfl|(simp;done)
    ·simp only[htk,hsn,hq1]
     exact St.aG (St.aG (St.aG (St.none_le _) (by simp[St.set, *])) (by simp[St.set, *])) (by simp[St.set, *])
   ·clear h
    refine .of (.less ?_ ?_) ⟨(i+1,nl2,xx.drop 1),rfl,rfl,⟨by simp only;omega,p1,p2⟩,by simp only;omega⟩
    ·simp(maxSteps:=4000000) (disch:=first|exact ddL|fail) only[go_sem,simprocAttr,aC,aB]
     all_goals first|rfl|(simp;done)
    ·simp only[htk,hsn,hq1]
     exact St.aG (St.aG (St.aG (St.none_le _) (by simp[St.set, *])) (by simp[St.set, *])) (by simp[St.set, *])
  ·have:i=ids.length:=by omega
   subst this
   rw[List.take_length]
   repeat' (first|(with_reducible first|(refine wT ?_;(first|((fail_if_success (have:=nl1));refine wN fun nl1 hnl=>?_)|((fail_if_success (have:=nl2));refine wN fun nl2 hnl=>?_)|refine wN fun _ hnl=>?_);revert hnl;(repeat refine wS fun _ _=>?_);intro hnl)|refine wE ?_|(refine wK ?_ ?_<;>intro h)|(refine wB ?_ ?_<;>intro h<;>simp only[h]))|simp(maxSteps:=4000000) (disch:=first|exact ddL|fail) only[go_sem,simprocAttr])
   all_goals
    exact⟨St.none.set r (.row 194 2 (fN sq ids++xx)),St.aG (St.none_le _) (by simp[St.set, *]),St.aG (St.none_le _) (by simp[St.set, *]),fun k o hk=>(aH _ _ _ _ (fun e=>by subst e;simp[St.set,St.none, *] at hk)).trans rfl,dB (aK _ _ _) (s9 _ _).symm⟩
end
end Go.Proofs.YtaojijkdamfbnaaGreatDoor
