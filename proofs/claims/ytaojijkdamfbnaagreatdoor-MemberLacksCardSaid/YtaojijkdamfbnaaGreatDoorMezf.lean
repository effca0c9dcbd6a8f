/- Parts of the proof, joined; conditions: those that its theorems name. -/
import Derived.LaidLaws
import Derived.LaidHandle
import Derived.Stop.Joined
import Derived.Test.YtaojijkdamfbnaaGreatDoorMezd
set_option linter.unusedVariables false
set_option linter.unusedSimpArgs false
set_option maxHeartbeats 4000000
namespace Go.Proofs.YtaojijkdamfbnaaGreatDoor
section
set_option maxRecDepth 100000
set_option maxHeartbeats 8000000
def Small(p:Prop)(r:MV):Prop:=∃b:Bool,r=.bool b∧(b=false→p)
theorem sH{p:Prop}:Small p (.bool true):=⟨true,rfl,fun h=>by cases h⟩
theorem FL{p:Prop}(h:p):Small p (.bool false):=⟨false,rfl,fun _=>h⟩
theorem KU(l:List GR)(tt:Bool):aA Tryz.prog 65 [.lst 2 (l.map GR.c) tt] St.none (fun r _=>Small (l.length≤1000000∧∀g,g∈l→g.mem.length≤1000000) r):=by
 refine aA.cC (aA.body 20 [.tmp 2] Tryz.func65 rfl rfl rfl rfl ?_)
 repeat' (first|(with_reducible first|(refine wN fun _ hnl=>?_;revert hnl;(repeat refine wS fun _ _=>?_);intro hnl)|refine wE ?_|(refine wK ?_ ?_<;>intro h)|(refine wB ?_ ?_<;>intro h<;>simp only[h]))|simp(maxSteps:=4000000) (disch:=first|exact ddL|fail) only[go_sem,simprocAttr,Tryz.f65])
 all_goals first|exact⟨_,St.le_refl _,sH⟩|skip
 refine aH (α:=Nat) (fun i=>⟨20,[(3,.int .i64 (i:Int)),(0,.lst 2 (l.map GR.c) tt)],[]⟩) (fun _=>St.none) (fun i=>i≤l.length∧∀g,g∈l.take i→g.mem.length≤1000000) (fun i=>l.length - i) (.of (.less ?_ (St.le_refl _)) ⟨0,rfl,rfl,Nat.zero_le _,by simp⟩) ?_
 ·simp(maxSteps:=4000000) (disch:=first|exact ddL|fail) only[go_sem,simprocAttr,aC,aB]
  all_goals first|rfl|(simp;done)
 ·rintro i ⟨hi,hq⟩
  by_cases hlt:i<l.length
  ·obtain⟨x,hx⟩:=bK l hlt
   have hat:=bE (f:=GR.c) hx
   repeat' (first|(with_reducible first|(refine wN fun _ hnl=>?_;revert hnl;(repeat refine wS fun _ _=>?_);intro hnl)|refine wE ?_|(refine wK ?_ ?_<;>intro h)|(refine wB ?_ ?_<;>intro h<;>simp only[h]))|simp(maxSteps:=4000000) (disch:=first|exact ddL|fail) only[go_sem,simprocAttr,hat])
   all_goals first|exact⟨_,St.le_refl _,sH⟩|skip
   all_goals (try (exfalso;omega))
   all_goals
    refine .of (.less ?_ (St.le_refl _)) ⟨i+1,rfl,rfl,⟨by omega,fun g hg=>?_⟩,by omega⟩
    ·simp(maxSteps:=4000000) (disch:=first|exact ddL|fail) only[go_sem,simprocAttr,aC,aB]
     all_goals first|rfl|(simp;done)
    ·rw[a8 hx,List.mem_append,List.mem_singleton] at hg
     rcases hg with hg|rfl
     ·exact hq g hg
     ·omega
  ·have:i=l.length:=by omega
   subst this
   rw[List.take_length] at hq
   repeat' (first|(with_reducible first|(refine wN fun _ hnl=>?_;revert hnl;(repeat refine wS fun _ _=>?_);intro hnl)|refine wE ?_|(refine wK ?_ ?_<;>intro h)|(refine wB ?_ ?_<;>intro h<;>simp only[h]))|simp(maxSteps:=4000000) (disch:=first|exact ddL|fail) only[go_sem,simprocAttr])
   all_goals exact⟨_,St.le_refl _,FL ⟨by omega,hq⟩⟩
theorem KP(B:BK):aA Tryz.prog 35 [.agg B.c] St.none (fun r _=>Small (B.cards.length≤60∧B.dead.length≤60∧B.gr.length≤1000000∧∀g,g∈B.gr→g.mem.length≤1000000) r):=by
 refine aA.cC (aA.body 33 [.tmp 2] Tryz.func35 rfl rfl rfl rfl ?_)
 have hg:=KU B.gr false
 repeat' (first|((refine dW hg ?_;rintro _ ⟨gb,rfl,hgb⟩))|(with_reducible first|(refine wT ?_;(first|((fail_if_success (have:=nl1));refine wN fun nl1 hnl=>?_)|refine wN fun _ hnl=>?_);revert hnl;(repeat refine wS fun _ _=>?_);intro hnl)|refine wE ?_|(refine wK ?_ ?_<;>intro h)|(refine wB ?_ ?_<;>intro h<;>simp only[h]))|simp(maxSteps:=4000000) (disch:=first|exact ddL|fail) only[go_sem,simprocAttr,Tryz.f35])
 all_goals first|exact⟨_,St.le_refl _,sH⟩|skip
 all_goals (try (exfalso;omega))
 all_goals
  refine aH (α:=Nat) (fun i=>⟨33,[(3,.int .i64 (i:Int)),(1,.ptr nl1 0 0)],[]⟩) (fun _=>St.none.set nl1 (.row 26 5 [B.c])) (fun i=>i≤B.cards.length) (fun i=>B.cards.length - i) (.of (.less ?_ (St.le_refl _)) ⟨0,rfl,rfl,Nat.zero_le _⟩) ?_
  ·simp(maxSteps:=4000000) (disch:=first|exact ddL|fail) only[go_sem,simprocAttr,aC,aB]
   all_goals first|rfl|(simp;done)
  ·intro i hi
   have hi:i≤B.cards.length:=hi
   by_cases hlt:i<B.cards.length
   ·obtain⟨x,hx⟩:=bK B.cards hlt
    have hat:=bE (f:=CA.c) hx
    have hc:=pP x.f
    repeat' (first|(with_reducible first|refine up hc ?_)|(with_reducible first|(refine wT ?_;(first|((fail_if_success (have:=nl1));refine wN fun nl1 hnl=>?_)|refine wN fun _ hnl=>?_);revert hnl;(repeat refine wS fun _ _=>?_);intro hnl)|refine wE ?_|(refine wK ?_ ?_<;>intro h)|(refine wB ?_ ?_<;>intro h<;>simp only[h]))|simp(maxSteps:=4000000) (disch:=first|exact ddL|fail) only[go_sem,simprocAttr,FXs,hat])
    all_goals first|exact⟨_,St.le_refl _,sH⟩|skip
    all_goals (try (exfalso;omega))
    all_goals
     refine .of (.less ?_ (St.le_refl _)) ⟨i+1,rfl,rfl,(by omega:i+1≤B.cards.length),by omega⟩
     simp(maxSteps:=4000000) (disch:=first|exact ddL|fail) only[go_sem,simprocAttr,aC,aB]
     all_goals first|rfl|(simp;done)
   ·have:i=B.cards.length:=by omega
    subst this
    repeat' (first|(with_reducible first|(refine wT ?_;(first|((fail_if_success (have:=nl1));refine wN fun nl1 hnl=>?_)|refine wN fun _ hnl=>?_);revert hnl;(repeat refine wS fun _ _=>?_);intro hnl)|refine wE ?_|(refine wK ?_ ?_<;>intro h)|(refine wB ?_ ?_<;>intro h<;>simp only[h]))|simp(maxSteps:=4000000) (disch:=first|exact ddL|fail) only[go_sem,simprocAttr])
    all_goals exact⟨_,St.le_refl _,FL ⟨by omega,by omega,hgb (by simp_all)⟩⟩
end

section
open Go.ChangeShapes Go.WideShapes Go.RowKit
section
variable {H:Type} {enc:TypeId × Value→H}
theorem yO{P:Program}{w:World}{gs:List (DataW H)}:∀{ts:List TypeId} {vs:List Value} {ds:List (DataW H)} {ps:List MemPlace},DataW.TrodAll enc P w 0 (fun _=>true) true ts vs ds ps→∀{us:List TypeId},(DataW.weightsEach P (ts++us) (ds++gs)).all (·≤reachBytes)=true →
  ∀(j:Nat) (t el:TypeId) (a:Option Addr) (len cap:Nat),ts[j]?=some t→P.underlying t=some (.slice el)→vs[j]?=some (.slice a len cap)→len * P.bytesOf el≤reachBytes
 | [],vs,ds,ps,_,us,_,j,t,el,a,len,cap,h,_,_=>by simp at h
 | t0::ts,vs,ds,ps,hT,us,hw,j,t,el,a,len,cap,h,ht,hv=>by
  obtain⟨v,vs',d,ds',p,q,rfl,rfl,rfl,h1,h2⟩:=trodAll_cons hT
  simp only[List.cons_append,DataW.weightsEach,List.all_append,Bool.and_eq_true] at hw
  cases j with
  | succ j=>exact yO h2 hw.2 j t el a len cap (by simpa using h) ht (by simpa using hv)
  | zero =>
   simp only[List.getElem?_cons_zero,Option.some.injEq] at h hv
   subst h
   subst hv
   obtain⟨fuel,hf⟩:=h1
   have hc:(Value.slice a len cap).cells.toList=[.slice a len cap]:=rfl
   rw[hc] at hf
   rcases DataW.trod_slice ht hf with⟨e1,_⟩|⟨a',len',cap',elems,rest,m,_,e1,e2,_,_,_,hel,_⟩
   ·simp only[List.cons.injEq,Value.slice.injEq,and_true] at e1
    rw[e1.2.1,Nat.zero_mul]
    exact Nat.zero_le _
   ·simp only[List.cons.injEq,Value.slice.injEq,and_true] at e1
    obtain⟨e3,e4⟩:=Prod.mk.inj e2
    rw[e3] at hw
    have hw:=hw.1
    unfold DataW.weights at hw
    rw[ht] at hw
    simp only[List.all_cons,Bool.and_eq_true,decide_eq_true_eq,List.length_map] at hw
    refine Nat.le_trans (Nat.mul_le_mul_right _ ?_) hw.1
    rw[e1.2.1,←hel]
    exact Nat.le_add_right _ _
theorem tI{C:Checked}{os:Os}{g:FuncId}{fn:Func}{s:ChangeSpec}{conds:List PathCond}{apart fresh handsOn again:Bool}{tb:TypeId}{n:Nat}{laid:List (String × DataW Unit)}
 (hvars:s.vars=[])(hs:∀(H:Type) (ds:List (DataW H)),ds.length=fn.params.size→s.fn H ds={ results:=[.lit (.bool true)],args:=ds })
 (hres:fn.resultTypes=#[tb])(htb:C.prog.underlying tb=some .bool)(hl:laidOutB C.prog=true)(hr:∀t,t∈fn.params.toList→C.prog.readableRec t=true∧t<C.prog.types.size)
 (hshp:∀t,t∈fn.params.toList→shp C.prog n t=true)(hG:∀W:World,W.ShapedOpen C.prog→laidMetH C.prog laid W→MY W)
 (own:ownKnob C.prog.godebug=none)(started:os.Started)(noInit:C.prog.inits.idxOf? g=none)(hfn:C.prog.funcs[g]?=some fn)
 (witness:∃(w:World) (tape:Tape) (i:Input),w.os=os∧(w.forCall tape i).Shaped C.prog∧i.vars=[]∧Input.okWide C.prog (w.forCall tape i) .any w.heap.size g i ∧
   ((s.pre enc C.prog fn conds apart (w.forCall tape i).memory i.args∧laidMetH C.prog laid (w.forCall tape i).memory)∧sizedMet enc C.prog fn (OpenSpec.ofChange s) apart (w.forCall tape i).memory i.args)∧({}:Assume).holds C.prog (lone (Frame.enter C.prog g i.args .normal) [] (w.forCall tape i)))
 (h:∀ms,ATs C.prog n fn.params.toList ms→(∀(j:Nat) (t el:TypeId) (sz:Nat) (xs:List (List MV)) (tt:Bool),fn.params.toList[j]?=some t→C.prog.underlying t=some (.slice el)→ms[j]?=some (.lst sz xs tt)→xs.length * C.prog.bytesOf el≤reachBytes)→aA C.prog g ms St.none fun r _=>r=.bool true) :
  ReturnsInHanded {} C os g .any (fun w args=>(s.pre enc C.prog fn conds apart w args∧laidMetH C.prog laid w)∧sizedMet enc C.prog fn (OpenSpec.ofChange s) apart w args) (s.post enc C.prog fn apart fresh handsOn again):=by
 refine returnsInHanded_of_calls own started noInit witness ?_
 intro w tape i _ hsh _ hok hpre hholds
 obtain⟨_,_,_,fn',hfn',_,_,_,_,hval⟩:=hok
 have e':fn'=fn:=Option.some.inj (hfn'.symm.trans hfn)
 subst e'
 obtain⟨⟨⟨ds,gs,before,hw,hc⟩,hX⟩,hz⟩:=hpre
 have hW:=DataW.Whole.of_heap (w':=w.forCall tape i) (by rfl) hw
 have hX':laidMetH C.prog laid (w.forCall tape i):=hX.of_heap (by rfl)
 refine Calls.mono (R:=fun e W'=>∃v,e=.returned v∧s.post enc C.prog fn' apart fresh handsOn again (w.forCall tape i) i.args v W') ?_ (fun e W' ⟨v,he,hp⟩=>by
  subst he
  exact ChangeSpec.post_blind hp)
 have hzW:(w.forCall tape i).memory.heap=(w.forCall tape i).heap:=rfl
 generalize hWe:w.forCall tape i=W at *
 generalize hargs:i.args=args at *
 generalize hbase:w.heap.size=base at *
 obtain⟨p,q,hA,_⟩:=id hW
 obtain⟨ms,e,hrel,hat⟩:=xG (n:=n) (base:=base) hshp (fun j t v p q=>hval j t v (by simpa using p) (by simpa using q)) hA
 have hrels:fI (rZ W) args ms:=⟨by simpa using e,fun i m hm=>by
  have hi:i<args.size:=by
   have:=(List.getElem?_eq_some_iff.1 hm).1
   simp at e;omega
  exact hrel i _ m (by simp[Array.getD,hi]) hm⟩
 obtain⟨_,ds2,gs2,before2,hz1,hz2⟩:=hz
 have hz3:=DataW.Whole.of_heap (w':=W) hzW hz1
 obtain⟨p2,q2,hA2,_⟩:=id hz3
 have hsz:∀(j:Nat) (t el:TypeId) (sz:Nat) (xs:List (List MV)) (tt:Bool),fn'.params.toList[j]?=some t→C.prog.underlying t=some (.slice el)→ms[j]?=some (.lst sz xs tt)→xs.length * C.prog.bytesOf el≤reachBytes:=fun j t el sz xs tt h1 h2 h3=>by
  have hr:=hrels.2 j _ h3
  obtain⟨a,cap,e1,_⟩:=hr.iA
  have hjl:j<args.size:=by
   have:=(List.getElem?_eq_some_iff.1 h3).1
   simp at e;omega
  refine yO (gs:=gs2) hA2 (us:=(OpenSpec.ofChange s).bare.plain.varTypes C.prog) hz2 j t el a xs.length cap h1 h2 ?_
  rw[←e1]
  simp[Array.getD,hjl]
 refine((h ms hat hsz).2 (rZ W) W args (OW W (hG W hsh hX')) hrels).mono fun e' W' ⟨v,mv,σ',Φ',he,hv,hi,hst,hq⟩=>?_
 subst hq
 cases hv
 refine⟨_,he,I8 hvars hs hres htb hl hr hW hst.os hst.output fun k hk=>hst.block k hk ?_⟩
 rintro⟨l,o,p,h1,_⟩
 simp[St.none] at h1
end
end
end Go.Proofs.YtaojijkdamfbnaaGreatDoor
