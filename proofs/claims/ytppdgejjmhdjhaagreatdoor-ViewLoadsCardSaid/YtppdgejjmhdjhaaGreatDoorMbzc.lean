/- Parts of the proof, joined; conditions: those that its theorems name. -/
import Derived.Test.YtppdgejjmhdjhaaGreatDoorMbzb
import Derived.Test.YtppdgejjmhdjhaaGreatDoorRows
import Derived.Lib.LaidTab
import Derived.LaidLaws
import Derived.LaidHandle
import Derived.Stop.Joined
import Derived.LaidMore
import Derived.MakeChecks
set_option linter.unusedVariables false
set_option linter.unusedSimpArgs false
set_option maxHeartbeats 4000000
namespace Go.Proofs.YtppdgejjmhdjhaaGreatDoor
section
open Go.ChangeShapes Go.WideShapes Go.RowKit
set_option maxRecDepth 100000
def qF(cs:List MV):List (Nat × Nat)→List MV
 | []=>[]
 | p::r=>(cs.drop p.1).take p.2++qF cs r
def tR(o n:Nat):List (Nat × Nat)→Bool
 | []=>o==n
 | p::r=>p.1==o&&tR (o+p.2) n r
theorem Dt{cs:List MV}:∀(l:List (Nat × Nat)) (o:Nat),tR o cs.length l=true→qF cs l=cs.drop o
 | [],o,h=>by
  simp only[tR,beq_iff_eq] at h
  rw[qF,h,List.drop_length]
 | p::r,o,h=>by
  simp only[tR,Bool.and_eq_true,beq_iff_eq] at h
  rw[qF,Dt r _ h.2,h.1,←List.drop_drop,List.take_append_drop]
theorem jG{cs:List MV}{n:Nat}(hn:cs.length=n)(l:List (Nat × Nat))(h:tR 0 n l=true):cs=qF cs l:=by
 have:=Dt (cs:=cs) l 0 (by rw[hn];exact h)
 rw[this,List.drop_zero]
theorem i64_in{v:Int}(h0:IntKind.i64.min≤v)(h1:v≤IntKind.i64.max):Pb v:=by
 have e0:IntKind.i64.min = -9223372036854775808:=by decide
 have e1:IntKind.i64.max=9223372036854775807:=by decide
 rw[e0] at h0
 rw[e1] at h1
 exact⟨h0,h1⟩
theorem mR{n:Nat}{x:List MV}(h:CT Tryz.prog (n+1) 3 x):∃v,x=[.int .i64 v]∧Pb v:=by
 obtain⟨v,h0,h1,h2⟩:=Ef (by rw[td3]) h
 exact⟨v,h0,i64_in h1 h2⟩
theorem PN{n:Nat}{x:List MV}(h:CT Tryz.prog (n+1) 23 x):∃u:UInt32,x=[.int .u32 (u.toNat:Int)]:=by
 obtain⟨v,h0,h1,h2⟩:=Ef (by rw[FD]) h
 have e0:IntKind.u32.min=0:=by decide
 have e1:IntKind.u32.max=4294967295:=by decide
 rw[e0] at h1
 rw[e1] at h2
 exact⟨UInt32.ofNat v.toNat,by rw[h0,NO h1 (by omega)]⟩
theorem AR{n:Nat}{x:List MV}(h:CT Tryz.prog (n+2) 54 x):∃a:VA,x=a.c:=by
 obtain⟨hl,hf⟩:=fX (congrArg TD.k wV) h
 rw[wV] at hl
 obtain⟨a,ha,_⟩:=mR (hf (0,3) (by simp))
 obtain⟨b,hb,_⟩:=mR (hf (1,3) (by simp))
 obtain⟨s,hs,_⟩:=Oj (by rw[td9]) (hf (2,9) (by simp))
 simp only[td3,td9] at ha hb hs
 refine⟨⟨a,b,s⟩,?_⟩
 rw[jG hl [(0,1),(1,1),(2,1)] rfl]
 simp only[qF,ha,hb,hs]
 rfl
theorem PL{n:Nat}{x:List MV}(h:CT Tryz.prog (n+3) 121 x):∃a:ND,x=a.c:=by
 obtain⟨hl,hf⟩:=fX (congrArg TD.k GJ) h
 rw[GJ] at hl
 obtain⟨a,ha,_⟩:=mR (hf (0,3) (by simp))
 obtain⟨b,hb,_⟩:=mR (hf (1,3) (by simp))
 obtain⟨v,hv⟩:=AR (hf (2,54) (by simp))
 simp only[td3,wV] at ha hb hv
 refine⟨⟨a,b,v⟩,?_⟩
 rw[jG hl [(0,1),(1,1),(2,3)] rfl]
 simp only[qF,ha,hb,hv]
 rfl
theorem OM{n:Nat}{x:List MV}(h:CT Tryz.prog (n+4) 22 x):∃l:List ND,x=[.lst 5 (l.map ND.c) false]:=by
 obtain⟨xs,hm,_,hx⟩:=kN (by rw[OU]) h
 obtain⟨l,rfl⟩:=kS fun x hx'=>PL (hx x hx')
 rw[GJ] at hm
 exact⟨l,hm⟩
theorem PO{n:Nat}{x:List MV}(h:CT Tryz.prog (n+3) 55 x):∃f:F8,x=fc f:=by
 obtain⟨hl,ha⟩:=JS (congrArg TD.k FE) h
 rw[FE] at hl
 rw[wV] at ha
 simp only at hl ha
 obtain⟨a0,h0⟩:=AR (ha 0 (by decide))
 obtain⟨a1,h1⟩:=AR (ha 1 (by decide))
 obtain⟨a2,h2⟩:=AR (ha 2 (by decide))
 obtain⟨a3,h3⟩:=AR (ha 3 (by decide))
 obtain⟨a4,h4⟩:=AR (ha 4 (by decide))
 obtain⟨a5,h5⟩:=AR (ha 5 (by decide))
 obtain⟨a6,h6⟩:=AR (ha 6 (by decide))
 obtain⟨a7,h7⟩:=AR (ha 7 (by decide))
 refine⟨⟨[a0,a1,a2,a3,a4,a5,a6,a7],rfl⟩,?_⟩
 rw[jG hl [(0 * 3,3),(1 * 3,3),(2 * 3,3),(3 * 3,3),(4 * 3,3),(5 * 3,3),(6 * 3,3),(7 * 3,3)] rfl]
 simp only[qF,h0,h1,h2,h3,h4,h5,h6,h7]
 rfl
theorem N2{n:Nat}{x:List MV}(h:CT Tryz.prog (n+4) 126 x):∃c:CA,x=c.c:=by
 obtain⟨hl,hf⟩:=fX (congrArg TD.k wU) h
 rw[wU] at hl
 obtain⟨a,ha,_⟩:=mR (hf (0,3) (by simp))
 obtain⟨b,hb,_⟩:=mR (hf (1,3) (by simp))
 obtain⟨u,hu⟩:=PN (hf (2,23) (by simp))
 obtain⟨f,hff⟩:=PO (hf (3,55) (by simp))
 simp only[td3,FD,FE] at ha hb hu hff
 refine⟨⟨a,b,u,f⟩,?_⟩
 rw[jG hl [(0,1),(1,1),(2,1),(3,24)] rfl]
 simp only[qF,ha,hb,hu,hff,List.append_nil]
 rfl
theorem Qq:ownKnob Tryz.prog.godebug=none:=by kernel_rfl
end

section
open Go.ChangeShapes Go.WideShapes Go.RowKit
section
variable {H:Type} {enc:TypeId × Value→H}
theorem xL{C:Checked}{os:Os}{g:FuncId}{fn:Func}{s:ChangeSpec}{conds:List PathCond}{apart fresh handsOn again:Bool}{tb:TypeId}{n:Nat}{laid:List (String × DataW Unit)}
 (hvars:s.vars=[])(hs:∀(H:Type) (ds:List (DataW H)),ds.length=fn.params.size→s.fn H ds={ results:=[.lit (.bool true)],args:=ds })
 (hres:fn.resultTypes=#[tb])(htb:C.prog.underlying tb=some .bool)(hl:laidOutB C.prog=true)(hr:∀t,t∈fn.params.toList→C.prog.readableRec t=true∧t<C.prog.types.size)
 (hshp:∀t,t∈fn.params.toList→shp C.prog n t=true)(hG:∀W:World,W.ShapedOpen C.prog→laidMetH C.prog laid W→Od W)
 (own:ownKnob C.prog.godebug=none)(started:os.Started)(noInit:C.prog.inits.idxOf? g=none)(hfn:C.prog.funcs[g]?=some fn)
 (witness:∃(w:World) (tape:Tape) (i:Input),w.os=os∧(w.forCall tape i).Shaped C.prog∧i.vars=[]∧Input.okWide C.prog (w.forCall tape i) .any w.heap.size g i ∧
   ((s.pre enc C.prog fn conds apart (w.forCall tape i).memory i.args∧laidMetH C.prog laid (w.forCall tape i).memory)∧sizedMet enc C.prog fn (OpenSpec.ofChange s) apart (w.forCall tape i).memory i.args)∧({}:Assume).holds C.prog (lone (Frame.enter C.prog g i.args .normal) [] (w.forCall tape i)))
 (h:∀ms,ATs C.prog n fn.params.toList ms→aA C.prog g ms St.none fun r _=>r=.bool true) :
  ReturnsInHanded {} C os g .any (fun w args=>(s.pre enc C.prog fn conds apart w args∧laidMetH C.prog laid w)∧sizedMet enc C.prog fn (OpenSpec.ofChange s) apart w args) (s.post enc C.prog fn apart fresh handsOn again):=by
 refine returnsInHanded_of_calls own started noInit witness ?_
 intro w tape i _ hsh _ hok hpre hholds
 obtain⟨_,_,_,fn',hfn',_,_,_,_,hval⟩:=hok
 have e':fn'=fn:=Option.some.inj (hfn'.symm.trans hfn)
 subst e'
 obtain⟨⟨⟨ds,gs,before,hw,hc⟩,hX⟩,hz⟩:=hpre
 have hW:=DataW.Whole.of_heap (w':=w.forCall tape i) (by rfl) hw
 have hX':laidMetH C.prog laid (w.forCall tape i):=hX.of_heap (by rfl)
 refine Calls.mono (R:=fun e W'=>∃v,e=.returned v∧s.post enc C.prog fn' apart fresh handsOn again (w.forCall tape i) i.args v W') ?_ (fun e W' ⟨v,he,hp⟩=>by
  subst he
  exact ChangeSpec.post_blind hp)
 generalize hWe:w.forCall tape i=W at *
 generalize hargs:i.args=args at *
 generalize hbase:w.heap.size=base at *
 obtain⟨p,q,hA,_⟩:=id hW
 obtain⟨ms,e,hrel,hat⟩:=yJ (n:=n) (base:=base) hshp (fun j t v p q=>hval j t v (by simpa using p) (by simpa using q)) hA
 have hrels:gE (sS W) args ms:=⟨by simpa using e,fun i m hm=>by
  have hi:i<args.size:=by
   have:=(List.getElem?_eq_some_iff.1 hm).1
   simp at e;omega
  exact hrel i _ m (by simp[Array.getD,hi]) hm⟩
 refine((h ms hat).2 (sS W) W args (Qk W (hG W hsh hX')) hrels).mono fun e' W' ⟨v,mv,σ',Φ',he,hv,hi,hst,hq⟩=>?_
 subst hq
 cases hv
 refine⟨_,he,Ke hvars hs hres htb hl hr hW hst.os hst.output fun k hk=>hst.block k hk ?_⟩
 rintro⟨l,o,p,h1,_⟩
 simp[St.none] at h1
end
end

section
open Go.ChangeShapes Go.WideShapes Go.RowKit
set_option maxRecDepth 100000
abbrev B4:List (String × DataW Unit):=[("math/bits.deBruijn32tab",Rows.laid_math_bits_deBruijn32tab)]
theorem PD:Tryz.prog.globalNamed "math/bits.deBruijn32tab" = some 0:=by kernel_rfl
theorem Qr:(Tryz.prog.globals[0]?).map (·.type)=some 325:=by kernel_rfl
theorem QD:Tryz.prog.underlying 325=some (.array 32 5):=by kernel_rfl
theorem uU8:Tryz.prog.underlying 5=some (.int .u8):=by kernel_rfl
theorem cU8:Tryz.prog.cellsOf 5=1:=by kernel_rfl
theorem Qi:Tryz.prog.cellsOf 325=32:=by kernel_rfl
theorem Er:∀W:World,W.ShapedOpen Tryz.prog→laidMetH Tryz.prog B4 W→Od W:=fun W hsh h=>by
 rw[MakeChecks.laidMetH_plain _ _ _ (by kernel_rfl)] at h
 have ht:Go.Lib.TabIs Tryz.prog W "math/bits.deBruijn32tab" .u8 dbT:=Go.Lib.tabIs_of_head PD Qr QD uU8 cU8 Qi h
 refine⟨fun g i v hv=>?_,xK W hsh⟩
 by_cases hg:g=0
 ·subst hg
  rw[NV,Option.map_eq_some_iff] at hv
  obtain⟨n,hn,rfl⟩:=hv
  have hi:=(List.getElem?_eq_some_iff.1 hn).1
  rw[ht.cell PD i hi]
  simp[List.getD,hn]
 ·unfold GT at hv
  rw[if_neg hg] at hv
  cases hv
theorem JW(os:Os)(args:Array Value):laidMetH Tryz.prog B4 ((World.doorLaid Tryz.prog 40 os).forCall (fun _ _=>0) ⟨#[],args,[]⟩).memory :=
 laidMetH_of_parts3 (fuel:=8) (laidMet_of_run' 8 (by kernel_rfl) (by kernel_rfl)) (by kernel_rfl) (by kernel_rfl)
end

section
set_option maxRecDepth 100000
set_option maxHeartbeats 8000000
theorem zC{P:Program}{id:Nat}{l:List Oper}{f:FR}{σ:St}{Q:MQ}(hm:P.follows .mixedOrders=true)(ds:List (Nat × Nat))(Ds:List Nat)(hds:ds.map (·.1)=Ds)(Rs:List (Nat × Nat))(hchk:oO ⟨Ds,Rs,none,.no⟩ l.toArray=true)(C:bR)
 (h1:∀p,p∈ds→∃i o,f.get p.1=.ptr p.2 i o)(h2:(ds.map (·.2)).Pairwise (·≠·))(h3:Ds.Pairwise (·≠·))(h4:∀p,p∈Rs→p.2∈Ds∧∀l i o,f.get p.1=.ptr l i o→l=uI ds p.2)
 (h:R (iN P C (@OfNat.ofNat (Array Oper) (nat_lit 0) (@_root_.id (OfNat (Array Oper) (nat_lit 0)) (OfNat.mk (l.toArray)))) (Q .normal) (@OfNat.ofNat (List Oper) (nat_lit 0) (@_root_.id (OfNat (List Oper) (nat_lit 0)) (OfNat.mk l))) f σ)):R (oG P id (@OfNat.ofNat (List Oper) (nat_lit 0) (@_root_.id (OfNat (List Oper) (nat_lit 0)) (OfNat.mk l))) f σ Q):=by
 subst hds
 exact rF (C:=C.pl) (X:=⟨ds.map (·.1),Rs,none,.no⟩) (loc:=fun t l=>l=uI ds t) hm (show lX ⟨ds.map (·.1),Rs,none,.no⟩ (fun t l=>l=uI ds t) C.pl from⟨C.GD.u,trivial⟩) hchk (fun _ _ hd _ _ _ h=>sX hd h) (DOk.of h1 h2 h3 h4) h
def tu0:TU:=⟨0,0,0,0,ca0⟩
def iW(seq old id:Int)(c:CA)(is:Bool):TU:=⟨seq,id,old,if is=true then c.ver else 0,if is=true then c else ca0⟩
theorem AZ(seq old id:Int)(c:CA)(is:Bool):aA Tryz.prog 77 [.int .i64 seq,.int .i64 old,.int .i64 id,.agg c.c,.bool is] St.none (fun r _=>r=.tup [.agg (if old=(iW seq old id c is).new then tu0 else iW seq old id c is).c,.bool (!decide (old=(iW seq old id c is).new))]):=by
 refine aA.bZ (aA.body 30 [.cell 10 128,.tmp 11] Tryz.func77 rfl rfl rfl rfl ?_)
 obtain⟨T,hT⟩:∃T,iW seq old id c is=T:=⟨_,rfl⟩
 have hn:T.new=if is=true then c.ver else 0:=by rw[←hT];rfl
 have hTc:T.c=.int .i64 seq::.int .i64 id::.int .i64 old::.int .i64 (if is=true then c.ver else 0)::(if is=true then c else ca0).c:=by rw[←hT];rfl
 rw[hT]
 cases is
 ·simp only[Bool.false_eq_true,if_false] at hn hTc
  by_cases h:old=0
  ·rw[if_pos (h.trans hn.symm),decide_eq_true (h.trans hn.symm)]
   subst h
   repeat' (first|(with_reducible first|(refine wT ?_;(first|((fail_if_success (have:=nl1));refine wN fun nl1 hnl=>?_)|((fail_if_success (have:=nl2));refine wN fun nl2 hnl=>?_)|((fail_if_success (have:=nl3));refine wN fun nl3 hnl=>?_)|refine wN fun _ hnl=>?_);revert hnl;(repeat refine wS fun _ _=>?_);intro hnl)|refine wE ?_|(refine wK ?_ ?_<;>intro h)|(refine wB ?_ ?_<;>intro h<;>simp only[h]))|simp(maxSteps:=4000000) (disch:=first|exact ddL|fail) only[go_sem,simprocAttr,Tryz.f77,FXs])
   all_goals first|exact⟨_,St.le_refl _,rfl⟩|exact⟨_,St.le_refl _⟩
  ·rw[if_neg (fun e=>h (e.trans hn)),decide_eq_false (fun e=>h (e.trans hn)),hTc]
   repeat' (first|(with_reducible first|(refine wT ?_;(first|((fail_if_success (have:=nl1));refine wN fun nl1 hnl=>?_)|((fail_if_success (have:=nl2));refine wN fun nl2 hnl=>?_)|((fail_if_success (have:=nl3));refine wN fun nl3 hnl=>?_)|refine wN fun _ hnl=>?_);revert hnl;(repeat refine wS fun _ _=>?_);intro hnl)|refine wE ?_|(refine wK ?_ ?_<;>intro h)|(refine wB ?_ ?_<;>intro h<;>simp only[h]))|simp(maxSteps:=4000000) (disch:=first|exact ddL|fail) only[go_sem,simprocAttr,Tryz.f77,FXs])
   all_goals first|exact⟨_,St.le_refl _,rfl⟩|exact⟨_,St.le_refl _⟩
 ·simp only[if_true] at hn hTc
  by_cases h:old=c.ver
  ·rw[if_pos (h.trans hn.symm),decide_eq_true (h.trans hn.symm)]
   subst h
   repeat' (first|(with_reducible first|(refine wT ?_;(first|((fail_if_success (have:=nl1));refine wN fun nl1 hnl=>?_)|((fail_if_success (have:=nl2));refine wN fun nl2 hnl=>?_)|((fail_if_success (have:=nl3));refine wN fun nl3 hnl=>?_)|refine wN fun _ hnl=>?_);revert hnl;(repeat refine wS fun _ _=>?_);intro hnl)|refine wE ?_|(refine wK ?_ ?_<;>intro h)|(refine wB ?_ ?_<;>intro h<;>simp only[h]))|simp(maxSteps:=4000000) (disch:=first|exact ddL|fail) only[go_sem,simprocAttr,Tryz.f77,FXs])
   have d1:nl3≠nl1:=by assumption
   refine zC mixed [(8,nl1),(12,nl3)] [8,12] rfl [(18,8),(21,12),(22,12)] (by decide +kernel) (fun _ _=>none) ?h1 ?h2 (by decide) ?h4 ?go
   case h1 =>
    intro p hp
    simp only[List.mem_cons,List.not_mem_nil,or_false] at hp
    rcases hp with rfl|rfl
    ·exact⟨0,0,rfl⟩
    ·exact⟨0,0,rfl⟩
   case h2=>simp[Ne.symm d1]
   case h4 =>
    intro p hp
    simp only[List.mem_cons,List.not_mem_nil,or_false] at hp
    rcases hp with rfl|rfl|rfl
    all_goals exact⟨by decide,fun l i o h=>absurd h (by simp[FR.get,cA])⟩
   case go =>
    repeat' (first|(with_reducible first|(refine wT ?_;(first|((fail_if_success (have:=nl1));refine wN fun nl1 hnl=>?_)|((fail_if_success (have:=nl2));refine wN fun nl2 hnl=>?_)|((fail_if_success (have:=nl3));refine wN fun nl3 hnl=>?_)|refine wN fun _ hnl=>?_);revert hnl;(repeat refine wS fun _ _=>?_);intro hnl)|refine wE ?_|(refine wK ?_ ?_<;>intro h)|(refine wB ?_ ?_<;>intro h<;>simp only[h]))|simp(maxSteps:=4000000) (disch:=first|exact ddL|fail) only[go_sem,simprocAttr,FXs])
    all_goals first|exact⟨_,St.le_refl _,rfl⟩|exact⟨_,St.le_refl _⟩
  ·rw[if_neg (fun e=>h (e.trans hn)),decide_eq_false (fun e=>h (e.trans hn)),hTc]
   repeat' (first|(with_reducible first|(refine wT ?_;(first|((fail_if_success (have:=nl1));refine wN fun nl1 hnl=>?_)|((fail_if_success (have:=nl2));refine wN fun nl2 hnl=>?_)|((fail_if_success (have:=nl3));refine wN fun nl3 hnl=>?_)|refine wN fun _ hnl=>?_);revert hnl;(repeat refine wS fun _ _=>?_);intro hnl)|refine wE ?_|(refine wK ?_ ?_<;>intro h)|(refine wB ?_ ?_<;>intro h<;>simp only[h]))|simp(maxSteps:=4000000) (disch:=first|exact ddL|fail) only[go_sem,simprocAttr,Tryz.f77,FXs])
   have d1:nl3≠nl1:=by assumption
   refine zC mixed [(8,nl1),(12,nl3)] [8,12] rfl [(18,8),(21,12),(22,12)] (by decide +kernel) (fun _ _=>none) ?h1 ?h2 (by decide) ?h4 ?go
   case h1 =>
    intro p hp
    simp only[List.mem_cons,List.not_mem_nil,or_false] at hp
    rcases hp with rfl|rfl
    ·exact⟨0,0,rfl⟩
    ·exact⟨0,0,rfl⟩
   case h2=>simp[Ne.symm d1]
   case h4 =>
    intro p hp
    simp only[List.mem_cons,List.not_mem_nil,or_false] at hp
    rcases hp with rfl|rfl|rfl
    all_goals exact⟨by decide,fun l i o h=>absurd h (by simp[FR.get,cA])⟩
   case go =>
    repeat' (first|(with_reducible first|(refine wT ?_;(first|((fail_if_success (have:=nl1));refine wN fun nl1 hnl=>?_)|((fail_if_success (have:=nl2));refine wN fun nl2 hnl=>?_)|((fail_if_success (have:=nl3));refine wN fun nl3 hnl=>?_)|refine wN fun _ hnl=>?_);revert hnl;(repeat refine wS fun _ _=>?_);intro hnl)|refine wE ?_|(refine wK ?_ ?_<;>intro h)|(refine wB ?_ ?_<;>intro h<;>simp only[h]))|simp(maxSteps:=4000000) (disch:=first|exact ddL|fail) only[go_sem,simprocAttr,FXs])
    all_goals first|exact⟨_,St.le_refl _,rfl⟩|exact⟨_,St.le_refl _⟩
end
end Go.Proofs.YtppdgejjmhdjhaaGreatDoor
