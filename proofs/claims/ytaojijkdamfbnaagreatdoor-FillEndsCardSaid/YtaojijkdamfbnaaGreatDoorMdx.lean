/- Parts of the proof, joined; conditions: those that its theorems name. -/
import Derived.Test.YtaojijkdamfbnaaGreatDoorMds
import Derived.Test.YtaojijkdamfbnaaGreatDoorMdw
import Derived.Test.YtaojijkdamfbnaaGreatDoorRows
import Derived.Lib.LaidTab
import Derived.LaidLaws
import Derived.LaidHandle
import Derived.Stop.Joined
import Derived.LaidMore
import Derived.MakeChecks
import Derived.Conc.MuLib
import Derived.KernelRfl
import Derived.Defers
import Derived.Laws.Pointers
import Derived.RegionTactic
import Derived.RegionCalls
set_option linter.unusedVariables false
set_option linter.unusedSimpArgs false
set_option maxHeartbeats 4000000
namespace Go.Proofs.YtaojijkdamfbnaaGreatDoor
section
set_option maxRecDepth 100000
set_option maxHeartbeats 4000000
abbrev M0(a:Int):Prop:=-9223372036854775808≤a∧a≤9223372036854775807
end

section
set_option maxRecDepth 100000
set_option maxHeartbeats 4000000
def C5(f:F8):Bool:=(List.range 8).any fun i=>decide (200<(f.get i).s.size)
theorem zP(f:F8):aA Tryz.prog 55 [.agg (fc f)] St.none (fun r _=>r=.bool (C5 f)):=by
 refine aA.cP (aA.body 14 [.tmp 2] Tryz.func55 rfl rfl rfl rfl ?_)
 repeat' (first|(with_reducible first|(refine wT ?_;(first|((fail_if_success (have:=nl1));refine wN fun nl1 hnl=>?_)|refine wN fun _ hnl=>?_);revert hnl;(repeat refine wS fun _ _=>?_);intro hnl)|refine wE ?_|(refine wK ?_ ?_<;>intro h)|(refine wB ?_ ?_<;>intro h<;>simp only[h]))|simp(maxSteps:=4000000) (disch:=first|exact ddL|fail) only[go_sem,simprocAttr,Tryz.f55,FXs])
 refine aG (α:=Nat) (fun i=>⟨14,[(3,.int .i64 (i:Int)),(1,.ptr nl1 0 0)],[]⟩)
  (fun _=>St.none.set nl1 (.row 40 24 [fc f])) (fun i=>i≤8∧(List.range i).any (fun i=>decide (200<(f.get i).s.size))=false) (fun i=>8 - i) (.of (.less ?_ (St.le_refl _)) ⟨0,rfl,rfl,Nat.zero_le _,rfl⟩) ?_
 ·simp(maxSteps:=4000000) (disch:=first|exact ddL|fail) only[go_sem,simprocAttr,aC,aB]
  all_goals rfl
 ·rintro i ⟨hi,hq⟩
  by_cases hlt:i<8
  ·have hg:=fun d=>yB (f:=f) (d:=d) hlt
   obtain⟨v,hv⟩:∃v,f.get i=v:=⟨_,rfl⟩
   rw[hv] at hg
   by_cases hb:200<v.s.size
   ·have e:C5 f=true:=List.any_eq_true.2 ⟨i,List.mem_range.2 hlt,by rw[hv];exact decide_eq_true hb⟩
    rw[e]
    repeat' (first|(with_reducible first|(refine wT ?_;(first|((fail_if_success (have:=nl1));refine wN fun nl1 hnl=>?_)|refine wN fun _ hnl=>?_);revert hnl;(repeat refine wS fun _ _=>?_);intro hnl)|refine wE ?_|(refine wK ?_ ?_<;>intro h)|(refine wB ?_ ?_<;>intro h<;>simp only[h]))|simp(maxSteps:=4000000) (disch:=first|exact ddL|fail) only[go_sem,simprocAttr,FXs,hg])
    all_goals first|exact⟨_,St.le_refl _,rfl⟩|exact⟨_,St.le_refl _⟩|(exfalso;omega)
   ·repeat' (first|(with_reducible first|(refine wT ?_;(first|((fail_if_success (have:=nl1));refine wN fun nl1 hnl=>?_)|refine wN fun _ hnl=>?_);revert hnl;(repeat refine wS fun _ _=>?_);intro hnl)|refine wE ?_|(refine wK ?_ ?_<;>intro h)|(refine wB ?_ ?_<;>intro h<;>simp only[h]))|simp(maxSteps:=4000000) (disch:=first|exact ddL|fail) only[go_sem,simprocAttr,FXs,hg])
    all_goals (try (exfalso;omega))
    refine .of (.less ?_ (St.le_refl _)) ⟨i+1,rfl,rfl,⟨by omega,?_⟩,by omega⟩
    ·simp(maxSteps:=4000000) (disch:=first|exact ddL|fail) only[go_sem,simprocAttr,aC,aB]
     all_goals rfl
    ·rw[List.range_succ,List.any_append,hq,List.any_cons,List.any_nil,hv,decide_eq_false hb];rfl
  ·have hie:i=8:=by omega
   subst hie
   have e:C5 f=false:=hq
   rw[e]
   repeat' (first|(with_reducible first|(refine wT ?_;(first|((fail_if_success (have:=nl1));refine wN fun nl1 hnl=>?_)|refine wN fun _ hnl=>?_);revert hnl;(repeat refine wS fun _ _=>?_);intro hnl)|refine wE ?_|(refine wK ?_ ?_<;>intro h)|(refine wB ?_ ?_<;>intro h<;>simp only[h]))|simp(maxSteps:=4000000) (disch:=first|exact ddL|fail) only[go_sem,simprocAttr])
   all_goals first|exact⟨_,St.le_refl _,rfl⟩|exact⟨_,St.le_refl _⟩
end

section
open Go.ChangeShapes Go.WideShapes Go.RowKit
set_option maxRecDepth 100000
def qE(cs:List MV):List (Nat × Nat)→List MV
 | []=>[]
 | p::r=>(cs.drop p.1).take p.2++qE cs r
def sG(o n:Nat):List (Nat × Nat)→Bool
 | []=>o==n
 | p::r=>p.1==o&&sG (o+p.2) n r
theorem B4{cs:List MV}:∀(l:List (Nat × Nat)) (o:Nat),sG o cs.length l=true→qE cs l=cs.drop o
 | [],o,h=>by
  simp only[sG,beq_iff_eq] at h
  rw[qE,h,List.drop_length]
 | p::r,o,h=>by
  simp only[sG,Bool.and_eq_true,beq_iff_eq] at h
  rw[qE,B4 r _ h.2,h.1,←List.drop_drop,List.take_append_drop]
theorem j5{cs:List MV}{n:Nat}(hn:cs.length=n)(l:List (Nat × Nat))(h:sG 0 n l=true):cs=qE cs l:=by
 have:=B4 (cs:=cs) l 0 (by rw[hn];exact h)
 rw[this,List.drop_zero]
theorem i64_in{v:Int}(h0:IntKind.i64.min≤v)(h1:v≤IntKind.i64.max):M0 v:=by
 have e0:IntKind.i64.min = -9223372036854775808:=by decide
 have e1:IntKind.i64.max=9223372036854775807:=by decide
 rw[e0] at h0
 rw[e1] at h1
 exact⟨h0,h1⟩
theorem o5{n:Nat}{x:List MV}(h:CT Tryz.prog (n+1) 3 x):∃v,x=[.int .i64 v]∧M0 v:=by
 obtain⟨v,h0,h1,h2⟩:=CJ (by rw[td3]) h
 exact⟨v,h0,i64_in h1 h2⟩
theorem Ny{n:Nat}{x:List MV}(h:CT Tryz.prog (n+1) 28 x):∃u:UInt32,x=[.int .u32 (u.toNat:Int)]:=by
 obtain⟨v,h0,h1,h2⟩:=CJ (by rw[Ec]) h
 have e0:IntKind.u32.min=0:=by decide
 have e1:IntKind.u32.max=4294967295:=by decide
 rw[e0] at h1
 rw[e1] at h2
 exact⟨UInt32.ofNat v.toNat,by rw[h0,LJ h1 (by omega)]⟩
theorem zH{n:Nat}{x:List MV}(h:CT Tryz.prog (n+2) 39 x):∃a:VA,x=a.c:=by
 obtain⟨hl,hf⟩:=gR (congrArg TD.k uN) h
 rw[uN] at hl
 obtain⟨a,ha,_⟩:=o5 (hf (0,3) (by simp))
 obtain⟨b,hb,_⟩:=o5 (hf (1,3) (by simp))
 obtain⟨s,hs,_⟩:=Mh (by rw[td9]) (hf (2,9) (by simp))
 simp only[td3,td9] at ha hb hs
 refine⟨⟨a,b,s⟩,?_⟩
 rw[j5 hl [(0,1),(1,1),(2,1)] rfl]
 simp only[qE,ha,hb,hs]
 rfl
theorem Nx{n:Nat}{x:List MV}(h:CT Tryz.prog (n+3) 84 x):∃a:ND,x=a.c:=by
 obtain⟨hl,hf⟩:=gR (congrArg TD.k LF) h
 rw[LF] at hl
 obtain⟨a,ha,_⟩:=o5 (hf (0,3) (by simp))
 obtain⟨b,hb,_⟩:=o5 (hf (1,3) (by simp))
 obtain⟨v,hv⟩:=zH (hf (2,39) (by simp))
 simp only[td3,uN] at ha hb hv
 refine⟨⟨a,b,v⟩,?_⟩
 rw[j5 hl [(0,1),(1,1),(2,3)] rfl]
 simp only[qE,ha,hb,hv]
 rfl
theorem MD{n:Nat}{x:List MV}(h:CT Tryz.prog (n+4) 27 x):∃l:List ND,x=[.lst 5 (l.map ND.c) false]:=by
 obtain⟨xs,hm,_,hx⟩:=lS (by rw[MO]) h
 obtain⟨l,rfl⟩:=l3 fun x hx'=>Nx (hx x hx')
 rw[LF] at hm
 exact⟨l,hm⟩
theorem Nz{n:Nat}{x:List MV}(h:CT Tryz.prog (n+3) 40 x):∃f:F8,x=fc f:=by
 obtain⟨hl,ha⟩:=H0 (congrArg TD.k Ed) h
 rw[Ed] at hl
 rw[uN] at ha
 simp only at hl ha
 obtain⟨a0,h0⟩:=zH (ha 0 (by decide))
 obtain⟨a1,h1⟩:=zH (ha 1 (by decide))
 obtain⟨a2,h2⟩:=zH (ha 2 (by decide))
 obtain⟨a3,h3⟩:=zH (ha 3 (by decide))
 obtain⟨a4,h4⟩:=zH (ha 4 (by decide))
 obtain⟨a5,h5⟩:=zH (ha 5 (by decide))
 obtain⟨a6,h6⟩:=zH (ha 6 (by decide))
 obtain⟨a7,h7⟩:=zH (ha 7 (by decide))
 refine⟨⟨[a0,a1,a2,a3,a4,a5,a6,a7],rfl⟩,?_⟩
 rw[j5 hl [(0 * 3,3),(1 * 3,3),(2 * 3,3),(3 * 3,3),(4 * 3,3),(5 * 3,3),(6 * 3,3),(7 * 3,3)] rfl]
 simp only[qE,h0,h1,h2,h3,h4,h5,h6,h7]
 rfl
theorem Nu{n:Nat}{x:List MV}(h:CT Tryz.prog (n+4) 42 x):∃c:CA,x=c.c:=by
 obtain⟨hl,hf⟩:=gR (congrArg TD.k J1) h
 rw[J1] at hl
 obtain⟨a,ha,_⟩:=o5 (hf (0,3) (by simp))
 obtain⟨b,hb,_⟩:=o5 (hf (1,3) (by simp))
 obtain⟨u,hu⟩:=Ny (hf (2,28) (by simp))
 obtain⟨f,hff⟩:=Nz (hf (3,40) (by simp))
 simp only[td3,Ec,Ed] at ha hb hu hff
 refine⟨⟨a,b,u,f⟩,?_⟩
 rw[j5 hl [(0,1),(1,1),(2,1),(3,24)] rfl]
 simp only[qE,ha,hb,hu,hff,List.append_nil]
 rfl
theorem Od:ownKnob Tryz.prog.godebug=none:=by kernel_rfl
end

section
open Go.ChangeShapes Go.WideShapes Go.RowKit
section
variable {H:Type} {enc:TypeId × Value→H}
theorem vB{C:Checked}{os:Os}{g:FuncId}{fn:Func}{s:ChangeSpec}{conds:List PathCond}{apart fresh handsOn again:Bool}{tb:TypeId}{n:Nat}{laid:List (String × DataW Unit)}
 (hvars:s.vars=[])(hs:∀(H:Type) (ds:List (DataW H)),ds.length=fn.params.size→s.fn H ds={ results:=[.lit (.bool true)],args:=ds })
 (hres:fn.resultTypes=#[tb])(htb:C.prog.underlying tb=some .bool)(hl:laidOutB C.prog=true)(hr:∀t,t∈fn.params.toList→C.prog.readableRec t=true∧t<C.prog.types.size)
 (hshp:∀t,t∈fn.params.toList→shp C.prog n t=true)(hG:∀W:World,W.ShapedOpen C.prog→laidMetH C.prog laid W→Md W)
 (own:ownKnob C.prog.godebug=none)(started:os.Started)(noInit:C.prog.inits.idxOf? g=none)(hfn:C.prog.funcs[g]?=some fn)
 (witness:∃(w:World) (tape:Tape) (i:Input),w.os=os∧(w.forCall tape i).Shaped C.prog∧i.vars=[]∧Input.okWide C.prog (w.forCall tape i) .any w.heap.size g i ∧
   ((s.pre enc C.prog fn conds apart (w.forCall tape i).memory i.args∧laidMetH C.prog laid (w.forCall tape i).memory)∧sizedMet enc C.prog fn (OpenSpec.ofChange s) apart (w.forCall tape i).memory i.args)∧({}:Assume).holds C.prog (lone (Frame.enter C.prog g i.args .normal) [] (w.forCall tape i)))
 (h:∀ms,ATs C.prog n fn.params.toList ms→aA C.prog g ms St.none fun r _=>r=.bool true) :
  ReturnsInHanded {} C os g .any (fun w args=>(s.pre enc C.prog fn conds apart w args∧laidMetH C.prog laid w)∧sizedMet enc C.prog fn (OpenSpec.ofChange s) apart w args) (s.post enc C.prog fn apart fresh handsOn again):=by
 refine returnsInHanded_of_calls own started noInit witness ?_
 intro w tape i _ hsh _ hok hpre hholds
 obtain⟨_,_,_,fn',hfn',_,_,_,_,hval⟩:=hok
 have e':fn'=fn:=Option.some.inj (hfn'.symm.trans hfn)
 subst e'
 obtain⟨⟨⟨ds,gs,before,hw,hc⟩,hX⟩,hz⟩:=hpre
 have hW:=DataW.Whole.of_heap (w':=w.forCall tape i) (by rfl) hw
 have hX':laidMetH C.prog laid (w.forCall tape i):=hX.of_heap (by rfl)
 refine Calls.mono (R:=fun e W'=>∃v,e=.returned v∧s.post enc C.prog fn' apart fresh handsOn again (w.forCall tape i) i.args v W') ?_ (fun e W' ⟨v,he,hp⟩=>by
  subst he
  exact ChangeSpec.post_blind hp)
 generalize hWe:w.forCall tape i=W at *
 generalize hargs:i.args=args at *
 generalize hbase:w.heap.size=base at *
 obtain⟨p,q,hA,_⟩:=id hW
 obtain⟨ms,e,hrel,hat⟩:=v7 (n:=n) (base:=base) hshp (fun j t v p q=>hval j t v (by simpa using p) (by simpa using q)) hA
 have hrels:fH (rI W) args ms:=⟨by simpa using e,fun i m hm=>by
  have hi:i<args.size:=by
   have:=(List.getElem?_eq_some_iff.1 hm).1
   simp at e;omega
  exact hrel i _ m (by simp[Array.getD,hi]) hm⟩
 refine((h ms hat).2 (rI W) W args (N8 W (hG W hsh hX')) hrels).mono fun e' W' ⟨v,mv,σ',Φ',he,hv,hi,hst,hq⟩=>?_
 subst hq
 cases hv
 refine⟨_,he,Ir hvars hs hres htb hl hr hW hst.os hst.output fun k hk=>hst.block k hk ?_⟩
 rintro⟨l,o,p,h1,_⟩
 simp[St.none] at h1
end
end

section
open Go.ChangeShapes Go.WideShapes Go.RowKit
set_option maxRecDepth 100000
abbrev AR:List (String × DataW Unit):=[("math/bits.deBruijn32tab",Rows.laid_math_bits_deBruijn32tab)]
theorem Nn:Tryz.prog.globalNamed "math/bits.deBruijn32tab" = some 0:=by kernel_rfl
theorem Oe:(Tryz.prog.globals[0]?).map (·.type)=some 230:=by kernel_rfl
theorem Oq:Tryz.prog.underlying 230=some (.array 32 5):=by kernel_rfl
theorem uU8:Tryz.prog.underlying 5=some (.int .u8):=by kernel_rfl
theorem cU8:Tryz.prog.cellsOf 5=1:=by kernel_rfl
theorem N7:Tryz.prog.cellsOf 230=32:=by kernel_rfl
theorem CW:∀W:World,W.ShapedOpen Tryz.prog→laidMetH Tryz.prog AR W→Md W:=fun W hsh h=>by
 rw[MakeChecks.laidMetH_plain _ _ _ (by kernel_rfl)] at h
 have ht:Go.Lib.TabIs Tryz.prog W "math/bits.deBruijn32tab" .u8 dbT:=Go.Lib.tabIs_of_head Nn Oe Oq uU8 cU8 N7 h
 refine⟨fun g i v hv=>?_,vA W hsh⟩
 by_cases hg:g=0
 ·subst hg
  rw[LP,Option.map_eq_some_iff] at hv
  obtain⟨n,hn,rfl⟩:=hv
  have hi:=(List.getElem?_eq_some_iff.1 hn).1
  rw[ht.cell Nn i hi]
  simp[List.getD,hn]
 ·unfold GT at hv
  rw[if_neg hg] at hv
  cases hv
theorem H5(os:Os)(args:Array Value):laidMetH Tryz.prog AR ((World.doorLaid Tryz.prog 40 os).forCall (fun _ _=>0) ⟨#[],args,[]⟩).memory :=
 laidMetH_of_parts3 (fuel:=8) (laidMet_of_run' 8 (by kernel_rfl) (by kernel_rfl)) (by kernel_rfl) (by kernel_rfl)
end

section
abbrev mu:Go.Conc.Locks.MuLink:={ lock:=160,unlock:=161,ilock:=192,iunlock:=193,lockSlow:=210,unlockSlow:=213,disable:=206,enable:=208,acquire:=209,relMerge:=211,cas32:=207,add32:=212,tMutex:=105,tIMutex:=103,tPMutex:=223,tPIMutex:=232,tPI32:=234,tUP:=236,tNoCopy:=98,tU32:=28 }
theorem Ji:Go.Conc.Locks.MuLib Tryz.prog mu :=
  ⟨Tryz.func160,Tryz.func161,Tryz.func192,Tryz.func193,Tryz.func206,Tryz.func208,Tryz.func209,Tryz.func211,Tryz.func207,Tryz.func212,Tryz.underlying103,Tryz.runUnderlying103,Tryz.sizeOf103,Tryz.isAgg103,Tryz.zeroValue103,Tryz.underlying105,Tryz.runUnderlying105,Tryz.sizeOf105,Tryz.isAgg105,Tryz.zeroValue105,Tryz.underlying223,Tryz.runUnderlying223,Tryz.sizeOf223,Tryz.isAgg223,Tryz.zeroValue223,Tryz.underlying232,Tryz.runUnderlying232,Tryz.sizeOf232,Tryz.isAgg232,Tryz.zeroValue232,Tryz.underlying234,Tryz.runUnderlying234,Tryz.sizeOf234,Tryz.isAgg234,Tryz.zeroValue234,Tryz.underlying236,Tryz.runUnderlying236,Tryz.sizeOf236,Tryz.isAgg236,Tryz.zeroValue236,Tryz.underlying98,Tryz.runUnderlying98,Tryz.sizeOf98,Tryz.isAgg98,Tryz.zeroValue98,Tryz.underlying21,Tryz.runUnderlying21,Tryz.sizeOf21,Tryz.isAgg21,Tryz.zeroValue21,(by kernel_rfl)⟩
end

section
set_option maxRecDepth 100000
set_option maxHeartbeats 4000000
theorem Ck(a:Addr)(n:Int)(w:World)(hc:w.cell? a=some (.int .u32 n))(hs:a.spot=none):Calls Tryz.prog 127 #[.pointer (some a)] w fun e w'=>e=.returned (.bool (n != 0))∧w'=w:=by
 obtain⟨b,off,sub⟩:=a
 simp only at hs
 subst hs
 have hl:=run_call_load (P:=Tryz.prog) Tryz.func159 (by kernel_rfl) (by kernel_rfl) (by kernel_rfl) .u32 (by kernel_rfl) hc
 go_enter Tryz.func127,Tryz.ntmps127
 go_wp2
 go_ret
 exact⟨rfl,rfl⟩
theorem pL(a:Addr)(x:Value)(u:FrameMode)(w:World)(hc:w.cell? a=some x)(hz:w.frozen? a=false)(hs:a.spot=none) :
  CallsD Tryz.prog 162 #[.pointer (some a),.bool true] u w fun e u' w'=>u'=u∧(e=.returned (.tuple #[])∧w'=w.drew.setCell a (.int .u32 1)):=by
 obtain⟨b,off,sub⟩:=a
 simp only at hs
 subst hs
 have hc':w.drew.cell? ⟨b,off,none⟩=some x:=by go_simp
 have hz':w.drew.frozen? ⟨b,off,none⟩=false:=by go_simp
 have hst:=run_call_store (P:=Tryz.prog) Tryz.func194 (by kernel_rfl) (by kernel_rfl) (by kernel_rfl) (by kernel_rfl) (k:=.u32) (y:=1) hc' hz'
 go_enter_d Tryz.func162,Tryz.ntmps162
 go_wp2
 go_region_calls
 all_goals (go_end0;exact⟨rfl,rfl⟩)
theorem lL{l o e:Nat}{t:TypeId}{x:List MV}{n:Int}(hx:x[o]?=some (.int .u32 n)):aA Tryz.prog 127 [.ptr l 0 o] (St.none.set l (.row t e [x])) (fun v σ'=>v=.bool (n != 0)∧σ'=St.none.set l (.row t e [x])):=by
 refine⟨⟨_,Tryz.func127,rfl,rfl⟩,fun Φ w vs hi hr=>?_⟩
 obtain⟨p,R,v0,hp,hb,hc,hr0,hz,i1,s1⟩:=kN hi (aJ _ _ _) hx (m:=.int .u32 n) rfl (.int .u32 n)
 have e0:=hr0.aV
 subst e0
 obtain⟨p',R',hp',hb',he⟩:=rS hr
 rw[hp] at hp';cases hp'
 rw[hb] at hb';cases hb'
 have hv:vs=#[.pointer (some ⟨R,p.bo+o,none⟩)]:=by
  have h1:=hr.1
  apply Array.ext
  ·simpa using h1
  ·intro i h3 h4
   have:i=0:=by simp at h4;omega
   subst this
   simpa[Array.getD_eq_getD_getElem?,Array.getElem?_eq_getElem h3] using he
 subst hv
 refine(Ck ⟨R,p.bo+o,none⟩ n w hc rfl).mono ?_
 rintro e' w' ⟨rfl,rfl⟩
 exact⟨_,_,_,Φ,rfl,.bool _,hi,.refl _ _ _,rfl,rfl⟩
theorem C7{l o e:Nat}{t:TypeId}{x:List MV}(hx:x[o]?=some (.int .i32 0)):aA Tryz.prog 160 [.ptr l 0 o] (St.none.set l (.row t e [x])) (fun v σ'=>v=.tup []∧σ'=St.none.set l (.row t e [x.set o (.int .i32 1)])):=by
 refine⟨⟨_,Tryz.func160,rfl,rfl⟩,fun Φ w vs hi hr=>?_⟩
 obtain⟨p,R,v0,hp,hb,hc,hr0,hz,i1,s1⟩:=kN hi (aJ _ _ _) hx (m:=.int .i32 1) rfl (.int .i32 1)
 have e0:=hr0.aV
 subst e0
 obtain⟨p',R',hp',hb',he⟩:=rS hr
 rw[hp] at hp';cases hp'
 rw[hb] at hb';cases hb'
 have hv:vs=#[.pointer (some ⟨R,p.bo+o,none⟩)]:=by
  have h1:=hr.1
  apply Array.ext
  ·simpa using h1
  ·intro i h3 h4
   have:i=0:=by simp at h4;omega
   subst this
   simpa[Array.getD_eq_getD_getElem?,Array.getElem?_eq_getElem h3] using he
 subst hv
 refine(Go.MuLone.lock_free Ji ⟨R,p.bo+o,none⟩ w hc hz).mono ?_
 rintro e' w' ⟨rfl,rfl⟩
 refine⟨_,.tup [],_,Φ,rfl,.tup rfl (by simp),i1,s1,rfl,?_⟩
 rw[set_set]
theorem Cf{σ:St}{K:St→Prop}{l o e:Nat}{t:TypeId}{x:List MV}(hs:σ l=some (.row t e [x]))(hx:x[o]?=some (.int .i32 1))(hk:R (K (σ.set l (.row t e [x.set o (.int .i32 0)])))):R (xW Tryz.prog 161 [.ptr l 0 o] σ K):=by
 refine⟨_,Ji.f_unlock,rfl,rfl,fun Φ w vs hi hr=>?_⟩
 obtain⟨p,R,v0,hp,hb,hc,hr0,hz,i1,s1⟩:=kN hi hs hx (m:=.int .i32 0) rfl (.int .i32 0)
 have e0:=hr0.aV
 subst e0
 obtain⟨p',R',hp',hb',he⟩:=rS hr
 rw[hp] at hp';cases hp'
 rw[hb] at hb';cases hb'
 have hv:vs=#[.pointer (some ⟨R,p.bo+o,none⟩)]:=by
  have h1:=hr.1
  apply Array.ext
  ·simpa using h1
  ·intro i h3 h4
   have:i=0:=by simp at h4;omega
   subst this
   simpa[Array.getD_eq_getD_getElem?,Array.getElem?_eq_getElem h3] using he
 subst hv
 refine(Go.MuLone.unlock_deferred Ji ⟨R,p.bo+o,none⟩ .returning w hc hz).mono ?_
 rintro e' u' w' ⟨rfl,rfl,rfl⟩
 exact⟨rfl,_,_,Φ,rfl,i1,s1,hk⟩
theorem xX{σ:St}{K:St→Prop}{l o e:Nat}{t:TypeId}{x:List MV}{n:Int}(hs:σ l=some (.row t e [x]))(hx:x[o]?=some (.int .u32 n))(hk:R (K (σ.set l (.row t e [x.set o (.int .u32 1)])))):R (xW Tryz.prog 162 [.ptr l 0 o,.bool true] σ K):=by
 refine⟨_,Tryz.func162,rfl,rfl,fun Φ w vs hi hr=>?_⟩
 have hd:=hi.grow (w':=w.drew) rfl rfl rfl (iN (Nat.le_succ _)) (Nat.le_refl _) (fun _ _=>rfl)
 obtain⟨p,R,v0,hp,hb,hc,hr0,hz,i1,s1⟩:=kN hd.1 hs hx (m:=.int .u32 1) rfl (.int .u32 1)
 obtain⟨p',R',hp',hb',he⟩:=rS hr
 rw[hp] at hp';cases hp'
 rw[hb] at hb';cases hb'
 have he2:vs.getD 1 undef=.bool true:=by
  have:=hr.2 1 _ rfl
  cases h:vs.getD 1 undef<;>rw[h] at this<;>cases this
  rfl
 have hv:vs=#[.pointer (some ⟨R,p.bo+o,none⟩),.bool true]:=by
  have h1:=hr.1
  apply Array.ext
  ·simpa using h1
  ·intro i h3 h4
   match i,h3 with
   | 0,h3=>simpa[Array.getD_eq_getD_getElem?,Array.getElem?_eq_getElem h3] using he
   | 1,h3=>simpa[Array.getD_eq_getD_getElem?,Array.getElem?_eq_getElem h3] using he2
   | i+2,_=>simp at h4;omega
 subst hv
 refine(pL ⟨R,p.bo+o,none⟩ v0 .returning w (by simpa using hc) (by simpa using hz) rfl).mono ?_
 rintro e' u' w' ⟨rfl,rfl,rfl⟩
 exact⟨rfl,_,_,Φ,rfl,i1,hd.2.trans s1,hk⟩
end

section
set_option maxRecDepth 100000
set_option maxHeartbeats 4000000
def J4(op:Int):FuncId:=if op=11 then 131 else 132
def Cn:T→FuncId
 | .leaf x=>AV x.op
 | .one _ _=>130
 | .two x _ _=>J4 x.op
def iU:T→MV
 | .leaf x=>xC x
 | .one _ a=>.fn (.func 130) [] [.cptr [iU a]]
 | .two x a b=>.fn (.func (J4 x.op)) [] [.cptr [iU a],.cptr [iU b]]
def Cm:T→List MV
 | .leaf x=>xB x
 | .one _ a=>[.cptr [iU a]]
 | .two _ a b=>[.cptr [iU a],.cptr [iU b]]
theorem jT:∀t:T,iU t=.fn (.func (Cn t)) [] (Cm t)
 | .leaf _=>rfl
 | .one _ _=>rfl
 | .two _ _ _=>rfl
theorem JP(x:ND)(c:CD)(g:Nat):(T.leaf x).sem (bR c g)=bR c g x:=by
 by_cases h1:x.op=1
 ·simp[T.sem,bR,h1]
 ·by_cases h2:x.op=2
  ·simp[T.sem,bR,h2]
  ·simp[T.sem,h1,h2]
theorem Et(c:CA)(hc:∀k,(c.f.get k).s.size≤1000000)(g:Nat)(hg:g<4294967296):∀t:T,Good t→aA Tryz.prog (Cn t) (.cptr c.c::.int .u32 (g:Int)::Cm t) St.none (fun r _=>r=.bool (t.sem (bR (lP c) g)))
 | .leaf x,h=>by
  rw[JP]
  exact Nd c hc g hg x (h.2 x (by simp[T.fl]))
 | .one x a,h=>by
  have ih:=Et c hc g hg a (sN.1 h).2.2
  have ha:=jT a
  have e:(T.one x a).sem (bR (lP c) g)=!a.sem (bR (lP c) g):=by simp[T.sem]
  rw[e]
  show aA Tryz.prog 130 [.cptr c.c,.int .u32 (g:Int),.cptr [iU a]] St.none _
  rw[ha]
  refine(aA.body 11 [.tmp 5] Tryz.func130 rfl rfl rfl rfl ?_)
  generalize c.c=cells at ih ⊢
  repeat' (first|(with_reducible first|refine up ih ?_)|(with_reducible first|(refine wN fun _ hnl=>?_;revert hnl;(repeat refine wS fun _ _=>?_);intro hnl)|refine wE ?_|(refine wK ?_ ?_<;>intro h)|(refine wB ?_ ?_<;>intro h<;>simp only[h]))|simp(maxSteps:=4000000) (disch:=first|exact ddL|fail) only[go_sem,simprocAttr,Tryz.f130])
 | .two x a b,h=>by
  obtain⟨q1,_,ga,gb⟩:=sO.1 h
  have ia:=Et c hc g hg a ga
  have ib:=Et c hc g hg b gb
  have ha:=jT a
  have hb:=jT b
  have hs:(T.two x a b).sem (bR (lP c) g)=if x.op=11 then a.sem (bR (lP c) g)&&b.sem (bR (lP c) g) else a.sem (bR (lP c) g) || b.sem (bR (lP c) g):=by
   by_cases e:x.op=11<;>simp[T.sem,e]
  rw[hs]
  show aA Tryz.prog (J4 x.op) [.cptr c.c,.int .u32 (g:Int),.cptr [iU a],.cptr [iU b]] St.none _
  rw[ha,hb]
  unfold J4
  generalize c.c=cells at ia ib ⊢
  generalize a.sem (bR (lP c) g)=sa at ia ⊢
  generalize b.sem (bR (lP c) g)=sb at ib ⊢
  by_cases e:x.op=11
  ·rw[if_pos e,if_pos e]
   refine(aA.body 17 [.tmp 6] Tryz.func131 rfl rfl rfl rfl ?_)
   cases sa
   all_goals
    repeat' (first|(with_reducible first|refine up ia ?_|refine up ib ?_)|(with_reducible first|(refine wN fun _ hnl=>?_;revert hnl;(repeat refine wS fun _ _=>?_);intro hnl)|refine wE ?_|(refine wK ?_ ?_<;>intro h)|(refine wB ?_ ?_<;>intro h<;>simp only[h]))|simp(maxSteps:=4000000) (disch:=first|exact ddL|fail) only[go_sem,simprocAttr,Tryz.f131])
    all_goals first|rfl|(cases sb<;>rfl)
  ·rw[if_neg e,if_neg e]
   refine(aA.body 17 [.tmp 6] Tryz.func132 rfl rfl rfl rfl ?_)
   cases sa
   all_goals
    repeat' (first|(with_reducible first|refine up ia ?_|refine up ib ?_)|(with_reducible first|(refine wN fun _ hnl=>?_;revert hnl;(repeat refine wS fun _ _=>?_);intro hnl)|refine wE ?_|(refine wK ?_ ?_<;>intro h)|(refine wB ?_ ?_<;>intro h<;>simp only[h]))|simp(maxSteps:=4000000) (disch:=first|exact ddL|fail) only[go_sem,simprocAttr,Tryz.f132])
    all_goals first|rfl|(cases sb<;>rfl)
end

section
def dA(kl kb kr:Bool):List Int→List Int→List Int
 | [],b=>if kr=true then b else[]
 | x::a,[]=>if kl=true then x::a else[]
 | x::a,y::b=>if x<y then(if kl=true then[x] else[])++dA kl kb kr a (y::b) else if y<x then(if kr=true then[y] else[])++dA kl kb kr (x::a) b else(if kb=true then[x] else[])++dA kl kb kr a b
termination_by a b=>a.length+b.length
theorem pM{kl kb kr:Bool}{b:List Int}:dA kl kb kr [] b=if kr=true then b else[]:=by rw[dA]
theorem lM{kl kb kr:Bool}:∀{a:List Int},dA kl kb kr a []=if kl=true then a else[]
 | []=>by rw[dA];split<;>simp
 | x::a=>by rw[dA]
theorem r7{kl kb kr:Bool}{x y:Int}{a b:List Int}(h:x<y):dA kl kb kr (x::a) (y::b)=(if kl=true then[x] else[])++dA kl kb kr a (y::b):=by rw[dA,if_pos h]
theorem r0{kl kb kr:Bool}{x y:Int}{a b:List Int}(h:y<x):dA kl kb kr (x::a) (y::b)=(if kr=true then[y] else[])++dA kl kb kr (x::a) b:=by rw[dA,if_neg (by omega),if_pos h]
theorem rZ{kl kb kr:Bool}{x y:Int}{a b:List Int}(h1:¬x<y)(h2:¬y<x):dA kl kb kr (x::a) (y::b)=(if kb=true then[x] else[])++dA kl kb kr a b:=by rw[dA,if_neg h1,if_neg h2]
theorem mO{kl kb kr:Bool}:∀(n:Nat) (a b:List Int),a.length+b.length≤n→(dA kl kb kr a b).length≤a.length+b.length
 | n,[],b,h=>by rw[pM];split<;>simp
 | n,x::a,[],h=>by rw[lM];split<;>simp
 | 0,x::a,y::b,h=>by simp at h
 | n+1,x::a,y::b,h=>by
  simp only[List.length_cons] at h
  by_cases h1:x<y
  ·rw[r7 h1,List.length_append]
   have:=mO (kl:=kl) (kb:=kb) (kr:=kr) n a (y::b) (by simp;omega)
   simp only[List.length_cons] at this ⊢
   have h3:(if kl=true then[x] else[]).length≤1:=by split<;>simp
   omega
  ·by_cases h2:y<x
   ·rw[r0 h2,List.length_append]
    have:=mO (kl:=kl) (kb:=kb) (kr:=kr) n (x::a) b (by simp;omega)
    simp only[List.length_cons] at this ⊢
    have h3:(if kr=true then[y] else[]).length≤1:=by split<;>simp
    omega
   ·rw[rZ h1 h2,List.length_append]
    have:=mO (kl:=kl) (kb:=kb) (kr:=kr) n a b (by omega)
    simp only[List.length_cons] at this ⊢
    have h3:(if kb=true then[x] else[]).length≤1:=by split<;>simp
    omega
abbrev UpI(l:List Int):Prop:=l.Pairwise (·<·)
theorem jS:∀(n:Nat) (a b:List Int),a.length+b.length≤n→UpI a→UpI b→dA true false false a b=bZ a b
 | n,[],b,h,_,_=>by rw[pM];rfl
 | n,x::a,[],h,_,_=>by
  rw[lM,bZ,if_pos rfl]
  exact(List.filter_eq_self.2 fun _ _=>rfl).symm
 | 0,x::a,y::b,h,_,_=>by simp at h
 | n+1,x::a,y::b,h,ha,hb=>by
  simp only[List.length_cons] at h
  obtain⟨ha1,ha2⟩:=List.pairwise_cons.1 ha
  obtain⟨hb1,hb2⟩:=List.pairwise_cons.1 hb
  by_cases h1:x<y
  ·rw[r7 h1,jS n a (y::b) (by simp;omega) ha2 hb,if_pos rfl]
   have hx:x∉y::b:=fun hm=>by
    rcases List.mem_cons.1 hm with e|hm
    ·omega
    ·have:=hb1 x hm;omega
   simp only[bZ,List.filter_cons,hx,decide_false,Bool.not_false,if_true]
   rfl
  ·by_cases h2:y<x
   ·rw[r0 h2,jS n (x::a) b (by simp;omega) ha hb2,if_neg (by simp),List.nil_append]
    unfold bZ
    refine List.filter_congr fun z hz=>?_
    have:z≠y:=fun e=>by
     rcases List.mem_cons.1 hz with e'|hz
     ·omega
     ·have:=ha1 z hz;omega
    simp[this]
   ·have e:x=y:=by omega
    subst e
    rw[rZ h1 h2,jS n a b (by omega) ha2 hb2,if_neg (by simp),List.nil_append]
    have h3:bZ a (x::b)=bZ a b:=by
     unfold bZ
     refine List.filter_congr fun z hz=>?_
     have:z≠x:=fun e=>by have:=ha1 z hz;omega
     simp[this]
    rw[←h3]
    simp[bZ]
theorem Eh:∀{last:Int} {l:List Int},fY last l=true→UpI l∧∀x,x∈l→last<x∧1≤x∧x<1073741824
 | _,[],_=>⟨.nil,by simp⟩
 | last,x::l,h=>by
  rw[fY,Bool.and_eq_true,decide_eq_true_eq] at h
  obtain⟨⟨h1,h2,h3⟩,h4⟩:=h
  unfold gM at h3
  obtain⟨i1,i2⟩:=Eh h4
  refine⟨List.pairwise_cons.2 ⟨fun y hy=>(i2 y hy).1,i1⟩,fun y hy=>?_⟩
  rcases List.mem_cons.1 hy with rfl|hy
  ·exact⟨h1,h2,h3⟩
  ·obtain⟨a,b,c⟩:=i2 y hy
   exact⟨by omega,b,c⟩
theorem J6{nx last:Int}{cs:List CA}(h:dC nx last cs=true):UpI (cs.map CA.id):=List.pairwise_map.2 (iE h).2
end
end Go.Proofs.YtaojijkdamfbnaaGreatDoor
