/- Parts of the proof, joined; conditions: those that its theorems name. -/
import Derived.Test.YtojmhmejdihaaaaGreatDoorStv
import Derived.Test.YtojmhmejdihaaaaGreatDoorRows
import Derived.Lib.LaidTab
import Derived.LaidLaws
import Derived.LaidHandle
import Derived.Stop.Joined
import Derived.LaidMore
import Derived.MakeChecks
set_option linter.unusedVariables false
set_option linter.unusedSimpArgs false
set_option maxHeartbeats 4000000
namespace Go.Proofs.YtojmhmejdihaaaaGreatDoor
section
set_option maxRecDepth 100000
theorem Sfx.get{bs:BL}{r:RD}(h:Sfx bs r){i:Nat}(hi:i<r.l.length):bs.getD (bs.length - r.l.length+i) 0=r.l.getD i 0:=by
 have:=h.drop
 rw[←this,List.getD_eq_getElem?_getD,List.getD_eq_getElem?_getD,List.getElem?_drop,this]
end

section
set_option maxRecDepth 100000
class Few (bs:BL):Prop where
 h:bs.length≤1000000
end

section
set_option maxRecDepth 100000
set_option maxHeartbeats 4000000
abbrev Pv(a:Int):Prop:=-9223372036854775808≤a∧a≤9223372036854775807
end

section
set_option maxRecDepth 100000
set_option maxHeartbeats 4000000
def lU(l:List ND):Bool:=decide (100<l.length) || l.any fun x=>decide (200<x.v.s.size)
theorem sW(l:List ND)(tt:Bool):aA Tryz.prog 74 [.lst 5 (l.map ND.c) tt] St.none (fun r _=>r=.bool (lU l)):=by
 refine(aA.body 21 [.tmp 2] Tryz.func74 rfl rfl rfl rfl ?_)
 by_cases h100:100<l.length
 ·have e:lU l=true:=by simp[lU,h100]
  rw[e]
  repeat' (first|(with_reducible first|(refine wN fun _ hnl=>?_;revert hnl;(repeat refine wS fun _ _=>?_);intro hnl)|refine wE ?_|(refine wK ?_ ?_<;>intro h)|(refine wB ?_ ?_<;>intro h<;>simp only[h]))|simp(maxSteps:=4000000) (disch:=first|exact ddL|fail) only[go_sem,simprocAttr,Tryz.f74])
 ·have e:lU l=l.any fun x=>decide (200<x.v.s.size):=by simp[lU,h100]
  rw[e]
  repeat' (first|(with_reducible first|(refine wN fun _ hnl=>?_;revert hnl;(repeat refine wS fun _ _=>?_);intro hnl)|refine wE ?_|(refine wK ?_ ?_<;>intro h)|(refine wB ?_ ?_<;>intro h<;>simp only[h]))|simp(maxSteps:=4000000) (disch:=first|exact ddL|fail) only[go_sem,simprocAttr,Tryz.f74])
  refine aD (α:=Nat) (fun i=>⟨21,[(3,.int .i64 (i:Int)),(0,.lst 5 (l.map ND.c) tt)],[]⟩)
   (fun _=>St.none) (fun i=>i≤l.length∧(l.take i).any (fun x=>decide (200<x.v.s.size))=false) (fun i=>l.length - i) (.of (.less ?_ (St.le_refl _)) ⟨0,rfl,rfl,Nat.zero_le _,rfl⟩) ?_
  ·simp(maxSteps:=4000000) (disch:=first|exact ddL|fail) only[go_sem,simprocAttr,aC,aB]
   all_goals rfl
  ·rintro i ⟨hi,hq⟩
   by_cases hlt:i<l.length
   ·by_cases hb:200<(l.getD i nd0).v.s.size
    ·have ea:(l.any fun x=>decide (200<x.v.s.size))=true:=List.any_eq_true.2 ⟨_,bK nd0 hlt,by simpa using hb⟩
     rw[ea]
     repeat' (first|(with_reducible first|(refine wN fun _ hnl=>?_;revert hnl;(repeat refine wS fun _ _=>?_);intro hnl)|refine wE ?_|(refine wK ?_ ?_<;>intro h)|(refine wB ?_ ?_<;>intro h<;>simp only[h]))|simp(maxSteps:=4000000) (disch:=first|exact ddL|fail) only[go_sem,simprocAttr,aU nd0])
    ·repeat' (first|(with_reducible first|(refine wN fun _ hnl=>?_;revert hnl;(repeat refine wS fun _ _=>?_);intro hnl)|refine wE ?_|(refine wK ?_ ?_<;>intro h)|(refine wB ?_ ?_<;>intro h<;>simp only[h]))|simp(maxSteps:=4000000) (disch:=first|exact ddL|fail) only[go_sem,simprocAttr,aU nd0])
     refine .of (.less ?_ (St.le_refl _)) ⟨i+1,rfl,rfl,⟨by omega,?_⟩,by omega⟩
     ·simp(maxSteps:=4000000) (disch:=first|exact ddL|fail) only[go_sem,simprocAttr,aC,aB]
      all_goals rfl
     ·rw[kQ hlt,hq,←aZ nd0 hlt]
      simpa using hb
   ·have hie:i=l.length:=by omega
    subst hie
    rw[List.take_length] at hq
    rw[hq]
    repeat' (first|(with_reducible first|(refine wN fun _ hnl=>?_;revert hnl;(repeat refine wS fun _ _=>?_);intro hnl)|refine wE ?_|(refine wK ?_ ?_<;>intro h)|(refine wB ?_ ?_<;>intro h<;>simp only[h]))|simp(maxSteps:=4000000) (disch:=first|exact ddL|fail) only[go_sem,simprocAttr])
def Ev(f:F8):Bool:=(List.range 8).any fun i=>decide (200<(f.get i).s.size)
theorem qO(f:F8):aA Tryz.prog 110 [.agg (fc f)] St.none (fun r _=>r=.bool (Ev f)):=by
 refine aA.bF (aA.body 14 [.tmp 2] Tryz.func110 rfl rfl rfl rfl ?_)
 repeat' (first|(with_reducible first|(refine wT ?_;(first|((fail_if_success (have:=nl1));refine wN fun nl1 hnl=>?_)|refine wN fun _ hnl=>?_);revert hnl;(repeat refine wS fun _ _=>?_);intro hnl)|refine wE ?_|(refine wK ?_ ?_<;>intro h)|(refine wB ?_ ?_<;>intro h<;>simp only[h]))|simp(maxSteps:=4000000) (disch:=first|exact ddL|fail) only[go_sem,simprocAttr,Tryz.f110,FXs])
 refine aD (α:=Nat) (fun i=>⟨14,[(3,.int .i64 (i:Int)),(1,.ptr nl1 0 0)],[]⟩)
  (fun _=>St.none.set nl1 (.row 50 24 [fc f])) (fun i=>i≤8∧(List.range i).any (fun i=>decide (200<(f.get i).s.size))=false) (fun i=>8 - i) (.of (.less ?_ (St.le_refl _)) ⟨0,rfl,rfl,Nat.zero_le _,rfl⟩) ?_
 ·simp(maxSteps:=4000000) (disch:=first|exact ddL|fail) only[go_sem,simprocAttr,aC,aB]
  all_goals rfl
 ·rintro i ⟨hi,hq⟩
  by_cases hlt:i<8
  ·have hg:=fun d=>p9 (f:=f) (d:=d) hlt
   obtain⟨v,hv⟩:∃v,f.get i=v:=⟨_,rfl⟩
   rw[hv] at hg
   by_cases hb:200<v.s.size
   ·have e:Ev f=true:=List.any_eq_true.2 ⟨i,List.mem_range.2 hlt,by rw[hv];exact decide_eq_true hb⟩
    rw[e]
    repeat' (first|(with_reducible first|(refine wT ?_;(first|((fail_if_success (have:=nl1));refine wN fun nl1 hnl=>?_)|refine wN fun _ hnl=>?_);revert hnl;(repeat refine wS fun _ _=>?_);intro hnl)|refine wE ?_|(refine wK ?_ ?_<;>intro h)|(refine wB ?_ ?_<;>intro h<;>simp only[h]))|simp(maxSteps:=4000000) (disch:=first|exact ddL|fail) only[go_sem,simprocAttr,FXs,hg])
    all_goals first|exact⟨_,St.le_refl _,rfl⟩|exact⟨_,St.le_refl _⟩|(exfalso;omega)
   ·repeat' (first|(with_reducible first|(refine wT ?_;(first|((fail_if_success (have:=nl1));refine wN fun nl1 hnl=>?_)|refine wN fun _ hnl=>?_);revert hnl;(repeat refine wS fun _ _=>?_);intro hnl)|refine wE ?_|(refine wK ?_ ?_<;>intro h)|(refine wB ?_ ?_<;>intro h<;>simp only[h]))|simp(maxSteps:=4000000) (disch:=first|exact ddL|fail) only[go_sem,simprocAttr,FXs,hg])
    all_goals (try (exfalso;omega))
    refine .of (.less ?_ (St.le_refl _)) ⟨i+1,rfl,rfl,⟨by omega,?_⟩,by omega⟩
    ·simp(maxSteps:=4000000) (disch:=first|exact ddL|fail) only[go_sem,simprocAttr,aC,aB]
     all_goals rfl
    ·rw[List.range_succ,List.any_append,hq,List.any_cons,List.any_nil,hv,decide_eq_false hb];rfl
  ·have hie:i=8:=by omega
   subst hie
   have e:Ev f=false:=hq
   rw[e]
   repeat' (first|(with_reducible first|(refine wT ?_;(first|((fail_if_success (have:=nl1));refine wN fun nl1 hnl=>?_)|refine wN fun _ hnl=>?_);revert hnl;(repeat refine wS fun _ _=>?_);intro hnl)|refine wE ?_|(refine wK ?_ ?_<;>intro h)|(refine wB ?_ ?_<;>intro h<;>simp only[h]))|simp(maxSteps:=4000000) (disch:=first|exact ddL|fail) only[go_sem,simprocAttr])
   all_goals first|exact⟨_,St.le_refl _,rfl⟩|exact⟨_,St.le_refl _⟩
end

section
open Go.ChangeShapes Go.WideShapes Go.RowKit
set_option maxRecDepth 100000
def nG(cs:List MV):List (Nat × Nat)→List MV
 | []=>[]
 | p::r=>(cs.drop p.1).take p.2++nG cs r
def uI(o n:Nat):List (Nat × Nat)→Bool
 | []=>o==n
 | p::r=>p.1==o&&uI (o+p.2) n r
theorem Dk{cs:List MV}:∀(l:List (Nat × Nat)) (o:Nat),uI o cs.length l=true→nG cs l=cs.drop o
 | [],o,h=>by
  simp only[uI,beq_iff_eq] at h
  rw[nG,h,List.drop_length]
 | p::r,o,h=>by
  simp only[uI,Bool.and_eq_true,beq_iff_eq] at h
  rw[nG,Dk r _ h.2,h.1,←List.drop_drop,List.take_append_drop]
theorem fV{cs:List MV}{n:Nat}(hn:cs.length=n)(l:List (Nat × Nat))(h:uI 0 n l=true):cs=nG cs l:=by
 have:=Dk (cs:=cs) l 0 (by rw[hn];exact h)
 rw[this,List.drop_zero]
theorem i64_in{v:Int}(h0:IntKind.i64.min≤v)(h1:v≤IntKind.i64.max):Pv v:=by
 have e0:IntKind.i64.min = -9223372036854775808:=by decide
 have e1:IntKind.i64.max=9223372036854775807:=by decide
 rw[e0] at h0
 rw[e1] at h1
 exact⟨h0,h1⟩
theorem gU{n:Nat}{x:List MV}(h:CT Tryz.prog (n+1) 3 x):∃v,x=[.int .i64 v]∧Pv v:=by
 obtain⟨v,h0,h1,h2⟩:=Ak (by rw[td3]) h
 exact⟨v,h0,i64_in h1 h2⟩
theorem QS{n:Nat}{x:List MV}(h:CT Tryz.prog (n+1) 70 x):∃v,x=[.int .i64 v]:=by
 obtain⟨v,h0,h1,h2⟩:=Ak (by rw[Ph]) h
 exact⟨v,h0⟩
theorem O2{n:Nat}{x:List MV}(h:CT Tryz.prog (n+1) 39 x):∃u:UInt32,x=[.int .u32 (u.toNat:Int)]:=by
 obtain⟨v,h0,h1,h2⟩:=Ak (by rw[FK]) h
 have e0:IntKind.u32.min=0:=by decide
 have e1:IntKind.u32.max=4294967295:=by decide
 rw[e0] at h1
 rw[e1] at h2
 exact⟨UInt32.ofNat v.toNat,by rw[h0,N1 h1 (by omega)]⟩
theorem A6{n:Nat}{x:List MV}(h:CT Tryz.prog (n+2) 49 x):∃a:VA,x=a.c:=by
 obtain⟨hl,hf⟩:=dZ (congrArg TD.k wY) h
 rw[wY] at hl
 obtain⟨a,ha,_⟩:=gU (hf (0,3) (by simp))
 obtain⟨b,hb,_⟩:=gU (hf (1,3) (by simp))
 obtain⟨s,hs,_⟩:=Oy (by rw[td9]) (hf (2,9) (by simp))
 simp only[td3,td9] at ha hb hs
 refine⟨⟨a,b,s⟩,?_⟩
 rw[fV hl [(0,1),(1,1),(2,1)] rfl]
 simp only[nG,ha,hb,hs]
 rfl
theorem P3{n:Nat}{x:List MV}(h:CT Tryz.prog (n+3) 160 x):∃a:ND,x=a.c:=by
 obtain⟨hl,hf⟩:=dZ (congrArg TD.k GS) h
 rw[GS] at hl
 obtain⟨a,ha,_⟩:=gU (hf (0,3) (by simp))
 obtain⟨b,hb,_⟩:=gU (hf (1,3) (by simp))
 obtain⟨v,hv⟩:=A6 (hf (2,49) (by simp))
 simp only[td3,wY] at ha hb hv
 refine⟨⟨a,b,v⟩,?_⟩
 rw[fV hl [(0,1),(1,1),(2,3)] rfl]
 simp only[nG,ha,hb,hv]
 rfl
theorem Lq{n:Nat}{x:List MV}(h:CT Tryz.prog (n+4) 38 x):∃l:List ND,x=[.lst 5 (l.map ND.c) false]:=by
 obtain⟨xs,hm,_,hx⟩:=iS (by rw[NX]) h
 obtain⟨l,rfl⟩:=iU fun x hx'=>P3 (hx x hx')
 rw[GS] at hm
 exact⟨l,hm⟩
theorem P8{n:Nat}{x:List MV}(h:CT Tryz.prog (n+3) 50 x):∃f:F8,x=fc f:=by
 obtain⟨hl,ha⟩:=JW (congrArg TD.k Js) h
 rw[Js] at hl
 rw[wY] at ha
 simp only at hl ha
 obtain⟨a0,h0⟩:=A6 (ha 0 (by decide))
 obtain⟨a1,h1⟩:=A6 (ha 1 (by decide))
 obtain⟨a2,h2⟩:=A6 (ha 2 (by decide))
 obtain⟨a3,h3⟩:=A6 (ha 3 (by decide))
 obtain⟨a4,h4⟩:=A6 (ha 4 (by decide))
 obtain⟨a5,h5⟩:=A6 (ha 5 (by decide))
 obtain⟨a6,h6⟩:=A6 (ha 6 (by decide))
 obtain⟨a7,h7⟩:=A6 (ha 7 (by decide))
 refine⟨⟨[a0,a1,a2,a3,a4,a5,a6,a7],rfl⟩,?_⟩
 rw[fV hl [(0 * 3,3),(1 * 3,3),(2 * 3,3),(3 * 3,3),(4 * 3,3),(5 * 3,3),(6 * 3,3),(7 * 3,3)] rfl]
 simp only[nG,h0,h1,h2,h3,h4,h5,h6,h7]
 rfl
theorem Od{n:Nat}{x:List MV}(h:CT Tryz.prog (n+4) 52 x):∃c:CA,x=c.c:=by
 obtain⟨hl,hf⟩:=dZ (congrArg TD.k FL) h
 rw[FL] at hl
 obtain⟨a,ha,_⟩:=gU (hf (0,3) (by simp))
 obtain⟨b,hb,_⟩:=gU (hf (1,3) (by simp))
 obtain⟨u,hu⟩:=O2 (hf (2,39) (by simp))
 obtain⟨f,hff⟩:=P8 (hf (3,50) (by simp))
 simp only[td3,FK,Js] at ha hb hu hff
 refine⟨⟨a,b,u,f⟩,?_⟩
 rw[fV hl [(0,1),(1,1),(2,1),(3,24)] rfl]
 simp only[nG,ha,hb,hu,hff,List.append_nil]
 rfl
theorem OZ{n:Nat}{x:List MV}(h:CT Tryz.prog (n+5) 141 x):∃a:RE,x=a.c:=by
 obtain⟨hl,hf⟩:=dZ (congrArg TD.k GP) h
 rw[GP] at hl
 obtain⟨a,ha,_⟩:=gU (hf (0,3) (by simp))
 obtain⟨b,hb,_⟩:=gU (hf (1,3) (by simp))
 obtain⟨c,hc,_⟩:=gU (hf (2,3) (by simp))
 obtain⟨d,hd⟩:=QS (hf (3,70) (by simp))
 obtain⟨e,he,_⟩:=gU (hf (4,3) (by simp))
 obtain⟨f,hff,_⟩:=gU (hf (5,3) (by simp))
 obtain⟨g,hg,_⟩:=gU (hf (6,3) (by simp))
 obtain⟨i,hi,_⟩:=gU (hf (7,3) (by simp))
 obtain⟨l,hll⟩:=Lq (hf (8,38) (by simp))
 obtain⟨u,hu⟩:=O2 (hf (9,39) (by simp))
 simp only[td3,Ph,NX,FK] at ha hb hc hd he hff hg hi hll hu
 refine⟨⟨a,b,c,d,e,f,g,i,l,u⟩,?_⟩
 rw[fV hl [(0,1),(1,1),(2,1),(3,1),(4,1),(5,1),(6,1),(7,1),(8,1),(9,1)] rfl]
 simp only[nG,ha,hb,hc,hd,he,hff,hg,hi,hll,hu]
 rfl
theorem QW:ownKnob Tryz.prog.godebug=none:=by kernel_rfl
end

section
open Go.ChangeShapes Go.WideShapes Go.RowKit
section
variable {H:Type} {enc:TypeId × Value→H}
theorem xS{C:Checked}{os:Os}{g:FuncId}{fn:Func}{s:ChangeSpec}{conds:List PathCond}{apart fresh handsOn again:Bool}{tb:TypeId}{n:Nat}{laid:List (String × DataW Unit)}
 (hvars:s.vars=[])(hs:∀(H:Type) (ds:List (DataW H)),ds.length=fn.params.size→s.fn H ds={ results:=[.lit (.bool true)],args:=ds })
 (hres:fn.resultTypes=#[tb])(htb:C.prog.underlying tb=some .bool)(hl:laidOutB C.prog=true)(hr:∀t,t∈fn.params.toList→C.prog.readableRec t=true∧t<C.prog.types.size)
 (hshp:∀t,t∈fn.params.toList→shp C.prog n t=true)(hG:∀W:World,W.ShapedOpen C.prog→laidMetH C.prog laid W→Oq W)
 (own:ownKnob C.prog.godebug=none)(started:os.Started)(noInit:C.prog.inits.idxOf? g=none)(hfn:C.prog.funcs[g]?=some fn)
 (witness:∃(w:World) (tape:Tape) (i:Input),w.os=os∧(w.forCall tape i).Shaped C.prog∧i.vars=[]∧Input.okWide C.prog (w.forCall tape i) .any w.heap.size g i ∧
   ((s.pre enc C.prog fn conds apart (w.forCall tape i).memory i.args∧laidMetH C.prog laid (w.forCall tape i).memory)∧sizedMet enc C.prog fn (OpenSpec.ofChange s) apart (w.forCall tape i).memory i.args)∧({}:Assume).holds C.prog (lone (Frame.enter C.prog g i.args .normal) [] (w.forCall tape i)))
 (h:∀ms,ATs C.prog n fn.params.toList ms→aA C.prog g ms St.none fun r _=>r=.bool true) :
  ReturnsInHanded {} C os g .any (fun w args=>(s.pre enc C.prog fn conds apart w args∧laidMetH C.prog laid w)∧sizedMet enc C.prog fn (OpenSpec.ofChange s) apart w args) (s.post enc C.prog fn apart fresh handsOn again):=by
 refine returnsInHanded_of_calls own started noInit witness ?_
 intro w tape i _ hsh _ hok hpre hholds
 obtain⟨_,_,_,fn',hfn',_,_,_,_,hval⟩:=hok
 have e':fn'=fn:=Option.some.inj (hfn'.symm.trans hfn)
 subst e'
 obtain⟨⟨⟨ds,gs,before,hw,hc⟩,hX⟩,hz⟩:=hpre
 have hW:=DataW.Whole.of_heap (w':=w.forCall tape i) (by rfl) hw
 have hX':laidMetH C.prog laid (w.forCall tape i):=hX.of_heap (by rfl)
 refine Calls.mono (R:=fun e W'=>∃v,e=.returned v∧s.post enc C.prog fn' apart fresh handsOn again (w.forCall tape i) i.args v W') ?_ (fun e W' ⟨v,he,hp⟩=>by
  subst he
  exact ChangeSpec.post_blind hp)
 generalize hWe:w.forCall tape i=W at *
 generalize hargs:i.args=args at *
 generalize hbase:w.heap.size=base at *
 obtain⟨p,q,hA,_⟩:=id hW
 obtain⟨ms,e,hrel,hat⟩:=yP (n:=n) (base:=base) hshp (fun j t v p q=>hval j t v (by simpa using p) (by simpa using q)) hA
 have hrels:hO (tI W) args ms:=⟨by simpa using e,fun i m hm=>by
  have hi:i<args.size:=by
   have:=(List.getElem?_eq_some_iff.1 hm).1
   simp at e;omega
  exact hrel i _ m (by simp[Array.getD,hi]) hm⟩
 refine((h ms hat).2 (tI W) W args (QO W (hG W hsh hX')) hrels).mono fun e' W' ⟨v,mv,σ',Φ',he,hv,hi,hst,hq⟩=>?_
 subst hq
 cases hv
 refine⟨_,he,Kh hvars hs hres htb hl hr hW hst.os hst.output fun k hk=>hst.block k hk ?_⟩
 rintro⟨l,o,p,h1,_⟩
 simp[St.none] at h1
end
end

section
open Go.ChangeShapes Go.WideShapes Go.RowKit
set_option maxRecDepth 100000
abbrev B9:List (String × DataW Unit):=[("math/bits.deBruijn32tab",Rows.laid_math_bits_deBruijn32tab)]
theorem PU:Tryz.prog.globalNamed "math/bits.deBruijn32tab" = some 0:=by kernel_rfl
theorem QY:(Tryz.prog.globals[0]?).map (·.type)=some 386:=by kernel_rfl
theorem Q7:Tryz.prog.underlying 386=some (.array 32 5):=by kernel_rfl
theorem uU8:Tryz.prog.underlying 5=some (.int .u8):=by kernel_rfl
theorem cU8:Tryz.prog.cellsOf 5=1:=by kernel_rfl
theorem QL:Tryz.prog.cellsOf 386=32:=by kernel_rfl
theorem El:∀W:World,W.ShapedOpen Tryz.prog→laidMetH Tryz.prog B9 W→Oq W:=fun W hsh h=>by
 rw[MakeChecks.laidMetH_plain _ _ _ (by kernel_rfl)] at h
 have ht:Go.Lib.TabIs Tryz.prog W "math/bits.deBruijn32tab" .u8 dbT:=Go.Lib.tabIs_of_head PU QY Q7 uU8 cU8 QL h
 refine⟨fun g i v hv=>?_,xR W hsh⟩
 by_cases hg:g=0
 ·subst hg
  rw[N6,Option.map_eq_some_iff] at hv
  obtain⟨n,hn,rfl⟩:=hv
  have hi:=(List.getElem?_eq_some_iff.1 hn).1
  rw[ht.cell PU i hi]
  simp[List.getD,hn]
 ·unfold GT at hv
  rw[if_neg hg] at hv
  cases hv
theorem J0(os:Os)(args:Array Value):laidMetH Tryz.prog B9 ((World.doorLaid Tryz.prog 40 os).forCall (fun _ _=>0) ⟨#[],args,[]⟩).memory :=
 laidMetH_of_parts3 (fuel:=8) (laidMet_of_run' 8 (by kernel_rfl) (by kernel_rfl)) (by kernel_rfl) (by kernel_rfl)
end

section
set_option maxRecDepth 100000
set_option maxHeartbeats 4000000
theorem zZ{P:Program}{g:FuncId}{ms:List MV}{σ σ1:St}{r:MV}{k:MV→St→Prop}(h:aA P g ms σ fun v τ=>v=r∧τ=σ1)(hk:R (cD r σ1 k)):R (dN P g ms σ k) :=
 h.mono fun v τ q=>by
  obtain⟨rfl,rfl⟩:=q
  exact hk
abbrev flO(L:MV)(d s:Int)(a:MV):bE:=.row 187 5 [[L,.int .u32 d,.int .i32 s,.int .u32 0,a]]
abbrev flS(p f:Nat)(L:MV)(d s:Int)(a:MV):St:=(St.none.set p (.row 46 1 [[.ptr f 0 0]])).set f (flO L d s a)
theorem Cg{T:T}(hT:Good T)(hl:T.fl.length≤1000000){p f:Nat}(hpf:p≠f)(t:Bool):aA Tryz.prog 191 [.ptr p 0 0] (flS p f (.lst 5 (T.fl.map ND.c) t) 0 1 .nilfn) (fun v σ'=>v=.tup []∧σ'=flS p f (.lst 5 (T.fl.map ND.c) t) 0 1 (jS T)):=by
 refine(aA.body 12 [] Tryz.func191 rfl rfl rfl rfl ?_)
 have hb:=lJ T hT [] t (by simpa using hl)
 rw[List.append_nil,List.map_nil] at hb
 have hfp:=Ne.symm hpf
 rw[kG] at hb ⊢
 generalize DO T=fa at hb ⊢
 generalize DN T=ca at hb ⊢
 obtain⟨C,c1⟩:∃C:bP,∀ms,C 192 ms=some ⟨[],fun v=>v=.tup [.fn (.func fa) [] ca,.lst 5 [] false],none⟩:=⟨fnF [(192,⟨[],fun v=>v=.tup [.fn (.func fa) [] ca,.lst 5 [] false],none⟩)],fun _=>bN⟩
 repeat' (first|((with_reducible refine aJ mixed ?chk C ?_);(case chk=>decide +kernel))|(with_reducible refine aF (c1 _) hb ?_)|(with_reducible first|(refine wN fun _ hnl=>?_;revert hnl;(repeat refine wS fun _ _=>?_);intro hnl)|refine wE ?_|(refine wK ?_ ?_<;>intro h)|(refine wB ?_ ?_<;>intro h<;>simp only[h]))|simp(maxSteps:=4000000) (disch:=first|exact ddL|fail) only[go_sem,simprocAttr,Tryz.f191])
 all_goals first|exact⟨rfl,rfl⟩|rfl|skip
theorem x8{T:T}(hT:Good T)(hl:T.fl.length≤1000000){p f:Nat}(hpf:p≠f)(t:Bool):aA Tryz.prog 270 [.ptr f 0 1,.fn (.func 191) [] [.ptr p 0 0]] (flS p f (.lst 5 (T.fl.map ND.c) t) 0 0 .nilfn) (fun v σ'=>v=.tup []∧σ'=flS p f (.lst 5 (T.fl.map ND.c) t) 1 0 (jS T)):=by
 refine(aA.body 21 [] Tryz.func270 rfl rfl rfl rfl ?_)
 have hm:=Cg hT hl hpf t
 have hfp:=Ne.symm hpf
 have h0:=Ex (l:=f) (o:=2) (e:=5) (t:=187) (x:=[.lst 5 (T.fl.map ND.c) t,.int .u32 0,.int .i32 0,.int .u32 0,.nilfn]) rfl
 have h1:=mC (l:=f) (o:=1) (e:=5) (t:=187) (x:=[.lst 5 (T.fl.map ND.c) t,.int .u32 0,.int .i32 1,.int .u32 0,.nilfn]) (n:=0) rfl
 repeat' (first|(refine oC (aM _ _ _) h0 ?_)|(refine oC (by simp[St.set]) h1 ?_)|(refine zZ hm ?_)|(refine Ad (aM _ _ _) rfl ?_)|(refine Dz (aM _ _ _) rfl ?_)|(with_reducible first|(refine wN fun _ hnl=>?_;revert hnl;(repeat refine wS fun _ _=>?_);intro hnl)|refine wE ?_|(refine wK ?_ ?_<;>intro h)|(refine wB ?_ ?_<;>intro h<;>simp only[h]))|simp(maxSteps:=4000000) (disch:=first|exact ddL|fail) only[go_sem,simprocAttr,Tryz.f270])
 all_goals skip
theorem CS{T:T}(hT:Good T)(hl:T.fl.length≤1000000){p f:Nat}(hpf:p≠f)(t:Bool):aA Tryz.prog 190 [.ptr f 0 1,.fn (.func 191) [] [.ptr p 0 0]] (flS p f (.lst 5 (T.fl.map ND.c) t) 0 0 .nilfn) (fun v σ'=>v=.tup []∧σ'=flS p f (.lst 5 (T.fl.map ND.c) t) 1 0 (jS T)):=by
 refine(aA.body 12 [] Tryz.func190 rfl rfl rfl rfl ?_)
 have hm:=x8 hT hl hpf t
 have h1:=mC (l:=f) (o:=1) (e:=5) (t:=187) (x:=[.lst 5 (T.fl.map ND.c) t,.int .u32 0,.int .i32 0,.int .u32 0,.nilfn]) (n:=0) rfl
 repeat' (first|(refine oC (aM _ _ _) h1 ?_)|(refine zZ hm ?_)|(with_reducible first|(refine wN fun _ hnl=>?_;revert hnl;(repeat refine wS fun _ _=>?_);intro hnl)|refine wE ?_|(refine wK ?_ ?_<;>intro h)|(refine wB ?_ ?_<;>intro h<;>simp only[h]))|simp(maxSteps:=4000000) (disch:=first|exact ddL|fail) only[go_sem,simprocAttr,Tryz.f190])
 all_goals first|done|exact⟨rfl,rfl⟩
theorem A4{L a:MV}{p f:Nat}(hpf:p≠f):aA Tryz.prog 190 [.ptr f 0 1,.fn (.func 191) [] [.ptr p 0 0]] (flS p f L 1 0 a) (fun v σ'=>v=.tup []∧σ'=flS p f L 1 0 a):=by
 refine(aA.body 12 [] Tryz.func190 rfl rfl rfl rfl ?_)
 have h1:=mC (l:=f) (o:=1) (e:=5) (t:=187) (x:=[L,.int .u32 1,.int .i32 0,.int .u32 0,a]) (n:=1) rfl
 repeat' (first|(refine oC (aM _ _ _) h1 ?_)|(with_reducible first|(refine wN fun _ hnl=>?_;revert hnl;(repeat refine wS fun _ _=>?_);intro hnl)|refine wE ?_|(refine wK ?_ ?_<;>intro h)|(refine wB ?_ ?_<;>intro h<;>simp only[h]))|simp(maxSteps:=4000000) (disch:=first|exact ddL|fail) only[go_sem,simprocAttr,Tryz.f190])
 all_goals first|done|exact⟨rfl,rfl⟩
theorem Po{P:Program}{g:FuncId}{ms:List MV}{σ:St}{p f:Nat}{op of of':bE}{r:MV}{k:MV→St→Prop}(hpf:p≠f)(hp:σ p=some op)(hf:σ f=some of)
 (h:aA P g ms ((St.none.set p op).set f of) fun v σ'=>v=r∧σ'=(St.none.set p op).set f of')(hk:R (cD r (σ.set f of') k)):R (dN P g ms σ k) :=
 cR h (le2 hp hf) fun v σ' q _=>by
  obtain⟨rfl,rfl⟩:=q
  have e:((St.none.set p op).set f of').over (σ.minus ((St.none.set p op).set f of))=σ.set f of':=by
   funext j
   by_cases h1:j=f
   ·subst h1;simp[St.over,St.set]
   ·by_cases h2:j=p
    ·subst h2;simp[St.over,St.set,h1,hp]
    ·simp[St.over,St.set,St.minus,h1,h2,St.none]
  rw[e]
  exact hk
theorem FV{σ:St}{a a':MV}{l:List MV}(h:View σ a a'):∀(i:Nat) (m m':MV),(a::l)[i]?=some m→(a'::l)[i]?=some m'→View σ m m':=fun i m m' h1 h2=>by
 match i with
 | 0=>simp at h1 h2;subst h1 h2;exact h
 | i+1=>simp at h1 h2;rw[h1] at h2;cases h2;exact .same _
theorem Ar{T:T}(hT:Good T)(hl:T.fl.length≤1000000)(c:CA)(hc:∀k,(c.f.get k).s.size≤1000000)(g:Nat)(hg:g<4294967296)(f:Nat)(t d:Bool) :
  aA Tryz.prog 102 [.ptr f 0 0,.agg c.c,.int .u32 (g:Int)] (St.none.set f (flO (.lst 5 (T.fl.map ND.c) t) (if d=true then 1 else 0) 0 (if d=true then jS T else .nilfn))) (fun v σ'=>v=.bool (T.sem (cB (oE c) g))∧σ'=St.none.set f (flO (.lst 5 (T.fl.map ND.c) t) 1 0 (jS T))):=by
 refine aA.less (Q':=fun v σ'=>v=.bool (T.sem (cB (oE c) g))∧(St.none.set f (flO (.lst 5 (T.fl.map ND.c) t) 1 0 (jS T))).le σ') (aA.body 20 [.tmp 6] Tryz.func102 rfl rfl rfl rfl ?_) fun v σ' h=>⟨_,h.2,h.1,rfl⟩
 have hdo:∀{p},p≠f→aA Tryz.prog 190 [.ptr f 0 1,.fn (.func 191) [] [.ptr p 0 0]] (flS p f (.lst 5 (T.fl.map ND.c) t) (if d=true then 1 else 0) 0 (if d=true then jS T else .nilfn)) (fun v σ'=>v=.tup []∧σ'=flS p f (.lst 5 (T.fl.map ND.c) t) 1 0 (jS T)):=fun {p} hp=>by
  cases d
  ·exact CS hT hl hp t
  ·exact A4 hp
 have ha:=F6 c hc g hg T hT
 rw[kG] at hdo ⊢
 generalize DO T=fa at ha hdo ⊢
 generalize DN T=ca at ha hdo ⊢
 generalize T.sem (cB (oE c) g)=out at ha ⊢
 have hlen:c.c.length=27:=by simp[CA.c,cL]
 have hcell:c.c.all MV.aP=true:=by simp only[CA.c,List.all_cons,eL];rfl
 generalize c.c=cells at ha hlen hcell ⊢
 obtain⟨dn,hdn⟩:∃x:Int,(if d=true then 1 else 0)=x:=⟨_,rfl⟩
 obtain⟨av,hav⟩:∃x:MV,(if d=true then MV.fn (.func fa) [] ca else .nilfn)=x:=⟨_,rfl⟩
 rw[hdn,hav] at hdo ⊢
 repeat' (first|(refine Po (by assumption) (by simp[St.set, *]) (by simp[St.set, *]) (hdo (by assumption)) ?_)|(refine gY (.cptr cells::.int .u32 (g:Int)::ca) ha (by constructor) rfl (FV (View.ptr (i:=0) (o:=0) (aM _ _ _) (by simp))) ?_)|(with_reducible first|(refine wN fun _ hnl=>?_;revert hnl;(repeat refine wS fun _ _=>?_);intro hnl)|refine wE ?_|(refine wK ?_ ?_<;>intro h)|(refine wB ?_ ?_<;>intro h<;>simp only[h]))|simp(maxSteps:=4000000) (disch:=first|exact ddL|fail) only[go_sem,simprocAttr,Tryz.f102,hlen,hcell])
 all_goals exact St.aL (St.none_le _) (by simp[St.set, *])
end

section
set_option maxRecDepth 100000
set_option maxHeartbeats 8000000
abbrev svq(q:Nat):List MV:=[.int .i64 bkZ.sq,.int .i64 bkZ.nx,.lst 27 (bkZ.cards.map CA.c) false,.lst 3 (bkZ.dead.map DE.c) false,.lst 2 (bkZ.gr.map GR.c) false,.lst 7 [] false,.vec 12 q 0 6]
theorem Ml{σ:St}{l:List RW}{q:Nat}(h:σ q=some (.row 143 12 (l.map RW.c)))(h6:l.length=6):View σ (.agg (svq q)) (.agg (saR l).c) :=
 .Mv ⟨.same _,.same _,.same _,.same _,.same _,.same _,.vecAll h (by simp[h6]),trivial⟩ rfl
theorem z6{σ:St}{q:Nat}{k:MV→St→Prop}(l:List RW){n:Int}(hn:(if cE l=true then 0 else 3)=n)(h6:l.length=6)(hf:∀r,r∈l→r.ans.fl.length≤1000000)(h:σ q=some (.row 143 12 (l.map RW.c)))
 (hk:R (cD (.int .i64 n) σ k)):R (dN Tryz.prog 16 [.agg (svq q)] σ k):=by
 subst hn
 exact gY [.agg (saR l).c] (yO l (by omega) hf) (by constructor) rfl (fK (Ml h h6)) hk
def LN:List RW:=oW.set 5 ⟨0,0,{ re0 with sq:=1 }⟩
theorem okZ:cE oW=true:=by decide +kernel
theorem okS:cE LN=false:=by decide +kernel
theorem flZ:∀r,r∈oW→r.ans.fl.length≤1000000:=fun r h=>by
 rw[List.eq_of_mem_replicate h];decide
theorem PT{j:Nat}{x:RW}(hx:x.ans.fl=[]):∀r,r∈oW.set j x→r.ans.fl.length≤1000000:=fun r h=>by
 rcases List.mem_or_eq_of_mem_set h with h|rfl
 ·exact flZ r h
 ·rw[hx];decide
theorem Bj{σ:St}{l k:Nat}{o:bE}:((σ.set l o) k=none)=(k≠l∧σ k=none):=propext ⟨bL,fun h=>(aH _ _ _ _ h.1).trans h.2⟩
def JG(L:List RW):Prop:=aA Tryz.prog 79 [] St.none (fun v σ'=>∃q,v=.agg ((saR L).v q)∧σ'=St.none.set q (.row 143 12 (L.map RW.c)))
theorem JL{L L':List RW}{R0:List MV}(hn:JG L)(hl:L.length=6)(hg:(L.map RW.c).getD 5 []=R0)(hl12:R0.length=12)(hset:(L.map RW.c).set 5 (List.take 8 R0++[.int .i64 1]++List.drop 9 R0)=L'.map RW.c)(hl':L'.length=6)
 (o:cE L=true)(o':cE L'=false)(f:∀r,r∈L→r.ans.fl.length≤1000000)(f':∀r,r∈L'→r.ans.fl.length≤1000000):aA Tryz.prog 15 [] St.none (fun r _=>r=.bool true):=by
 refine aA.bF (aA.body 20 [.tmp 0] Tryz.func15 rfl rfl rfl rfl ?_)
 unfold JG at hn
 have hlen:(L.map RW.c).length=6:=by rw[List.length_map,hl]
 repeat' (first|(refine kP hn ?_;(intro q hq;try (simp only[Bj] at hq;obtain⟨qa,qb,-⟩:=hq;have qa':=Ne.symm qa;have qb':=Ne.symm qb)))|(with_reducible first|(refine wN fun _ hnl=>?_;revert hnl;(repeat refine wS fun _ _=>?_);intro hnl)|refine wE ?_|(refine wK ?_ ?_<;>intro h)|(refine wB ?_ ?_<;>intro h<;>simp only[h]))|simp(maxSteps:=4000000) (disch:=first|exact ddL|fail) only[go_sem,simprocAttr,Tryz.f15,hl,hlen,hg,hset,hl12])
 refine z6 L (n:=0) (by rw[if_pos o]) hl f (aM _ _ _) ?_
 repeat' (first|(with_reducible first|(refine wN fun _ hnl=>?_;revert hnl;(repeat refine wS fun _ _=>?_);intro hnl)|refine wE ?_|(refine wK ?_ ?_<;>intro h)|(refine wB ?_ ?_<;>intro h<;>simp only[h]))|simp(maxSteps:=4000000) (disch:=first|exact ddL|fail) only[go_sem,simprocAttr,hl,hlen,hg,hset,hl12])
 refine z6 L' (n:=3) (by rw[if_neg (by simp[o'])]) hl' f' (by simp[St.set, *]) ?_
 repeat' (first|(with_reducible first|(refine wN fun _ hnl=>?_;revert hnl;(repeat refine wS fun _ _=>?_);intro hnl)|refine wE ?_|(refine wK ?_ ?_<;>intro h)|(refine wB ?_ ?_<;>intro h<;>simp only[h]))|simp(maxSteps:=4000000) (disch:=first|exact ddL|fail) only[go_sem,simprocAttr,hl,hlen,hg,hset,hl12])
 all_goals first|exact⟨_,St.le_refl _,rfl⟩|exact⟨_,St.le_refl _⟩
end
end Go.Proofs.YtojmhmejdihaaaaGreatDoor
