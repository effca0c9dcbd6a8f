/- Parts of the proof, joined; conditions: those that its theorems name. -/
import Derived.Test.YtaojijkdamfbnaaGreatDoorMcx
import Derived.Test.YtaojijkdamfbnaaGreatDoorRows
import Derived.LaidMore
import Derived.MakeChecks
import Derived.Test.YtaojijkdamfbnaaGreatDoorCards
import Derived.Test.YtaojijkdamfbnaaGreatDoorTie
set_option linter.unusedVariables false
set_option linter.unusedSimpArgs false
set_option maxHeartbeats 4000000
namespace Go.Proofs.YtaojijkdamfbnaaGreatDoor
section
open Go.ChangeShapes Go.WideShapes Go.RowKit
set_option maxRecDepth 100000
def qE(cs:List MV):List (Nat × Nat)→List MV
 | []=>[]
 | p::r=>(cs.drop p.1).take p.2++qE cs r
def sH(o n:Nat):List (Nat × Nat)→Bool
 | []=>o==n
 | p::r=>p.1==o&&sH (o+p.2) n r
theorem B0{cs:List MV}:∀(l:List (Nat × Nat)) (o:Nat),sH o cs.length l=true→qE cs l=cs.drop o
 | [],o,h=>by
  simp only[sH,beq_iff_eq] at h
  rw[qE,h,List.drop_length]
 | p::r,o,h=>by
  simp only[sH,Bool.and_eq_true,beq_iff_eq] at h
  rw[qE,B0 r _ h.2,h.1,←List.drop_drop,List.take_append_drop]
theorem j5{cs:List MV}{n:Nat}(hn:cs.length=n)(l:List (Nat × Nat))(h:sH 0 n l=true):cs=qE cs l:=by
 have:=B0 (cs:=cs) l 0 (by rw[hn];exact h)
 rw[this,List.drop_zero]
theorem i64_in{v:Int}(h0:IntKind.i64.min≤v)(h1:v≤IntKind.i64.max):MY v:=by
 have e0:IntKind.i64.min = -9223372036854775808:=by decide
 have e1:IntKind.i64.max=9223372036854775807:=by decide
 rw[e0] at h0
 rw[e1] at h1
 exact⟨h0,h1⟩
theorem o5{n:Nat}{x:List MV}(h:CT Tryz.prog (n+1) 3 x):∃v,x=[.int .i64 v]∧MY v:=by
 obtain⟨v,h0,h1,h2⟩:=CE (by rw[td3]) h
 exact⟨v,h0,i64_in h1 h2⟩
theorem Nw{n:Nat}{x:List MV}(h:CT Tryz.prog (n+1) 28 x):∃u:UInt32,x=[.int .u32 (u.toNat:Int)]:=by
 obtain⟨v,h0,h1,h2⟩:=CE (by rw[D8]) h
 have e0:IntKind.u32.min=0:=by decide
 have e1:IntKind.u32.max=4294967295:=by decide
 rw[e0] at h1
 rw[e1] at h2
 exact⟨UInt32.ofNat v.toNat,by rw[h0,LH h1 (by omega)]⟩
theorem zE{n:Nat}{x:List MV}(h:CT Tryz.prog (n+2) 39 x):∃a:VA,x=a.c:=by
 obtain⟨hl,hf⟩:=gS (congrArg TD.k uM) h
 rw[uM] at hl
 obtain⟨a,ha,_⟩:=o5 (hf (0,3) (by simp))
 obtain⟨b,hb,_⟩:=o5 (hf (1,3) (by simp))
 obtain⟨s,hs,_⟩:=Mf (by rw[td9]) (hf (2,9) (by simp))
 simp only[td3,td9] at ha hb hs
 refine⟨⟨a,b,s⟩,?_⟩
 rw[j5 hl [(0,1),(1,1),(2,1)] rfl]
 simp only[qE,ha,hb,hs]
 rfl
theorem Nv{n:Nat}{x:List MV}(h:CT Tryz.prog (n+3) 84 x):∃a:ND,x=a.c:=by
 obtain⟨hl,hf⟩:=gS (congrArg TD.k LC) h
 rw[LC] at hl
 obtain⟨a,ha,_⟩:=o5 (hf (0,3) (by simp))
 obtain⟨b,hb,_⟩:=o5 (hf (1,3) (by simp))
 obtain⟨v,hv⟩:=zE (hf (2,39) (by simp))
 simp only[td3,uM] at ha hb hv
 refine⟨⟨a,b,v⟩,?_⟩
 rw[j5 hl [(0,1),(1,1),(2,3)] rfl]
 simp only[qE,ha,hb,hv]
 rfl
theorem MA{n:Nat}{x:List MV}(h:CT Tryz.prog (n+4) 27 x):∃l:List ND,x=[.lst 5 (l.map ND.c) false]:=by
 obtain⟨xs,hm,_,hx⟩:=lS (by rw[MM]) h
 obtain⟨l,rfl⟩:=l3 fun x hx'=>Nv (hx x hx')
 rw[LC] at hm
 exact⟨l,hm⟩
theorem Nx{n:Nat}{x:List MV}(h:CT Tryz.prog (n+3) 40 x):∃f:F8,x=fc f:=by
 obtain⟨hl,ha⟩:=HW (congrArg TD.k D9) h
 rw[D9] at hl
 rw[uM] at ha
 simp only at hl ha
 obtain⟨a0,h0⟩:=zE (ha 0 (by decide))
 obtain⟨a1,h1⟩:=zE (ha 1 (by decide))
 obtain⟨a2,h2⟩:=zE (ha 2 (by decide))
 obtain⟨a3,h3⟩:=zE (ha 3 (by decide))
 obtain⟨a4,h4⟩:=zE (ha 4 (by decide))
 obtain⟨a5,h5⟩:=zE (ha 5 (by decide))
 obtain⟨a6,h6⟩:=zE (ha 6 (by decide))
 obtain⟨a7,h7⟩:=zE (ha 7 (by decide))
 refine⟨⟨[a0,a1,a2,a3,a4,a5,a6,a7],rfl⟩,?_⟩
 rw[j5 hl [(0 * 3,3),(1 * 3,3),(2 * 3,3),(3 * 3,3),(4 * 3,3),(5 * 3,3),(6 * 3,3),(7 * 3,3)] rfl]
 simp only[qE,h0,h1,h2,h3,h4,h5,h6,h7]
 rfl
theorem Ns{n:Nat}{x:List MV}(h:CT Tryz.prog (n+4) 42 x):∃c:CA,x=c.c:=by
 obtain⟨hl,hf⟩:=gS (congrArg TD.k JZ) h
 rw[JZ] at hl
 obtain⟨a,ha,_⟩:=o5 (hf (0,3) (by simp))
 obtain⟨b,hb,_⟩:=o5 (hf (1,3) (by simp))
 obtain⟨u,hu⟩:=Nw (hf (2,28) (by simp))
 obtain⟨f,hff⟩:=Nx (hf (3,40) (by simp))
 simp only[td3,D8,D9] at ha hb hu hff
 refine⟨⟨a,b,u,f⟩,?_⟩
 rw[j5 hl [(0,1),(1,1),(2,1),(3,24)] rfl]
 simp only[qE,ha,hb,hu,hff,List.append_nil]
 rfl
theorem Oc:ownKnob Tryz.prog.godebug=none:=by kernel_rfl
end

section
open Go.ChangeShapes Go.WideShapes Go.RowKit
set_option maxRecDepth 100000
abbrev AO:List (String × DataW Unit):=[("math/bits.deBruijn32tab",Rows.laid_math_bits_deBruijn32tab)]
theorem Nk:Tryz.prog.globalNamed "math/bits.deBruijn32tab" = some 0:=by kernel_rfl
theorem Od:(Tryz.prog.globals[0]?).map (·.type)=some 230:=by kernel_rfl
theorem Oo:Tryz.prog.underlying 230=some (.array 32 5):=by kernel_rfl
theorem uU8:Tryz.prog.underlying 5=some (.int .u8):=by kernel_rfl
theorem cU8:Tryz.prog.cellsOf 5=1:=by kernel_rfl
theorem N6:Tryz.prog.cellsOf 230=32:=by kernel_rfl
theorem CR:∀W:World,W.ShapedOpen Tryz.prog→laidMetH Tryz.prog AO W→Mb W:=fun W hsh h=>by
 rw[MakeChecks.laidMetH_plain _ _ _ (by kernel_rfl)] at h
 have ht:Go.Lib.TabIs Tryz.prog W "math/bits.deBruijn32tab" .u8 dbT:=Go.Lib.tabIs_of_head Nk Od Oo uU8 cU8 N6 h
 refine⟨fun g i v hv=>?_,u9 W hsh⟩
 by_cases hg:g=0
 ·subst hg
  rw[LN,Option.map_eq_some_iff] at hv
  obtain⟨n,hn,rfl⟩:=hv
  have hi:=(List.getElem?_eq_some_iff.1 hn).1
  rw[ht.cell Nk i hi]
  simp[List.getD,hn]
 ·unfold GT at hv
  rw[if_neg hg] at hv
  cases hv
theorem H0(os:Os)(args:Array Value):laidMetH Tryz.prog AO ((World.doorLaid Tryz.prog 40 os).forCall (fun _ _=>0) ⟨#[],args,[]⟩).memory :=
 laidMetH_of_parts3 (fuel:=8) (laidMet_of_run' 8 (by kernel_rfl) (by kernel_rfl)) (by kernel_rfl) (by kernel_rfl)
end

section
set_option maxRecDepth 100000
set_option maxHeartbeats 4000000
def J2(op:Int):FuncId:=if op=11 then 131 else 132
def Cj:T→FuncId
 | .leaf x=>AR x.op
 | .one _ _=>130
 | .two x _ _=>J2 x.op
def iU:T→MV
 | .leaf x=>xA x
 | .one _ a=>.fn (.func 130) [] [.cptr [iU a]]
 | .two x a b=>.fn (.func (J2 x.op)) [] [.cptr [iU a],.cptr [iU b]]
def Ci:T→List MV
 | .leaf x=>wZ x
 | .one _ a=>[.cptr [iU a]]
 | .two _ a b=>[.cptr [iU a],.cptr [iU b]]
theorem jT:∀t:T,iU t=.fn (.func (Cj t)) [] (Ci t)
 | .leaf _=>rfl
 | .one _ _=>rfl
 | .two _ _ _=>rfl
theorem JN(x:ND)(c:CD)(g:Nat):(T.leaf x).sem (bQ c g)=bQ c g x:=by
 by_cases h1:x.op=1
 ·simp[T.sem,bQ,h1]
 ·by_cases h2:x.op=2
  ·simp[T.sem,bQ,h2]
  ·simp[T.sem,h1,h2]
theorem Eo(c:CA)(hc:∀k,(c.f.get k).s.size≤1000000)(g:Nat)(hg:g<4294967296):∀t:T,Good t→aA Tryz.prog (Cj t) (.cptr c.c::.int .u32 (g:Int)::Ci t) St.none (fun r _=>r=.bool (t.sem (bQ (lP c) g)))
 | .leaf x,h=>by
  rw[JN]
  exact Nb c hc g hg x (h.2 x (by simp[T.fl]))
 | .one x a,h=>by
  have ih:=Eo c hc g hg a (sO.1 h).2.2
  have ha:=jT a
  have e:(T.one x a).sem (bQ (lP c) g)=!a.sem (bQ (lP c) g):=by simp[T.sem]
  rw[e]
  show aA Tryz.prog 130 [.cptr c.c,.int .u32 (g:Int),.cptr [iU a]] St.none _
  rw[ha]
  refine(aA.body 11 [.tmp 5] Tryz.func130 rfl rfl rfl rfl ?_)
  generalize c.c=cells at ih ⊢
  repeat' (first|(with_reducible first|refine up ih ?_)|(with_reducible first|(refine wN fun _ hnl=>?_;revert hnl;(repeat refine wS fun _ _=>?_);intro hnl)|refine wE ?_|(refine wK ?_ ?_<;>intro h)|(refine wB ?_ ?_<;>intro h<;>simp only[h]))|simp(maxSteps:=4000000) (disch:=first|exact ddL|fail) only[go_sem,simprocAttr,Tryz.f130])
 | .two x a b,h=>by
  obtain⟨q1,_,ga,gb⟩:=sP.1 h
  have ia:=Eo c hc g hg a ga
  have ib:=Eo c hc g hg b gb
  have ha:=jT a
  have hb:=jT b
  have hs:(T.two x a b).sem (bQ (lP c) g)=if x.op=11 then a.sem (bQ (lP c) g)&&b.sem (bQ (lP c) g) else a.sem (bQ (lP c) g) || b.sem (bQ (lP c) g):=by
   by_cases e:x.op=11<;>simp[T.sem,e]
  rw[hs]
  show aA Tryz.prog (J2 x.op) [.cptr c.c,.int .u32 (g:Int),.cptr [iU a],.cptr [iU b]] St.none _
  rw[ha,hb]
  unfold J2
  generalize c.c=cells at ia ib ⊢
  generalize a.sem (bQ (lP c) g)=sa at ia ⊢
  generalize b.sem (bQ (lP c) g)=sb at ib ⊢
  by_cases e:x.op=11
  ·rw[if_pos e,if_pos e]
   refine(aA.body 17 [.tmp 6] Tryz.func131 rfl rfl rfl rfl ?_)
   cases sa
   all_goals
    repeat' (first|(with_reducible first|refine up ia ?_|refine up ib ?_)|(with_reducible first|(refine wN fun _ hnl=>?_;revert hnl;(repeat refine wS fun _ _=>?_);intro hnl)|refine wE ?_|(refine wK ?_ ?_<;>intro h)|(refine wB ?_ ?_<;>intro h<;>simp only[h]))|simp(maxSteps:=4000000) (disch:=first|exact ddL|fail) only[go_sem,simprocAttr,Tryz.f131])
    all_goals first|rfl|(cases sb<;>rfl)
  ·rw[if_neg e,if_neg e]
   refine(aA.body 17 [.tmp 6] Tryz.func132 rfl rfl rfl rfl ?_)
   cases sa
   all_goals
    repeat' (first|(with_reducible first|refine up ia ?_|refine up ib ?_)|(with_reducible first|(refine wN fun _ hnl=>?_;revert hnl;(repeat refine wS fun _ _=>?_);intro hnl)|refine wE ?_|(refine wK ?_ ?_<;>intro h)|(refine wB ?_ ?_<;>intro h<;>simp only[h]))|simp(maxSteps:=4000000) (disch:=first|exact ddL|fail) only[go_sem,simprocAttr,Tryz.f132])
    all_goals first|rfl|(cases sb<;>rfl)
end

section
open Go.ChangeShapes Go.WideShapes Go.RowKit
set_option maxRecDepth 100000
theorem yJ{P:Program}{f:FuncId}{fn:Func}{s:ChangeSpec}{c:OpenClaim}(h1:c.wf (OpenSpec.ofChange s)=true)(h2:laidOutB P=true)(h3:mapsRowed P=true)(h4:fn.params.all (P.readableRec ·)=true)(h5:namedTie P c.named s.vars=true)
 (h6:(c.stops==[])=true)(h7:(P.stops==[])=true)(h8:(c.knobs==[])=true)(h9:(P.stopKnobs==[])=true)(h10:(c.inPlace==P.inPlace f)=true)(h11:(c.unfollowed==P.unfollowed f)=true)(h12:(c.recurses==P.recurses f)=true)(h13:(c.named==P.varsNamed f)=true)
 (h14:(c.maps==(fn.params.toList++s.plain.varTypes P).any (P.mapsRec ·))=true)(h15:(c.ifaces==(fn.params.toList++s.plain.varTypes P).any (P.ifacesRec ·))=true)(h16:(c.mapsOut==P.mapsAmong fn.resultTypes.toList)=true)
 (h17:(c.loops==(fn.params.toList++s.plain.varTypes P).any (P.loopsFrom ·))=true)(h18:(c.wideKeys==(fn.params.toList++s.plain.varTypes P++fn.resultTypes.toList).any (P.wideKeysFrom ·))=true)
 (h19:s.vars.all (P.varReadable ·)=true)(h20:fn.resultTypes.all (fun t=>P.readableRec t&&decide (t<P.types.size))=true)(h21:(c.ifacesOut==fn.resultTypes.toList.any (P.ifacesRec ·))=true)(h22:(c.loopsOut==fn.resultTypes.toList.any (P.loopsFrom ·))=true)
 (h23:(c.plainKeys==P.plainKeys)=true)(h24:c.shortTexts.isNone=true)(h25:P.stopsHeard=true)(h26:P.mayEnter=true)(h27:(c.lifted==P.liftsFinal)=true)(h28:(P.make==some c.make)=true)
 (hd:c.domain.isEmpty=true)(h29:(c.kinds==[])=true)(h30:(c.pinned==c.pinnedBy)=true)
 (h31:(c.veiled==(fn.params.toList++s.plain.varTypes P++fn.resultTypes.toList).any (P.veiledRec ·))=true)(h32:c.veiledFits P fn.params.toList (fn.params.toList++s.plain.varTypes P++fn.resultTypes.toList)=true):joinedFacts P f fn s c=true:=by
 unfold joinedFacts
 rw[h1,h2,h3,h4,h5,h6,h7,h8,h9,h10,h11,h12,h13,h14,h15,h16,h17,h18,h19,h20,h21,h22,h23,h24,h25,h26,h27,h28,h30,h31,h32]
 simp only[hd,if_true,h29,Bool.and_true,Bool.and_self]
noncomputable abbrev PC:Program:=Tryz.pinned.checked.prog
theorem KL:laidOutB PC=true:=by kernel_rfl
theorem KO:mapsRowed PC=true:=by kernel_rfl
theorem Ix:(PC.stops==[])=true:=by kernel_rfl
theorem Iu:(PC.stopKnobs==[])=true:=by kernel_rfl
theorem KK:(Rows.memberTellsRow.plainKeys==PC.plainKeys)=true:=by kernel_rfl
theorem Iv:(Rows.memberTellsRow.lifted==PC.liftsFinal)=true:=by kernel_rfl
theorem KN:(PC.make==some Rows.memberTellsRow.make)=true:=by kernel_rfl
theorem Is:PC.stopsHeard=true:=by kernel_rfl
end
end Go.Proofs.YtaojijkdamfbnaaGreatDoor
