/- Parts of the proof; conditions: as its theorems name them. -/
import Derived.Test.YtppdgejjmhdjhaaGreatDoorM9x
import Derived.Lib.LaidTab
import Derived.Test.YtppdgejjmhdjhaaGreatDoorRows
import Derived.LaidMore
import Derived.MakeChecks
import Derived.Test.YtppdgejjmhdjhaaGreatDoorCards
import Derived.Test.YtppdgejjmhdjhaaGreatDoorTie
set_option linter.unusedVariables false
set_option linter.unusedSimpArgs false
set_option maxHeartbeats 8000000
set_option maxRecDepth 100000
namespace Go.Proofs.YtppdgejjmhdjhaaGreatDoor
section
open Go.ChangeShapes Go.WideShapes Go.RowKit
abbrev FA:List (String × DataW Unit):=[("math/bits.deBruijn32tab",Rows.laid_math_bits_deBruijn32tab)]
theorem Wq:Tryz.prog.globalNamed "math/bits.deBruijn32tab" = some 0:=by kernel_rfl
theorem Xh:(Tryz.prog.globals[0]?).map (·.type)=some 325:=by kernel_rfl
theorem Xw:Tryz.prog.underlying 325=some (.array 32 5):=by kernel_rfl
theorem uU8:Tryz.prog.underlying 5=some (.int .u8):=by kernel_rfl
theorem cU8:Tryz.prog.cellsOf 5=1:=by kernel_rfl
theorem W7:Tryz.prog.cellsOf 325=32:=by kernel_rfl
theorem IK:∀W:World,W.ShapedOpen Tryz.prog→laidMetH Tryz.prog FA W→UL W:=fun W hsh h=>by
 rw[MakeChecks.laidMetH_plain _ _ _ (by kernel_rfl)] at h
 have ht:Go.Lib.TabIs Tryz.prog W "math/bits.deBruijn32tab" .u8 dbT:=Go.Lib.tabIs_of_head Wq Xh Xw uU8 cU8 W7 h
 refine⟨fun g i v hv=>?_,Bn W hsh⟩
 by_cases hg:g=0
 ·subst hg
  rw[Us,Option.map_eq_some_iff] at hv
  obtain⟨n,hn,rfl⟩:=hv
  have hi:=(List.getElem?_eq_some_iff.1 hn).1
  rw[ht.cell Wq i hi]
  simp[List.getD,hn]
 ·unfold GT at hv
  rw[if_neg hg] at hv
  cases hv
theorem Pn(os:Os)(args:Array Value):laidMetH Tryz.prog FA ((World.doorLaid Tryz.prog 40 os).forCall (fun _ _=>0) ⟨#[],args,[]⟩).memory :=
 laidMetH_of_parts3 (fuel:=8) (laidMet_of_run' 8 (by kernel_rfl) (by kernel_rfl)) (by kernel_rfl) (by kernel_rfl)
end

section
theorem uS{l C:Nat}{P:Program}{f:FR}{σ:St}{o:Oper}{k:MV→St→Prop}{s x:Operand}{t xt el:TypeId}(ho:o.op=.call { callee:=.builtin .append,args:=#[s,x],argTypes:=#[t,xt] })
 (ht:(td P t).k=.slice el)(hxt:(td P xt).k.isInt=true)(hz:(td P el).zok=true)(h0:0<(td P el).size){tt:TypeId}{xs:List (List MV)}(hsl:σ l=some (.row tt (td P el).size xs)){i:Nat}(hs:aH f s=.vec (td P el).size l 0 i)(hin:i≤xs.length)
 {n:Int}(hx:aH f x=.int .i64 n)(hn:0<n)(hC:C<i+n.toNat)(hm:i+n.toNat≤140737488355328)(hb:(i+n.toNat) * (td P el).bytes≤140737488355328)
 (hk:∀l',σ l'=none→k (.vec (td P el).size l' 0 (i+n.toNat)) (σ.set l' (.row el (td P el).size (xs.take i++List.replicate n.toNat (td P el).zero)))):Ev l C P o f σ k:=by
 intro Φ w a K Q' hG hi hr hK
 obtain⟨l',hl',hsl'⟩:=inv_eq hi
 have hsx:fJ σ (td P el).size (aH f s)=some (xs.take i):=by rw[hs];simp[fJ,hsl,hin]
 obtain⟨old,hold,horel,hxl⟩:=iI (P:=P) hsx hi (aJ hr s)
 have hlen:(xs.take i).length=i:=by rw[List.length_take];omega
 rw[hlen] at hold
 have rs:=aJ hr s
 rw[hs] at rs
 obtain⟨ad,cap,p,hv,hp,hpe,hcap,hncap,hR⟩:=rs.dU
 obtain⟨p',hp',hpC⟩:=hG
 rw[hp] at hp';cases hp'
 have hcC:cap=C:=by omega
 subst hcC
 have e2:a.eval x=.int .i64 n:=by have:=aJ hr x;rw[hx] at this;exact this.aT
 obtain⟨z,hz0,hz1,hz2,hok,hz3,_⟩:=dI hz w.drew
 have hzlen:(td P el).zero.length=(td P el).size:=by rw[←hz1,←hz2];simp
 obtain⟨ii,d,hinf,hd,hsz,hby,_⟩:=cY hok
 obtain⟨ik,hxu⟩:=CV hxt
 have w1:IntKind.i64.wrap n=n:=IntWalk.i64_in n oM
 have hf1:(Builtin.firstCells (td P el).size i (.slice ad i cap)).run P w.drew=.ok old w.drew:=by have:=(hold w.drew rfl).2;rw[hv] at this;exact this
 have hrun:(Builtin.append_ #[t,xt] o.type #[.slice ad i cap,.int .i64 n]).run P w=.ok (.slice (some ⟨w.heap.size,0,none⟩) (i+n.toNat) (grownCap w (i+n.toNat) cap el)) (w.drew.alloc (.cells (old++Builtin.zeroCells z.cells n.toNat++Builtin.zeroCells z.cells (grownCap w (i+n.toNat) cap el - (i+n.toNat))) el)):=by
  have hroom:¬(i+n.toNat≤cap):=by omega
  have h48':¬(Builtin.nextslicecap (i+n.toNat) cap * ii.bytes > 2 ^ 48):=by
   rw[←hby]
   have:=growslice_fits (show cap<i+n.toNat by omega) hb
   omega
  have h63:¬(((i+n.toNat:Nat):Int) > IntKind.i64.max):=by
   simp only[IntKind.max,IntKind.signed,IntKind.bits]
   simp
   omega
  have hneg:¬(n<0):=by omega
  have hbig:¬(n * ii.bytes > 2 ^ 48):=by
   rw[←hby]
   have:n * ((td P el).bytes:Int)=((n.toNat * (td P el).bytes:Nat):Int):=by
    rw[Int.natCast_mul,Int.toNat_of_nonneg oM]
   have h1:n.toNat * (td P el).bytes≤(i+n.toNat) * (td P el).bytes:=Nat.mul_le_mul_right _ oM
   omega
  have hns:¬(n.toNat * (td P el).size=0):=by
   have:0<n.toNat * (td P el).size:=Nat.mul_pos oM h0
   omega
  unfold Builtin.append_
  simp only[World.drew] at hz0 hf1
  simp only[List.getElem?_toArray,List.getElem?_cons_zero,List.getElem?_cons_succ,Sem.run_bind,aK (aY ht),Result.andThen_ok,aO hok,aK hxu,Sem.run_pure,if_true,oS,w1,if_neg hneg,typeInfo,run_program,hinf,if_neg hbig,
   if_neg hroom,Bool.not_true,Bool.false_eq_true,if_false,h63,false_and,if_neg h48',run_choose,Question.forced,run_askRoom,if_neg hns]
  simp only[hf1,hz0,Result.andThen_ok,newRow,Sem.run_bind,run_newObj,Sem.run_pure]
  rfl
 obtain⟨i1,s1,r1⟩:=qU (σ1:=σ) (el:=el) (n:=i) (m:=n.toNat) (cap':=grownCap w (i+n.toNat) cap el) (xs:=xs.take i) (ys:=List.replicate n.toNat (td P el).zero) (old:=old) (arr:=Builtin.zeroCells z.cells n.toNat)
  (rest:=Builtin.zeroCells z.cells (grownCap w (i+n.toNat) cap el - (i+n.toNat))) hi (fun _ _ q=>q) hl' hxl (fun i x hx=>by rw[List.getElem?_replicate] at hx;split at hx<;>simp at hx;rw[←hx,hzlen]) hlen (by simp)
  horel (tD (P:=P) (Φ:=Φ) hz1 hz2 hz3 h0 n.toNat) (by rw[size_zeroCells,hz2]) (grownCap_ge w _ _ el) (grownCap_le_maxLen w _ _ el (by simp only[maxLen];omega))
 refine bL (v:=_) (w':=_) ?_ (hK _ _ _ _ _ r1 i1 s1 (hk l' hsl'))
 rw[eS ho,hv,e2,hrun]
 rfl
theorem jO{l C:Nat}{P:Program}{c:Code}{f:FR}{σ:St}{Q:MQ}(h:R (mwp P c f σ Q)):An l C P c f σ Q:=TN (bO h)
theorem CB{P:Program}{f:FR}{σ:St}{Q:MQ}{c:Operand}{x y:Code}{t:Bool}(hc:aH f c=.bool t)(h1:t=true→mwp P x f σ Q)(h2:t=false→mwp P y f σ Q):mwp P (.cond c x y) f σ Q:=by
 intro F hF Φ w a hi hr hd
 have he:a.eval c=.bool t:=by
  have:=aJ hr c
  rw[hc] at this
  generalize a.eval c=v at this
  cases this
  rfl
 exact wpIn_cond_split he (fun ht=>h1 ht F hF.Pc Φ w a hi hr hd) (fun hf=>h2 hf F hF.Pd Φ w a hi hr hd)
end

section
theorem Is(l:List ND)(hl:l.length≤100000)(h0:0<l.length)(t:Bool):aA Tryz.prog 104 [.lst 5 (l.map ND.c) t] St.none (fun r _=>r=.lst 5 (l.map ND.c) false):=by
 refine aA.seen (mB 8 [.tmp 2] Tryz.func104 ?_)
 obtain⟨x,m,rfl⟩:∃x m,l=x::m:=by
  cases l with
  | nil=>cases h0
  | cons x m=>exact⟨x,m,rfl⟩
 simp only[List.length_cons] at hl
 repeat' first|(refine wO ?_;intros)|refine wZ1 @Tryz.f104.eq_1 ?_|fail
 exact .vecAll (aD _ _ _) (by simp only[List.length_map,List.length_cons])
end

section
open Go.ChangeShapes Go.WideShapes Go.RowKit
theorem Dr{P:Program}{f:FuncId}{fn:Func}{s:ChangeSpec}{c:OpenClaim}(h1:c.wf (OpenSpec.ofChange s)=true)(h2:laidOutB P=true)(h3:mapsRowed P=true)(h4:fn.params.all (P.readableRec ·)=true)(h5:namedTie P c.named s.vars=true)
 (h6:(c.stops==[])=true)(h7:(P.stops==[])=true)(h8:(c.knobs==[])=true)(h9:(P.stopKnobs==[])=true)(h10:(c.inPlace==P.inPlace f)=true)(h11:(c.unfollowed==P.unfollowed f)=true)(h12:(c.recurses==P.recurses f)=true)(h13:(c.named==P.varsNamed f)=true)
 (h14:(c.maps==(fn.params.toList++s.plain.varTypes P).any (P.mapsRec ·))=true)(h15:(c.ifaces==(fn.params.toList++s.plain.varTypes P).any (P.ifacesRec ·))=true)(h16:(c.mapsOut==P.mapsAmong fn.resultTypes.toList)=true)
 (h17:(c.loops==(fn.params.toList++s.plain.varTypes P).any (P.loopsFrom ·))=true)(h18:(c.wideKeys==(fn.params.toList++s.plain.varTypes P++fn.resultTypes.toList).any (P.wideKeysFrom ·))=true)
 (h19:s.vars.all (P.varReadable ·)=true)(h20:fn.resultTypes.all (fun t=>P.readableRec t&&decide (t<P.types.size))=true)(h21:(c.ifacesOut==fn.resultTypes.toList.any (P.ifacesRec ·))=true)(h22:(c.loopsOut==fn.resultTypes.toList.any (P.loopsFrom ·))=true)
 (h23:(c.plainKeys==P.plainKeys)=true)(h24:c.shortTexts.isNone=true)(h25:P.stopsHeard=true)(h26:P.mayEnter=true)(h27:(c.lifted==P.liftsFinal)=true)(h28:(P.make==some c.make)=true)
 (hd:c.domain.isEmpty=true)(h29:(c.kinds==[])=true)(h30:(c.pinned==c.pinnedBy)=true)
 (h31:(c.veiled==(fn.params.toList++s.plain.varTypes P++fn.resultTypes.toList).any (P.veiledRec ·))=true)(h32:c.veiledFits P fn.params.toList (fn.params.toList++s.plain.varTypes P++fn.resultTypes.toList)=true):joinedFacts P f fn s c=true:=by
 unfold joinedFacts
 rw[h1,h2,h3,h4,h5,h6,h7,h8,h9,h10,h11,h12,h13,h14,h15,h16,h17,h18,h19,h20,h21,h22,h23,h24,h25,h26,h27,h28,h30,h31,h32]
 simp only[hd,if_true,h29,Bool.and_true,Bool.and_self]
noncomputable abbrev PC:Program:=Tryz.pinned.checked.prog
theorem Ti:laidOutB PC=true:=by kernel_rfl
theorem Tl:mapsRowed PC=true:=by kernel_rfl
theorem PW:(PC.stops==[])=true:=by kernel_rfl
theorem PS:(PC.stopKnobs==[])=true:=by kernel_rfl
theorem Th:(Rows.viewNoneRow.plainKeys==PC.plainKeys)=true:=by kernel_rfl
theorem PT:(Rows.viewNoneRow.lifted==PC.liftsFinal)=true:=by kernel_rfl
theorem Tk:(PC.make==some Rows.viewNoneRow.make)=true:=by kernel_rfl
theorem PR:PC.stopsHeard=true:=by kernel_rfl
end
end Go.Proofs.YtppdgejjmhdjhaaGreatDoor
