/- Parts of the proof; conditions: as its theorems name them. -/
import Derived.Test.YtppdgejjmhdjhaaGreatDoorMbg
import Derived.Lib.LaidTab
import Derived.LaidLaws
import Derived.LaidHandle
import Derived.Stop.Joined
import Derived.Test.YtppdgejjmhdjhaaGreatDoorRows
import Derived.LaidMore
import Derived.MakeChecks
set_option linter.all false
set_option maxHeartbeats 8000000
set_option maxRecDepth 100000
namespace Go.Proofs.YtppdgejjmhdjhaaGreatDoor
open CA renaming c->aa,id->ab
open DE renaming c->ac
open GR renaming no->ad,c->ag
open List renaming length_map->al,length_append->am,length_singleton->an,eq_nil_of_length_eq_zero->ap,length_take->au,getElem?_eq_some_iff->av,take_length->aI,map_append->aN,append_nil->a0,getD_eq_getElem?_getD->a4,take_of_length_le->a5,mem_filter->a6,length_filter_le->a7,mem_of_getElem?->a9,mem_map->bb,mem_of_find?_eq_some->be,getElem?_append_left->bg,getElem?_cons_zero->bi,find?_eq_none->bp
open Nat renaming zero_le->bs
open Ne renaming symm->bv
open St renaming none->bx,set->bz,aB->b0,bC->b1
open TU renaming c->b2
section
open Go.ChangeShapes Go.WideShapes Go.RowKit
section
variable {H:Type} {enc:TypeId×Value→H}
def Cj{C:Checked}{os:Os}{g:FuncId}{fn:Func}{s:ChangeSpec}{conds:List PathCond}{apart fresh handsOn again:Bool}{tb:TypeId}{n:Nat}{laid:List (String×DataW Unit)}
 (zr:s.vars=[])(hs:∀(H:Type) (ds:List (DataW H)),ds.length=fn.params.size→s.fn H ds={ results:=[.lit (.bool true)],args:=ds })
 (iy:fn.resultTypes=#[tb])(htb:C.prog.underlying tb=some .bool)(hl:laidOutB C.prog=true)(hr:∀t,t∈fn.params.toList→C.prog.readableRec t=true∧t<C.prog.types.size)
 (hshp:∀t,t∈fn.params.toList→shp C.prog n t=true)(hG:∀W:World,W.ShapedOpen C.prog→laidMetH C.prog laid W→Wa W)
 (own:ownKnob C.prog.godebug=none)(started:os.Started)(noInit:C.prog.inits.idxOf? g=none)(mm:C.prog.funcs[g]?=some fn)
 (witness:∃(w:World) (tape:Tape) (i:Input),w.os=os∧(w.forCall tape i).Shaped C.prog∧i.vars=[]∧Input.okWide C.prog (w.forCall tape i) .any w.heap.size g i ∧
   ((s.pre enc C.prog fn conds apart (w.forCall tape i).memory i.args∧laidMetH C.prog laid (w.forCall tape i).memory)∧sizedMet enc C.prog fn (OpenSpec.ofChange s) apart (w.forCall tape i).memory i.args)∧({}:Assume).holds C.prog (lone (Frame.enter C.prog g i.args .normal) [] (w.forCall tape i)))
 (h:∀ms,ATs C.prog n fn.params.toList ms→aA C.prog g ms bx fun r _=>r=.bool true) :
  ReturnsInHanded {} C os g .any (fun w args=>(s.pre enc C.prog fn conds apart w args∧laidMetH C.prog laid w)∧sizedMet enc C.prog fn (OpenSpec.ofChange s) apart w args) (s.post enc C.prog fn apart fresh handsOn again):=by
 refine returnsInHanded_of_calls own started noInit witness ?_;intro w tape i _ oz _ cm mo hholds;obtain⟨_,_,_,fn',hfn',_,_,_,_,hval⟩:=cm;have e':fn'=fn:=Option.some.inj (hfn'.symm.trans mm);subst e';obtain⟨⟨⟨ds,gs,before,hw,hc⟩,hX⟩,hz⟩:=mo;have hW:=DataW.Whole.of_heap (w':=w.forCall tape i) (by rfl) hw;have hX':laidMetH C.prog laid (w.forCall tape i):=hX.of_heap (by rfl);refine Calls.mono (R:=fun e W'=>∃v,e=.returned v∧s.post enc C.prog fn' apart fresh handsOn again (w.forCall tape i) i.args v W') ?_ (fun e W' ⟨v,he,hp⟩=>by
  subst he;exact ChangeSpec.post_blind hp)
 generalize hWe:w.forCall tape i=W at *
 generalize lq:i.args=args at *
 generalize hbase:w.heap.size=base at *
 obtain⟨p,q,hA,_⟩:=id hW;obtain⟨ms,e,bf,ay⟩:=C4 (n:=n) (base:=base) hshp (fun j t v p q=>hval j t v (by simpa using p) (by simpa using q)) hA;have ou:iX (Af W) args ms:=⟨by simpa using e,fun i m hm=>by
  have hi:i<args.size:=by have:=(av.1 hm).1;simp at e;omega
  exact bf i _ m (by simp[Array.getD,hi]) hm⟩
 refine((h ms ay).2 (Af W) W args (YI W (hG W oz hX')) ou).mono fun e' W' ⟨v,mv,af,Φ',he,hv,hi,dg,hq⟩=>?_;subst hq;cases hv;refine⟨_,he,Rf zr hs iy htb hl hr hW dg.os dg.output fun k hk=>dg.block k hk ?_⟩;rintro⟨l,o,p,h1,_⟩;simp[bx] at h1
end
end
section
open Go.ChangeShapes Go.WideShapes Go.RowKit
abbrev Hd:List (String×DataW Unit):=[("math/bits.deBruijn32tab",Rows.laid_math_bits_deBruijn32tab)]
def XO:Tryz.prog.globalNamed "math/bits.deBruijn32tab" = some 0:=by kernel_rfl
def YT:(Tryz.prog.globals[0]?).map (·.type)=some 325:=by kernel_rfl
def Za:Tryz.prog.underlying 325=some (.array 32 5):=by kernel_rfl
def uU8:Tryz.prog.underlying 5=some (.int .u8):=by kernel_rfl
def cU8:Tryz.prog.cellsOf 5=1:=by kernel_rfl
def YG:Tryz.prog.cellsOf 325=32:=by kernel_rfl
def J3:∀W:World,W.ShapedOpen Tryz.prog→laidMetH Tryz.prog Hd W→Wa W:=fun W oz h=>by
 rw[MakeChecks.laidMetH_plain _ _ _ (by kernel_rfl)] at h;have ht:Go.Lib.TabIs Tryz.prog W "math/bits.deBruijn32tab" .u8 dbT:=Go.Lib.tabIs_of_head XO YT Za uU8 cU8 YG h
 refine⟨fun g i v hv=>?_,Ch W oz⟩;by_cases hg:g=0
 ·subst hg;rw[VN,Option.map_eq_some_iff] at hv;obtain⟨n,hn,rfl⟩:=hv;have hi:=(av.1 hn).1;rw[ht.cell XO i hi];simp[List.getD,hn]
 ·unfold GT at hv;rw[if_neg hg] at hv;cases hv
def QM(os:Os)(args:Array Value):laidMetH Tryz.prog Hd ((World.doorLaid Tryz.prog 40 os).forCall (fun _ _=>0) ⟨#[],args,[]⟩).memory :=
 laidMetH_of_parts3 (fuel:=8) (laidMet_of_run' 8 (by kernel_rfl) (by kernel_rfl)) (by kernel_rfl) (by kernel_rfl)
end
def Tr(l:List TU)(hl:l.length≤1000000)(f n c:Int)(tt:Bool):aA Tryz.prog 53 [.aj 31 (l.map b2) tt,.int .i64 f,.int .i64 n,.int .i64 c] bx (fun r _=>r=.aj 31 ((lj l f n c).map b2) false):=by
 refine aA.seen (mB 51 [.tmp 8] Tryz.func53 ?_);unfold lj;obtain⟨P,hP⟩:∃P:TU→Bool,(fun t:TU=>decide (f<t.sq∧t.sq≤n∧t.id≤c))=P:=⟨_,rfl⟩
 have hPx:∀t:TU,P t=decide (f<t.sq∧t.sq≤n∧t.id≤c):=fun t=>by rw[←hP]
 rw[hP];clear hP;have bn:(l.map b2).length=l.length:=al _;repeat' first|(refine wM ?_;(first|(have _:=ah)|(intro ah));intros)|refine aw @Tryz.f53.eq_1 ?_|fail
 refine aG (α:=Nat×Nat×List (List MV)) (fun s=>⟨51,[(10,.int .i64 (s.1:Int)),(9,.vec 31 s.2.1 0 ((l.take s.1).filter P).length),(0,.aj 31 (l.map b2) tt),(1,.int .i64 f),(2,.int .i64 n),(3,.int .i64 c)],[]⟩)
  (fun s=>bx.set s.2.1 (.row 128 31 (((l.take s.1).filter P).map b2++s.2.2))) (fun s=>s.1≤l.length) (fun s=>l.length-s.1) ?_ ?_
 ·refine .of (.less ?_ ba) ⟨(0,ah,[]),rfl,ax,bs _⟩;exact wW
 ·rintro⟨i,q,ex⟩ hi;simp only at hi ⊢;by_cases bh:i<l.length
  ·obtain⟨x,hx⟩:=bX l bh;have ay:=bJ (f:=b2) hx;have cc:=nQ (p:=P) hx;rw[hPx] at cc;have iw:((l.take i).filter P).length≤i:=Nat.le_trans (a7 _ _) (by rw[au];omega);obtain⟨L,hL⟩:∃L,(l.take i).filter P=L:=⟨_,rfl⟩
   rw[hL] at cc iw ⊢;have fi:(L.map b2++ex).take L.length=L.map b2:=rW;have gv:(L.map b2++ex).drop (L.length+1)=ex.drop 1:=tQ;have tn:(L.map b2).length=L.length:=al _;by_cases h0:f<x.sq∧x.sq≤n∧x.id≤c
   ·obtain⟨g1,g2,g3⟩:=h0;rw[decide_eq_true ⟨g1,g2,g3⟩,if_pos rfl] at cc;have hnm:(L++[x]).map b2=L.map b2++[x.c]:=aN;repeat' first|(refine wM ?_;(first|(have _:=ao)|(have _:=ak;intro ao)|(intro ak));intros)|(refine wY ?_ ?_<;>intro h)|refine xv @ai @ay @bn @tn @fi @gv ?_|fail
    all_goals try(exfalso;omega)
    ·obtain rfl:ex=[]:=ap oM;clear h;refine .of (.less ?_ (σ1:=bx.set ao (.row 128 31 ((L++[x]).map b2++[]))) ?_) ⟨(i+1,ao,[]),rfl,by simp only[cc],by simp only;omega,by simp only;omega⟩
     ·simp only[cc,am,an];exact wW
     ·rw[hnm];exact b0 bt sS
    ·clear h;refine .of (.less ?_ (σ1:=bx.set ao (.row 128 31 ((L++[x]).map b2++ex.drop 1))) ?_) ⟨(i+1,ao,ex.drop 1),rfl,by simp only[cc],by simp only;omega,by simp only;omega⟩
     ·simp only[cc,am,an];exact wW
     ·rw[hnm];exact b0 bt sS
   ·rw[decide_eq_false h0,if_neg ax,a0] at cc;have h0':(f<x.sq∧x.sq≤n∧¬x.id≤c)∨(f<x.sq∧¬x.sq≤n)∨¬f<x.sq:=by
     by_cases a1:f<x.sq
     ·by_cases a2:x.sq≤n
      ·exact .inl ⟨a1,a2,fun a3=>h0 ⟨a1,a2,a3⟩⟩
      ·exact .inr (.inl ⟨a1,a2⟩)
     ·exact .inr (.inr a1)
    clear h0;rcases h0' with⟨g1,g2,g3⟩|⟨g1,g2⟩|g1;all_goals
     repeat' first|refine fx @ai @ay @bn ?_|fail
     all_goals try(exfalso;omega)
     all_goals
      refine .of (.less ?_ (σ1:=bx.set q (.row 128 31 (L.map b2++ex))) (b0 bt sS)) ⟨(i+1,q,ex),rfl,by simp only[cc],by simp only;omega,by simp only;omega⟩;simp only[cc];exact wW
  ·obtain rfl:i=l.length:=oM;rw[aI];repeat' first|refine ed ?_|fail
   all_goals exact dT cj (by rw[al])
def Pu(l:List TU)(hl:l.length≤1000000)(f now cur aq:Int)(hT:∀t,t∈l→TOk t)(hq:∀t,t∈l→1≤t.sq∧t.sq≤1099511627776)(tt:Bool) :
  aA Tryz.prog 103 [.aj 31 (l.map b2) tt,.int .i64 f,.int .i64 now,.int .i64 cur,.int .i64 aq] bx (fun r _=>r=.ar [.aj 28 ((eS l f now cur aq).1.map IT.k) false,.int .i64 (eS l f now cur aq).2]):=by
 refine aA.seen (mB 57 [.tmp 10,.tmp 11] Tryz.func103 ?_);have hs:=Tr l hl f now cur tt;have hAl:=xO l f now cur;have hAi:∀t,t∈lj l f now cur→TOk t:=fun t h=>hT t (F9.1 h).1;have hAq:∀t,t∈lj l f now cur→1≤t.sq∧t.sq≤1099511627776:=fun t h=>hq t (F9.1 h).1;unfold eS;obtain⟨A,hA⟩:∃A,lj l f now cur=A:=⟨_,rfl⟩
 rw[hA] at hs hAl hAi hAq ⊢;have hmx:(if aq<0 then 0 else aq)=(ZS aq:Int):=by unfold ZS;split<;>omega
 have vb:(if 0 > aq then 0 else aq)=(ZS aq:Int):=hmx;obtain⟨pg,hpg⟩:∃n,ZS aq=n:=⟨_,rfl⟩
 rw[hpg] at hmx vb ⊢;have hmA:(A.map b2).length=A.length:=al _;have hn:=DW A oM hAi false;have hmI:∀Z:List IT,(Z.map IT.k).length=Z.length:=fun Z=>al _;by_cases ef:(mA A).length≤pg
 ·have gk:lP A pg A.length=A.length:=by
   cases h:A.length with
   |zero=>rfl
   |succ n=>rw[sE,←h,aI,if_pos ef]
  have hz:vE A now (lP A pg A.length)=(mA A,now):=by unfold vE;rw[gk,aI,if_pos rfl]
  rw[hz];obtain⟨Z,hZ⟩:∃Z,mA A=Z:=⟨_,rfl⟩
  rw[hZ] at hn ef ⊢;repeat' first|(with_reducible first|refine up hs ?_|refine up hn ?_)|refine jf @Tryz.f103.eq_1 @hmx @vb @hmI ?_|fail
  all_goals first|exact .same _|(exfalso;omega)
 ·have hA0:A.length≠0:=fun h=>ef (by rw[ap h];simp[mA,fG]);have dg:lP A pg A.length=lP A pg (A.length-1):=by
   obtain⟨n,hn⟩:∃n,A.length=n+1:=⟨A.length-1,oM⟩
   rw[hn,sE,←hn,aI,if_neg ef,hn];rfl
  unfold vE;rw[dg];obtain⟨Z,hZ⟩:∃Z,mA A=Z:=⟨_,rfl⟩
  rw[hZ] at hn ef;repeat' first|(with_reducible first|refine up hs ?_|refine up hn ?_)|refine wZ5 @Tryz.f103.eq_1 @hmx @vb @hmI @hmA ?_|fail
  all_goals try(exfalso;omega)
  refine aG (α:=Nat) (fun n=>⟨57,[(14,.int .i64 (n:Int)),(12,.aj 31 (A.map b2) false),(2,.int .i64 now),(4,.int .i64 aq)],[]⟩) (fun _=>bx) (fun n=>n<A.length∧lP A pg (A.length-1)=lP A pg n) (fun n=>n) (.of (.less ?_ ba) ⟨A.length-1,rfl,rfl,oM,rfl⟩) ?_
  ·simp(maxSteps:=4000000) (disch:=first|decide|assumption|omega|(simp only[wL];omega)) only[go_sem,simprocAttr,bE,aX];all_goals first|rfl|omega|(simp;omega)
  ·rintro n ⟨tc,hn2⟩;rw[hn2];obtain⟨y,hy⟩:=bX A tc;have ay:=bJ (f:=b2) hy;obtain⟨y1,y2⟩:=hAq y (a9 hy);by_cases h0:n=0
   ·subst h0;have hyD:A.getD 0 tuZ=y:=by rw[a4,hy];rfl
    have hz:lP A pg 0=0:=rfl;rw[hz,List.take_zero,SD,List.map_nil,if_neg (fun h=>hA0 h.symm),hyD];repeat' first|(refine wO ?_;intros)|refine fx @ai @hmA @ay ?_|fail
    all_goals first|exact dH (.nil _ _)|(exfalso;omega)
   ·obtain⟨m,rfl⟩:∃m,n=m+1:=⟨n-1,oM⟩
    have qy:(A.map b2).take (m+1)=(A.take (m+1)).map b2:=List.map_take.symm;have hnt:=fun tt=>DW (A.take (m+1)) (by rw[au];omega) (fun t h=>hAi t (List.mem_of_mem_take h)) tt;have hF:=sE A pg m;obtain⟨Y,hY⟩:∃Y,mA (A.take (m+1))=Y:=⟨_,rfl⟩
    simp only[hY] at hnt hF;by_cases gk:Y.length≤pg
    ·rw[if_pos gk] at hF;have hyD:A.getD (m+1) tuZ=y:=by rw[a4,hy];rfl
     rw[hF,hY,if_neg oM,hyD];repeat' first|(refine aC (hnt _) ?_)|(refine wO ?_;intros)|refine wh @ai @hmA @qy @ay @hmx @vb @hmI ?_|fail
     all_goals first|exact .same _|(exfalso;omega)
    ·rw[if_neg gk] at hF;repeat' first|(refine aC (hnt _) ?_)|refine wh @ai @hmA @qy @ay @hmx @vb @hmI ?_|fail
     all_goals try(exfalso;omega)
     all_goals
      refine .of (.less ?_ bt) ⟨m,rfl,rfl,⟨oM,hF⟩,oM⟩;simp(maxSteps:=4000000) (disch:=first|decide|assumption|omega|(simp only[wL];omega)) only[go_sem,simprocAttr,bE,aX];all_goals first|rfl|omega|(simp;done)|(simp;omega)
def FJ(seq old id:Int)(c:CA)(is:Bool):aA Tryz.prog 184 [.int .i64 seq,.int .i64 old,.int .i64 id,.agg c.c,.bool is] bx (fun r _=>r=.ar [.agg (if old=(oG seq old id c is).new then tu0 else oG seq old id c is).c,.bool (!decide (old=(oG seq old id c is).new))]):=by
 refine aA.bV (mB 30 [.cell 10 128,.tmp 11] Tryz.func184 ?_);obtain⟨T,hT⟩:∃T,oG seq old id c is=T:=⟨_,rfl⟩
 have hn:T.new=if is=true then c.c9 else 0:=by rw[←hT];rfl
 have hTc:T.c=.int .i64 seq::.int .i64 id::.int .i64 old::.int .i64 (if is=true then c.c9 else 0)::(if is=true then c else ig).c:=by rw[←hT];rfl
 rw[hT];cases is
 ·simp only[Bool.false_eq_true,if_false] at hn hTc;by_cases h:old=0
  ·rw[if_pos (h.trans hn.symm),decide_eq_true (h.trans hn.symm)];subst h;repeat' first|(refine wO ?_;intros)|(refine wY ?_ ?_<;>intro h)|refine bu @Tryz.f184.eq_1 @ai ?_|exact fk @Tryz.f184.eq_1 @ai|fail
   all_goals exact lE
  ·rw[if_neg (fun e=>h (e.trans hn)),decide_eq_false (fun e=>h (e.trans hn)),hTc];repeat' first|(refine wO ?_;intros)|(refine wY ?_ ?_<;>intro h)|refine bu @Tryz.f184.eq_1 @ai ?_|exact fk @Tryz.f184.eq_1 @ai|fail
   all_goals exact lE
 ·simp only[if_true] at hn hTc;by_cases h:old=c.c9
  ·rw[if_pos (h.trans hn.symm),decide_eq_true (h.trans hn.symm)];subst h;repeat' first|(refine wO ?_;intros)|(refine wY ?_ ?_<;>intro h)|refine bu @Tryz.f184.eq_1 @ai ?_|exact fk @Tryz.f184.eq_1 @ai|fail
   all_goals exact lE
  ·rw[if_neg (fun e=>h (e.trans hn)),decide_eq_false (fun e=>h (e.trans hn)),hTc];repeat' first|(refine wO ?_;intros)|(refine wY ?_ ?_<;>intro h)|refine bu @Tryz.f184.eq_1 @ai ?_|exact fk @Tryz.f184.eq_1 @ai|fail
   all_goals exact lE
abbrev dvC(fl:List ND)(tf:Bool)(mk:UInt32)(w:VS):List MV:=[.aj 5 (fl.map ND.c) tf,.int .u32 (mk.toNat:Int),.int .i64 w.floor,.int .i64 w.now,.aj 31 (w.log.map b2) false]
def GA(fl:List ND)(tf:Bool)(mk:UInt32)(w:VS)(hl:w.log.length≤1000000)(hT:∀t,t∈w.log→TOk t)(hq:∀t,t∈w.log→1≤t.sq∧t.sq≤1099511627776)(from_ cur aq:Int) :
  aA Tryz.prog 35 [.agg (dvC fl tf mk w),.int .i64 from_,.int .i64 cur,.int .i64 aq] bx (fun r _=>r=if from_<w.floor∨w.now<from_ then .ar [.aj 28 [] false,.int .i64 0,.bool false] else .ar [.aj 28 ((eS w.log from_ w.now cur aq).1.map IT.k) false,.int .i64 (eS w.log from_ w.now cur aq).2,.bool true]):=by
 have hct:=Pu w.log hl from_ w.now cur aq hT hq false;have vt:∀{σ:St} {a a' b c:MV},View σ a a'→View σ (.ar [a,b,c]) (.ar [a',b,c]):=fun {σ a a' b c} h=>.ar rfl fun i m m' hm lu=>by
  match i with
  |0=>simp at hm lu;subst hm;subst lu;exact h
  |1=>simp at hm lu;subst hm;subst lu;exact .same _
  |2=>simp at hm lu;subst hm;subst lu;exact .same _
  |i+3=>simp at hm
 refine aA.seen (mB 36 [.tmp 8,.tmp 9,.tmp 10] Tryz.func35 ?_);by_cases h1:from_<w.floor
 ·rw[if_pos (.inl h1)];repeat' first|(refine wO ?_;intros)|(refine wY ?_ ?_<;>intro h)|refine bu @Tryz.f35.eq_1 @ai ?_|exact fk @Tryz.f35.eq_1 @ai|fail
  all_goals first|exact vt (.nil _ _)|(exfalso;omega)
 ·by_cases h2:w.now<from_
  ·rw[if_pos (.inr h2)];repeat' first|(refine wO ?_;intros)|(refine wY ?_ ?_<;>intro h)|refine bu @Tryz.f35.eq_1 @ai ?_|exact fk @Tryz.f35.eq_1 @ai|fail
   all_goals first|exact vt (.nil _ _)|(exfalso;omega)
  ·rw[if_neg oM];repeat' first|(with_reducible first|refine up hct ?_)|(refine wO ?_;intros)|(refine wY ?_ ?_<;>intro h)|refine bu @Tryz.f35.eq_1 @ai ?_|exact fk @Tryz.f35.eq_1 @ai|fail
   all_goals first|exact .same _|(exfalso;omega)
def mO(B:BK):aA Tryz.prog 16 [.agg B.c] bx (fun r _=>r=.agg B.c):=by
 refine aA.bV (mB 17 [.cell 2 47] Tryz.func16 ?_);repeat' first|(refine wO ?_;intros)|(refine wY ?_ ?_<;>intro h)|refine bu @Tryz.f16.eq_1 @ai ?_|exact fk @Tryz.f16.eq_1 @ai|fail
 all_goals exact lE
def vF{B:BK}(hb:dx B)(x:ED):aA Tryz.prog 19 [.agg B.c,.agg x.c] bx (fun r _=>r=.aj 5 ((dL B x).map BK.c) false):=by
 refine aA.seen (mB 63 [.tmp 4] Tryz.func19 ?_);have Zy:=mO B;have hd2:=mO (fw B x);have uu:=fun(o:Nat)=>S8 o hb x;unfold zb at uu;by_cases h0:iv B x=0
 rotate_left
 ·have hS:dL B x=[]:=by unfold dL;rw[if_pos h0]
  have hV:lp B x=.aK:=by unfold lp;rw[if_neg h0]
  rw[hS];rw[hV] at uu;obtain⟨e,he⟩:∃e,iv B x=e:=⟨_,rfl⟩
  rw[he] at uu h0;clear hS hV hb;repeat' first|(refine aC Zy ?_)|(refine cB (o:=dO B) (by simp[bz, *];done) (uu _) ?_)|(refine wM ?_;(first|(have _:=dt)|(have _:=du;intro dt)|(have _:=bj;intro du)|(have _:=az;intro bj)|(have _:=ao;intro az)|(have _:=ak;intro ao)|(have _:=ah;intro ak)|(intro ah));intros)|refine wV ?_|(refine wY ?_ ?_<;>intro h)|refine bu @Tryz.f19.eq_1 @ai ?_|exact fk @Tryz.f19.eq_1 @ai|fail
  all_goals first|exact .nil _ _|(exfalso;omega)
 ·obtain⟨l,l1,l2,l3,l4⟩:=L8 hb h0;obtain⟨g1,g2⟩:=L9 h0;have hV:lp B x=.aj 2 ((dF B.sq (mb B x)).map chC) false:=by unfold lp;rw[if_pos h0,FW]
  have hS:dL B x=eA B x.gr (dF B.sq l)++[fw B x]:=by unfold dL;rw[if_neg (by simpa using h0),l1]
  have hwW:=(Xj ⟨g1,g2⟩ l B.sq B hb (Int.le_refl _) l4).1;have ZE:l.length≤1000:=by
   have h1:=(mb B x).length;rcases jN hb x [] with⟨e1,-⟩|⟨-,i,e2,-⟩|⟨-,e2,-⟩
   ·exact absurd h0 e1
   ·rw[e2] at l2;simp only[an] at l2;omega
   ·have:=mW hb x.gr;rw[e2,am,an] at l2;omega
  have hPl:(dF B.sq (mb B x)).length=l.length+1:=by rw[lL,l2]
  have hPt:(dF B.sq (mb B x)).take l.length=dF B.sq l:=by have:=List.dropLast_eq_take (l:=dF B.sq (mb B x));rw[l1,hPl,Nat.add_sub_cancel] at this;exact this.symm
  rw[hS];rw[hV,h0] at uu;have ay:∀i p,(dF B.sq l)[i]?=some p→((dF B.sq (mb B x)).map chC).getD i []=chC p∧1≤p.2∧p.2<1073741824:=fun i p hp=>by have hi:=(av.1 hp).1;rw[lL] at hi;refine⟨bJ (f:=chC) ?_,l3 p.2 (M4 B.sq l p (a9 hp)).2.2⟩;rw[←hPt,List.getElem?_take,if_pos hi] at hp;exact hp
  have bn:((dF B.sq (mb B x)).map chC).length=l.length+1:=by rw[al,hPl]
  obtain⟨Q,hQ⟩:∃Q,(dF B.sq (mb B x)).map chC=Q:=⟨_,rfl⟩
  obtain⟨P,hP⟩:∃P,dF B.sq l=P:=⟨_,rfl⟩
  have hPn:P.length=l.length:=by rw[←hP,lL]
  rw[hQ] at uu ay bn;rw[hP] at ay hwW ⊢;obtain⟨n,hn⟩:∃n,l.length=n:=⟨_,rfl⟩
  rw[hn] at bn hPn ZE;clear l1 l2 l3 l4 hV hS hPl hPt hQ hP;repeat' first|(refine aC Zy ?_)|(refine cB (o:=dO B) (by simp[bz, *];done) (uu _) ?_)|(refine wM ?_;(first|(have _:=dt)|(have _:=du;intro dt)|(have _:=bj;intro du)|(have _:=az;intro bj)|(have _:=ao;intro az)|(have _:=ak;intro ao)|(have _:=ah;intro ak)|(intro ah));intros)|refine wV ?_|(refine wY ?_ ?_<;>intro h)|refine fx @Tryz.f19.eq_1 @ai @bn ?_|exact tk @Tryz.f19.eq_1 @ai @bn|fail
  all_goals try(exfalso;omega)
  have a21:ak≠ah:=bc;have a31:ao≠ah:=bc;have a32:ao≠ak:=bc;have a41:az≠ah:=bc;have a42:az≠ak:=bc;have a43:az≠ao:=bc;have a51:bj≠ah:=bc;have a52:bj≠ak:=bc;have a53:bj≠ao:=bc;have a54:bj≠az:=bc;have a23:=bv a32;have a24:=bv a42;have a34:=bv a43;refine aG (α:=Nat×Nat×List (List MV)) (fun s=>⟨63,[(10,.int .i64 (s.1:Int)),(9,.vec 5 s.2.1 0 s.1),(7,.aj 2 Q false),(5,.ptr ao 0 0),(6,.ptr az 0 0),(3,.ptr ak 0 0)],[]⟩)
   (fun s=>(((bx.set ak (.row 59 29 [x.c])).set ao (.row 47 5 [(Jq B x.gr (P.take s.1)).c])).set az (dO (fw B x))).set s.2.1 (.row 47 5 ((eA B x.gr (P.take s.1)).map BK.c++s.2.2))) (fun s=>s.1≤n∧s.2.1≠ak∧s.2.1≠ao∧s.2.1≠az) (fun s=>n-s.1) ?_ ?_
  ·refine .of (.less ?_ (σ1:=(((bx.set ak (.row 59 29 [x.c])).set ao (.row 47 5 [B.c])).set az (dO (fw B x))).set bj (.row 47 5 [])) ?_) ⟨(0,bj,[]),rfl,rfl,bs _,a52,a53,a54⟩
   ·exact wW
   ·exact b0 (b0 (ni sS sS) sS) sS
  ·rintro⟨i,q,ex⟩ ⟨hi,q2,q3,q4⟩;simp only at hi q2 q3 q4 ⊢;have q2':=bv q2;have q3':=bv q3;have q4':=bv q4;by_cases bh:i<n
   ·obtain⟨p,hp⟩:=bX P (by omega:i<P.length);obtain⟨hatp,p1,p2⟩:=ay i p hp;have hW:=hwW i;have iq:=xJ x.gr (P.take i) B p;have hws:=Qd x.gr (P.take i) B p;rw[←aW hp] at iq hws;have rk:((eA B x.gr (P.take i)).map BK.c).length=i:=by rw[al,oE,au];omega
    obtain⟨W,hWe⟩:∃W,Jq B x.gr (P.take i)=W:=⟨_,rfl⟩
    rw[hWe] at hW iq hws ⊢;have hqc:=uK W.gr hW.se x.gr p.2 g1 g2 p1 p2 false;have hQs:(iJ x.gr W p).c=[.int .i64 p.1,.int .i64 W.nx,.aj 27 (W.ae.map aa) false,.aj 3 (W.dead.map ac) false,.aj 2 ((rM W.gr x.gr p.2).map ag) false]:=rfl;obtain⟨Z,hZ⟩:∃Z,rM W.gr x.gr p.2=Z:=⟨_,rfl⟩
    have hqq:∃v e,(if x.gr∈W.gr.map ad then(if p.2∈bH W.gr x.gr then MV.ar [.aj 2 ((fD W.gr x.gr (dQ (bH W.gr x.gr) p.2)).map ag) false,.int .i64 0] else .ar [.aK,.int .i64 6]) else .ar [.aK,.int .i64 6])=.ar [v,.int .i64 e]∧((e=0∧v=.aj 2 (Z.map ag) false)∨(e=6∧v=.aK∧W.gr=Z)):=by
     unfold rM at hZ;by_cases c1:x.gr∈W.gr.map ad
     ·rw[if_pos c1];by_cases c2:p.2∈bH W.gr x.gr
      ·rw[if_pos ⟨c1,c2⟩] at hZ;rw[if_pos c2,hZ];exact⟨_,_,rfl,.inl ⟨rfl,rfl⟩⟩
      ·rw[if_neg fun h=>c2 h.2] at hZ;rw[if_neg c2];exact⟨_,_,rfl,.inr ⟨rfl,rfl,hZ⟩⟩
     ·rw[if_neg fun h=>c1 h.1] at hZ;rw[if_neg c1];exact⟨_,_,rfl,.inr ⟨rfl,rfl,hZ⟩⟩
    obtain⟨v,e,hve,hcase⟩:=hqq;rw[hve] at hqc;rw[hZ] at hQs;obtain⟨C,k1⟩:=kw1 80 ⟨[],fun w=>w=.ar [v,.int .i64 e],none⟩;obtain⟨L,hL⟩:∃L,(eA B x.gr (P.take i)).map BK.c=L:=⟨_,rfl⟩
    have hL2:(eA B x.gr (P.take (i+1))).map BK.c=L++[(iJ x.gr W p).c]:=by rw[iq,aN,hL];rfl
    rw[hL] at rk ⊢;have fi:(L++ex).take i=L:=List.take_left' rk;have gv:(L++ex).drop (i+1)=ex.drop 1:=by rw[←List.drop_drop,List.drop_left' rk]
    clear iq hW hve ay hwW uu Zy;rcases hcase with⟨rfl,rfl⟩|⟨rfl,rfl,hZe⟩
    ·repeat' first|(refine aJ mixed dK C ?_)|(with_reducible refine aF (k1 _) hqc ?_)|(refine wM ?_;(first|(have _:=dt)|(have _:=du;intro dt)|(have _:=bj;intro du)|(have _:=az;intro bj)|(have _:=ao;intro az)|(have _:=ak;intro ao)|(have _:=ah;intro ak)|(intro ah));intros)|refine wV ?_|(refine wY ?_ ?_<;>intro h)|refine xv @ai @bn @hatp @rk @fi @gv ?_|exact wC6 @ai @bn @hatp @rk @fi @gv|fail
     all_goals try(exfalso;omega)
     all_goals clear hqc k1
     ·obtain rfl:ex=[]:=ap oM;clear h;refine .of (.less ?_ (σ1:=(((bx.set ak (.row 59 29 [x.c])).set ao (.row 47 5 [(iJ x.gr W p).c])).set az (dO (fw B x))).set dt (.row 47 5 ((L++[(iJ x.gr W p).c])++[]))) ?_) ⟨(i+1,dt,[]),rfl,by simp only[hws,hL2],⟨by simp only;omega,bc,bc,bc⟩,by simp only;omega⟩
      ·exact wW
      ·rw[hQs];exact b0 (b0 (ni sS sS) sS) sS
     ·clear h;refine .of (.less ?_ (σ1:=(((bx.set ak (.row 59 29 [x.c])).set ao (.row 47 5 [(iJ x.gr W p).c])).set az (dO (fw B x))).set dt (.row 47 5 ((L++[(iJ x.gr W p).c])++ex.drop 1))) ?_) ⟨(i+1,dt,ex.drop 1),rfl,by simp only[hws,hL2],⟨by simp only;omega,bc,bc,bc⟩,by simp only;omega⟩
      ·exact wW
      ·rw[hQs];exact b0 (b0 (ni sS sS) sS) sS
    ·rw[←hZe] at hQs;repeat' first|(refine aJ mixed dK C ?_)|(with_reducible refine aF (k1 _) hqc ?_)|(refine wM ?_;(first|(have _:=dt)|(have _:=du;intro dt)|(have _:=bj;intro du)|(have _:=az;intro bj)|(have _:=ao;intro az)|(have _:=ak;intro ao)|(have _:=ah;intro ak)|(intro ah));intros)|refine wV ?_|(refine wY ?_ ?_<;>intro h)|refine xv @ai @bn @hatp @rk @fi @gv ?_|exact wC6 @ai @bn @hatp @rk @fi @gv|fail
     all_goals try(exfalso;omega)
     all_goals clear hqc k1 hZe
     ·obtain rfl:ex=[]:=ap oM;clear h;refine .of (.less ?_ (σ1:=(((bx.set ak (.row 59 29 [x.c])).set ao (.row 47 5 [(iJ x.gr W p).c])).set az (dO (fw B x))).set dt (.row 47 5 ((L++[(iJ x.gr W p).c])++[]))) ?_) ⟨(i+1,dt,[]),rfl,by simp only[hws,hL2],⟨by simp only;omega,bc,bc,bc⟩,by simp only;omega⟩
      ·exact wW
      ·rw[hQs];exact b0 (b0 (ni sS sS) sS) sS
     ·clear h;refine .of (.less ?_ (σ1:=(((bx.set ak (.row 59 29 [x.c])).set ao (.row 47 5 [(iJ x.gr W p).c])).set az (dO (fw B x))).set dt (.row 47 5 ((L++[(iJ x.gr W p).c])++ex.drop 1))) ?_) ⟨(i+1,dt,ex.drop 1),rfl,by simp only[hws,hL2],⟨by simp only;omega,bc,bc,bc⟩,by simp only;omega⟩
      ·exact wW
      ·rw[hQs];exact b0 (b0 (ni sS sS) sS) sS
   ·obtain rfl:i=n:=oM;have hPa:P.take i=P:=a5 oM;rw[hPa];have rk:((eA B x.gr P).map BK.c).length=i:=by rw[al,oE,hPn]
    obtain⟨L,hL⟩:∃L,(eA B x.gr P).map BK.c=L:=⟨_,rfl⟩
    have hL2:(eA B x.gr P++[fw B x]).map BK.c=L++[(fw B x).c]:=by rw[aN,hL];rfl
    rw[hL] at rk ⊢;rw[hL2];have fi:(L++ex).take i=L:=List.take_left' rk;have gv:(L++ex).drop (i+1)=ex.drop 1:=by rw[←List.drop_drop,List.drop_left' rk]
    clear ay hwW uu Zy;repeat' first|(refine aC hd2 ?_)|(refine wM ?_;(first|(have _:=dt)|(have _:=du;intro dt)|(have _:=bj;intro du)|(have _:=az;intro bj)|(have _:=ao;intro az)|(have _:=ak;intro ao)|(have _:=ah;intro ak)|(intro ah));intros)|refine wV ?_|(refine wY ?_ ?_<;>intro h)|refine wZ5 @ai @bn @rk @fi @gv ?_|exact wC5 @ai @bn @rk @fi @gv|fail
    all_goals try(exfalso;omega)
    ·obtain rfl:ex=[]:=ap oM;rw[a0];exact View.cq cj (by rw[am,rk];rfl)
    ·exact dT cj (by rw[am,rk];rfl)
def kM(B:BK)(l:List ED):BK:=l.foldl fw B
def YR{B:BK}(hb:dx B):∀l:List ED,dx (kM B l):=fun l=>by
 induction l generalizing B with
 |nil=>exact hb
 |cons x l ih=>exact ih (doW hb x)
def DX(B:BK)(l:List ED)(x:ED):kM B (l++[x])=fw (kM B l) x:=by unfold kM;rw[List.foldl_append];rfl
def YF:dx wk:=Wg br
def NC:aA Tryz.prog 61 [] bx (fun r _=>r=.agg wk.c):=by
 refine aA.seen (mB 3 [.cell 0 41] Tryz.func61 ?_);repeat' first|(refine wO ?_;intros)|(refine wY ?_ ?_<;>intro h)|refine bu @Tryz.f61.eq_1 @ai ?_|exact fk @Tryz.f61.eq_1 @ai|fail
 all_goals exact View.Wc ⟨.same _,.same _,.nil _ _,.nil _ _,.nil _ _,trivial⟩ rfl
def cO{σ τ:St}(h:σ.le τ){n:Nat}{o:aY}(hn:σ n=none):σ.le (τ.set n o):=fun j o' hj=>by unfold bz;rw[if_neg (fun e=>by subst e;rw[hn] at hj;cases hj)];exact h j o' hj
def gE{m l q b:Nat}{B:BK}{ex:List (List MV)}{j:Nat}(h1:j≠m)(h2:j≠l)(h3:j≠q)(h4:j≠b):dh m l q b B ex j=none:=by simp only[aM];exact⟨h4,h3,h2,h1,rfl⟩
def qA(l:List ED):Bool:=decide (120<l.length) || l.any fun x=>qZ x.p.f
def Bt(l:List ED)(tt:Bool):aA Tryz.prog 56 [.aj 29 (l.map ED.c) tt] bx (fun r _=>r=.bool (qA l)):=by
 refine aA.bV (mB 20 [.tmp 2] Tryz.func56 ?_);have bn:(l.map ED.c).length=l.length:=al _;by_cases h:120<l.length
 ·have e:qA l=true:=by unfold qA;rw[decide_eq_true h];rfl
  rw[e];repeat' first|(refine wO ?_;intros)|(refine wY ?_ ?_<;>intro h)|refine bu @Tryz.f56.eq_1 @bn ?_|exact fk @Tryz.f56.eq_1 @bn|fail
  all_goals exact lE
 ·repeat' first|(refine wO ?_;intros)|(refine wY ?_ ?_<;>intro h)|refine bu @Tryz.f56.eq_1 @bn ?_|exact fk @Tryz.f56.eq_1 @bn|fail
  all_goals try(exfalso;omega)
  refine aG (α:=Nat) (fun i=>⟨20,[(3,.int .i64 (i:Int)),(0,.aj 29 (l.map ED.c) tt)],[]⟩) (fun _=>bx) (fun i=>i≤l.length∧(l.take i).any (fun x=>qZ x.p.f)=false) (fun i=>l.length-i) (.of (.less ?_ bt) ⟨0,rfl,rfl,bs _,rfl⟩) ?_
  ·exact wW
  ·rintro i ⟨hi,hq⟩;by_cases bh:i<l.length
   ·obtain⟨x,hx⟩:=bX l bh;have ay:=bJ (f:=ED.c) hx;have hc:=Fo x.p.f;have kx:(l.take (i+1)).any (fun x=>qZ x.p.f)=qZ x.p.f:=by rw[aW hx,List.any_append,hq];simp
    obtain⟨b,hb⟩:∃b,qZ x.p.f=b:=⟨_,rfl⟩
    rw[hb] at hc kx;cases b
    ·repeat' first|(with_reducible first|refine up hc ?_)|(refine wO ?_;intros)|(refine wY ?_ ?_<;>intro h)|refine fx @ai @ay @bn ?_|exact tk @ai @ay @bn|fail
     all_goals try(exfalso;omega)
     all_goals
      refine .of (.less ?_ bt) ⟨i+1,rfl,rfl,⟨oM,kx⟩,oM⟩;exact wW
    ·have e:qA l=true:=by unfold qA;rw[Bool.or_eq_true];exact .inr (List.any_eq_true.2 ⟨x,a9 hx,hb⟩)
     rw[e];repeat' first|(with_reducible first|refine up hc ?_)|(refine wO ?_;intros)|(refine wY ?_ ?_<;>intro h)|refine fx @ai @ay @bn ?_|exact tk @ai @ay @bn|fail
     all_goals exact lE
   ·obtain rfl:i=l.length:=oM;rw[aI] at hq;have e:qA l=false:=by unfold qA;rw[decide_eq_false h,hq];rfl
    rw[e];repeat' first|(refine wO ?_;intros)|(refine wY ?_ ?_<;>intro h)|refine aw @bn ?_|exact ev @bn|fail
    all_goals exact lE
structure RU where
 fl:List ND
 mask:UInt32
 pre:List ED
 post:List ED
abbrev RU.c(x:RU):List MV:=[.aj 5 (x.fl.map ND.c) false,.int .u32 (x.mask.toNat:Int),.aj 29 (x.pre.map ED.c) false,.aj 29 (x.post.map ED.c) false]
theorem MZ:∀{cs:List CA} (j:Int),mg (ZT cs) j=((cs.find? fun c=>decide (c.id=j)).getD ig).c9
 |[],j=>rfl
 |c::cs,j=>by
  have ih:=MZ (cs:=cs) j;simp only[ZT,List.map_cons,mg,List.find?_cons] at ih ⊢;by_cases h:c.id=j
  ·simp[h]
  ·simp[h,ih]
def Jp{B:BK}(hb:dx B)(fl:List ND):Qo B fl ⟨ZT (nk B fl),B.sq,B.sq,[]⟩ where
 ch:=L4
 up:=.nil
 now:=fun t ht=>by cases ht
 tok:=fun t ht=>by cases ht
 idb:=fun t ht=>by cases ht
 new:=fun id v h=>by cases h
 key:=by
  have:(ZT (nk B fl)).map (·.1)=Ux B fl:=by unfold ZT;rw[List.map_map];exact(Q2 B fl).symm
  rw[this];exact(Ww hb fl).imp fun h=>oM
 val:=fun p hp=>by obtain⟨c,hc,rfl⟩:=bb.1 hp;obtain⟨⟨p1,p2,p3,p4,p5⟩,p6⟩:=fZ (hb.B5 c (a6.1 hc).1).1;simp only;omega
 len:=bs _
 flo:=Int.le_refl _
 pos:=hb.tj
 sqb:=fun t ht=>by cases ht
 at_:=rfl
 sh:=fun j=>by
  rw[MZ];unfold dE shown;cases hf:B.ae.find? (fun c=>decide (c.id=j)) with
  |none =>
   have:(nk B fl).find? (fun c=>decide (c.id=j))=none:=by rw[bp] at hf ⊢;exact fun c hc=>hf c (a6.1 hc).1
   rw[this]
  |some c =>
   simp only;by_cases hs:fJ B.gr fl c=true
   ·rw[if_pos hs];have h1:=be hf;have h2:c.id=j:=by simpa using List.find?_some hf
    have hm:c∈nk B fl:=a6.2 ⟨h1,hs⟩;have hu:en ((nk B fl).map ab):=hb.qc.sublist (List.Sublist.map _ List.filter_sublist);obtain⟨y,-,q2,q3,q4⟩:=oL (f:=ab) hu (bb.2 ⟨c,hm,h2⟩);have:y=c:=EH (f:=ab) hu q4 hm (q2.trans h2.symm);rw[q3,this]
   ·rw[if_neg hs];have:(nk B fl).find? (fun c=>decide (c.id=j))=none:=by
     rw[bp];intro d hd hj;have hj:d.id=j:=by simpa using hj
     obtain⟨d1,d2⟩:=a6.1 hd;have h1:=be hf;have h2:c.id=j:=by simpa using List.find?_some hf
     have:d=c:=EH (f:=ab) hb.qc d1 h1 (hj.trans h2.symm);rw[this] at d2;exact hs d2
    rw[this]
def DoZ(m l b:Nat)(B:BK)(x:ED)(v:MV)(af:St):Prop:=∃q',eB m l q' b∧v=.ar [lp B x,.int .i64 (iv B x)]∧af=dh m l q' b (fw B x) []
def Wk{m l q b:Nat}{B:BK}{ex:List (List MV)}(D:eB m l q b):(dh m l q b B ex).set q (.row 197 3 (B.dead.map ac))=dh m l q b B []:=by
 obtain⟨d1,d2,d3,d4,d5,d6⟩:=D;simp only[dh,iu,a0];funext j;by_cases h1:j=q
 ·subst h1;simp[bz,bv d6,d6]
 ·simp[bz,h1]
def XD{m l q b:Nat}{B:BK}{ex:List (List MV)}(D:eB m l q b):dh m l q b B ex q=some (.row 197 3 (B.dead.map ac++ex)):=by obtain⟨d1,d2,d3,d4,d5,d6⟩:=D;simp[dh,iu,bz,d6,bv d6]
def DS{B:BK}(hb:dx B){m l q b:Nat}(D:eB m l q b)(ex:List (List MV))(x:ED):aA Tryz.prog 17 [.ptr b 0 0,.agg x.c] (dh m l q b B ex) (DoZ m l b B x):=by refine aA.gh ((SO hb D ex x).mono ?_);rintro v af ⟨q',fu,D',rfl,rfl⟩;refine .of (aR.cut (XD D')) ⟨_,rfl,q',D',rfl,Wk D'⟩
def View.WS{σ:St}{a b:MV}(h:oP a b):View σ a b:=by
 cases h with
 |same=>exact .same _
 |bw=>exact .bw _
 |nil e t=>exact .nil e t
 |tight e xs=>exact .tight e xs
def aR.XW{n:Nat}{l l1:List (Nat×MV)}{d:List (FuncId×List MV)}{σ:St}{b:Nat}{t:TypeId}{e:Nat}(pre post:List MV)(e':Nat)(tr:Bool)(hb:σ b=some (.row t e [pre++.aK::post]))(h:∀p,p∈l1→oP (cV l p.1) p.2) :
  aR ⟨n,l,d⟩ σ ⟨n,l1,d⟩ (σ.set b (.row t e [pre++.aj e' [] tr::post])):=by
 refine aR.qU bx bt (fun k o1 hk=>?_) (fun k o hk=>rfl) (fun p hp=>View.WS (h p hp));by_cases e1:k=b
 ·subst e1;rw[aD] at hk;cases hk;refine⟨_,hb,.inr ⟨t,e,_,_,rfl,rfl,rfl,fun i x x1 hx pw=>?_⟩⟩
  match i with
  |0 =>
   simp only[bi,Option.some.injEq] at hx pw;subst hx pw;refine⟨ax,fun j a b ha hb=>?_⟩;by_cases hj:j<pre.length
   ·rw[bg hj] at ha hb;rw[ha] at hb;cases hb;exact .inl rfl
   ·rw[List.getElem?_append_right oM] at ha hb
    match hk:j-pre.length with
    |0 =>
     rw[hk] at ha hb;simp only[bi,Option.some.injEq] at ha hb;subst ha hb;exact .inr ⟨rfl,.nil _ _⟩
    |k+1 =>
     rw[hk] at ha hb;simp only[List.getElem?_cons_succ] at ha hb;rw[ha] at hb;cases hb;exact .inl rfl
  |i+1=>simp at hx
 ·rw[cn e1] at hk;exact⟨o1,hk,.inl rfl⟩
def gJ{P:Program}{g:FuncId}{ms:List MV}{σ τ:St}{Q:MV→St→Prop}{k:MV→St→Prop}(hb:τ.le σ)(h:aA P g ms τ Q)
 (hk:∀v za af,Q v za→za.le af→(∀j o,σ j=some o→τ j=none→af j=some o∧za j=none)→R (cD v af k)):R (dR P g ms σ k) :=
 bU h hb fun v af hv hf=>by
  refine hk v af _ hv (nV _ _) fun j o hj hn=>?_;have hq:af j=none:=by
   cases hc:af j with
   |none=>rfl
   |some o' =>
    rcases hf j o' hc with h1|⟨o'',h1⟩
    ·rw[hj] at h1;cases h1
    ·rw[hn] at h1;cases h1
  refine⟨?_,hq⟩;unfold St.over St.minus;rw[hq,hn];exact hj
def Fz{B:BK}(hb:dx B){x:ED}{fl:List ND}(hp:bR fl=0){mk:UInt32}{m l q b f sm g v:Nat}(V:mM m l q b f sm g v)(d:Bool)(z:VS)(hz:z.log.length≤40)(ex:List (List MV)) :
  aA Tryz.prog 18 [.ptr v 0 0,.ptr b 0 0,lp B x] (fy m l q b (fw B x) f fl d sm g v mk z ex) (fun _ af=>∃d' g' fu,mM m l q b f sm g' v∧af=fy m l q b (fw B x) f fl d' sm g' v mk (gD (fw B x) fl mk z (dF B.sq (mb B x))) fu):=by
 have hw:=doW hb x;have hn:(dF B.sq (mb B x)).length≤1000000:=by
  rw[lL];rcases jN hb x [] with⟨-,e2,-⟩|⟨-,i,e2,-⟩|⟨-,e2,-⟩
  ·rw[e2];simp
  ·rw[e2];simp
  ·have:=mW hb x.gr;rw[e2,am,an];omega
 have hs:=IE hw.toBkR (by have:=hw.ng;omega) (fun g hg=>by have:=hw.nm g hg;omega) (by have:=hw.nd;omega) hp V d z hz ex (dF B.sq (mb B x)) hn false (mk:=mk);unfold lp;by_cases h0:iv B x=0
 ·rw[if_pos h0,←FW];exact hs
 ·rw[if_neg h0];have:mb B x=[]:=by
   rcases jN hb x [] with⟨-,e2,-⟩|⟨e1,-⟩|⟨e1,-⟩
   ·exact e2
   ·exact absurd e1 h0
   ·exact absurd e1 h0
  rw[this] at hs ⊢;refine aA.pre (ms':=[.ptr v 0 0,.ptr b 0 0,.aj 2 [] false]) rfl (aR.less (fun p hp=>?_) ba) hs;simp only[jD,List.mem_cons,List.not_mem_nil,or_false] at hp;rcases hp with rfl|rfl|rfl
  ·exact .same _
  ·exact .same _
  ·exact .nil _ _
def N6{σ:St}{q:Nat}{o:aY}(h:σ q=none):σ.le (σ.set q o):=fun k o' hk=>by unfold bz;rw[if_neg (fun e=>by subst e;rw[h] at hk;cases hk)];exact hk
def Iz(g:Nat)(l:List TU)(hl:l.length≤1000000)(tl:List (List MV))(f n c:Int):aA Tryz.prog 173 [.vec 31 g 0 l.length,.int .i64 f,.int .i64 n,.int .i64 c] (bx.set g (pk l tl)) (fun r af=>r=.aj 31 ((lj l f n c).map b2) false∧af=bx.set g (pk l tl)):=by
 refine aA.MU (Q:=fun af=>af=bx.set g (pk l tl)) (mB 29 [.tmp 8] Tryz.func173 ?_);have lg:(l.map b2).length=l.length:=al _;unfold lj;obtain⟨P,hP⟩:∃P:TU→Bool,(fun t:TU=>decide (f<t.sq∧t.sq≤n∧t.id≤c))=P:=⟨_,rfl⟩
 have hPx:∀t:TU,P t=decide (f<t.sq∧t.sq≤n∧t.id≤c):=fun t=>by rw[←hP]
 rw[hP];clear hP;repeat' first|refine aw @Tryz.f173.eq_1 ?_|fail
 refine aG (α:=Nat×Nat×List (List MV)) (fun s=>⟨29,[(14,.int .i64 (s.1:Int)),(13,.int .i64 (l.length:Int)),(12,.vec 31 g 0 l.length),(9,.vec 31 s.2.1 0 ((l.take s.1).filter P).length),(1,.int .i64 f),(2,.int .i64 n),(3,.int .i64 c)],[]⟩)
  (fun s=>(bx.set g (pk l tl)).set s.2.1 (.row 128 31 (((l.take s.1).filter P).map b2++s.2.2))) (fun s=>s.1≤l.length∧s.2.1≠g) (fun s=>l.length-s.1) ?_ ?_
 ·refine Gh.yN 128 31 (fun r=>[(14,.int .i64 0),(13,.int .i64 (l.length:Int)),(12,.vec 31 g 0 l.length),(9,.vec 31 r 0 0),(1,.int .i64 f),(2,.int .i64 n),(3,.int .i64 c)]) (fun k=>by(repeat' (refine And.intro ?_ ?_))<;>first|exact trivial|exact .inl rfl|exact .inr ⟨rfl,.inl rfl⟩|exact .inr ⟨rfl,.inr rfl⟩) fun r hr=>?_;simp only[aM] at hr;exact .done ⟨(0,r,[]),rfl,rfl,bs _,hr.1⟩
 ·rintro⟨i,q,ex⟩ ⟨hi,hqg⟩;simp only at hi hqg ⊢;have hgq:=bv hqg;by_cases bh:i<l.length
  ·obtain⟨x,hx⟩:=bX l bh;have ay:(l.map b2++tl).getD i []=x.c:=by rw[a4,bg (by rw[al];omega),List.getElem?_map,hx];rfl
   have hln:(l.map b2++tl).length=l.length+tl.length:=by rw[am,al]
   have cc:=nQ (p:=P) hx;have hw:=CI x f n c;rw[←hPx] at hw;obtain⟨sb,ug⟩:∃z,P x=z:=⟨_,rfl⟩
   rw[ug] at hw cc;have iw:((l.take i).filter P).length≤i:=Nat.le_trans (a7 _ _) (by rw[au];omega);obtain⟨L,hL⟩:∃L,(l.take i).filter P=L:=⟨_,rfl⟩
   rw[hL] at cc iw ⊢;have fi:(L.map b2++ex).take L.length=L.map b2:=rW;have gv:(L.map b2++ex).drop (L.length+1)=ex.drop 1:=tQ;have tn:(L.map b2).length=L.length:=al _;cases sb
   ·rw[if_neg ax,a0] at cc;repeat' first|(with_reducible first|refine up hw ?_)|(refine wM ?_;(first|(have _:=ah)|(intro ah));intros)|refine fx @ai @ay @hln ?_|fail
    all_goals try(exfalso;omega)
    all_goals
     refine .of (.less ?_ (σ1:=(bx.set g (pk l tl)).set q (.row 128 31 (L.map b2++ex))) (ni sS sS)) ⟨(i+1,q,ex),rfl,by simp only[cc],⟨by simp only;omega,hqg⟩,by simp only;omega⟩;simp only[cc];exact wW
   ·rw[if_pos rfl] at cc;have hnm:(L++[x]).map b2=L.map b2++[x.c]:=aN;repeat' first|(with_reducible first|refine up hw ?_)|(refine wM ?_;(first|(have _:=ao)|(have _:=ak;intro ao)|(have _:=ah;intro ak)|(intro ah));intros)|(refine wY ?_ ?_<;>intro h)|refine xv @ai @ay @hln @tn @fi @gv ?_|fail
    all_goals try(exfalso;omega)
    ·obtain rfl:ex=[]:=ap oM;clear h;refine .of (.less ?_ (σ1:=(bx.set g (pk l tl)).set ao (.row 128 31 ((L++[x]).map b2++[]))) ?_) ⟨(i+1,ao,[]),rfl,by simp only[cc],⟨by simp only;omega,bc⟩,by simp only;omega⟩
     ·simp only[cc,am,an];exact wW
     ·rw[hnm];exact ni sS sS
    ·clear h;refine .of (.less ?_ (σ1:=(bx.set g (pk l tl)).set ao (.row 128 31 ((L++[x]).map b2++ex.drop 1))) ?_) ⟨(i+1,ao,ex.drop 1),rfl,by simp only[cc],⟨by simp only;omega,bc⟩,by simp only;omega⟩
     ·simp only[cc,am,an];exact wW
     ·rw[hnm];exact ni sS sS
  ·have:i=l.length:=oM;subst this;rw[aI];repeat' first|refine ed ?_|fail
   all_goals exact Ts (Q:=fun af=>af=bx.set g (pk l tl)) rfl cj (N6 (by simp[bz,bx,hqg])) (by simp[bz,bx,hqg]) (by rw[al])
def IB(v f sm:Nat)(mk:UInt32)(floor now:Int)(log:MV):aA Tryz.prog 31 [.ptr v 0 0] (bx.set v (mh f mk sm floor now log)) (fun r af=>r=.ptr f 0 0∧af=bx.set v (mh f mk sm floor now log)):=by
 refine(mB 9 [.tmp 2] Tryz.func31 ?_);repeat' first|(refine wO ?_;intros)|(refine wY ?_ ?_<;>intro h)|refine aw @Tryz.f31.eq_1 ?_|exact ev @Tryz.f31.eq_1|fail
 all_goals exact⟨rfl,rfl⟩
def CU(U:GU)(o:Nat){B:BK}(hb:dx B)(id:Int)(p:PA)(hp:bL p=0)(hw:(a8 B.ae B.dead id).2≠0∨1099511627776≤(a8 B.ae B.dead id).1.c9) :
  aA Tryz.prog 83 [.ptr o 0 3,.int .i64 id,.agg p.c] (bx.set o (gO U B)) (fun v af=>v=.ar [.agg ig.c,.int .i64 (uj B.ae B.dead id)]∧af=bx.set o (gO U B)):=by
 have kr:=gC p;rw[hp] at kr;have Zi:=hb.nc;have Zj:=hb.nd;have hg:=gM B.nx B.ae B.dead oM oM hb.qc id;unfold uj;obtain⟨⟨c,e⟩,od⟩:∃z,a8 B.ae B.dead id=z:=⟨_,rfl⟩
 rw[od] at hg hw ⊢;refine aA.less (Q':=fun v af=>v=.ar [.agg ig.c,.int .i64 (if e≠0 then e else 8)]∧(bx.set o (gO U B)).le af) (mB 57 [.cell 6 126,.tmp 7] Tryz.func83 ?_) fun v af h=>⟨_,h.2,h.1,rfl⟩
 by_cases he:e=0
 ·subst he;have hv:=hw.resolve_left fun h=>h rfl;rw[if_neg br];simp only at hv hg;clear hw;repeat' first|(refine aC kr ?_)|(refine aC hg ?_)|(refine wO ?_;intros)|(refine wY ?_ ?_<;>intro h)|refine bu @Tryz.f83.eq_1 @ai ?_|exact fk @Tryz.f83.eq_1 @ai|fail
  all_goals try(exfalso;omega)
  all_goals exact⟨rfl,b1 (b1 (b1 ba (by simp[bz,bx, *])) (by simp[bz,bx, *])) (by simp[bz,bx, *])⟩
 ·rw[if_pos he];simp only at hg;clear hw;repeat' first|(refine aC kr ?_)|(refine aC hg ?_)|(refine wO ?_;intros)|(refine wY ?_ ?_<;>intro h)|refine bu @Tryz.f83.eq_1 @ai ?_|exact fk @Tryz.f83.eq_1 @ai|fail
  all_goals try(exfalso;omega)
  all_goals exact⟨rfl,b1 (b1 (b1 ba (by simp[bz,bx, *])) (by simp[bz,bx, *])) (by simp[bz,bx, *])⟩
def FL(U:GU)(o:Nat){B:BK}(hb:dx B)(id:Int)(p:PA)(hp:bL p=0){c:CA}(hc:a8 B.ae B.dead id=(c,0))(hv:c.c9<1099511627776) :
  aA Tryz.prog 83 [.ptr o 0 3,.int .i64 id,.agg p.c] (bx.set o (gO U B)) (fun v af=>v=.ar [.agg (dI c p).c,.int .i64 0]∧af=bx.set o (gO U ⟨B.sq,B.nx,vv B.ae id (dI c p),B.dead,B.gr⟩)):=by
 have kr:=gC p;rw[hp] at kr;have Zi:=hb.nc;have Zj:=hb.nd;have hg:=gM B.nx B.ae B.dead oM oM hb.qc id;have qh:=lK B.nx B.ae B.dead oM hb.qc id;have cm:=pJ (cs:=B.ae) (ds:=B.dead) (id:=id) (by rw[hc]);rw[hc] at hg cm;obtain⟨hm,hid⟩:=cm;simp only at hg hm hid;have zf:=(fZ (hb.B5 c hm).1).1;have ku:id∈B.ae.map ab:=bb.2 ⟨c,hm,hid⟩;have gw:vv B.ae id (dI c p)=B.ae.set (aT (B.ae.map ab) id) (dI c p):=vP (f:=ab) hb.qc ku _;obtain⟨y,hy,-⟩:=oL (f:=ab) hb.qc ku;have my:=(av.1 hy).1;have ay:=bJ (f:=aa) hy;unfold Fp at qh;rw[if_pos ku] at qh;rw[gw];have hme:=rP c p oM oM;obtain⟨x,hx⟩:∃x,dI c p=x:=⟨_,rfl⟩
 rw[hx] at hme ⊢;obtain⟨i,hi⟩:∃i,aT (B.ae.map ab) id=i:=⟨_,rfl⟩
 rw[hi] at qh my ay ⊢;obtain⟨C,c1,c2⟩:=yn 168 ⟨[],fun v=>v=.int .i64 (i:Int),none⟩ 167 ⟨[],fun v=>v=.agg x.c,none⟩;have bn:(B.ae.map aa).length=B.ae.length:=al _;have hq:(B.ae.set i x).map aa=(B.ae.map aa).set i x.c:=List.map_set;have hln:((B.ae.map aa).set i x.c).length=B.ae.length:=by rw[List.length_set,bn]
 clear hy hi gw ku hm hid zf;refine aA.gh (mB 57 [.cell 6 126,.tmp 7] Tryz.func83 ?_);repeat' first|(refine aC kr ?_)|(refine aC hg ?_)|((with_reducible refine aJ mixed ?chk C ?_);(case chk=>decide +kernel))|(with_reducible refine aF (c1 _) qh ?_)|(with_reducible refine aF (c2 _) hme ?_)|(refine aC hme ?_)|(refine wM ?_;(first|(have _:=bj)|(have _:=az;intro bj)|(have _:=ao;intro az)|(have _:=ak;intro ao)|(have _:=ah;intro ak)|(intro ah));intros)|refine wV ?_|(refine wY ?_ ?_<;>intro h)|refine jf @Tryz.f83.eq_1 @ai @bn @ay ?_|exact ZY @Tryz.f83.eq_1 @ai @bn @ay|fail
 all_goals try(exfalso;omega)
 all_goals
  have n5:o≠bj:=bc;refine .step (aR.Cg bj o (oq:=.row 126 27 ((B.ae.map aa).set i x.c)) (t:=106) (e:=13) (m:=.vec 27 bj 0 B.ae.length) [U.a,U.b,.int .i64 B.sq,.int .i64 B.nx] [.aj 3 (B.dead.map ac) false,.aj 2 (B.gr.map ag) false,U.c,U.d,U.e,U.f,U.g,U.h] (m1:=.aj 27 ((B.ae.map aa).set i x.c) false) sS sS n5 (View.cq cj hln.symm) rfl) (.of (aR.drop (σ1:=bx.set o (gO U ⟨B.sq,B.nx,B.ae.set i x,B.dead,B.gr⟩)) (b0 bt (by rw[aD,gO,hq];rfl))) ⟨_,rfl,rfl,rfl⟩)
def aR.Xd{U:GU}{v:MV}{σ:St}{o q1 q2 n1 lo n2:Nat}{a b:Int}{G:MV}{t1 t2:TypeId}{xs ys zs:List (List MV)}(h0:σ o=some (.row 106 13 [[U.a,U.b,.int .i64 a,.int .i64 b,.vec 27 q1 0 n1,.vec 3 q2 lo n2,G,U.c,U.d,U.e,U.f,U.g,U.h]]))(h1:σ q1=some (.row t1 27 xs))(h2:σ q2=some (.row t2 3 ys))
 (hn:n1=xs.length)(hz:(ys.drop lo).take n2=zs)(hle:lo+n2≤ys.length)(e1:o≠q1)(e2:o≠q2)(e3:q1≠q2):aR ⟨1,[(0,v)],[]⟩ σ ⟨1,[(0,v)],[]⟩ (bx.set o (.row 106 13 [[U.a,U.b,.int .i64 a,.int .i64 b,.aj 27 xs false,.aj 3 zs false,G,U.c,U.d,U.e,U.f,U.g,U.h]])):=by
 refine(aR.Cg q1 o [U.a,U.b,.int .i64 a,.int .i64 b] [.vec 3 q2 lo n2,G,U.c,U.d,U.e,U.f,U.g,U.h] (m1:=.aj 27 xs false) h1 h0 e1 (View.cq cj hn) rfl).trans ((aR.Cg q2 o [U.a,U.b,.int .i64 a,.int .i64 b,.aj 27 xs false] [G,U.c,U.d,U.e,U.f,U.g,U.h] (m1:=.aj 3 zs false) (oq:=.row t2 3 ys) ?_ cj e2 ?_ rfl).trans (aR.drop (b0 bt cj)))
 ·rw[cn (bv e2)];simp[St.del,bv e3,h2]
 ·rw[←hz];exact View.vec cj hle
def FE(U:GU)(o:Nat){B:BK}(hb:dx B)(id sq:Int)(he:(a8 B.ae B.dead id).2≠0) :
  aA Tryz.prog 84 [.ptr o 0 3,.int .i64 id,.int .i64 sq] (bx.set o (gO U B)) (fun v af=>v=.int .i64 (a8 B.ae B.dead id).2∧af=bx.set o (gO U B)):=by
 have Zi:=hb.nc;have Zj:=hb.nd;have hg:=gM B.nx B.ae B.dead oM oM hb.qc id;obtain⟨⟨c,e⟩,od⟩:∃z,a8 B.ae B.dead id=z:=⟨_,rfl⟩
 rw[od] at hg he ⊢;simp only at hg he;refine aA.less (Q':=fun v af=>v=.int .i64 e∧(bx.set o (gO U B)).le af) (mB 99 [.tmp 6] Tryz.func84 ?_) fun v af h=>⟨_,h.2,h.1,rfl⟩
 repeat' first|(refine aC hg ?_)|(refine wO ?_;intros)|(refine wY ?_ ?_<;>intro h)|refine bu @Tryz.f84.eq_1 @ai ?_|exact fk @Tryz.f84.eq_1 @ai|fail
 all_goals try(exfalso;omega)
 all_goals exact b1 ba (by simp[bz,bx, *])
def FF(U:GU)(o:Nat){B:BK}(hb:dx B)(id:Int){c:CA}(hc:a8 B.ae B.dead id=(c,0))(h1:B.sq<1099511627776) :
  aA Tryz.prog 84 [.ptr o 0 3,.int .i64 id,.int .i64 (B.sq+1)] (bx.set o (gO U B)) (fun v af=>v=.int .i64 0∧af=bx.set o (gO U ⟨B.sq,B.nx,B.ae.filter (fun c=>!decide (c.id=id)),oR (B.dead++[⟨id,c.c9,B.sq+1⟩]),B.gr⟩)):=by
 have Zi:=hb.nc;have Zj:=hb.nd;have je:=hb.tj;have hg:=gM B.nx B.ae B.dead oM oM hb.qc id;have qh:=lK B.nx B.ae B.dead oM hb.qc id;have cm:=pJ (cs:=B.ae) (ds:=B.dead) (id:=id) (by rw[hc]);rw[hc] at hg cm;obtain⟨hm,hid⟩:=cm;simp only at hg hm hid;have ku:id∈B.ae.map ab:=bb.2 ⟨c,hm,hid⟩;have lh:B.ae.filter (fun c=>!decide (c.id=id))=_:=vO (f:=ab) hb.qc ku;obtain⟨y,hy,-⟩:=oL (f:=ab) hb.qc ku;have my:=(av.1 hy).1;unfold Fp at qh;rw[if_pos ku] at qh;rw[lh];obtain⟨i,hi⟩:∃i,aT (B.ae.map ab) id=i:=⟨_,rfl⟩
 rw[hi] at qh my ⊢;have bn:(B.ae.map aa).length=B.ae.length:=al _;have hdl:(B.dead.map ac).length=B.dead.length:=al _;have ht:((B.ae.map aa).take i).length=i:=by rw[au];omega
 have ZI:(B.ae.take i++B.ae.drop (i+1)).map aa=(B.ae.map aa).take i++(B.ae.map aa).drop (i+1):=ax;have vi:(B.dead++[(⟨id,c.c9,B.sq+1⟩:DE)]).map ac=B.dead.map ac++[[.int .i64 id,.int .i64 c.c9,.int .i64 (B.sq+1)]]:=aN;have tc:((B.ae.map aa).take i++(B.ae.map aa).drop (i+1)).length=i+(B.ae.length-(i+1)):=by rw[am,ht,List.length_drop,bn]
 have uy:B.dead.length=0∨0<B.dead.length∧∃d,((B.dead.map ac).getD (B.dead.length-1) []=ac d)∧d.sq≤B.sq:=by
  rcases Nat.eq_zero_or_pos B.dead.length with h|h
  ·exact .inl h
  ·obtain⟨d,xi⟩:=bX B.dead (show B.dead.length-1<B.dead.length by omega);exact .inr ⟨h,d,bJ xi,hb.dsq d (dJ xi)⟩
 have wv:((B.dead.length:Int)-1).toNat=B.dead.length-1:=oM;clear hy hi lh ku hm hid;refine aA.gh (mB 99 [.tmp 6] Tryz.func84 ?_);have uz:min i B.ae.length=i:=oM;have dv:B.dead.length+1≤40→oR (B.dead++[⟨id,c.c9,B.sq+1⟩])=B.dead++[⟨id,c.c9,B.sq+1⟩]:=fun h=>if_neg (by rw[am,an];omega);have eu:∀D:List DE,(gO U ⟨B.sq,B.nx,B.ae.take i++B.ae.drop (i+1),D,B.gr⟩)=.row 106 13 [[U.a,U.b,.int .i64 B.sq,.int .i64 B.nx,.aj 27 ((B.ae.take i++B.ae.drop (i+1)).map aa) false,.aj 3 (D.map ac) false,.aj 2 (B.gr.map ag) false,U.c,U.d,U.e,U.f,U.g,U.h]]:=fun D=>rfl;rcases uy with hz|⟨vh,d,ay,hds⟩
 ·repeat' first|(refine aC hg ?_)|(refine aC qh ?_)|(refine wM ?_;(first|(have _:=rb)|(have _:=dt;intro rb)|(have _:=du;intro dt)|(have _:=bj;intro du)|(have _:=az;intro bj)|(have _:=ao;intro az)|(have _:=ak;intro ao)|(have _:=ah;intro ak)|(intro ah));intros)|refine wV ?_|(refine wY ?_ ?_<;>intro h)|refine xv @Tryz.f84.eq_1 @ai @bn @hdl @ht @hz ?_|exact wC6 @Tryz.f84.eq_1 @ai @bn @hdl @ht @hz|fail
  all_goals try(exfalso;omega)
  all_goals
   have w1:o≠az:=bc;have w2:o≠rb:=bc;have w3:az≠rb:=bc;have w4:az≠dt:=bc;rw[dv oM,eu];refine .of (aR.Xd (q1:=az) (q2:=rb) (lo:=0) (n2:=1) (n1:=min i B.ae.length+(B.ae.length-(i+1))) (t1:=126) (t2:=197) (xs:=(B.ae.take i++B.ae.drop (i+1)).map aa) (ys:=(B.dead++[(⟨id,c.c9,B.sq+1⟩:DE)]).map ac) cj ?_ ?_ ?_ ?_ ?_ w1 w2 w3) ⟨_,rfl,rfl,rfl⟩
   ·rw[cn (bv w1),cn w3,cn w4,aD]
   ·rw[cn (bv w2),aD,vi]
   ·rw[ZI,tc,uz]
   ·rw[List.drop_zero];exact a5 (by rw[al,am,an];omega)
   ·rw[al,am,an];omega
 ·repeat' first|(refine aC hg ?_)|(refine aC qh ?_)|(refine wM ?_;(first|(have _:=rb)|(have _:=dt;intro rb)|(have _:=du;intro dt)|(have _:=bj;intro du)|(have _:=az;intro bj)|(have _:=ao;intro az)|(have _:=ak;intro ao)|(have _:=ah;intro ak)|(intro ah));intros)|refine wV ?_|(refine wY ?_ ?_<;>intro h)|refine wh @Tryz.f84.eq_1 @ai @bn @hdl @ht @wv @ay ?_|exact yz @Tryz.f84.eq_1 @ai @bn @hdl @ht @wv @ay|fail
  all_goals try(exfalso;omega)
  all_goals
   have w1:o≠az:=bc;have w2:o≠rb:=bc;have w3:az≠rb:=bc;have w4:az≠dt:=bc
  ·have wa:B.dead.length=40:=oM;obtain⟨y,L',kr,hL',hw⟩:=vA (t:=(⟨id,c.c9,B.sq+1⟩:DE)) wa;rw[kr,eu];refine .of (aR.Xd (q1:=az) (q2:=rb) (lo:=1) (n2:=B.dead.length) (n1:=min i B.ae.length+(B.ae.length-(i+1))) (t1:=126) (t2:=197) (xs:=(B.ae.take i++B.ae.drop (i+1)).map aa) (ys:=(B.dead++[(⟨id,c.c9,B.sq+1⟩:DE)]).map ac) cj ?_ ?_ ?_ ?_ ?_ w1 w2 w3) ⟨_,rfl,rfl,rfl⟩
   ·rw[cn (bv w1),cn w3,cn w4,aD]
   ·rw[cn (bv w2),aD,vi]
   ·rw[ZI,tc,uz]
   ·have:=hw [];rw[a0] at this;rw[vi,wa];exact this
   ·rw[al,am,an];omega
  ·rw[dv oM,eu];refine .of (aR.Xd (q1:=az) (q2:=rb) (lo:=0) (n2:=B.dead.length+1) (n1:=min i B.ae.length+(B.ae.length-(i+1))) (t1:=126) (t2:=197) (xs:=(B.ae.take i++B.ae.drop (i+1)).map aa) (ys:=(B.dead++[(⟨id,c.c9,B.sq+1⟩:DE)]).map ac) cj ?_ ?_ ?_ ?_ ?_ w1 w2 w3) ⟨_,rfl,rfl,rfl⟩
   ·rw[cn (bv w1),cn w3,cn w4,aD]
   ·rw[cn (bv w2),aD,vi]
   ·rw[ZI,tc,uz]
   ·rw[List.drop_zero];exact a5 (by rw[al,am,an];omega)
   ·rw[al,am,an];omega
def iO(U:GU)(o:Nat)(B:BK)(id:Int)(h0:0≤B.sq)(h1:B.sq≤1099511627776):aA Tryz.prog 88 [.ptr o 0 2,.aK,.int .i64 id] (bx.set o (gO U B)) (fun v af=>v=.aj 2 (cR B.sq [id]) false∧af=bx.set o (gO U { B with sq:=B.sq+1 })):=by
 refine aA.DY (mB 24 [.tmp 6] Tryz.func88 ?_);repeat' first|(refine wM ?_;(first|(have _:=ak)|(have _:=ah;intro ak)|(intro ah));intros)|refine wV ?_|(refine wY ?_ ?_<;>intro h)|refine bu @Tryz.f88.eq_1 @ai ?_|exact fk @Tryz.f88.eq_1 @ai|fail
 all_goals
  have n1:o≠ak:=bc;exact⟨bx.set ak (.row 73 2 [[.int .i64 (B.sq+1),.int .i64 id]]),b0 bt cj,b0 bt sS,fun k o hk=>(cn fun e=>by subst e;simp[bz,bx, *] at hk).trans rfl,View.cq cj rfl⟩
def xB(U:GU){o q:Nat}(yw:o≠q)(B:BK)(id:Int)(h0:0≤B.sq)(h1:B.sq≤1099511627776)(xs:List (List MV))(n:Nat)(hn:xs.length=n)(tc:n≤1000000):aA Tryz.prog 88 [.ptr o 0 2,.vec 2 q 0 n,.int .i64 id] ((bx.set q (.row 73 2 xs)).set o (gO U B))
  (fun v af=>∃q',o≠q'∧v=.vec 2 q' 0 (n+1)∧af=(bx.set q' (.row 73 2 (xs++[[.int .i64 (B.sq+1),.int .i64 id]]))).set o (gO U { B with sq:=B.sq+1 })):=by
 refine aA.less (Q':=fun v af=>∃q',o≠q'∧v=.vec 2 q' 0 (n+1)∧((bx.set q' (.row 73 2 (xs++[[.int .i64 (B.sq+1),.int .i64 id]]))).set o (gO U { B with sq:=B.sq+1 })).le af) (mB 24 [.tmp 6] Tryz.func88 ?_) fun v af ⟨q',h1,h2,h3⟩=>⟨_,h3,q',h1,h2,rfl⟩
 have hqo:=bv yw;repeat' first|(refine wM ?_;(first|(have _:=ak)|(have _:=ah;intro ak)|(intro ah));intros)|refine wV ?_|(refine wY ?_ ?_<;>intro h)|refine fx @Tryz.f88.eq_1 @ai @hn ?_|exact tk @Tryz.f88.eq_1 @ai @hn|fail
 all_goals
  have n1:o≠ak:=bc;exact⟨ak,n1,rfl,b0 (b0 bt cj) sS⟩
def CP(U:GU)(o:Nat){B:BK}(hb:dx B)(g:Int)(h3:0≤g)(h4:g<16)(hg:g∉B.gr.map ad):aA Tryz.prog 86 [.ptr o 0 2,.int .i64 g] (bx.set o (gO U B)) (fun v af=>v=.ar [.aK,.int .i64 6]∧af=bx.set o (gO U B)):=by
 have hng:=hb.ng;have hm:=kW B.gr oM hb.ua g false;have hc:=nZ B.gr oM hb.ua g h3 h4 false;rw[if_neg hg] at hm hc;refine aA.less (Q':=fun v af=>v=.ar [.aK,.int .i64 6]∧(bx.set o (gO U B)).le af) (mB 50 [.tmp 4,.tmp 5] Tryz.func86 ?_) fun v af h=>⟨_,h.2,h.1,rfl⟩
 repeat' first|(refine aC hm ?_)|(refine aC hc ?_)|(refine wO ?_;intros)|(refine wY ?_ ?_<;>intro h)|refine bu @Tryz.f86.eq_1 @ai ?_|exact fk @Tryz.f86.eq_1 @ai|fail
 all_goals exact ba
def CQ(U:GU)(o:Nat){B:BK}(hb:dx B)(g:Int)(h3:0≤g)(h4:g<16)(hg:g∈B.gr.map ad)(hs:B.sq≤1099511627676):aA Tryz.prog 86 [.ptr o 0 2,.int .i64 g] (bx.set o (gO U B))
  (fun v af=>v=.ar [.aj 2 (cR B.sq (bH B.gr g++[0])) false,.int .i64 0]∧af=bx.set o (gO U ⟨B.sq+(bH B.gr g++[0]).length,B.nx,B.ae,B.dead,k8 B.gr g⟩)):=by
 have hng:=hb.ng;have je:=hb.tj;have hm:=kW B.gr oM hb.ua g false;have hc:=nZ B.gr oM hb.ua g h3 h4 false;rw[if_pos hg] at hm hc;have hMl:=mW hb g;obtain⟨M,hM⟩:∃M,bH B.gr g=M:=⟨_,rfl⟩
 rw[hM] at hm hMl ⊢;obtain⟨R,hR⟩:∃R,(k8 B.gr g).map ag=R:=⟨_,rfl⟩
 rw[hR] at hc;have eu:gO U ⟨B.sq+(M++[0]).length,B.nx,B.ae,B.dead,k8 B.gr g⟩=.row 106 13 [[U.a,U.b,.int .i64 (B.sq+(M++[0]).length),.int .i64 B.nx,.aj 27 (B.ae.map aa) false,.aj 3 (B.dead.map ac) false,.aj 2 R false,U.c,U.d,U.e,U.f,U.g,U.h]]:=by rw[←hR]
 rw[eu];have bn:(M.map aU).length=M.length:=al _;refine aA.gh (mB 50 [.tmp 4,.tmp 5] Tryz.func86 ?_);repeat' first|(refine aC hm ?_)|(refine aC hc ?_)|(refine wM ?_;(first|(have _:=ah)|(intro ah));intros)|refine wV ?_|(refine wY ?_ ?_<;>intro h)|refine bu @Tryz.f86.eq_1 @ai ?_|exact fk @Tryz.f86.eq_1 @ai|fail
 refine aG (α:=Nat×Nat) (fun z=>⟨50,[(10,.int .i64 (z.1:Int)),(9,.vec 2 z.2 0 z.1),(7,.aj 2 R false),(6,.aj 1 (M.map aU) false),(0,.ptr o 0 2)],[]⟩)
  (fun z=>(bx.set z.2 (.row 73 2 (cR B.sq (M.take z.1)))).set o (gO U { B with sq:=B.sq+z.1 })) (fun z=>z.1≤M.length∧o≠z.2) (fun z=>M.length-z.1) (.of (.less ?_ ?_) ⟨(0,ah),rfl,rfl,⟨bs _,bc⟩⟩) ?_
 ·exact wW
 ·have n1:o≠ah:=bc;refine b0 (b0 bt ?_) ?_
  ·simp[bz, *];rfl
  ·simp[bz, *]
 ·rintro⟨i,q⟩ ⟨hi,yw⟩;simp only at hi yw ⊢;have hqo:=bv yw;have jv:(cR B.sq (M.take i)).length=i:=by rw[mN,au];omega
  by_cases bh:i<M.length
  ·obtain⟨x,hx⟩:=bX M bh;have ay:=bJ (f:=aU) hx;have cc:=mF B.sq (M.take i) x;rw[←aW hx,au,show min i M.length=i by omega] at cc;obtain⟨X,hX⟩:∃X,cR B.sq (M.take i)=X:=⟨_,rfl⟩
   rw[hX] at jv cc ⊢;have dg:=xB U yw { B with sq:=B.sq+i } x (by simp only;omega) (by simp only;omega) X i jv oM;simp only[gO] at dg ⊢;repeat' first|(refine wM ?_;(first|(have _:=ah)|(intro ah));intros)|refine wV ?_|(refine wY ?_ ?_<;>intro h)|refine bu @ay @bn ?_|exact fk @ay @bn|fail
   all_goals try(exfalso;omega)
   refine Av yw (by simp[bz, *];done) cj dg fun q' h1 h2=>?_;have h1':=bv h1;repeat' first|(refine wM ?_;(first|(have _:=ah)|(intro ah));intros)|refine wV ?_|(refine wY ?_ ?_<;>intro h)|refine ed ?_|exact ll|fail
   refine .of (.less ?_ ?_) ⟨(i+1,q'),rfl,rfl,⟨by simp only;omega,h1⟩,by simp only;omega⟩
   ·exact wW
   ·simp only[cc];refine b0 (b0 bt ?_) ?_
    ·simp[bz, *]
    ·have:B.sq+((i+1:Nat):Int)=B.sq+(i:Int)+1:=oM;rw[this];simp[bz, *]
  ·have:i=M.length:=oM;subst this;rw[aI] at jv ⊢;have cc:=mF B.sq M 0;have hn:(M++[0]).length=M.length+1:=ax;have Zx:=mN B.sq (M++[0]);rw[hn] at Zx;obtain⟨X,hX⟩:∃X,cR B.sq M=X:=⟨_,rfl⟩
   obtain⟨Y,hY⟩:∃Y,cR B.sq (M++[0])=Y:=⟨_,rfl⟩
   rw[hX] at jv cc ⊢;rw[hY] at cc Zx ⊢;have dg:=xB U yw ⟨B.sq+M.length,B.nx,B.ae,B.dead,k8 B.gr g⟩ 0 (by simp only;omega) (by simp only;omega) X M.length jv oM;simp only[gO,hR,←cc] at dg ⊢;repeat' first|(refine wM ?_;(first|(have _:=ah)|(intro ah));intros)|refine wV ?_|(refine wY ?_ ?_<;>intro h)|refine aw @bn ?_|exact ev @bn|fail
   all_goals try(exfalso;omega)
   refine Av yw (by simp[bz, *];done) cj dg fun q' h1 h2=>?_;have h1':=bv h1;repeat' first|(refine wM ?_;(first|(have _:=ah)|(intro ah));intros)|refine wV ?_|(refine wY ?_ ?_<;>intro h)|refine ed ?_|exact ll|fail
   have hsq2:B.sq+((M.length+1:Nat):Int)=B.sq+(M.length:Int)+1:=oM;rw[hsq2];refine .of (aR.freeze (l1:=[(0,.ar [.aj 2 Y false,.int .i64 0])]) (bx.set q' (.row 73 2 Y)) (b0 bt sS) (b0 bt sS) (fun k o2 hk=>(cn fun e=>by subst e;simp[bz,bx, *] at hk).trans rfl) (fun p hp=>?_)) ⟨_,rfl,rfl,rfl⟩;simp only[List.mem_singleton] at hp;subst hp;exact dH (View.cq cj Zx.symm)
def yr(U:GU)(o:Nat)(B:BK)(x:ED)(v:MV)(af:St):Prop:=v=.ar [lp B x,.int .i64 (iv B x)]∧af=bx.set o (gO U (fw B x))
def Ab(U:GU)(o:Nat)(B:BK)(x:ED)(v:MV)(af:St):Prop:=v=.ar [lp B x,.int .i64 (iv B x)]∧(bx.set o (gO U (fw B x))).le af
def jP{U:GU}{P:Program}{g:FuncId}{ms:List MV}{σ:St}{o:Nat}{B:BK}{x:ED}(h:aA P g ms σ (Ab U o B x)):aA P g ms σ (yr U o B x):=h.less fun v af ⟨h1,h2⟩=>⟨_,h2,h1,rfl⟩
def Px(U:GU)(o:Nat){B:BK}(hb:dx B)(p:PA)(id gr:Int)(he:aQ ⟨4,id,gr,p⟩=0)(hs:B.sq≤1099511627676):aA Tryz.prog 87 [.ptr o 0 2,.agg (ED.mk 4 id gr p).c] (bx.set o (gO U B)) (yr U o B ⟨4,id,gr,p⟩):=by
 have hd:=iS he hs;obtain⟨g1,g2⟩:=(bF he).2.2.1;obtain rfl:id=0:=(sC he).2 rfl;rw[if_neg ax,if_neg ax,if_neg ax,if_pos rfl] at hd;simp only at hd g1 g2;have je:=hb.tj;have hng:=hb.ng;have ho:=BF B.gr oM hb.ua gr g1 g2 false;refine jP ?_;unfold Ab;by_cases hg:gr∈B.gr.map ad
 ·simp only[if_pos hg] at hd ho;obtain⟨q1,q2,q3⟩:=fO br hd;rw[q1,q2,q3];obtain⟨C,c1⟩:∃C:b9,∀ms,C 171 ms=some ⟨[],fun v=>v=.ar [.aK,.int .i64 7],none⟩:=⟨oK 171 (.ar [.aK,.int .i64 7]),fun _=>dG⟩
  refine(mB 75 [.tmp 4,.tmp 5] Tryz.func87 ?_);repeat' first|((with_reducible refine aJ mixed ?chk C ?_);(case chk=>decide +kernel))|(with_reducible refine aF (c1 _) ho ?_)|(refine wO ?_;intros)|(refine wY ?_ ?_<;>intro h)|refine bu @Tryz.f87.eq_1 @ai ?_|exact fk @Tryz.f87.eq_1 @ai|fail
  all_goals try(exfalso;omega)
  all_goals exact b1 ba (by simp[bz,bx, *])
 ·simp only[if_neg hg] at hd ho;obtain⟨q1,q2,q3⟩:=nO hd (n:=1) rfl;rw[q1,q2,q3];obtain⟨R,hR⟩:∃R,(uB B.gr gr).map ag=R:=⟨_,rfl⟩
  rw[hR] at ho;have dg:=iO U o ⟨B.sq,B.nx,B.ae,B.dead,uB B.gr gr⟩ 0 je (by simp only;omega);simp only[gO,hR] at dg ⊢;obtain⟨C,c1⟩:∃C:b9,∀ms,C 171 ms=some ⟨[],fun v=>v=.ar [.aj 2 R false,.int .i64 0],none⟩:=⟨oK 171 (.ar [.aj 2 R false,.int .i64 0]),fun _=>dG⟩
  generalize cR B.sq [0]=Z at dg ⊢;clear hd q1 q2 q3;refine(mB 75 [.tmp 4,.tmp 5] Tryz.func87 ?_);repeat' first|((with_reducible refine aJ mixed ?chk C ?_);(case chk=>decide +kernel))|(with_reducible refine aF (c1 _) ho ?_)|(refine wO ?_;intros)|(refine wY ?_ ?_<;>intro h)|refine bu @Tryz.f87.eq_1 @ai ?_|exact fk @Tryz.f87.eq_1 @ai|fail
  all_goals try(exfalso;omega)
  refine cB (by simp[bz, *];done) dg ?_;repeat' first|(refine wO ?_;intros)|(refine wY ?_ ?_<;>intro h)|refine ed ?_|exact ll|fail
  all_goals exact b0 bt sS
def Pz(U:GU)(o:Nat){B:BK}(hb:dx B)(p:PA)(id gr:Int)(he:aQ ⟨7,id,gr,p⟩=0)(hs:B.sq≤1099511627676):aA Tryz.prog 87 [.ptr o 0 2,.agg (ED.mk 7 id gr p).c] (bx.set o (gO U B)) (yr U o B ⟨7,id,gr,p⟩):=by
 have hd:=iS he hs;obtain⟨g1,g2⟩:=(bF he).2.2.1;obtain⟨i1,i2⟩:=(bF he).2.2.2.1 rfl;rw[if_neg ax,if_neg ax,if_neg ax,if_neg ax,if_neg ax,if_neg ax] at hd;simp only at hd g1 g2 i1 i2;have je:=hb.tj;have ho:=uK B.gr hb.se gr id g1 g2 i1 i2 false;refine jP ?_;unfold Ab;by_cases hg:gr∈B.gr.map ad∧id∈bH B.gr gr
 rotate_left
 ·have hd:mc B ⟨7,id,gr,p⟩=(6,B,[]):=by
   rw[hd];by_cases h1:gr∈B.gr.map ad
   ·rw[if_neg (fun h=>h h1),if_pos fun h2=>hg ⟨h1,h2⟩]
   ·rw[if_pos h1]
  have ho:aA Tryz.prog 80 [.aj 2 (B.gr.map ag) false,.int .i64 gr,.int .i64 id] bx (fun r _=>r=.ar [.aK,.int .i64 6]):=by
   by_cases h1:gr∈B.gr.map ad
   ·simp only[if_pos h1,if_neg fun h2=>hg ⟨h1,h2⟩] at ho;exact ho
   ·simp only[if_neg h1] at ho;exact ho
  obtain⟨q1,q2,q3⟩:=fO br hd;rw[q1,q2,q3];obtain⟨C,c1⟩:∃C:b9,∀ms,C 80 ms=some ⟨[],fun v=>v=.ar [.aK,.int .i64 6],none⟩:=⟨oK 80 (.ar [.aK,.int .i64 6]),fun _=>dG⟩
  clear hg;refine(mB 75 [.tmp 4,.tmp 5] Tryz.func87 ?_);repeat' first|((with_reducible refine aJ mixed ?chk C ?_);(case chk=>decide +kernel))|(with_reducible refine aF (c1 _) ho ?_)|(refine wO ?_;intros)|(refine wY ?_ ?_<;>intro h)|refine bu @Tryz.f87.eq_1 @ai ?_|exact fk @Tryz.f87.eq_1 @ai|fail
  all_goals try(exfalso;omega)
  all_goals exact b1 ba (by simp[bz,bx, *])
 ·rw[if_neg (fun h=>h hg.1),if_neg (fun h=>h hg.2)] at hd;simp only[if_pos hg.1,if_pos hg.2] at ho;obtain⟨q1,q2,q3⟩:=nO hd (n:=1) rfl;rw[q1,q2,q3];obtain⟨R,hR⟩:∃R,(fD B.gr gr (dQ (bH B.gr gr) id)).map ag=R:=⟨_,rfl⟩
  rw[hR] at ho;have dg:=iO U o ⟨B.sq,B.nx,B.ae,B.dead,fD B.gr gr (dQ (bH B.gr gr) id)⟩ id je (by simp only;omega);simp only[gO,hR] at dg ⊢;obtain⟨C,c1⟩:∃C:b9,∀ms,C 80 ms=some ⟨[],fun v=>v=.ar [.aj 2 R false,.int .i64 0],none⟩:=⟨oK 80 (.ar [.aj 2 R false,.int .i64 0]),fun _=>dG⟩
  generalize cR B.sq [id]=Z at dg ⊢;clear hd q1 q2 q3 hg;refine(mB 75 [.tmp 4,.tmp 5] Tryz.func87 ?_);repeat' first|((with_reducible refine aJ mixed ?chk C ?_);(case chk=>decide +kernel))|(with_reducible refine aF (c1 _) ho ?_)|(refine wO ?_;intros)|(refine wY ?_ ?_<;>intro h)|refine bu @Tryz.f87.eq_1 @ai ?_|exact fk @Tryz.f87.eq_1 @ai|fail
  all_goals try(exfalso;omega)
  refine cB (by simp[bz, *];done) dg ?_;repeat' first|(refine wO ?_;intros)|(refine wY ?_ ?_<;>intro h)|refine ed ?_|exact ll|fail
  all_goals exact b0 bt sS
def Py(U:GU)(o:Nat){B:BK}(hb:dx B)(p:PA)(id gr:Int)(he:aQ ⟨6,id,gr,p⟩=0)(hs:B.sq≤1099511627676):aA Tryz.prog 87 [.ptr o 0 2,.agg (ED.mk 6 id gr p).c] (bx.set o (gO U B)) (yr U o B ⟨6,id,gr,p⟩):=by
 have hd:=iS he hs;obtain⟨g1,g2⟩:=(bF he).2.2.1;obtain⟨i1,i2⟩:=(bF he).2.2.2.1 rfl;rw[if_neg ax,if_neg ax,if_neg ax,if_neg ax,if_neg ax,if_pos rfl] at hd;simp only at hd g1 g2 i1 i2;have je:=hb.tj;have Zi:=hb.nc;have Zj:=hb.nd;have ho:=wU B.gr hb.se gr id g1 g2 i1 i2 false;have nq:=gM B.nx B.ae B.dead oM oM hb.qc id;refine jP ?_;unfold Ab;by_cases h1:(a8 B.ae B.dead id).2≠0
 ·rw[if_pos h1] at hd;obtain⟨q1,q2,q3⟩:=fO h1 hd;rw[q1,q2,q3];obtain⟨⟨c,e⟩,od⟩:∃z,a8 B.ae B.dead id=z:=⟨_,rfl⟩
  rw[od] at nq h1 ⊢;simp only at nq h1 ⊢;obtain⟨C,c1⟩:∃C:b9,∀ms,C 166 ms=some ⟨[],fun v=>v=.ar [.agg c.c,.int .i64 e],none⟩:=⟨oK 166 (.ar [.agg c.c,.int .i64 e]),fun _=>dG⟩
  clear hd q1 q2 q3 od;refine(mB 75 [.tmp 4,.tmp 5] Tryz.func87 ?_);repeat' first|((with_reducible refine aJ mixed ?chk C ?_);(case chk=>decide +kernel))|(with_reducible refine aF (c1 _) nq ?_)|(refine wO ?_;intros)|(refine wY ?_ ?_<;>intro h)|refine bu @Tryz.f87.eq_1 @ai ?_|exact fk @Tryz.f87.eq_1 @ai|fail
  all_goals try(exfalso;omega)
  all_goals exact b1 ba (by simp[bz,bx, *])
 ·rw[if_neg h1] at hd;have h1:=Classical.not_not.1 h1;obtain⟨⟨c,e⟩,od⟩:∃z,a8 B.ae B.dead id=z:=⟨_,rfl⟩
  rw[od] at nq h1;simp only at nq h1;subst h1;by_cases hg:gr∈B.gr.map ad∧id∉bH B.gr gr
  rotate_left
  ·obtain⟨e,he0,hd,ho⟩:∃e:Int,e≠0∧mc B ⟨6,id,gr,p⟩=(e,B,[])∧aA Tryz.prog 172 [.aj 2 (B.gr.map ag) false,.int .i64 gr,.int .i64 id] bx (fun r _=>r=.ar [.aK,.int .i64 e]):=by
    rw[hd];by_cases h1:gr∈B.gr.map ad
    ·have h2:id∈bH B.gr gr:=Classical.byContradiction fun h2=>hg ⟨h1,h2⟩;simp only[if_pos h1,if_pos h2] at ho;exact⟨7,br,by rw[if_neg (fun h=>h h1),if_pos h2],ho⟩
    ·simp only[if_neg h1] at ho;exact⟨6,br,by rw[if_pos h1],ho⟩
   obtain⟨q1,q2,q3⟩:=fO he0 hd;rw[q1,q2,q3];obtain⟨C,c1,c2⟩:=yn 172 ⟨[],fun v=>v=.ar [.aK,.int .i64 e],none⟩ 166 ⟨[],fun v=>v=.ar [.agg c.c,.int .i64 0],none⟩;clear hg hd q1 q2 q3 od;refine(mB 75 [.tmp 4,.tmp 5] Tryz.func87 ?_);repeat' first|((with_reducible refine aJ mixed ?chk C ?_);(case chk=>decide +kernel))|(with_reducible refine aF (c1 _) ho ?_)|(with_reducible refine aF (c2 _) nq ?_)|(refine wO ?_;intros)|(refine wY ?_ ?_<;>intro h)|refine bu @Tryz.f87.eq_1 @ai ?_|exact fk @Tryz.f87.eq_1 @ai|fail
   all_goals try(exfalso;omega)
   all_goals exact b1 ba (by simp[bz,bx, *])
  ·rw[if_neg (fun h=>h hg.1),if_neg hg.2] at hd;simp only[if_pos hg.1,if_neg hg.2] at ho;obtain⟨q1,q2,q3⟩:=nO hd (n:=1) rfl;rw[q1,q2,q3];obtain⟨R,hR⟩:∃R,(fD B.gr gr (iA (bH B.gr gr) id)).map ag=R:=⟨_,rfl⟩
   rw[hR] at ho;have dg:=iO U o ⟨B.sq,B.nx,B.ae,B.dead,fD B.gr gr (iA (bH B.gr gr) id)⟩ id je (by simp only;omega);simp only[gO,hR] at dg ⊢;obtain⟨C,c1,c2⟩:=yn 172 ⟨[],fun v=>v=.ar [.aj 2 R false,.int .i64 0],none⟩ 166 ⟨[],fun v=>v=.ar [.agg c.c,.int .i64 0],none⟩;generalize cR B.sq [id]=Z at dg ⊢;clear hd q1 q2 q3 hg od;refine(mB 75 [.tmp 4,.tmp 5] Tryz.func87 ?_);repeat' first|((with_reducible refine aJ mixed ?chk C ?_);(case chk=>decide +kernel))|(with_reducible refine aF (c1 _) ho ?_)|(with_reducible refine aF (c2 _) nq ?_)|(refine wO ?_;intros)|(refine wY ?_ ?_<;>intro h)|refine bu @Tryz.f87.eq_1 @ai ?_|exact fk @Tryz.f87.eq_1 @ai|fail
   all_goals try(exfalso;omega)
   refine cB (by simp[bz, *];done) dg ?_;repeat' first|(refine wO ?_;intros)|(refine wY ?_ ?_<;>intro h)|refine ed ?_|exact ll|fail
   all_goals exact b0 bt sS
structure Yw (A A':BK):Prop where
 nx:A.nx≤A'.nx
 B5:∀c',c'∈A'.ae→c'.id<A.nx→∃c,c∈A.ae∧c.id=c'.id∧c.c9≤c'.c9∧(c.c9=c'.c9→c=c')
structure Zc (fl:List ND) (mk:UInt32) (f0:Int) (all:List BK) (z:VS):Prop where
 pos:0<all.length
 sq:∀(k:Nat) (A:BK),all[k]?=some A→A.sq=f0+(k:Int)
 mon:∀(i j:Nat) (A A':BK),i≤j→all[i]?=some A→all[j]?=some A'→Yw A A'
 now:z.now=f0+(all.length:Int)-1
 flo:f0≤z.floor∧z.floor≤z.now
 up:en (z.log.map TU.sq)
 low:∀t,t∈z.log→z.floor<t.sq∧t.sq≤z.now
 tru:∀t,t∈z.log→∀(k:Nat) (A A':BK),all[k]?=some A→all[k+1]?=some A'→t.sq=f0+(k:Int)+1→t.old=dE A fl t.id∧t.new=dE A' fl t.id∧(t.new≠0→t.zc=fV ((shown A' fl t.id).getD ig) mk)
 tel:∀(k:Nat) (A A':BK) (id:Int),all[k]?=some A→all[k+1]?=some A'→z.floor<f0+(k:Int)+1→shown A' fl id≠shown A fl id→∃t,t∈z.log∧t.sq=f0+(k:Int)+1∧t.id=id
def lkC(cs:List CA)(j:Int):Option CA:=cs.find? fun c=>decide (c.id=j)
structure Ze (cs out:List CA) (l:List IT):Prop where
 up:en (l.map fun x=>x.c.id)
 one:∀x,x∈l→(x.kd=1∧lkC cs x.c.id=none∧lkC out x.c.id=some x.c)∨(x.kd=3∧(lkC cs x.c.id).isSome=true∧lkC out x.c.id=some x.c)∨(x.kd=2∧(lkC cs x.c.id).isSome=true∧lkC out x.c.id=none)
 rest:∀j,j∉l.map (fun x=>x.c.id)→lkC cs j=lkC out j
def Il{B:BK}(hb:BkR B)(h3:B.gr.length≤1000000)(h4:∀g,g∈B.gr→g.mem.length≤1000000){m l q b f:Nat}(D:eB m l q b)(hf:f≠m∧f≠l∧f≠q∧f≠b){fl:List ND}(hp:bR fl=0)(hdd:B.dead.length≤1000000)(d:Bool)(mk:UInt32)(cur room:Int) :
  aA Tryz.prog 124 [.ptr b 0 0,.ptr f 0 0,.int .u32 (mk.toNat:Int),.int .i64 cur,.int .i64 room] (ln m l q b B f fl d) (fun r af=>r=.ar [.aj 28 (IT.ks (jw (eU (bY B fl mk 1073741824) cur room).1)) false,.int .i64 (eU (bY B fl mk 1073741824) cur room).2]∧af=ln m l q b B f fl (d || decide (1≤room)&&decide (0<B.ae.length))):=by
 by_cases h:room<1
 ·rw[show(d || decide (1≤room)&&decide (0<B.ae.length))=d by rw[decide_eq_false (by omega:¬1≤room)];cases d<;>rfl];exact Fj hf.2.2.2 d mk cur room _ h
 ·rw[show(d || decide (1≤room)&&decide (0<B.ae.length))=(d || decide (0<B.ae.length)) by rw[decide_eq_true (by omega:1≤room),Bool.true_and]];exact Fl hb h3 h4 D hf hp hdd d mk cur room oM
def AO{W:List CA}(cur room:Int):(eU W cur room).1.length≤W.length:=by
 have:(dY W cur).length≤W.length:=a7 _ _;unfold eU;split
 ·simp
 ·split
  ·exact this
  ·rw[au];omega
