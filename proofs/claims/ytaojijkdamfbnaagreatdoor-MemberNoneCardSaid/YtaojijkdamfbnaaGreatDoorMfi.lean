/- Parts of the proof, joined; conditions: those that its theorems name. -/
import Derived.Test.YtaojijkdamfbnaaGreatDoorMfh
import Derived.Test.YtaojijkdamfbnaaGreatDoorRows
import Derived.Conc.MuLib
import Derived.KernelRfl
set_option linter.unusedVariables false
set_option linter.unusedSimpArgs false
set_option maxHeartbeats 4000000
namespace Go.Proofs.YtaojijkdamfbnaaGreatDoor
section
def bJ(m:Nat):List Nat:=(List.range 8).filter fun i=>bit m i
theorem sD{m i:Nat}(h:i∈bJ m):i<8:=List.mem_range.1 (List.mem_filter.1 h).1
theorem pU(m:Nat):(bJ m).length≤8:=by
 have:=List.length_filter_le (fun i=>bit m i) (List.range 8)
 rwa [List.length_range] at this
theorem Fv(m:Nat):bJ (m &&& 255)=bJ m:=by
 unfold bJ
 apply List.filter_congr
 intro i hi
 have hi:=List.mem_range.1 hi
 unfold bit
 rw[Nat.testBit_and]
 have:(255:Nat).testBit i=true:=by
  have h:∀i,i<8→(255:Nat).testBit i=true:=by decide
  exact h i hi
 rw[this,Bool.and_true]
theorem sE:∀s:Nat,s<256→s≠0→bJ s=(bJ s).headD 0::bJ (s &&& (s - 1)):=by decide +kernel
theorem Fw:bJ 0=[]:=by decide
end

section
class Sfx (bs:BL) (r:RD):Prop where
 h:r.l <:+ bs
instance {bs:BL} {c:Prop} [Decidable c] {r s:RD} [h:Sfx bs r] [k:Sfx bs s]:Sfx bs (if c then r else s):=by
 split
 ·exact h
 ·exact k
theorem Sfx.len{bs:BL}{r:RD}(h:Sfx bs r):r.l.length≤bs.length:=h.h.length_le
theorem Sfx.drop{bs:BL}{r:RD}(h:Sfx bs r):bs.drop (bs.length - r.l.length)=r.l:=by
 obtain⟨a,e⟩:=h.h
 rw[←e]
 simp
theorem r8{P:Program}{g:FuncId}{ms:List MV}{σ:St}{l:Nat}{o o':aV}{r:MV}{k:MV→St→Prop}(hs:σ l=some o)(h:aA P g ms (St.none.set l o) fun v σ'=>v=r∧σ'=St.none.set l o')(hk:R (bR r (σ.set l o') k)):R (cX P g ms σ k):=by
 refine cA h (St.aD (St.none_le _) hs) ?_
 rintro v σ' ⟨rfl,rfl⟩ -
 have e:(St.none.set l o').over (σ.minus (St.none.set l o))=σ.set l o':=by
  funext j
  by_cases h:j=l
  ·subst h;simp[St.over,St.set]
  ·simp[St.over,St.set,St.minus,h,St.none]
 rw[e]
 exact hk
def MX(l:List (Nat × MV))(e k:Nat):List (Nat × MV)→Prop
 | []=>True
 | p::r=>(bY l p.1=p.2∨(p.2=.vec e k 0 0∧(bY l p.1=.bC∨bY l p.1=.lst e [] true)))∧MX l e k r
theorem B8{l:List (Nat × MV)}{e k:Nat}:∀{l1:List (Nat × MV)},MX l e k l1→∀p,p∈l1→bY l p.1=p.2∨(p.2=.vec e k 0 0∧(bY l p.1=.bC∨bY l p.1=.lst e [] true))
 | [],_,p,hp=>absurd hp (List.not_mem_nil)
 | q::r,h,p,hp=>by
  rcases List.mem_cons.1 hp with rfl|hp
  ·exact h.1
  ·exact B8 h.2 p hp
theorem Gh.qJ{n:Nat}{l:List (Nat × MV)}{d:List (FuncId × List MV)}{σ:St}{K:FR→St→Prop}(t:TypeId)(e:Nat)(l1:Nat→List (Nat × MV))(h1:∀k,MX l e k (l1 k))
 (h:∀k,σ k=none→Gh ⟨n,l1 k,d⟩ (σ.set k (.row t e [])) K):Gh ⟨n,l,d⟩ σ K:=Gh.row t e l1 (fun k=>B8 (h1 k)) h
theorem aA.obj{P:Program}{g:FuncId}{ms:List MV}{σ:St}{X:MV}{l:Nat}{o:aV}(h:aA P g ms σ fun v σ'=>v=X∧σ' l=some o):aA P g ms σ fun v σ'=>v=X∧σ'=St.none.set l o :=
 h.less fun v σ' k=>⟨St.none.set l o,St.aD (St.none_le _) k.2,k.1,rfl⟩
end

section
abbrev RE.c(a:RE):List MV:=a.k (.lst 5 (a.fl.map ND.c) false)
abbrev IT.ks(l:List IT):List (List MV):=l.map fun x=>.int .i64 x.kd::.int .i64 x.c.id::.int .i64 x.c.ver::.int .u32 (x.c.lab.toNat:Int)::fc x.c.f
abbrev PG.c(p:PG):List MV:=p.k (.lst 28 (IT.ks p.items) false)
abbrev CM.c(c:CM):List MV:=c.k (.lst 5 (c.fl.map ND.c) false)
def fS(σ:St):List MV→List MV→Prop
 | [],[]=>True
 | m::ms,m'::ms'=>View σ m m'∧fS σ ms ms'
 | _,_=>False
theorem fS.same{σ:St}:∀ms:List MV,fS σ ms ms
 | []=>trivial
 | m::ms=>⟨.same m,fS.same ms⟩
theorem fS.app{σ:St}:∀{a b c d:List MV},fS σ a b→fS σ c d→fS σ (a++c) (b++d)
 | [],[],_,_,_,h=>h
 | _::_,_::_,_,_,h,k=>⟨h.1,fS.app h.2 k⟩
theorem fS.len{σ:St}:∀{a b:List MV},fS σ a b→a.length=b.length
 | [],[],_=>rfl
 | _::_,_::_,h=>congrArg (·+1) (fS.len h.2)
theorem fS.at{σ:St}:∀{a b:List MV},fS σ a b→∀(i:Nat) (m m':MV),a[i]?=some m→b[i]?=some m'→View σ m m'
 | _::_,_::_,h,0,m,m',h1,h2=>by simp at h1 h2;subst h1 h2;exact h.1
 | _::_,_::_,h,i+1,m,m',h1,h2=>by simp at h1 h2;exact h.2.at i m m' h1 h2
theorem View.bC{σ:St}{e:Nat}{xs:List (List MV)}(h:xs=[]):View σ .bC (.lst e xs false):=by subst h;exact .nil e false
theorem CY{f:F8}{r:List MV}:(fc f++r).all MV.aP=r.all MV.aP:=by rw[List.all_append,cJ,Bool.true_and]
theorem AE{f:F8}{a b:List MV}:(fc f++a)++b=fc f++(a++b):=List.append_assoc _ _ _
theorem N8:((UInt32.toNat 0:Nat):Int)=0:=rfl
theorem RE.cell(a:RE):a.c.all MV.aP=true:=rfl
theorem PG.cell(a:PG):a.c.all MV.aP=true:=rfl
theorem CM.cell(c:CM):c.c.all MV.aP=true:=by
 simp only[CM.c,CM.k,List.all_cons,List.all_append,cJ];rfl
end

section
inductive Fk:Prop→Prop→Prop→Prop
 | i {c A B:Prop}:Fk (R (mif c A B)) (c→R A) (¬c→R B)
 | f {p:Prop} [Decidable p] {A B:Prop}:Fk (R (iF (.bool (decide p)) A B)) (p→R A) (¬p→R B)
 | g {p:Prop} [Decidable p] {A B:Prop}:Fk (R (bP (.bool (decide p)) true A B)) (p→R A) (¬p→R B)
 | h {p:Prop} [Decidable p] {A B:Prop}:Fk (R (bP (.bool (decide p)) false A B)) (¬p→R A) (p→R B)
theorem wK{p a b:Prop}(h1:a)(h2:b)(e:Fk p a b:=by first|exact .i|exact .f|exact .g|exact .h):p:=by
 cases e
 ·exact wI h1 h2
 ·exact wF h1 h2
 ·exact wG h1 h2
 ·exact wH h1 h2
inductive Fb:Prop→Prop→Prop→Prop
 | b {b:Bool} {A B:Prop}:Fb (R (iF (.bool b) A B)) (b=true→R A) (b=false→R B)
 | g {b want:Bool} {A B:Prop}:Fb (R (bP (.bool b) want A B)) (b=want→R A) (b=(!want)→R B)
theorem wB{p a b:Prop}(h1:a)(h2:b)(e:Fb p a b:=by first|exact .b|exact .g):p:=by
 cases e
 ·exact aR h1 h2
 ·exact aO h1 h2
theorem wE{id:Nat}{l:List Oper}{f:FR}{σ:St}{Q:MQ}(h:R (l9 Tryz.prog (fun _ _=>none) (@OfNat.ofNat (Array Oper) (nat_lit 0) (@_root_.id (OfNat (Array Oper) (nat_lit 0)) (OfNat.mk (l.toArray)))) (Q .normal) (@OfNat.ofNat (List Oper) (nat_lit 0) (@_root_.id (OfNat (List Oper) (nat_lit 0)) (OfNat.mk l))) f σ))
 (hchk:(chk l.toArray&&l.all fun o=>lA o.op)=true:=by decide +kernel):R (qZ Tryz.prog id (@OfNat.ofNat (List Oper) (nat_lit 0) (@_root_.id (OfNat (List Oper) (nat_lit 0)) (OfNat.mk l))) f σ Q):=wD hchk h
inductive Up (l:Nat) (o o':aV):St→St→Prop
 | u0 {σ:St}:Up l o o' (σ.set l o) (σ.set l o')
 | u1 {σ:St} {j:Nat} {oj:aV} (h:j≠l):Up l o o' ((σ.set l o).set j oj) ((σ.set l o').set j oj)
 | u2 {σ:St} {j i:Nat} {oj oi:aV} (h:j≠l) (h1:i≠l):Up l o o' (((σ.set l o).set j oj).set i oi) (((σ.set l o').set j oj).set i oi)
 | u3 {σ:St} {j i m:Nat} {oj oi om:aV} (h:j≠l) (h1:i≠l) (h2:m≠l):Up l o o' ((((σ.set l o).set j oj).set i oi).set m om) ((((σ.set l o').set j oj).set i oi).set m om)
theorem FXs:(type_of% @EO)∧(type_of% @bW)∧(type_of% @cJ)∧(type_of% @EN)∧(type_of% @fV)∧(type_of% @EI)∧(type_of% @AF)∧(type_of% @EM)∧(type_of% @Az)∧(type_of% @kT)∧(type_of% @Cj)∧(type_of% @uO)∧(type_of% @AJ)∧(type_of% @sR)∧(type_of% @nK)∧(type_of% @wQ)∧(type_of% @EK)∧(type_of% @EL)∧(type_of% @yJ)∧(type_of% @EJ)∧(∀{f:F8} {i:Nat} {v:VA} (h:i<8),(f.set i v).get i=v) :=
 ⟨EO,bW,cJ,EN,fV,EI,AF,EM,Az,kT,Cj,uO,AJ,sR,nK,wQ,EK,EL,yJ,EJ,F8.KJ⟩
theorem FYs:(type_of% FXs)∧(type_of% @CY)∧(type_of% @AE)∧(∀{α:Type} (l:List α),l++[]=l)∧(∀{α:Type} (l:List α),l.take 0=[])∧(type_of% N8)∧(∀{α:Type} (a:α) (l r:List α),a::l++r=a::(l++r))∧(∀{α:Type} (l:List α),[]++l=l) :=
 ⟨FXs,CY,AE,List.append_nil,fun _=>List.take_zero,N8,fun _ _ _=>List.cons_append,List.nil_append⟩
end

section
def val:BL→Nat
 | []=>0
 | c::l=>c.toNat % 128+128 * val l
end

section
def hasB(s:Nat)(n:Int):Bool:=decide (0≤n∧n≤31∧s / 2 ^ n.toNat % 2=1)
end

section
set_option maxRecDepth 100000
theorem z6(m:UInt32):aA Tryz.prog 37 [.int .u32 (m.toNat:Int)] St.none (fun r _=>r=.bool (decide (m.toNat≤511))):=by
 refine(aA.body 5 [.tmp 2] Tryz.func37 rfl rfl rfl rfl ?_)
 repeat' (first|(with_reducible first|(refine wN fun _ hnl=>?_;revert hnl;(repeat refine wS fun _ _=>?_);intro hnl)|refine wE ?_|(refine wK ?_ ?_<;>intro h)|(refine wB ?_ ?_<;>intro h<;>simp only[h]))|simp(maxSteps:=4000000) (disch:=first|exact ddL|fail) only[go_sem,simprocAttr,Tryz.f37])
 all_goals first|rfl|(refine decide_eq_decide.mpr ?_;omega)
end

section
section
variable {P:Program} {f:FR} {σ:St} {Q:MQ} {id:Nat} {a b l:List Oper} {x:Oper} {dr:Bool}
theorem Nv:List.append (x::a) b=x::List.append a b:=rfl
theorem On:List.append ([]:List Oper) b=b:=rfl
end
attribute [go_sem] Nv On
theorem lH{P:Program}{g:FuncId}{ms:List MV}{σ:St}{o:aV}{u:Nat→MV}{k:MV→St→Prop}(h:aA P g ms St.none fun v σ'=>∃l,v=u l∧σ'=St.none.set l o)(hk:∀l,σ l=none→R (bR (u l) (σ.set l o) k)):R (cX P g ms σ k) :=
 cA h (St.none_le σ) fun v σ' hv hf=>by
  obtain⟨l,rfl,rfl⟩:=hv
  rw[gS,bU,dS]
  refine hk l ?_
  rcases hf l o (aF _ _ _) with h|⟨o',h⟩
  ·exact h
  ·simp[St.none] at h
end

section
set_option maxRecDepth 100000
set_option maxHeartbeats 4000000
theorem sA{n:Nat}(h:n<4294967296):IntKind.u32.wrap (n:Int)=(n:Int):=by
 simp only[IntKind.wrap,IntKind.signed,IntKind.bits]
 simp
 omega
theorem Am(a b:Nat)(ha:a<4294967296)(hb:b<4294967296):kM .u32 (a:Int) (b:Int)=((a &&& b:Nat):Int):=by
 have hab:a &&& b<4294967296:=Nat.lt_of_le_of_lt Nat.and_le_left ha
 unfold kM
 have e:(BitVec.ofInt IntKind.u32.bits (a:Int) &&& BitVec.ofInt IntKind.u32.bits (b:Int)).toNat=a &&& b:=by
  rw[BitVec.toNat_and]
  simp only[BitVec.ofInt_natCast,BitVec.toNat_ofNat,IntKind.bits]
  rw[Nat.mod_eq_of_lt (by omega),Nat.mod_eq_of_lt (by omega)]
 rw[e]
 exact sA hab
theorem Oq(a b:Nat)(ha:a<4294967296)(hb:b<4294967296):orK .u32 (a:Int) (b:Int)=((a ||| b:Nat):Int):=by
 have hab:a ||| b<2 ^ 32:=Nat.or_lt_two_pow (by omega) (by omega)
 unfold orK
 have e:(BitVec.ofInt IntKind.u32.bits (a:Int) ||| BitVec.ofInt IntKind.u32.bits (b:Int)).toNat=a ||| b:=by
  rw[BitVec.toNat_or]
  simp only[BitVec.ofInt_natCast,BitVec.toNat_ofNat,IntKind.bits]
  rw[Nat.mod_eq_of_lt (by omega),Nat.mod_eq_of_lt (by omega)]
 rw[e]
 exact sA hab
theorem H0(a b:Nat)(ha:a<4294967296)(hb:b<4294967296):oW .u32 (a:Int) (b:Int)=((a &&& (4294967295 - b):Nat):Int):=by
 have hab:a &&& (4294967295 - b)<4294967296:=Nat.lt_of_le_of_lt Nat.and_le_left ha
 unfold oW
 have e:(BitVec.ofInt IntKind.u32.bits (a:Int) &&& ~~~BitVec.ofInt IntKind.u32.bits (b:Int)).toNat=a &&& (4294967295 - b):=by
  rw[BitVec.toNat_and,BitVec.toNat_not]
  simp only[BitVec.ofInt_natCast,BitVec.toNat_ofNat,IntKind.bits]
  rw[Nat.mod_eq_of_lt (by omega),Nat.mod_eq_of_lt (by omega)]
 rw[e]
 exact sA hab
theorem xQ(n:Nat)(h:n<32):aA Tryz.prog 175 [.int .i64 (n:Int)] St.none (fun r _=>r=.int .u32 ((2 ^ n:Nat):Int)):=by
 refine(aA.body 12 [.tmp 2] Tryz.func175 rfl rfl rfl rfl ?_)
 repeat' (first|(with_reducible first|(refine wN fun _ hnl=>?_;revert hnl;(repeat refine wS fun _ _=>?_);intro hnl)|refine wE ?_|(refine wK ?_ ?_<;>intro h)|(refine wB ?_ ?_<;>intro h<;>simp only[h]))|simp(maxSteps:=4000000) (disch:=first|exact ddL|fail) only[go_sem,simprocAttr,Tryz.f175])
 rw[Nat.min_eq_left (by omega),Int.one_mul,show(2:Int) ^ n=((2 ^ n:Nat):Int) by simp]
 exact congrArg _ (sA (Nat.pow_lt_pow_right (a:=2) (n:=32) (by decide) h))
theorem NC(m:Nat)(h:m<4294967296):m &&& (4294967295 - 511)=0↔m≤511:=by
 have e:∀i,(4294967295 - 511:Nat).testBit i=(decide (9≤i)&&decide (i<32)):=by
  intro i
  by_cases hi:i<32
  ·have:∀i,i<32→(4294967295 - 511:Nat).testBit i=(decide (9≤i)&&decide (i<32)):=by decide
   exact this i hi
  ·rw[Nat.testBit_lt_two_pow (Nat.lt_of_lt_of_le (show 4294967295 - 511<2 ^ 32 by decide) (Nat.pow_le_pow_right (by decide) (by omega))),decide_eq_false hi,Bool.and_false]
 constructor
 ·intro h0
  refine Classical.byContradiction fun hn=>?_
  have h1:m / 2 ^ 9≠0:=by omega
  obtain⟨i,hi⟩:=Nat.exists_testBit_of_ne_zero h1
  rw[Nat.testBit_div_two_pow] at hi
  have hi32:i+9<32:=by
   refine Classical.byContradiction fun hc=>?_
   rw[Nat.testBit_lt_two_pow (Nat.lt_of_lt_of_le (show m<2 ^ 32 from h) (Nat.pow_le_pow_right (by decide) (by omega)))] at hi
   cases hi
  have h2:=congrArg (fun x=>Nat.testBit x (i+9)) h0
  simp only[Nat.testBit_and,Nat.zero_testBit,e,hi] at h2
  rw[decide_eq_true (by omega),decide_eq_true hi32] at h2
  cases h2
 ·intro hm
  refine Nat.eq_of_testBit_eq fun i=>?_
  rw[Nat.testBit_and,Nat.zero_testBit,e]
  by_cases hi:9≤i
  ·rw[Nat.testBit_lt_two_pow (Nat.lt_of_lt_of_le (show m<2 ^ 9 by omega) (Nat.pow_le_pow_right (by decide) hi)),Bool.false_and]
  ·rw[decide_eq_false hi,Bool.false_and,Bool.and_false]
theorem zV(m:UInt32):aA Tryz.prog 143 [.int .u32 (m.toNat:Int)] St.none (fun r _=>r=.bool (decide (m.toNat≤511))):=by
 refine(aA.body 5 [.tmp 2] Tryz.func143 rfl rfl rfl rfl ?_)
 have hm:=m.toNat_lt
 have h:aA Tryz.prog 184 [.int .u32 (m.toNat:Int),.int .u32 511] St.none (fun r _=>r=.bool (decide (m.toNat≤511))):=by
  refine(aA.body 9 [.tmp 4] Tryz.func184 rfl rfl rfl rfl ?_)
  have e:oW .u32 (m.toNat:Int) 511=_:=H0 m.toNat 511 hm (by decide)
  repeat' (first|(with_reducible first|(refine wN fun _ hnl=>?_;revert hnl;(repeat refine wS fun _ _=>?_);intro hnl)|refine wE ?_|(refine wK ?_ ?_<;>intro h)|(refine wB ?_ ?_<;>intro h<;>simp only[h]))|simp(maxSteps:=4000000) (disch:=first|exact ddL|fail) only[go_sem,simprocAttr,Tryz.f184,e])
  exact decide_eq_decide.mpr ⟨fun h=>(NC m.toNat hm).1 (by exact_mod_cast h),fun h=>by rw[(NC m.toNat hm).2 h];rfl⟩
 repeat' (first|(with_reducible first|refine up h ?_)|(with_reducible first|(refine wN fun _ hnl=>?_;revert hnl;(repeat refine wS fun _ _=>?_);intro hnl)|refine wE ?_|(refine wK ?_ ?_<;>intro h)|(refine wB ?_ ?_<;>intro h<;>simp only[h]))|simp(maxSteps:=4000000) (disch:=first|exact ddL|fail) only[go_sem,simprocAttr,Tryz.f143])
theorem Kt(m k:Nat):m &&& 2 ^ k=if m.testBit k=true then 2 ^ k else 0:=by
 refine Nat.eq_of_testBit_eq fun i=>?_
 rw[Nat.testBit_and,Nat.testBit_two_pow]
 by_cases h:k=i
 ·subst h
  cases hb:m.testBit k
  ·simp
  ·simp[Nat.testBit_two_pow]
 ·cases m.testBit k
  ·simp[h]
  ·simp[h,Nat.testBit_two_pow]
theorem oF(m:UInt32):aA Tryz.prog 97 [.int .u32 (m.toNat:Int)] St.none (fun r _=>r=.bool (bit m.toNat 8)):=by
 refine(aA.body 6 [.tmp 2] Tryz.func97 rfl rfl rfl rfl ?_)
 have hm:=m.toNat_lt
 have e:kM .u32 (m.toNat:Int) 256=_:=Am m.toNat 256 hm (by decide)
 repeat' (first|(with_reducible first|(refine wN fun _ hnl=>?_;revert hnl;(repeat refine wS fun _ _=>?_);intro hnl)|refine wE ?_|(refine wK ?_ ?_<;>intro h)|(refine wB ?_ ?_<;>intro h<;>simp only[h]))|simp(maxSteps:=4000000) (disch:=first|exact ddL|fail) only[go_sem,simprocAttr,Tryz.f97,e])
 rw[show(256:Nat)=2 ^ 8 by decide,Kt]
 unfold bit
 cases m.toNat.testBit 8<;>rfl
def dbT:List Int:=[0,1,28,2,29,14,24,3,30,22,20,15,25,17,4,8,31,27,13,23,21,19,16,7,26,12,18,6,11,5,10,9]
def tzI(x:Nat):Int:=(IntKind.u32.wrap (kM IntKind.u32 (x:Int) (IntKind.u32.wrap (0 - (x:Int))) * 125613361)).fdiv (2 ^ min 27 32)
theorem Kf:∀x:Nat,x<256→x≠0→0≤tzI x∧tzI x<32∧dbT[(tzI x).toNat]?=some (((bJ x).headD 0:Nat):Int):=by decide +kernel
theorem L3(i:Nat):GT 0 i=(dbT[i]?).map (Value.int .u8):=by
 unfold GT
 rw[if_pos rfl,List.getElem?_map];rfl
theorem Kr{C:Prop}{v:MV}{σ:St}{k:MV→St→Prop}(hC:C)(hk:R (k v σ)):R (mpure σ k (some (C,v))):=⟨hC,hk⟩
theorem KL(x:Nat)(h:x<256)(h0:x≠0):C0 Tryz.prog 230 0 (.int .u32 (tzI x))=some ((td Tryz.prog 5).ok=true∧(td Tryz.prog 5).size=1∧0≤tzI x∧tzI x<32∧(ofV (.int .u8 (((bJ x).headD 0:Nat):Int))).aP=true,.cptr [.int .u8 (((bJ x).headD 0:Nat):Int)]):=by
 unfold C0
 rw[Mk]
 simp only
 rw[L3,(Kf x h h0).2.2]
 rfl
theorem AQ{x:Nat}(h:x<256)(h0:x≠0):(bJ x).headD 0<8:=by
 rw[sE x h h0]
 have:(bJ x).headD 0∈bJ x:=by
  have:=sE x h h0
  rw[this];simp
 simpa using sD this
theorem JM(x:Nat)(h0:0<x)(h:x<256):aA Tryz.prog 182 [.int .u32 (x:Int)] St.none (fun r _=>r=.int .i64 (((bJ x).headD 0:Nat):Int)):=by
 refine(aA.body 14 [.tmp 2] Tryz.func182 rfl rfl rfl rfl ?_)
 have hg:=KL x h (by omega)
 have ht:=Kf x h (by omega)
 have hh:=AQ h (by omega)
 obtain⟨d,hd⟩:∃d,(bJ x).headD 0=d:=⟨_,rfl⟩
 rw[hd] at hg ht hh ⊢
 repeat' (first|(with_reducible first|(refine wN fun _ hnl=>?_;revert hnl;(repeat refine wS fun _ _=>?_);intro hnl)|refine wE ?_|(refine wK ?_ ?_<;>intro h)|(refine wB ?_ ?_<;>intro h<;>simp only[h]))|simp(maxSteps:=4000000) (disch:=first|exact ddL|fail) only[go_sem,simprocAttr,Tryz.f182])
 change R (mpure _ _ (C0 _ _ _ (.int .u32 (tzI x))))
 rw[hg]
 refine Kr ⟨by rw[td5],by rw[td5],ht.1,ht.2.1,rfl⟩ ?_
 generalize tzI x=w
 repeat' (first|(with_reducible first|(refine wN fun _ hnl=>?_;revert hnl;(repeat refine wS fun _ _=>?_);intro hnl)|refine wE ?_|(refine wK ?_ ?_<;>intro h)|(refine wB ?_ ?_<;>intro h<;>simp only[h]))|simp(maxSteps:=4000000) (disch:=first|exact ddL|fail) only[go_sem,simprocAttr])
end

section
set_option maxRecDepth 100000
theorem M9{a b:VA}:a=b↔a.kd=b.kd∧a.n=b.n∧a.s=b.s:=by
 obtain⟨a1,a2,a3⟩:=a
 obtain⟨b1,b2,b3⟩:=b
 simp
theorem l8{P:Program}{d:Nat}{t:TypeId}{fs:List (Nat × TypeId)}{xs ys:List MV}(hk:(td P t).k=.struct fs)(hp:dJ P t=true):iE P (d+1) t (.agg xs) (.agg ys)=bT P (iE P d) xs ys fs:=by
 simp only[iE,hk,hp,if_true]
theorem Dz{P:Program}{d n:Nat}{t e:TypeId}{xs ys:List MV}(hk:(td P t).k=.array n e)(hp:(td P e).ok=true):iE P (d+1) t (.agg xs) (.agg ys)=bT P (iE P d) xs ys ((List.range n).map fun i=>(i * (td P e).size,e)):=by
 simp only[iE,hk,hp,if_true]
theorem o7{P:Program}{d:Nat}{t:TypeId}{k k':IntKind}{a b:Int}(hk:(td P t).k=.int k'):iE P (d+1) t (.int k a) (.int k b)=some (decide (a=b)):=by
 simp only[iE,hk,if_true]
theorem Ja{P:Program}{d:Nat}{t:TypeId}{a b:ByteArray}(hk:(td P t).k=.str):iE P (d+1) t (.str a) (.str b)=some (decide (a=b)):=by
 simp only[iE,hk]
theorem N7:(td Tryz.prog 3).k=.int .i64:=by rw[td3]
theorem Ml:(td Tryz.prog 28).k=.int .u32:=by rw[Ek]
theorem OC:(td Tryz.prog 9).k=.str:=by rw[td9]
theorem xL{l:List MV}{i:Nat}{f:F8}(hl:l=fc f)(h:i<8):dA (td Tryz.prog 39) l (i * 3)=.agg (f.get i).c:=by
 simp only[dA,uP,TK.isAgg,if_true,hl]
 exact congrArg MV.agg (nK h)
theorem E3(d:Nat)(a b:VA):iE Tryz.prog (d+2) 39 (.agg a.c) (.agg b.c)=some (decide (a=b)):=by
 have hp:dJ Tryz.prog 39=true:=by decide +kernel
 rw[l8 (by rw[uP]) hp]
 simp only[bT,td3,td9,dA,TK.isAgg,Bool.false_eq_true,if_false,List.getD_cons_zero,List.getD_cons_succ,List.length_cons,List.length_nil,o7 N7,Ja OC]
 simp[M9,Bool.decide_and]
theorem My{f g:F8}:f=g↔∀i,i∈List.range 8→f.get i=g.get i :=
 ⟨fun h i _=>by rw[h],fun h=>F8.ext fun i hi=>h i (List.mem_range.2 hi)⟩
theorem Bg(d:Nat)(f g:F8):∀L:List Nat,(∀i,i∈L→i<8)→bT Tryz.prog (iE Tryz.prog (d+2)) (fc f) (fc g) (L.map fun i=>(i * 3,39))=some (decide (∀i,i∈L→f.get i=g.get i))
 | [],_=>by simp[bT]
 | i::L,h=>by
  have hi:=h i (by simp)
  have ih:=Bg d f g L fun j hj=>h j (by simp[hj])
  have h3:(td Tryz.prog 39).size=3:=by rw[uP]
  have ho:(td Tryz.prog 39).ok=true:=by rw[uP]
  simp only[List.map_cons,bT]
  rw[xL rfl hi,xL rfl hi,ih,E3,if_pos ⟨ho,by rw[h3,bW];omega,by rw[h3,bW];omega,by rw[h3];decide⟩]
  simp only[Option.map_some,List.forall_mem_cons]
  rw[Bool.decide_and]
theorem Bh(d:Nat)(f g:F8):iE Tryz.prog (d+3) 40 (.agg (fc f)) (.agg (fc g))=some (decide (f=g)):=by
 have h3:(td Tryz.prog 39).size=3:=by rw[uP]
 rw[Dz (n:=8) (e:=39) (by rw[El]) (by rw[uP]),h3,Bg d f g _ (fun i hi=>List.mem_range.1 hi)]
 congr 1
 exact decide_eq_decide.mpr My.symm
theorem MT{a b:PA}:a=b↔a.mask=b.mask∧a.lab=b.lab∧a.f=b.f:=by
 obtain⟨a1,a2,a3⟩:=a
 obtain⟨b1,b2,b3⟩:=b
 simp
theorem Mt{a b:CA}:a=b↔a.id=b.id∧a.ver=b.ver∧a.lab=b.lab∧a.f=b.f:=by
 obtain⟨a1,a2,a3,a4⟩:=a
 obtain⟨b1,b2,b3,b4⟩:=b
 simp
theorem Gx(d:Nat)(a b:PA):iE Tryz.prog (d+4) 77 (.agg a.c) (.agg b.c)=some (decide (a=b)):=by
 have hp:dJ Tryz.prog 77=true:=by decide +kernel
 rw[l8 (by rw[N6]) hp]
 simp only[bT,Ek,El,dA,TK.isAgg,if_true,Bool.false_eq_true,if_false,List.getD_cons_zero,List.getD_cons_succ,List.length_cons,List.length_nil,List.drop_succ_cons,List.drop_zero,fV (Nat.le_refl 24),bW,Bh,o7 Ml]
 simp[MT,Fm,Bool.decide_and]
theorem I9(d:Nat)(a b:CA):iE Tryz.prog (d+4) 42 (.agg a.c) (.agg b.c)=some (decide (a=b)):=by
 have hp:dJ Tryz.prog 42=true:=by decide +kernel
 rw[l8 (by rw[Kb]) hp]
 simp only[bT,Ek,td3,El,dA,TK.isAgg,if_true,Bool.false_eq_true,if_false,List.getD_cons_zero,List.getD_cons_succ,List.length_cons,List.length_nil,List.drop_succ_cons,List.drop_zero,fV (Nat.le_refl 24),bW,Bh,o7 Ml,o7 N7]
 simp[Mt,Fm,Bool.decide_and]
abbrev IT.k(x:IT):List MV:=.int .i64 x.kd::.int .i64 x.c.id::.int .i64 x.c.ver::.int .u32 (x.c.lab.toNat:Int)::fc x.c.f
end

section
theorem Dk{t:TypeId}{xs ys:List MV}{b:Bool}(h:iE Tryz.prog 6 t (.agg xs) (.agg ys)=some b)(hp:dJ Tryz.prog t=true):bZ Tryz.prog t .neq (.agg xs) (.agg ys)=some (True,.bool (!b)):=by
 rw[A8,h,qY,EH,hp];simp
theorem JK:dJ Tryz.prog 77=true:=by decide +kernel
theorem LG:dJ Tryz.prog 42=true:=by decide +kernel
theorem Gq(a b:PA):bZ Tryz.prog 77 .neq (.agg a.c) (.agg b.c)=some (True,.bool (!decide (a=b))):=Dk (Gx 2 a b) JK
theorem Ba(a b:CA):bZ Tryz.prog 42 .neq (.agg a.c) (.agg b.c)=some (True,.bool (!decide (a=b))):=Dk (I9 2 a b) LG
theorem zQ{p:PA}{i:Nat}(h0:¬(p.mask.toNat=0∨511<p.mask.toNat))(h1:¬(65536≤p.lab.toNat∨p.lab.toNat≠0∧bit p.mask.toNat 8=false))(hi:i<8)(h:(dU (p.f.get i)&&(decide ((p.f.get i).kd=0) || bit p.mask.toNat i))=false):dG p=1:=by
 unfold dG
 rw[if_neg h0,if_neg h1,if_neg]
 intro hb
 have:=List.all_eq_true.1 hb i (List.mem_range.2 hi)
 rw[h] at this
 cases this
theorem vO{p:PA}(h0:¬(p.mask.toNat=0∨511<p.mask.toNat))(h1:¬(65536≤p.lab.toNat∨p.lab.toNat≠0∧bit p.mask.toNat 8=false))(h:∀i,i<8→(dU (p.f.get i)&&(decide ((p.f.get i).kd=0) || bit p.mask.toNat i))=true):dG p=0:=by
 unfold dG
 rw[if_neg h0,if_neg h1,if_pos]
 exact List.all_eq_true.2 fun i hi=>h i (List.mem_range.1 hi)
end

section
set_option maxRecDepth 100000
theorem le2{σ:St}{l k:Nat}{o o':aV}(h1:σ l=some o)(h2:σ k=some o'):((St.none.set l o).set k o').le σ:=St.aD (St.aD (St.none_le _) h1) h2
theorem iP{α:Type}{f:α→List MV}{l:List α}{ex:List (List MV)}:(l.map f++ex).take l.length=l.map f:=by rw[List.take_append_of_le_length (by simp),List.take_of_length_le (by simp)]
theorem jF{α:Type}{f:α→List MV}{l:List α}{ex:List (List MV)}:(l.map f++ex).drop (l.length+1)=ex.drop 1:=by
 rw[List.drop_append,List.drop_eq_nil_of_le (by simp),List.nil_append];congr 1;simp
theorem N9{α:Type}{f:α→List MV}{l:List α}{ex:List (List MV)}{σ:St}{q e:Nat}{t:TypeId}(h:σ q=some (.row t e (l.map f++ex))):View σ (.vec e q 0 l.length) (.lst e (l.map f) false):=by
 have:=View.vec (n:=l.length) (lo:=0) h (by simp)
 rwa [List.drop_zero,iP] at this
theorem fS.fc{σ:St}{f:F8}{a b:List MV}(h:fS σ a b):fS σ (fc f++a) (fc f++b):=fS.app (fS.same _) h
abbrev MS.c(m:MS):List MV:=m.k (.lst 5 (m.cmd.fl.map ND.c) false) (.lst 5 (m.rep.fl.map ND.c) false) (.lst 28 (IT.ks m.page.items) false)
theorem MS.cell(m:MS):m.c.all MV.aP=true:=by
 simp only[MS.c,MS.k,List.all_cons,CY];rfl
structure Sm (m:MS):Prop where
 f:m.cmd.fl.length≤1000000
 g:m.rep.fl.length≤1000000
 i:m.page.items.length≤1000000
end

section
abbrev mu:Go.Conc.Locks.MuLink:={ lock:=160,unlock:=161,ilock:=192,iunlock:=193,lockSlow:=210,unlockSlow:=213,disable:=206,enable:=208,acquire:=209,relMerge:=211,cas32:=207,add32:=212,tMutex:=105,tIMutex:=103,tPMutex:=223,tPIMutex:=232,tPI32:=234,tUP:=236,tNoCopy:=98,tU32:=28 }
theorem Jp:Go.Conc.Locks.MuLib Tryz.prog mu :=
  ⟨Tryz.func160,Tryz.func161,Tryz.func192,Tryz.func193,Tryz.func206,Tryz.func208,Tryz.func209,Tryz.func211,Tryz.func207,Tryz.func212,Tryz.underlying103,Tryz.runUnderlying103,Tryz.sizeOf103,Tryz.isAgg103,Tryz.zeroValue103,Tryz.underlying105,Tryz.runUnderlying105,Tryz.sizeOf105,Tryz.isAgg105,Tryz.zeroValue105,Tryz.underlying223,Tryz.runUnderlying223,Tryz.sizeOf223,Tryz.isAgg223,Tryz.zeroValue223,Tryz.underlying232,Tryz.runUnderlying232,Tryz.sizeOf232,Tryz.isAgg232,Tryz.zeroValue232,Tryz.underlying234,Tryz.runUnderlying234,Tryz.sizeOf234,Tryz.isAgg234,Tryz.zeroValue234,Tryz.underlying236,Tryz.runUnderlying236,Tryz.sizeOf236,Tryz.isAgg236,Tryz.zeroValue236,Tryz.underlying98,Tryz.runUnderlying98,Tryz.sizeOf98,Tryz.isAgg98,Tryz.zeroValue98,Tryz.underlying21,Tryz.runUnderlying21,Tryz.sizeOf21,Tryz.isAgg21,Tryz.zeroValue21,(by kernel_rfl)⟩
end

section
section
variable {P:Program} {C:b9} {ops:Array Oper}
def gate(ops:Array Oper)(n1:Nat):Bool:=(List.range ops.size).all fun i=>decide (i<n1) || (List.range n1).all fun j=>((nO ops.toList []).getD i 0).testBit j
theorem ES{n1:Nat}(h:gate ops n1=true){i j:Nat}(hi:i<ops.size)(h1:n1≤i)(hj:j<n1):((nO ops.toList []).getD i 0).testBit j=true:=by
 have:=List.all_eq_true.1 h i (List.mem_range.2 hi)
 rw[Bool.or_eq_true,decide_eq_true_eq] at this
 rcases this with q|q
 ·omega
 ·exact List.all_eq_true.1 q j (List.mem_range.2 hj)
theorem xI{listed:Array Bool}{n i:Nat}(hs:n≤listed.size):left (listed.setIfInBounds i true) n=(left listed n).filter fun j=>j != i:=by
 unfold left
 rw[List.filter_filter]
 refine List.filter_congr fun j hj=>?_
 have hj:j<n:=by simpa using hj
 by_cases h:j=i
 ·subst h;simp[show j<listed.size by omega]
 ·have:(i:Nat)≠j:=fun e=>h e.symm
  simp[h,Array.getElem?_setIfInBounds_ne this]
theorem EA{X:RX}{loc:Nat→Nat→Prop}(hC:lL X loc C)(hchk:nD X ops=true){F:Fence}(hF:F=Fence.wide∨∃l0,F=Fence.wide.inRound l0)(hdef:∀o,o∈ops.toList→∀c,o.op≠.defer c){Qx:Exit→Act→World→Prop}{Φ0:Phi}{σ0:St}{w0:World}(n1:Nat)(hn1:n1≤ops.size)(hg1:gate ops n1=true){K:FR→St→Prop}
 (hfin:∀(fuel:Nat) (listed:Array Bool) (f:FR) (σ:St) (Φ:Phi) (w:World) (a:Act),left listed n1=[]→listed.size=ops.size→(left listed ops.size).length=fuel→pR ops (fun i=>listed.getD i false=true)→(∀j,n1≤j→j<ops.size→listed.getD j true=false)→Inv Φ w σ→cF Φ a.tmps f→cR Φ w a.defers f.d→DOk X loc f→Step Φ0 σ0 w0 Φ σ w →
   K f σ→wpAnyIn F 0 P .any ops Qx fuel listed a w):∀(fuel:Nat) (listed:Array Bool) (f:FR) (σ:St) (Φ:Phi) (w:World) (a:Act),listed.size=ops.size→(left listed ops.size).length=fuel →
  pR ops (fun i=>listed.getD i false=true)→(∀j,n1≤j→j<ops.size→listed.getD j true=false)→Inv Φ w σ→cF Φ a.tmps f→cR Φ w a.defers f.d→DOk X loc f→Step Φ0 σ0 w0 Φ σ w →
  gl P C ops (fun f' _ σ'=>∃f'',FEq f' f''∧K f'' σ') (opsOf ops (left listed n1)) f (fun l=>Φ.obj l≠none) σ→wpAnyIn F 0 P .any ops Qx fuel listed a w:=by
 have hKok:KOk (fun f' (_:Nat→Prop) σ'=>∃f'',FEq f' f''∧K f'' σ'):=fun f f' U U' σ hf _ ⟨f'',h1,h2⟩=>⟨f'',hf.symm.trans h1,h2⟩
 have ready_left:∀(listed:Array Bool) i,i∈Region.ready .any ops listed→i∈left listed ops.size:=fun listed i hi=>by
  obtain⟨h0,o,ho,-⟩:=mem_ready.1 hi
  exact mem_left.2 ⟨(Array.getElem?_eq_some_iff.1 ho).1,h0⟩
 have chk1:∀i oi,ops[i]?=some oi→(∀e,e∈oi.after.toList→Region.binds .any e=true→e.on<i)∧∀j oj,j<i→ops[j]?=some oj→((nO ops.toList []).getD i 0).testBit j=true∨uN X ops oj oi=true:=by
  intro i oi hoi
  have hlt:=(Array.getElem?_eq_some_iff.1 hoi).1
  have h:=hchk
  simp only[nD,Bool.and_eq_true] at h
  replace h:=h.2
  simp only[List.all_eq_true,List.mem_range] at h
  have h1:=h i hlt
  rw[hoi] at h1
  simp only[Bool.and_eq_true,List.all_eq_true,Bool.or_eq_true,Bool.not_eq_true',decide_eq_true_eq,List.mem_range] at h1
  refine⟨fun e he hb=>?_,fun j oj hj hoj=>?_⟩
  ·rcases h1.1 e he with q|q
   ·rw[hb] at q;cases q
   ·exact q
  ·have:=h1.2 j hj
   rw[hoj] at this
   simpa using this
 intro fuel
 induction fuel with
 | zero =>
  intro listed f σ Φ w a hsz hl hc hup hi hr hd hD hs h
  have hnil0:left listed ops.size=[]:=List.eq_nil_of_length_eq_zero hl
  have hnil:left listed n1=[]:=by
   rw[List.eq_nil_iff_forall_not_mem]
   intro i hi
   obtain⟨h1,h2⟩:=mem_left.1 hi
   have:i∈left listed ops.size:=mem_left.2 ⟨by omega,h2⟩
   rw[hnil0] at this;cases this
  rw[hnil] at h
  obtain⟨f'',h1,h2⟩:=h
  exact hfin 0 listed f'' σ Φ w a hnil hsz hl hc hup hi ⟨hr.1.trans h1.1,fun t=>by rw[←h1.2.2 t];exact hr.2 t⟩ (h1.2.1 ▸ hd) ⟨fun t ht=>by rw[←h1.2.2 t];exact hD.1 t ht,hD.2.1,fun p hp=>⟨(hD.2.2 p hp).1,fun l i o e=>(hD.2.2 p hp).2 l i o (by rw[h1.2.2];exact e)⟩⟩ hs h2
 | succ fuel ih =>
  intro listed f σ Φ w a hsz hl hc hup hi hr hd hD hs h
  by_cases hnil:left listed n1=[]
  ·rw[hnil] at h
   obtain⟨f'',h1,h2⟩:=h
   exact hfin (fuel+1) listed f'' σ Φ w a hnil hsz hl hc hup hi ⟨hr.1.trans h1.1,fun t=>by rw[←h1.2.2 t];exact hr.2 t⟩ (h1.2.1 ▸ hd) ⟨fun t ht=>by rw[←h1.2.2 t];exact hD.1 t ht,hD.2.1,fun p hp=>⟨(hD.2.2 p hp).1,fun l i o e=>(hD.2.2 p hp).2 l i o (by rw[h1.2.2];exact e)⟩⟩ hs h2
  refine⟨fun hnone=>?_,fun i hrd=>?_⟩
  ·-- the first that is left is ready
   exfalso
   cases hleft:left listed ops.size with
   | nil=>rw[hleft] at hl;cases hl
   | cons i0 r =>
    have h0:i0∈left listed ops.size:=by rw[hleft];simp
    obtain⟨hlt,h0'⟩:=mem_left.1 h0
    have hoi:ops[i0]?=some ops[i0]:=Array.getElem?_eq_getElem hlt
    have:i0∈Region.ready .any ops listed:=mem_ready.2 ⟨h0',_,hoi,fun e he hb=>by
     have hlt':=(chk1 i0 _ hoi).1 e (by simpa using he) hb
     cases hq:listed.getD e.on false with
     | true=>rfl
     | false =>
      exfalso
      have hm:e.on∈left listed ops.size:=mem_left.2 ⟨by omega,by
       have hb2:e.on<listed.size:=by omega
       simpa[hb2] using hq⟩
      have hp:(left listed ops.size).Pairwise (·<·):=List.Pairwise.filter _ List.pairwise_lt_range
      rw[hleft] at hp hm
      have:=(List.pairwise_cons.1 hp).1
      rcases List.mem_cons.1 hm with q|q
      ·omega
      ·have:=this e.on q;omega⟩
    rw[hnone] at this;cases this
  ·obtain⟨h0,o,ho,hpre⟩:=mem_ready.1 hrd
   have hio:i<ops.size:=(Array.getElem?_eq_some_iff.1 ho).1
   have hmask:∀j,((nO ops.toList []).getD i 0).testBit j=true→listed.getD j false=true:=fun j q =>
    oB (L:=fun i=>listed.getD i false=true) ops.toList [] [] rfl (by simpa using hc) (fun i hi j hj=>by simp at hj) i (.inr ⟨o,by simpa using ho,fun e he hb=>hpre e (by simpa using he) hb⟩) j q
   have hin1:i<n1:=by
    refine Classical.byContradiction fun hge=>hnil ?_
    rw[List.eq_nil_iff_forall_not_mem]
    intro j hj
    obtain⟨q1,q2⟩:=mem_left.1 hj
    have:=hmask j (ES hg1 hio (by omega) q1)
    have hb2:j<listed.size:=by omega
    simp[hb2] at this q2
    rw[this] at q2;cases q2
   have hmem:i∈left listed n1:=mem_left.2 ⟨hin1,h0⟩
   obtain⟨l1,l2,he,hlt,hflt⟩:=n4 hmem
   have hsw:∀x,x∈opsOf ops l1→uN X ops x o=true:=by
    intro x hx
    obtain⟨j,hj,hx⟩:=List.mem_filterMap.1 hx
    rcases (chk1 i o ho).2 j x (hlt j hj) hx with q|q
    ·exfalso
     have:=hmask j q
     have hjl:j∈left listed n1:=by rw[he];simp[hj]
     have hj2:=(mem_left.1 hjl)
     have hb2:j<listed.size:=by omega
     simp[hb2] at this hj2
     simp[this] at hj2
    ·exact q
   have e2:opsOf ops (left listed n1)=opsOf ops l1++o::opsOf ops l2:=by rw[he];simp[opsOf,List.filterMap_append,ho]
   rw[e2] at h
   have hdom:Dom (fun l=>Φ.obj l≠none) σ:=fun l hl q=>hl (hi.eD q)
   have hfin':Fin (fun l=>Φ.obj l≠none):=by
    obtain⟨n,hn⟩:=hi.fresh.1.1
    exact⟨n,fun l hl q=>q (hn l hl)⟩
   have hkall:∀(j:Nat) x,ops[j]?=some x→nZ X x=true:=fun j x hx=>by
    have h:=hchk
    simp only[nD,Bool.and_eq_true,List.all_eq_true] at h
    exact h.1 x (by rw[←Array.getElem?_toList] at hx;exact List.mem_of_getElem? hx)
   have hp:=C5 (pull hKok hC (opsOf ops l2) o (opsOf ops l1) f _ σ hdom hfin' hD hsw (fun x hx=>by
    obtain⟨j,hj,hx⟩:=List.mem_filterMap.1 hx
    exact hkall j x hx) h)
   have e3:opsOf ops (left (listed.setIfInBounds i true) n1)=opsOf ops l1++opsOf ops l2:=by rw[xI (by omega),hflt];simp[opsOf,List.filterMap_append]
   have hlen:(left (listed.setIfInBounds i true) ops.size).length=fuel:=by
    obtain⟨m1,m2,hm,-,hmf⟩:=n4 (ready_left listed i hrd)
    rw[sW hsz,hmf]
    rw[hm] at hl
    simp at hl ⊢;omega
   have hup':∀j,n1≤j→j<ops.size→(listed.setIfInBounds i true).getD j true=false:=fun j h1 h2=>by
    have hne:i≠j:=by omega
    rw[←hup j h1 h2]
    simp[Array.getElem?_setIfInBounds_ne hne]
   have hcl:pR ops (fun k=>(listed.setIfInBounds i true).getD k false=true):=by
    intro k ok hk hlk e hek hb
    by_cases hki:k=i
    ·subst hki
     rw[ho] at hk;cases hk
     exact getD_set_true (hpre e (by simpa using hek) hb)
    ·have:listed.getD k false=true:=by rw[←hlk,getD_set_ne _ (Ne.symm hki)]
     exact getD_set_true (hc k ok hk this e hek hb)
   have next:∀v mv σ' Φ' w' ,Rel Φ' v mv→Inv Φ' w' σ'→Step Φ σ w Φ' σ' w' →
     (∃U':Nat→Prop,(∀l,U' l→Φ.obj l≠none∨σ' l≠none)∧GV (gfo P C ops f o) mv∧∀U1',(∀l,U' l→U1' l)→gl P C ops (fun f' _ σ'=>∃f'',FEq f' f''∧K f'' σ') (opsOf ops l1++opsOf ops l2) (bB f o.dst mv) U1' σ') →
     wpAnyIn F 0 P .any ops Qx fuel (listed.setIfInBounds i true) (a.put o.dst v) w':=by
    rintro v mv σ' Φ' w' r1 i1 s1 ⟨U',hu,hgv,hk⟩
    refine ih _ (bB f o.dst mv) σ' Φ' w' (a.put o.dst v) (by simpa using hsz) hlen hcl hup' i1 (cG (hr.mono s1.le) o.dst r1) (by rw[bM,dQ];exact hd.step hi s1) (hD.put (hkall i o ho) hgv) (hs.trans s1) ?_
    rw[e3]
    refine hk _ fun l hl=>?_
    rcases hu l hl with q|q
    ·intro hn
     cases hp:Φ.obj l with
     | none=>exact q hp
     | some p=>rw[s1.le.obj l p hp] at hn;cases hn
    ·intro hn;exact q (i1.eD hn)
   unfold wpOpIn
   rw[ho]
   simp only
   have hFo:F=Fence.wide∨∃l0,F=Fence.wide.inRound l0∧∀c,o.op≠.defer c:=hF.imp id fun⟨l0,e⟩=>⟨l0,e,hdef o (by rw[←Array.getElem?_toList] at ho;exact List.mem_of_getElem? ho)⟩
   have hfn:∀g,F.fn g:=fun g=>by rcases hF with rfl|⟨l,rfl⟩<;>trivial
   have run:gs (fun l=>Φ.obj l≠none) σ (gop P C f o.op) (fun v U1 σ1=>GV (gfo P C ops f o) v∧∀U1',(∀l,U1 l→U1' l)→gl P C ops (fun f' _ σ'=>∃f'',FEq f' f''∧K f'' σ') (opsOf ops l1++opsOf ops l2) (bB f o.dst v) U1' σ1) →
     o.wpIn F 0 P a w (wpAnyIn F 0 P .any ops Qx fuel (listed.setIfInBounds i true)) Qx:=by
    intro hg
    refine fO hFo ?_
    refine kF (Me hg) Φ w a _ _ hi hr fun v mv σ' Φ' w' r1 i1 s1 hk=>next v mv σ' Φ' w' r1 i1 s1 (hk fun l h1 h2 q=>?_)
    rcases s1.locs l _ (Option.ne_none_iff_exists'.1 h1).choose_spec with⟨o',ho'⟩|ho'
    ·rw[h2] at ho';cases ho'
    ·exact q ho'
   obtain⟨G,hG⟩:∃G,GV (gfo P C ops f o)=G:=⟨_,rfl⟩
   rw[hG] at hp run next
   unfold gfo at hp
   split at hp
   ·rename_i hg
    have hw:Region.wanted o (yielded ops a.tmps)=true:=by unfold Region.wanted;rw[hg]
    rw[if_pos hw]
    exact run hp
   ·rename_i j want hg
    split at hp
    ·rename_i t ht
     split at hp
     ·rename_i b hb
      have hmg:∀{A B:Prop},(b=want→A)∧(b=(!want)→B)→(Region.wanted o (yielded ops a.tmps)=true∧A)∨(Region.wanted o (yielded ops a.tmps)=false∧B):=fun {A B} h =>
       cD (ops:=ops) (o:=o) (f:=f) (by unfold eO;rw[hg];simp only[ht,hb];exact h) hr
      split at hp
      ·rename_i hbw
       rcases hmg (A:=True) (B:=False) ⟨fun _=>trivial,fun e=>by rw[hbw] at e;cases want<;>cases e⟩ with⟨hw,-⟩|⟨-,hw⟩
       ·rw[if_pos hw];exact run hp
       ·exact hw.elim
      ·rename_i hbw
       rcases hmg (A:=False) (B:=True) ⟨fun e=>hbw e,fun _=>trivial⟩ with⟨-,hw⟩|⟨hw,-⟩
       ·exact hw.elim
       ·rw[if_neg (by simp[hw])]
        obtain⟨-,U',hu,hgv,hk⟩:=lB hp
        exact⟨fun f _=>hfn f,next undef (.tup []) σ Φ w eR hi (.refl _ _ _) ⟨U',hu,hgv,hk⟩⟩
     ·rename_i hb
      rcases cD (ops:=ops) (o:=o) (f:=f) (yes:=False) (no:=True) (by unfold eO;rw[hg];simp only[ht,hb]) hr with⟨-,hw⟩|⟨hw,-⟩
      ·exact hw.elim
      ·rw[if_neg (by simp[hw])]
       obtain⟨-,U',hu,hgv,hk⟩:=lB hp
       exact⟨fun f _=>hfn f,next undef (.tup []) σ Φ w eR hi (.refl _ _ _) ⟨U',hu,hgv,hk⟩⟩
     ·exact(eK hp).elim
    ·exact(eK hp).elim
theorem xH{n m:Nat}(h:m≤n):left (Array.replicate n false) m=List.range m:=by
 unfold left
 refine List.filter_eq_self.2 fun j hj=>?_
 have hj:j<m:=by simpa using hj
 simp[show j<n by omega]
theorem BG:∀(l:List Oper) (n:Nat),n≤l.length→opsOf l.toArray (List.range n)=l.take n:=by
 intro l n hn
 unfold opsOf
 induction n with
 | zero=>simp
 | succ n ih =>
  rw[List.range_succ,List.filterMap_append,ih (by omega),List.take_add_one]
  congr 1
  cases hl:l[n]? with
  | none=>simp[hl]
  | some o=>simp[hl]
theorem DZ(l:List Oper)(n:Nat):∀m,opsOf l.toArray ((List.range' n m))=(l.drop n).take m:=by
 intro m
 induction m generalizing n with
 | zero=>simp[opsOf]
 | succ m ih =>
  have ih:=ih (n+1)
  unfold opsOf at ih ⊢
  simp only[List.getElem?_toArray] at ih ⊢
  rw[List.range'_succ,List.filterMap_cons]
  cases hl:l[n]? with
  | none =>
   have:l.length≤n:=List.getElem?_eq_none_iff.1 hl
   simp only[hl]
   rw[ih,List.drop_eq_nil_of_le (by omega),List.drop_eq_nil_of_le this]
   simp
  | some o =>
   have hn:=(List.getElem?_eq_some_iff.1 hl).1
   have ho:=(List.getElem?_eq_some_iff.1 hl).2
   simp only[hl]
   rw[ih,List.drop_eq_getElem_cons hn,List.take_succ_cons,ho]
theorem left_at{listed:Array Bool}{n n1:Nat}(hs:listed.size=n)(h1:left listed n1=[])(hn:n1≤n)(hup:∀j,n1≤j→j<n→listed.getD j true=false):left listed n=List.range' n1 (n - n1):=by
 have e:List.range n=List.range n1++List.range' n1 (n - n1):=by
  obtain⟨d,rfl⟩:∃d,n=n1+d:=⟨n - n1,by omega⟩
  rw[Nat.add_sub_cancel_left,List.range_add,List.range'_eq_map_range]
 unfold left at h1 ⊢
 rw[e,List.filter_append,h1,List.nil_append]
 refine List.filter_eq_self.2 fun j hj=>?_
 have hj':=List.mem_range'_1.1 hj
 rw[hup j hj'.1 (by omega)]
 rfl
theorem Iq{u:fR}(hC:PlU u C){MC:FuncId→List MV→St→(MV→St→Prop)→Prop}(hMC:∀U σ,Dom U σ→∀g ms k,MC g ms σ k→gs U σ (fP P C g ms) fun v _ σ'=>k v σ'){K:FR→St→Prop}{l:List Oper}{f:FR}{σ:St}{Φ:Phi}{w:World}(hi:Inv Φ w σ)(h:cK P MC ops K l f σ):gl P C ops (fun f' _ σ'=>∃f'',FEq f' f''∧K f'' σ') l f (fun l=>Φ.obj l≠none) σ:=by
 refine Mb (C:=C) (MC:=MC) hMC (u:=u) hC l f _ σ (fun l hl q=>hl (hi.eD q)) ?_ h
 obtain⟨n,hn⟩:=hi.fresh.1.1
 exact⟨n,fun l hl q=>q (hn l hl)⟩
def NOk(P:Program)(MC:FuncId→List MV→St→(MV→St→Prop)→Prop)(ops:Array Oper)(post:List Oper)(Qx:Exit→Act→World→Prop)(N:Act→World→Prop):Prop :=
 ∀(K2:FR→St→Prop) (f2:FR) (σ2:St) (Φ2:Phi) (w2:World) (a2:Act),Inv Φ2 w2 σ2→cF Φ2 a2.tmps f2→cR Φ2 w2 a2.defers f2.d →
  (∀f3 σ3 Φ3 w3 a3,Inv Φ3 w3 σ3→cF Φ3 a3.tmps f3→cR Φ3 w3 a3.defers f3.d→Step Φ2 σ2 w2 Φ3 σ3 w3→K2 f3 σ3→Qx .normal a3 w3)→cK P MC ops K2 post f2 σ2→N a2 w2
def Et(F:Fence)(P:Program)(ops:Array Oper)(Qx:Exit→Act→World→Prop)(y:Oper)(a:Act)(w:World)(N:Act→World→Prop):Prop :=
 if Region.wanted y (yielded ops a.tmps) then y.wpIn F 0 P a w N Qx else(∀f,y.about P w a.eval=some f→F.fn f)∧N (a.put y.dst undef) w
theorem uB(hm:P.follows .mixedOrders=true)(u:fR)(hCu:PlU u C){MC:FuncId→List MV→St→(MV→St→Prop)→Prop}(hMC:∀U σ,Dom U σ→∀g ms k,MC g ms σ k→gs U σ (fP P C g ms) fun v _ σ'=>k v σ')(pre:List Oper)(y:Oper)(post:List Oper)(ho:ops=(pre++y::post).toArray)(hdef:∀o,o∈ops.toList→∀c,o.op≠.defer c)(hchk:nD ⟨[],[],none,u⟩ ops=true)(hg1:gate ops pre.length=true)(hg2:gate ops (pre.length+1)=true)
 {F:Fence}(hF:F=Fence.wide∨∃l0,F=Fence.wide.inRound l0){Qx:Exit→Act→World→Prop}{id:Nat}{f:FR}{σ:St}{Φ:Phi}{w:World}{a:Act}{K1:FR→St→Prop}(hi:Inv Φ w σ)(hr:cF Φ a.tmps f)(hd:cR Φ w a.defers f.d)
 (hy:∀f1 σ1 Φ1 w1 a1 N,Inv Φ1 w1 σ1→cF Φ1 a1.tmps f1→cR Φ1 w1 a1.defers f1.d→Step Φ σ w Φ1 σ1 w1→K1 f1 σ1→NOk P MC ops post Qx N→Et F P ops Qx y a1 w1 N)
 (h:cK P MC ops K1 pre f σ):(Code.region id ops true).wpIn F 0 P Qx a w:=by
 have hsz:ops.size=pre.length+1+post.length:=by rw[ho];simp;omega
 have hC:lL ⟨[],[],none,u⟩ (fun _ _=>True) C:=⟨hCu,trivial⟩
 have hD0:∀f,DOk ⟨[],[],none,u⟩ (fun _ _=>True) f:=fun f=>⟨fun t ht=>(by cases ht),fun t t' ht=>(by cases ht),fun p hp=>(by cases hp)⟩
 have hi':Inv Φ { w with drawn:=w.drawn+1 } σ:=⟨fun l o hl=>by
  have:=hi.own l o hl
  cases o<;>exact this,hi.inj,hi.snap,hi.apart,hi.fresh⟩
 have hst:Step Φ σ w Φ σ { w with drawn:=w.drawn+1 }:=⟨.refl Φ,rfl,rfl,rfl,iM (Nat.le_succ _),Nat.le_refl _,fun _ _ _=>rfl,fun _ _ h=>.inl h,fun l o h=>.inl ⟨o,h⟩,fun _ h=>.inl h⟩
 have yat:ops[pre.length]?=some y:=by rw[ho];simp
 refine wpIn_region_any hm (EA (C:=C) (K:=K1) hC hchk hF hdef (Φ0:=Φ) (σ0:=σ) (w0:=w) pre.length (by omega) hg1 ?_ ops.size _ f σ Φ _ a (by simp) ?_ ?_ (fun j _ hj=>by simp[hj]) hi' hr (hd.step hi hst) (hD0 f) hst ?_)
 ·intro fuel listed f1 σ1 Φ1 w1 a1 hnil hls hlen hcl hup i1 r1 d1 _ s1 k1
  have hleft:=left_at hls hnil (by omega) hup
  have hfuel:fuel=post.length+1:=by rw[←hlen,hleft,List.length_range'];omega
  subst hfuel
  have chk1:∀i oi,ops[i]?=some oi→∀e,e∈oi.after.toList→Region.binds .any e=true→e.on<i:=by
   intro i oi hoi e he hb
   have hlt:=(Array.getElem?_eq_some_iff.1 hoi).1
   have h:=hchk
   simp only[nD,Bool.and_eq_true] at h
   replace h:=h.2
   simp only[List.all_eq_true,List.mem_range] at h
   have h1:=h i hlt
   rw[hoi] at h1
   simp only[Bool.and_eq_true,List.all_eq_true,Bool.or_eq_true,Bool.not_eq_true',decide_eq_true_eq,List.mem_range] at h1
   rcases h1.1 e he with q|q
   ·rw[hb] at q;cases q
   ·exact q
  have hlow:∀j,j<pre.length→listed.getD j false=true:=fun j hj=>by
   refine Classical.byContradiction fun hq=>?_
   have hb2:j<listed.size:=by omega
   have:j∈left listed pre.length:=mem_left.2 ⟨hj,by
    cases hb:listed[j]'hb2
    ·simp[hb2,hb]
    ·simp[hb2,hb] at hq⟩
   rw[hnil] at this;cases this
  refine⟨fun hnone=>?_,fun i hrd=>?_⟩
  ·exfalso
   have hb2:pre.length<listed.size:=by omega
   have:pre.length∈Region.ready .any ops listed:=mem_ready.2 ⟨hup _ (Nat.le_refl _) (by omega),y,yat,fun e he hb=>hlow _ (chk1 _ _ yat e (by simpa using he) hb)⟩
   rw[hnone] at this;cases this
  ·obtain⟨h0,o,hoi,hpre⟩:=mem_ready.1 hrd
   have hio:i<ops.size:=(Array.getElem?_eq_some_iff.1 hoi).1
   have hmask:∀j,((nO ops.toList []).getD i 0).testBit j=true→listed.getD j false=true:=fun j q =>
    oB (L:=fun i=>listed.getD i false=true) ops.toList [] [] rfl (by simpa using hcl) (fun i hi j hj=>by simp at hj) i (.inr ⟨o,by simpa using hoi,fun e he hb=>hpre e (by simpa using he) hb⟩) j q
   have hge:pre.length≤i:=by
    refine Classical.byContradiction fun hlt=>?_
    have:=hlow i (by omega)
    have hb2:i<listed.size:=by omega
    simp[hb2] at this h0
    rw[this] at h0;cases h0
   have hle:i≤pre.length:=by
    refine Classical.byContradiction fun hgt=>?_
    have:=hmask pre.length (ES hg2 hio (by omega) (Nat.lt_succ_self _))
    have q:=hup pre.length (Nat.le_refl _) (by omega)
    have hb2:pre.length<listed.size:=by omega
    simp[hb2] at this q
    rw[this] at q;cases q
   have hii:i=pre.length:=by omega
   subst hii
   rw[yat] at hoi;cases hoi
   unfold wpOpIn
   rw[yat]
   refine hy f1 σ1 Φ1 w1 a1 _ i1 r1 d1 s1 k1 ?_
   intro K2 f2 σ2 Φ2 w2 a2 i2 r2 d2 hfin h2
   have hup2:∀j,pre.length+1≤j→j<ops.size→(listed.setIfInBounds pre.length true).getD j true=false:=fun j h1 h2=>by
    have hne:pre.length≠j:=by omega
    rw[←hup j (by omega) h2]
    simp[Array.getElem?_setIfInBounds_ne hne]
   have hl2:left (listed.setIfInBounds pre.length true) ops.size=List.range' (pre.length+1) post.length:=by
    rw[left_at (n1:=pre.length+1) (by simpa using hls) ?_ (by omega) hup2,hsz]
    ·congr 1;omega
    ·rw[xI (by omega)]
     rw[List.eq_nil_iff_forall_not_mem]
     intro j hj
     obtain⟨q1,q2⟩:=List.mem_filter.1 hj
     obtain⟨q3,q4⟩:=mem_left.1 q1
     have hjn:j≠pre.length:=by simpa using q2
     have:j∈left listed pre.length:=mem_left.2 ⟨by omega,q4⟩
     rw[hnil] at this;cases this
   refine EA (C:=C) (K:=K2) hC hchk hF hdef (Φ0:=Φ2) (σ0:=σ2) (w0:=w2) ops.size (Nat.le_refl _) (List.all_eq_true.2 fun i hi=>by simp at hi;simp[hi]) ?_ post.length _ f2 σ2 Φ2 w2 a2 (by simpa using hls) (by rw[hl2,List.length_range']) ?_ (fun j h1 h2=>by omega) i2 r2 d2 (hD0 f2) (.refl _ _ _) ?_
   ·intro fuel listed3 f3 σ3 Φ3 w3 a3 hnil3 hls3 hlen3 _ _ i3 r3 d3 _ s3 k3
    rw[hnil3] at hlen3
    simp at hlen3
    subst hlen3
    refine⟨?_,hfin f3 σ3 Φ3 w3 a3 i3 r3 d3 s3 k3⟩
    rw[List.eq_nil_iff_forall_not_mem]
    intro i hi
    obtain⟨q1,o,q2,-⟩:=mem_ready.1 hi
    have:i∈left listed3 ops.size:=mem_left.2 ⟨(Array.getElem?_eq_some_iff.1 q2).1,q1⟩
    rw[hnil3] at this;cases this
   ·intro k ok hk hlk e hek hb
    by_cases hki:k=pre.length
    ·subst hki
     rw[yat] at hk;cases hk
     exact getD_set_true (hpre e (by simpa using hek) hb)
    ·have:listed.getD k false=true:=by rw[←hlk,getD_set_ne _ (Ne.symm hki)]
     exact getD_set_true (hcl k ok hk this e hek hb)
   ·rw[hl2]
    have e:opsOf ops (List.range' (pre.length+1) post.length)=post:=by
     rw[ho,DZ]
     simp
    rw[e]
    exact Iq hCu hMC i2 h2
 ·rw[xH (Nat.le_refl _)];simp
 ·intro i o ho hl
  simp only[Array.getD_eq_getD_getElem?,Array.getElem?_replicate] at hl
  split at hl<;>simp at hl
 ·rw[xH (by omega)]
  have e:opsOf ops (List.range pre.length)=pre:=by
   rw[ho,BG _ _ (by simp)]
   simp
  rw[e]
  exact Iq hCu hMC hi h
theorem Hb(hm:P.follows .mixedOrders=true)(C:b9)(pre:List Oper)(y:Oper)(post:List Oper)(ho:ops=(pre++y::post).toArray)(hdef:tI (pre++y::post)=true)(hchk:(chk ops&&gate ops pre.length&&gate ops (pre.length+1))=true){id:Nat}{f:FR}{σ:St}{Q:MQ}
 (h:l9 P C ops (fun f1 σ1=>eO ops f1 y (iH P f1 σ1 y.dst (fun f' σ'=>l9 P C ops (Q .normal) post f' σ') y.op) (l9 P C ops (Q .normal) post (bB f1 y.dst (.tup [])) σ1)) pre f σ):mwp P (.region id ops true) f σ Q:=by
 intro F hF Φ w a hi hr hd
 simp only[Bool.and_eq_true] at hchk
 have hF':F=Fence.wide∨∃l0,F=Fence.wide.inRound l0:=Or.imp (fun q=>q) (fun⟨l0,e,_⟩=>⟨l0,e⟩) hF
 have hfn:∀g,F.fn g:=fun g=>by rcases hF' with rfl|⟨l,rfl⟩<;>trivial
 have hdef':∀o,o∈ops.toList→∀c,o.op≠.defer c:=fun o h=>k6 hdef o (by rw[ho] at h;simpa using h)
 refine uB (C:=C.pl) (MC:=qC P C) hm .no C.Mf.u (fun _ _ hd _ _ _ h=>EW hd h) pre y post ho hdef' hchk.1.1 hchk.1.2 hchk.2 hF' hi hr hd ?_ h
 intro f1 σ1 Φ1 w1 a1 N i1 r1 d1 s1 k1 hN
 have hyd:∀c,y.op≠.defer c:=hdef' y (by rw[ho];simp)
 have hFo:F=Fence.wide∨∃l0,F=Fence.wide.inRound l0∧∀c,y.op≠.defer c:=hF'.imp (fun q=>q) fun⟨l0,e⟩=>⟨l0,e,hyd⟩
 unfold Et
 rcases cD k1 r1 with⟨hw,hk⟩|⟨hw,hk⟩
 ·rw[if_pos hw]
  refine fO hFo (jZ hyd hk Φ1 w1 a1 _ _ i1 r1 fun v mv σ' Φ' w' r2 i2 s2 hk2=>?_)
  exact hN (Q .normal) _ σ' Φ' w' (a1.put y.dst v) i2 (cG (r1.mono s2.le) y.dst r2) (by rw[bM,dQ];exact d1.step i1 s2) (fun f3 σ3 Φ3 w3 a3 i3 r3 d3 s3 k3=>⟨f3,σ3,Φ3,d3,r3,i3,s1.trans (s2.trans s3),k3⟩) hk2
 ·rw[if_neg (by simp[hw])]
  exact⟨fun f _=>hfn f,hN (Q .normal) _ σ1 Φ1 w1 (a1.put y.dst undef) i1 (cG r1 y.dst eR) (by rw[bM,dQ];exact d1) (fun f3 σ3 Φ3 w3 a3 i3 r3 d3 s3 k3=>⟨f3,σ3,Φ3,d3,r3,i3,s1.trans s3,k3⟩) hk⟩
theorem HT{C:YC}(hm:P.follows .mixedOrders=true)(L:List FuncId)(D:b9)(hDu:PlU (.these L) D)(pre:List Oper)(y:Oper)(post:List Oper)(ho:ops=(pre++y::post).toArray)(hdef:tI (pre++y::post)=true)(hchk:(nD ⟨[],[],none,.these L⟩ ops&&gate ops pre.length&&gate ops (pre.length+1))=true){id:Nat}{f:FR}{σ:St}{t:Option Nat}{Q:YQ}
 {o:Operand}{args:Array Operand}{ts:Array TypeId}(hy:y.op=.call ⟨.value o,args,ts⟩)(hspec:lN P C.l C.xs C.Y C.Yx C.Φ0 C.σ0 C.n0)
 (h:cK P (eA P D) ops (fun f1 σ1=>eO ops f1 y (∃i x,t=some i∧C.xs[i]?=some x∧(∀m,m∈x→gJ m)∧aE f1 o=.fn (.yield C.l) [] []∧args.toList.map (aE f1)=x ∧
    cK P (eA P D) ops (fun f2 σ2=>Q .normal f2 σ2 (some (i+1))) post (bB f1 y.dst (.bool true)) σ1∧cK P (eA P D) ops (fun f2 σ2=>Q .normal f2 σ2 none) post (bB f1 y.dst (.bool false)) σ1)
   (cK P (eA P D) ops (fun f2 σ2=>Q .normal f2 σ2 t) post (bB f1 y.dst (.tup [])) σ1)) pre f σ):ywp P C (.region id ops true) f σ t Q:=by
 intro F hF Φ w a S hi hr hd
 simp only[Bool.and_eq_true] at hchk
 have hF':F=Fence.wide∨∃l0,F=Fence.wide.inRound l0:=Or.imp (fun q=>q) (fun⟨l0,e,_⟩=>⟨l0,e⟩) hF
 have hfn:∀g,F.fn g:=fun g=>by rcases hF' with rfl|⟨l,rfl⟩<;>trivial
 have hdep:=hF.depth
 have hdef':∀o,o∈ops.toList→∀c,o.op≠.defer c:=fun o h=>k6 hdef o (by rw[ho] at h;simpa using h)
 refine uB (C:=D) (MC:=eA P D) hm (.these L) hDu (fun _ _ hd _ _ _ h=>AO hd h) pre y post ho hdef' hchk.1.1 hchk.1.2 hchk.2 hF' hi.inv hr hd ?_ h
 intro f1 σ1 Φ1 w1 a1 N i1 r1 d1 s1 k1 hN
 have hi1:=hi.go i1 s1
 unfold Et
 rcases cD k1 r1 with⟨hw,hk⟩|⟨hw,hk⟩
 ·rw[if_pos hw]
  obtain⟨i,x,rfl,hx,hno,hv,hargs,ht,hfl⟩:=hk
  have rv:=aL r1 o
  rw[hv] at rv
  obtain⟨first,cap,he,h1,h2⟩:=rv.kZ
  have e1:first=#[]:=Array.eq_empty_of_size_eq_zero (by simpa using h1.1)
  have e2:cap=#[]:=Array.eq_empty_of_size_eq_zero (by simpa using h2.1)
  subst e1 e2
  have hrels:=jM r1 args
  rw[hargs] at hrels
  obtain⟨Ψ,hΨ⟩:∃Ψ:Phi,Ψ=⟨Φ1.snap,fun _=>none,0⟩:=⟨_,rfl⟩
  have hrels':fE Ψ (args.map a1.eval) x:=⟨hrels.1,fun j m hm=>by
   subst hΨ
   exact gJ.rel (Φ:=Φ1) (Φ':=⟨Φ1.snap,fun _=>none,0⟩) (fun _ _ q=>q) (hno m (List.mem_of_getElem? hm)) (hrels.2 j m hm)⟩
  obtain⟨fn,tmps,assign,body,hrun,hround⟩:=hspec i x S w1 Ψ (args.map a1.eval) hx hi1.st hi1.apt.agree hi1.size (fun m=>by subst hΨ;rfl) (fun b v q=>by
   subst hΨ
   exact⟨i1.snap b v q,hi1.apt.snap b v q,hi1.snapn b v q⟩) hrels'
  have hsem:(y.semAt F.round a1.eval).run P w1=.ok (.round C.l fn tmps assign body) w1:=by
   rw[Oper.semAt_eq _ _ _ (by rw[hy];intro c e;cases e)]
   unfold execOp
   simp only[hy,resolve,he,Deferred.ofValue,Sem.run_bind,Sem.run_pure,Result.andThen_ok,invoke,Array.empty_append,Array.append_empty]
   exact hrun
  refine⟨fun g _=>hfn g,?_⟩
  rw[hsem]
  refine⟨(fun q=>by rw[hdep] at q;cases q),?_⟩
  refine(nS hF' hround).mono ?_
  rintro e w2 ⟨b,S',rfl,hS1,hS2,hS3,hS4,hS5,hS6,hS7,hS8,hS9,hS10,hS11⟩
  -- our own side is as it was
  have ow:∀k,aQ Φ1 σ1 k→w2.heap[k]?=w1.heap[k]?:=fun k hk=>by
   refine hS8 k ?_ fun q=>hi1.apt.own k q hk
   obtain⟨l,ob,p,q1,q2,q3⟩:=hk
   obtain⟨p',e,hlt⟩:=(i1.own l ob q1).place
   rw[q2] at e;cases e
   exact hlt k q3
  have i2:Inv Φ1 w2 σ1:=⟨fun l ob hl=>(i1.own l ob hl).mono (.refl _) fun p R q1 q2=>ow R ⟨l,ob,p,hl,q1,q2⟩,i1.inj,fun c v q=>by
    have hb:=World.block_lt_of_cell? w1 c (i1.snap c v q)
    rw[World.dI (hS8 c.block hb (hi1.apt.snap c v q))]
    exact i1.snap c v q,i1.apart,i1.fresh⟩
  have apt2:Apt Φ1 σ1 S' w2:=by
   have lt1:∀k,aQ Φ1 σ1 k→k<w1.heap.size:=fun k ⟨l,ob,p,q1,q2,q3⟩=>by
    obtain⟨p',e,hlt⟩:=(i1.own l ob q1).place
    rw[q2] at e;cases e
    exact hlt k q3
   refine⟨hS2,fun k hk ho=>?_,fun c v q ho=>?_,fun c v q hk=>?_⟩
   ·rcases hS9 k hk with q|q
    ·exact hi1.apt.own k q ho
    ·have:=lt1 k ho;omega
   ·rcases hS10 c v q with q|q|q|q
    ·exact hi1.apt.snown c v q ho
    ·exact hi1.apt.own _ q ho
    ·have:=lt1 _ ho;omega
    ·subst hΨ
     obtain⟨l,ob,p,q1,q2,q3⟩:=ho
     exact i1.apart l ob p c.block c v q1 q2 q3 q rfl
   ·rcases hS9 _ hk with p|p
    ·exact hi1.apt.snap c v q p
    ·have:=World.block_lt_of_cell? w1 c (i1.snap c v q);omega
  have st2:cT Φ1 σ1 w1 S Φ1 σ1 w2 S':=⟨.refl _,hS3,hS4,hS5,hS6,hS7,fun k hk _ hw=>hS8 k hk hw,fun c v q=>.inl q,fun R q=>.inl q,hS9,fun c v q=>by
   subst hΨ
   rcases hS10 c v q with q|q|q|q
   ·exact .inl q
   ·exact .inr (.inl q)
   ·exact .inr (.inr (.inl q))
   ·exact .inr (.inr (.inr (.inl q)))⟩
  have d2:cR Φ1 w2 a1.defers f1.d:=d1.mono (.refl _) hS7 fun D hD=>by
   rw[hS8 D (Array.getElem?_eq_some_iff.1 hD).1 (fun q=>hi1.apt.agree.nomark D q _ ((hi1.apt.agree.same D q).symm.trans hD))]
   exact hD
  have go:∀(b:Bool) (t':Option Nat),C.st t' S'→cK P (eA P D) ops (fun f2 σ2=>Q .normal f2 σ2 t') post (bB f1 y.dst (.bool b)) σ1→N (a1.put y.dst (.bool b)) w2:=by
   intro b t' hst hm
   have hyi:gN C Φ1 σ1 w2 S' t':=⟨i2,apt2,hi1.snapn,hi1.ownd,Nat.le_trans hi1.size hS7,hst⟩
   exact hN (fun f2 σ2=>Q .normal f2 σ2 t') _ σ1 Φ1 w2 (a1.put y.dst (.bool b)) i2 (cG r1 y.dst (.bool b)) (by rw[bM,dQ];exact d2)
    (fun f3 σ3 Φ3 w3 a3 i3 r3 d3 s3 k3=>⟨f3,σ3,t',Φ3,S',hyi.go i3 s3,r3,d3,((cT.of S s1).trans st2).trans (.of S' s3),k3⟩) hm
  cases b with
  | true=>exact go true (some (i+1)) (by rw[if_pos rfl] at hS11;exact hS11) ht
  | false=>exact go false none (by rw[if_neg (by decide)] at hS11;exact hS11) hfl
 ·rw[if_neg (by simp[hw])]
  exact⟨fun f _=>hfn f,hN (fun f2 σ2=>Q .normal f2 σ2 t) _ σ1 Φ1 w1 (a1.put y.dst undef) i1 (cG r1 y.dst eR) (by rw[bM,dQ];exact d1) (fun f3 σ3 Φ3 w3 a3 i3 r3 d3 s3 k3=>⟨f3,σ3,t,Φ3,S,hi1.go i3 s3,r3,d3,(cT.of S s1).trans (.of S s3),k3⟩) hk⟩
theorem dW{id:Nat}{l:List Oper}{f:FR}{σ:St}{Q:MQ}(hm:P.follows .mixedOrders=true)(C:b9)(pre:List Oper){dst:Option Tmp}{op:Op}{ty:TypeId}{pos:String}{after:Array Edge}(post:List Oper)(ho:l=pre++⟨dst,op,ty,pos,after,none⟩::post)
 (hchk:(tI l&&(chk l.toArray&&gate l.toArray pre.length&&gate l.toArray (pre.length+1)))=true)
 (h:R (l9 P C (@OfNat.ofNat (Array Oper) (nat_lit 0) (@_root_.id (OfNat (Array Oper) (nat_lit 0)) (OfNat.mk (l.toArray)))) (fun f1 σ1=>iH P f1 σ1 dst (fun f' σ'=>l9 P C (@OfNat.ofNat (Array Oper) (nat_lit 0) (@_root_.id (OfNat (Array Oper) (nat_lit 0)) (OfNat.mk (l.toArray)))) (Q .normal) (@OfNat.ofNat (List Oper) (nat_lit 0) (@_root_.id (OfNat (List Oper) (nat_lit 0)) (OfNat.mk post))) f' σ') op)
   (@OfNat.ofNat (List Oper) (nat_lit 0) (@_root_.id (OfNat (List Oper) (nat_lit 0)) (OfNat.mk pre))) f σ)):R (qZ P id (@OfNat.ofNat (List Oper) (nat_lit 0) (@_root_.id (OfNat (List Oper) (nat_lit 0)) (OfNat.mk l))) f σ Q):=by
 rw[Bool.and_eq_true] at hchk
 exact Hb hm C pre ⟨dst,op,ty,pos,after,none⟩ post (by rw[←ho]) (by rw[←ho];exact hchk.1) hchk.2 h
end
end

section
section
variable {P:Program} {C:YC} {f:FR} {σ:St} {t:Option Nat} {Q:YQ}
def L5(C:YC)(t:Option Nat)(o:MV)(args:List MV)(A:Nat→Prop)(B:Prop):Prop :=
 ∃i x,t=some i∧C.xs[i]?=some x∧(∀m,m∈x→gJ m)∧o=.fn (.yield C.l) [] []∧args=x∧A i∧B
theorem Cp{o:MV}{args:List MV}{A:Nat→Prop}{B:Prop}{i:Nat}(ht:t=some i)(hx:C.xs[i]?=some args)(hno:∀m,m∈args→gJ m)(ho:o=.fn (.yield C.l) [] [])(hA:R (A i))(hB:R B):R (L5 C t o args A B) :=
 ⟨i,args,ht,hx,hno,ho,rfl,hA,hB⟩
theorem Ex{id:Nat}{l:List Oper}(hm:P.follows .mixedOrders=true)(L:List FuncId)(D:b9)(hDu:PlU (.these L) D)(pre:List Oper){dst:Option Tmp}{o:Operand}{args:Array Operand}{ts:Array TypeId}{ty:TypeId}{pos:String}{after:Array Edge}{j:Nat}(post:List Oper)
 (ho:l=pre++⟨dst,.call ⟨.value o,args,ts⟩,ty,pos,after,some (j,true)⟩::post)(hchk:(tI l&&(nD ⟨[],[],none,.these L⟩ l.toArray&&gate l.toArray pre.length&&gate l.toArray (pre.length+1)))=true)(hspec:lN P C.l C.xs C.Y C.Yx C.Φ0 C.σ0 C.n0)
 (h:R (cK P (eA P D) (@OfNat.ofNat (Array Oper) (nat_lit 0) (@_root_.id (OfNat (Array Oper) (nat_lit 0)) (OfNat.mk (l.toArray)))) (fun f1 σ1=>bP (E (C7 f1 (kU (@OfNat.ofNat (List Oper) (nat_lit 0) (@_root_.id (OfNat (List Oper) (nat_lit 0)) (OfNat.mk l))) j))) true
    (L5 C t (E (aE f1 o)) (E (args.toList.map (aE f1)))
     (fun i=>cK P (eA P D) (@OfNat.ofNat (Array Oper) (nat_lit 0) (@_root_.id (OfNat (Array Oper) (nat_lit 0)) (OfNat.mk (l.toArray)))) (fun f2 σ2=>Q .normal f2 σ2 (some (i+1))) (@OfNat.ofNat (List Oper) (nat_lit 0) (@_root_.id (OfNat (List Oper) (nat_lit 0)) (OfNat.mk post))) (bB f1 dst (.bool true)) σ1)
     (cK P (eA P D) (@OfNat.ofNat (Array Oper) (nat_lit 0) (@_root_.id (OfNat (Array Oper) (nat_lit 0)) (OfNat.mk (l.toArray)))) (fun f2 σ2=>Q .normal f2 σ2 none) (@OfNat.ofNat (List Oper) (nat_lit 0) (@_root_.id (OfNat (List Oper) (nat_lit 0)) (OfNat.mk post))) (bB f1 dst (.bool false)) σ1))
    (cK P (eA P D) (@OfNat.ofNat (Array Oper) (nat_lit 0) (@_root_.id (OfNat (Array Oper) (nat_lit 0)) (OfNat.mk (l.toArray)))) (fun f2 σ2=>Q .normal f2 σ2 t) (@OfNat.ofNat (List Oper) (nat_lit 0) (@_root_.id (OfNat (List Oper) (nat_lit 0)) (OfNat.mk post))) (bB f1 dst (.tup [])) σ1))
   (@OfNat.ofNat (List Oper) (nat_lit 0) (@_root_.id (OfNat (List Oper) (nat_lit 0)) (OfNat.mk pre))) f σ)):R (ywp P C (.region id l.toArray true) f σ t Q):=by
 rw[Bool.and_eq_true] at hchk
 refine HT hm L D hDu pre ⟨dst,.call ⟨.value o,args,ts⟩,ty,pos,after,some (j,true)⟩ post (by rw[←ho]) (by rw[←ho];exact hchk.1) hchk.2 rfl hspec ?_
 have e:∀(f1:FR) (A B:Prop),eO l.toArray f1 ⟨dst,.call ⟨.value o,args,ts⟩,ty,pos,after,some (j,true)⟩ A B=bP (C7 f1 (kU l j)) true A B:=fun f1 A B=>by
  simp only[eO,yN]
  cases kU l j<;>rfl
 simp only[e]
 exact h
end
end
end Go.Proofs.YtaojijkdamfbnaaGreatDoor
