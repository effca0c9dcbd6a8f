/- Parts of the proof, joined; conditions: those that its theorems name. -/
import Derived.Test.YtaojijkdamfbnaaGreatDoorMck
import Derived.Test.YtaojijkdamfbnaaGreatDoorMcl
set_option linter.unusedVariables false
set_option linter.unusedSimpArgs false
set_option maxHeartbeats 4000000
namespace Go.Proofs.YtaojijkdamfbnaaGreatDoor
section
class Sfx (bs:BL) (r:RD):Prop where
 h:r.l <:+ bs
instance {bs:BL} {c:Prop} [Decidable c] {r s:RD} [h:Sfx bs r] [k:Sfx bs s]:Sfx bs (if c then r else s):=by
 split
 ·exact h
 ·exact k
theorem Sfx.len{bs:BL}{r:RD}(h:Sfx bs r):r.l.length≤bs.length:=h.h.length_le
theorem Sfx.drop{bs:BL}{r:RD}(h:Sfx bs r):bs.drop (bs.length - r.l.length)=r.l:=by
 obtain⟨a,e⟩:=h.h
 rw[←e]
 simp
theorem rX{P:Program}{g:FuncId}{ms:List MV}{σ:St}{l:Nat}{o o':aX}{r:MV}{k:MV→St→Prop}(hs:σ l=some o)(h:aA P g ms (St.none.set l o) fun v σ'=>v=r∧σ'=St.none.set l o')(hk:R (bU r (σ.set l o') k)):R (dZ P g ms σ k):=by
 refine cL h (St.aH (St.none_le _) hs) ?_
 rintro v σ' ⟨rfl,rfl⟩ -
 have e:(St.none.set l o').over (σ.minus (St.none.set l o))=σ.set l o':=by
  funext j
  by_cases h:j=l
  ·subst h;simp[St.over,St.set]
  ·simp[St.over,St.set,St.minus,h,St.none]
 rw[e]
 exact hk
def MF(l:List (Nat × MV))(e k:Nat):List (Nat × MV)→Prop
 | []=>True
 | p::r=>(b9 l p.1=p.2∨(p.2=.vec e k 0 0∧(b9 l p.1=.bC∨b9 l p.1=.lst e [] true)))∧MF l e k r
theorem BY{l:List (Nat × MV)}{e k:Nat}:∀{l1:List (Nat × MV)},MF l e k l1→∀p,p∈l1→b9 l p.1=p.2∨(p.2=.vec e k 0 0∧(b9 l p.1=.bC∨b9 l p.1=.lst e [] true))
 | [],_,p,hp=>absurd hp (List.not_mem_nil)
 | q::r,h,p,hp=>by
  rcases List.mem_cons.1 hp with rfl|hp
  ·exact h.1
  ·exact BY h.2 p hp
theorem Gh.uA{n:Nat}{l:List (Nat × MV)}{d:List (FuncId × List MV)}{σ:St}{K:FR→St→Prop}(t:TypeId)(e:Nat)(l1:Nat→List (Nat × MV))(h1:∀k,MF l e k (l1 k))
 (h:∀k,σ k=none→Gh ⟨n,l1 k,d⟩ (σ.set k (.row t e [])) K):Gh ⟨n,l,d⟩ σ K:=Gh.row t e l1 (fun k=>BY (h1 k)) h
theorem aA.obj{P:Program}{g:FuncId}{ms:List MV}{σ:St}{X:MV}{l:Nat}{o:aX}(h:aA P g ms σ fun v σ'=>v=X∧σ' l=some o):aA P g ms σ fun v σ'=>v=X∧σ'=St.none.set l o :=
 h.less fun v σ' k=>⟨St.none.set l o,St.aH (St.none_le _) k.2,k.1,rfl⟩
end

section
inductive Fk:Prop→Prop→Prop→Prop
 | i {c A B:Prop}:Fk (R (mif c A B)) (c→R A) (¬c→R B)
 | f {p:Prop} [Decidable p] {A B:Prop}:Fk (R (iH (.bool (decide p)) A B)) (p→R A) (¬p→R B)
 | g {p:Prop} [Decidable p] {A B:Prop}:Fk (R (bM (.bool (decide p)) true A B)) (p→R A) (¬p→R B)
 | h {p:Prop} [Decidable p] {A B:Prop}:Fk (R (bM (.bool (decide p)) false A B)) (¬p→R A) (p→R B)
theorem wK{p a b:Prop}(h1:a)(h2:b)(e:Fk p a b:=by first|exact .i|exact .f|exact .g|exact .h):p:=by
 cases e
 ·exact wI h1 h2
 ·exact wF h1 h2
 ·exact wG h1 h2
 ·exact wH h1 h2
inductive Fb:Prop→Prop→Prop→Prop
 | b {b:Bool} {A B:Prop}:Fb (R (iH (.bool b) A B)) (b=true→R A) (b=false→R B)
 | g {b want:Bool} {A B:Prop}:Fb (R (bM (.bool b) want A B)) (b=want→R A) (b=(!want)→R B)
theorem wB{p a b:Prop}(h1:a)(h2:b)(e:Fb p a b:=by first|exact .b|exact .g):p:=by
 cases e
 ·exact aE h1 h2
 ·exact aD h1 h2
theorem wE{id:Nat}{l:List Oper}{f:FR}{σ:St}{Q:MQ}(h:R (l6 Tryz.prog (fun _ _=>none) (@OfNat.ofNat (Array Oper) (nat_lit 0) (@_root_.id (OfNat (Array Oper) (nat_lit 0)) (OfNat.mk (l.toArray)))) (Q .normal) (@OfNat.ofNat (List Oper) (nat_lit 0) (@_root_.id (OfNat (List Oper) (nat_lit 0)) (OfNat.mk l))) f σ))
 (hchk:(chk l.toArray&&l.all fun o=>k7 o.op)=true:=by decide +kernel):R (qV Tryz.prog id (@OfNat.ofNat (List Oper) (nat_lit 0) (@_root_.id (OfNat (List Oper) (nat_lit 0)) (OfNat.mk l))) f σ Q):=wD hchk h
inductive Up (l:Nat) (o o':aX):St→St→Prop
 | u0 {σ:St}:Up l o o' (σ.set l o) (σ.set l o')
 | u1 {σ:St} {j:Nat} {oj:aX} (h:j≠l):Up l o o' ((σ.set l o).set j oj) ((σ.set l o').set j oj)
 | u2 {σ:St} {j i:Nat} {oj oi:aX} (h:j≠l) (h1:i≠l):Up l o o' (((σ.set l o).set j oj).set i oi) (((σ.set l o').set j oj).set i oi)
 | u3 {σ:St} {j i m:Nat} {oj oi om:aX} (h:j≠l) (h1:i≠l) (h2:m≠l):Up l o o' ((((σ.set l o).set j oj).set i oi).set m om) ((((σ.set l o').set j oj).set i oi).set m om)
theorem FXs:(type_of% @EC)∧(type_of% @bS)∧(type_of% @cA)∧(type_of% @EB)∧(type_of% @fW)∧(type_of% @Ew)∧(type_of% @Ay)∧(type_of% @EA)∧(type_of% @As)∧(type_of% @kR)∧(type_of% @B8)∧(type_of% @uL)∧(type_of% @AE)∧(type_of% @sN)∧(type_of% @nI)∧(type_of% @wO)∧(type_of% @Ey)∧(type_of% @Ez)∧(type_of% @x9)∧(type_of% @Ex)∧(∀{f:F8} {i:Nat} {v:VA} (h:i<8),(f.set i v).get i=v) :=
 ⟨EC,bS,cA,EB,fW,Ew,Ay,EA,As,kR,B8,uL,AE,sN,nI,wO,Ey,Ez,x9,Ex,F8.Ky⟩
theorem FYs:(type_of% FXs)∧(type_of% @CL)∧(type_of% @Ax)∧(∀{α:Type} (l:List α),l++[]=l)∧(∀{α:Type} (l:List α),l.take 0=[])∧(type_of% NV)∧(∀{α:Type} (a:α) (l r:List α),a::l++r=a::(l++r))∧(∀{α:Type} (l:List α),[]++l=l) :=
 ⟨FXs,CL,Ax,List.append_nil,fun _=>List.take_zero,NV,fun _ _ _=>List.cons_append,List.nil_append⟩
end

section
def hasB(s:Nat)(n:Int):Bool:=decide (0≤n∧n≤31∧s / 2 ^ n.toNat % 2=1)
theorem Ib(s:Nat)(k:Nat):s / 2 ^ k / 2=s / 2 ^ (k+1):=by
 rw[Nat.pow_succ,Nat.div_div_eq_div_mul]
set_option maxHeartbeats 2000000 in
theorem mX (s:Nat) (n:Int) (h1:s<4294967296):aA Tryz.prog 100 [.int .u32 (s:Int),.int .i64 n] St.none (fun r _=>r=.bool (hasB s n)):=by
 refine(aA.body 22 [.tmp 4] Tryz.func100 rfl rfl rfl rfl ?_)
 by_cases hn:n<0∨31<n
 ·repeat' (first|(with_reducible first|(refine wN fun nl hnl=>?_;revert hnl;(repeat refine wS fun _ _=>?_);intro hnl)|refine wD (by decide +kernel) ?_|refine wI (fun h=>?_) fun h=>?_|refine wF (fun h=>?_) fun h=>?_|refine wG (fun h=>?_) fun h=>?_|refine wH (fun h=>?_) fun h=>?_|((first|refine aE (fun h=>?_) fun h=>?_|refine aD (fun h=>?_) fun h=>?_)<;>simp only[h]))|simp(maxSteps:=4000000) (disch:=first|exact ddL|fail) only[go_sem,simprocAttr,Tryz.f100])
  all_goals simp only[hasB,MV.bool.injEq,Bool.false_eq,decide_eq_false_iff_not]
  all_goals omega
 ·obtain⟨m,rfl⟩:∃m:Nat,n=m:=⟨n.toNat,by omega⟩
  repeat' (first|(with_reducible first|(refine wN fun nl hnl=>?_;revert hnl;(repeat refine wS fun _ _=>?_);intro hnl)|refine wD (by decide +kernel) ?_|refine wI (fun h=>?_) fun h=>?_|refine wF (fun h=>?_) fun h=>?_|refine wG (fun h=>?_) fun h=>?_|refine wH (fun h=>?_) fun h=>?_|((first|refine aE (fun h=>?_) fun h=>?_|refine aD (fun h=>?_) fun h=>?_)<;>simp only[h]))|simp(maxSteps:=4000000) (disch:=first|exact ddL|fail) only[go_sem,simprocAttr,Tryz.f100])
  refine aG (α:=Nat) (fun a=>⟨22,[(5,.int .i64 (a:Int)),(0,.int .u32 ((s / 2 ^ a:Nat):Int)),(1,.int .i64 (m:Int))],[]⟩) (fun _=>St.none)
   (fun a=>a≤m) (fun a=>m - a) (.of (.less ?_ (St.le_refl _)) ⟨0,rfl,rfl,Nat.zero_le _⟩) ?_
  ·simp(maxSteps:=4000000) (disch:=first|exact ddL|fail) only[go_sem,simprocAttr,aC,aB,Nat.pow_zero,Nat.div_one]
   all_goals rfl
  ·intro k hk
   have hk:k≤m:=hk
   have hb:s / 2 ^ k<4294967296:=Nat.lt_of_le_of_lt (Nat.div_le_self ..) h1
   by_cases hlt:k<m
   ·repeat' (first|(with_reducible first|(refine wN fun nl hnl=>?_;revert hnl;(repeat refine wS fun _ _=>?_);intro hnl)|refine wD (by decide +kernel) ?_|refine wI (fun h=>?_) fun h=>?_|refine wF (fun h=>?_) fun h=>?_|refine wG (fun h=>?_) fun h=>?_|refine wH (fun h=>?_) fun h=>?_|((first|refine aE (fun h=>?_) fun h=>?_|refine aD (fun h=>?_) fun h=>?_)<;>simp only[h]))|simp(maxSteps:=4000000) (disch:=first|exact ddL|fail) only[go_sem,simprocAttr,Nat.add_zero])
    refine .of (.less (l1:=[(5,.int .i64 ((k+1:Nat):Int)),(0,.int .u32 ((s / 2 ^ (k+1):Nat):Int)),(1,.int .i64 (m:Int))]) ?_ (St.le_refl _)) ⟨k+1,rfl,rfl,by omega,by omega⟩
    rw[←Ib]
    have ew:IntKind.u32.wrap (((s / 2 ^ k:Nat):Int).tdiv 2)=((s / 2 ^ k / 2:Nat):Int):=by
     generalize s / 2 ^ k=w at hb ⊢
     have e2:((w:Int)).tdiv 2=((w / 2:Nat):Int):=by
      rw[Int.tdiv_eq_ediv_of_nonneg (by omega)]
      omega
     rw[e2]
     simp only[IntKind.wrap,IntKind.signed,IntKind.bits]
     simp
     omega
    simp(maxSteps:=4000000) (disch:=first|exact ddL|fail) only[go_sem,simprocAttr,aC,aB,ew]
    all_goals rfl
   ·have:k=m:=by omega
    subst this
    repeat' (first|(with_reducible first|(refine wN fun nl hnl=>?_;revert hnl;(repeat refine wS fun _ _=>?_);intro hnl)|refine wD (by decide +kernel) ?_|refine wI (fun h=>?_) fun h=>?_|refine wF (fun h=>?_) fun h=>?_|refine wG (fun h=>?_) fun h=>?_|refine wH (fun h=>?_) fun h=>?_|((first|refine aE (fun h=>?_) fun h=>?_|refine aD (fun h=>?_) fun h=>?_)<;>simp only[h]))|simp(maxSteps:=4000000) (disch:=first|exact ddL|fail) only[go_sem,simprocAttr])
    simp only[hasB,Int.toNat_natCast,MV.bool.injEq]
    have e2:(((s / 2 ^ k:Nat):Int).tmod 2)=((s / 2 ^ k % 2:Nat):Int):=by
     generalize s / 2 ^ k=w at hb ⊢
     rw[Int.tmod_eq_emod_of_nonneg (by omega)]
     omega
    refine decide_eq_decide.mpr ?_
    rw[e2]
    generalize s / 2 ^ k % 2=w
    omega
end

section
set_option maxRecDepth 100000
theorem AI{s:Nat}{i:Nat}(h:i<32):hasB s (i:Int)=bit s i:=by
 unfold hasB bit
 rw[Nat.testBit_eq_decide_div_mod_eq]
 refine decide_eq_decide.mpr ?_
 rw[Int.toNat_natCast]
 constructor
 ·exact fun h=>h.2.2
 ·exact fun k=>⟨by omega,by omega,k⟩
theorem xN(m:UInt32)(i:Nat)(h:i<32):aA Tryz.prog 100 [.int .u32 (m.toNat:Int),.int .i64 (i:Int)] St.none (fun r _=>r=.bool (bit m.toNat i)):=by
 have:=mX m.toNat (i:Int) m.toNat_lt
 rwa [AI h] at this
theorem DY(m:UInt32):aA Tryz.prog 99 [.int .u32 (m.toNat:Int)] St.none (fun r _=>r=.bool (bit m.toNat 8)):=by
 refine(aA.body 5 [.tmp 2] Tryz.func99 rfl rfl rfl rfl ?_)
 have h:=xN m 8 (by decide)
 repeat' (first|(with_reducible first|refine up h ?_)|(with_reducible first|(refine wN fun _ hnl=>?_;revert hnl;(repeat refine wS fun _ _=>?_);intro hnl)|refine wE ?_|(refine wK ?_ ?_<;>intro h)|(refine wB ?_ ?_<;>intro h<;>simp only[h]))|simp(maxSteps:=4000000) (disch:=first|exact ddL|fail) only[go_sem,simprocAttr,Tryz.f99])
 all_goals rfl
theorem zS(m:UInt32):aA Tryz.prog 37 [.int .u32 (m.toNat:Int)] St.none (fun r _=>r=.bool (decide (m.toNat≤511))):=by
 refine(aA.body 5 [.tmp 2] Tryz.func37 rfl rfl rfl rfl ?_)
 repeat' (first|(with_reducible first|(refine wN fun _ hnl=>?_;revert hnl;(repeat refine wS fun _ _=>?_);intro hnl)|refine wE ?_|(refine wK ?_ ?_<;>intro h)|(refine wB ?_ ?_<;>intro h<;>simp only[h]))|simp(maxSteps:=4000000) (disch:=first|exact ddL|fail) only[go_sem,simprocAttr,Tryz.f37])
 all_goals first|rfl|(refine decide_eq_decide.mpr ?_;omega)
end

section
set_option maxRecDepth 100000
set_option maxHeartbeats 4000000
theorem rZ{n:Nat}(h:n<4294967296):IntKind.u32.wrap (n:Int)=(n:Int):=by
 simp only[IntKind.wrap,IntKind.signed,IntKind.bits]
 simp
 omega
theorem Ag(a b:Nat)(ha:a<4294967296)(hb:b<4294967296):kK .u32 (a:Int) (b:Int)=((a &&& b:Nat):Int):=by
 have hab:a &&& b<4294967296:=Nat.lt_of_le_of_lt Nat.and_le_left ha
 unfold kK
 have e:(BitVec.ofInt IntKind.u32.bits (a:Int) &&& BitVec.ofInt IntKind.u32.bits (b:Int)).toNat=a &&& b:=by
  rw[BitVec.toNat_and]
  simp only[BitVec.ofInt_natCast,BitVec.toNat_ofNat,IntKind.bits]
  rw[Nat.mod_eq_of_lt (by omega),Nat.mod_eq_of_lt (by omega)]
 rw[e]
 exact rZ hab
theorem Ob(a b:Nat)(ha:a<4294967296)(hb:b<4294967296):orK .u32 (a:Int) (b:Int)=((a ||| b:Nat):Int):=by
 have hab:a ||| b<2 ^ 32:=Nat.or_lt_two_pow (by omega) (by omega)
 unfold orK
 have e:(BitVec.ofInt IntKind.u32.bits (a:Int) ||| BitVec.ofInt IntKind.u32.bits (b:Int)).toNat=a ||| b:=by
  rw[BitVec.toNat_or]
  simp only[BitVec.ofInt_natCast,BitVec.toNat_ofNat,IntKind.bits]
  rw[Nat.mod_eq_of_lt (by omega),Nat.mod_eq_of_lt (by omega)]
 rw[e]
 exact rZ hab
theorem HL(a b:Nat)(ha:a<4294967296)(hb:b<4294967296):oM .u32 (a:Int) (b:Int)=((a &&& (4294967295 - b):Nat):Int):=by
 have hab:a &&& (4294967295 - b)<4294967296:=Nat.lt_of_le_of_lt Nat.and_le_left ha
 unfold oM
 have e:(BitVec.ofInt IntKind.u32.bits (a:Int) &&& ~~~BitVec.ofInt IntKind.u32.bits (b:Int)).toNat=a &&& (4294967295 - b):=by
  rw[BitVec.toNat_and,BitVec.toNat_not]
  simp only[BitVec.ofInt_natCast,BitVec.toNat_ofNat,IntKind.bits]
  rw[Nat.mod_eq_of_lt (by omega),Nat.mod_eq_of_lt (by omega)]
 rw[e]
 exact rZ hab
theorem xL(n:Nat)(h:n<32):aA Tryz.prog 175 [.int .i64 (n:Int)] St.none (fun r _=>r=.int .u32 ((2 ^ n:Nat):Int)):=by
 refine(aA.body 12 [.tmp 2] Tryz.func175 rfl rfl rfl rfl ?_)
 repeat' (first|(with_reducible first|(refine wN fun _ hnl=>?_;revert hnl;(repeat refine wS fun _ _=>?_);intro hnl)|refine wE ?_|(refine wK ?_ ?_<;>intro h)|(refine wB ?_ ?_<;>intro h<;>simp only[h]))|simp(maxSteps:=4000000) (disch:=first|exact ddL|fail) only[go_sem,simprocAttr,Tryz.f175])
 rw[Nat.min_eq_left (by omega),Int.one_mul,show(2:Int) ^ n=((2 ^ n:Nat):Int) by simp]
 exact congrArg _ (rZ (Nat.pow_lt_pow_right (a:=2) (n:=32) (by decide) h))
theorem No(m:Nat)(h:m<4294967296):m &&& (4294967295 - 511)=0↔m≤511:=by
 have e:∀i,(4294967295 - 511:Nat).testBit i=(decide (9≤i)&&decide (i<32)):=by
  intro i
  by_cases hi:i<32
  ·have:∀i,i<32→(4294967295 - 511:Nat).testBit i=(decide (9≤i)&&decide (i<32)):=by decide
   exact this i hi
  ·rw[Nat.testBit_lt_two_pow (Nat.lt_of_lt_of_le (show 4294967295 - 511<2 ^ 32 by decide) (Nat.pow_le_pow_right (by decide) (by omega))),decide_eq_false hi,Bool.and_false]
 constructor
 ·intro h0
  refine Classical.byContradiction fun hn=>?_
  have h1:m / 2 ^ 9≠0:=by omega
  obtain⟨i,hi⟩:=Nat.exists_testBit_of_ne_zero h1
  rw[Nat.testBit_div_two_pow] at hi
  have hi32:i+9<32:=by
   refine Classical.byContradiction fun hc=>?_
   rw[Nat.testBit_lt_two_pow (Nat.lt_of_lt_of_le (show m<2 ^ 32 from h) (Nat.pow_le_pow_right (by decide) (by omega)))] at hi
   cases hi
  have h2:=congrArg (fun x=>Nat.testBit x (i+9)) h0
  simp only[Nat.testBit_and,Nat.zero_testBit,e,hi] at h2
  rw[decide_eq_true (by omega),decide_eq_true hi32] at h2
  cases h2
 ·intro hm
  refine Nat.eq_of_testBit_eq fun i=>?_
  rw[Nat.testBit_and,Nat.zero_testBit,e]
  by_cases hi:9≤i
  ·rw[Nat.testBit_lt_two_pow (Nat.lt_of_lt_of_le (show m<2 ^ 9 by omega) (Nat.pow_le_pow_right (by decide) hi)),Bool.false_and]
  ·rw[decide_eq_false hi,Bool.false_and,Bool.and_false]
theorem zN(m:UInt32):aA Tryz.prog 143 [.int .u32 (m.toNat:Int)] St.none (fun r _=>r=.bool (decide (m.toNat≤511))):=by
 refine(aA.body 5 [.tmp 2] Tryz.func143 rfl rfl rfl rfl ?_)
 have hm:=m.toNat_lt
 have h:aA Tryz.prog 184 [.int .u32 (m.toNat:Int),.int .u32 511] St.none (fun r _=>r=.bool (decide (m.toNat≤511))):=by
  refine(aA.body 9 [.tmp 4] Tryz.func184 rfl rfl rfl rfl ?_)
  have e:oM .u32 (m.toNat:Int) 511=_:=HL m.toNat 511 hm (by decide)
  repeat' (first|(with_reducible first|(refine wN fun _ hnl=>?_;revert hnl;(repeat refine wS fun _ _=>?_);intro hnl)|refine wE ?_|(refine wK ?_ ?_<;>intro h)|(refine wB ?_ ?_<;>intro h<;>simp only[h]))|simp(maxSteps:=4000000) (disch:=first|exact ddL|fail) only[go_sem,simprocAttr,Tryz.f184,e])
  exact decide_eq_decide.mpr ⟨fun h=>(No m.toNat hm).1 (by exact_mod_cast h),fun h=>by rw[(No m.toNat hm).2 h];rfl⟩
 repeat' (first|(with_reducible first|refine up h ?_)|(with_reducible first|(refine wN fun _ hnl=>?_;revert hnl;(repeat refine wS fun _ _=>?_);intro hnl)|refine wE ?_|(refine wK ?_ ?_<;>intro h)|(refine wB ?_ ?_<;>intro h<;>simp only[h]))|simp(maxSteps:=4000000) (disch:=first|exact ddL|fail) only[go_sem,simprocAttr,Tryz.f143])
theorem Ki(m k:Nat):m &&& 2 ^ k=if m.testBit k=true then 2 ^ k else 0:=by
 refine Nat.eq_of_testBit_eq fun i=>?_
 rw[Nat.testBit_and,Nat.testBit_two_pow]
 by_cases h:k=i
 ·subst h
  cases hb:m.testBit k
  ·simp
  ·simp[Nat.testBit_two_pow]
 ·cases m.testBit k
  ·simp[h]
  ·simp[h,Nat.testBit_two_pow]
theorem nZ(m:UInt32):aA Tryz.prog 97 [.int .u32 (m.toNat:Int)] St.none (fun r _=>r=.bool (bit m.toNat 8)):=by
 refine(aA.body 6 [.tmp 2] Tryz.func97 rfl rfl rfl rfl ?_)
 have hm:=m.toNat_lt
 have e:kK .u32 (m.toNat:Int) 256=_:=Ag m.toNat 256 hm (by decide)
 repeat' (first|(with_reducible first|(refine wN fun _ hnl=>?_;revert hnl;(repeat refine wS fun _ _=>?_);intro hnl)|refine wE ?_|(refine wK ?_ ?_<;>intro h)|(refine wB ?_ ?_<;>intro h<;>simp only[h]))|simp(maxSteps:=4000000) (disch:=first|exact ddL|fail) only[go_sem,simprocAttr,Tryz.f97,e])
 rw[show(256:Nat)=2 ^ 8 by decide,Ki]
 unfold bit
 cases m.toNat.testBit 8<;>rfl
def dbT:List Int:=[0,1,28,2,29,14,24,3,30,22,20,15,25,17,4,8,31,27,13,23,21,19,16,7,26,12,18,6,11,5,10,9]
def tzI(x:Nat):Int:=(IntKind.u32.wrap (kK IntKind.u32 (x:Int) (IntKind.u32.wrap (0 - (x:Int))) * 125613361)).fdiv (2 ^ min 27 32)
theorem J3:∀x:Nat,x<256→x≠0→0≤tzI x∧tzI x<32∧dbT[(tzI x).toNat]?=some (((bF x).headD 0:Nat):Int):=by decide +kernel
theorem LN(i:Nat):GT 0 i=(dbT[i]?).map (Value.int .u8):=by
 unfold GT
 rw[if_pos rfl,List.getElem?_map];rfl
theorem Kg{C:Prop}{v:MV}{σ:St}{k:MV→St→Prop}(hC:C)(hk:R (k v σ)):R (mpure σ k (some (C,v))):=⟨hC,hk⟩
theorem KA(x:Nat)(h:x<256)(h0:x≠0):CN Tryz.prog 230 0 (.int .u32 (tzI x))=some ((td Tryz.prog 5).ok=true∧(td Tryz.prog 5).size=1∧0≤tzI x∧tzI x<32∧(ofV (.int .u8 (((bF x).headD 0:Nat):Int))).aL=true,.cptr [.int .u8 (((bF x).headD 0:Nat):Int)]):=by
 unfold CN
 rw[L7]
 simp only
 rw[LN,(J3 x h h0).2.2]
 rfl
theorem AJ{x:Nat}(h:x<256)(h0:x≠0):(bF x).headD 0<8:=by
 rw[sB x h h0]
 have:(bF x).headD 0∈bF x:=by
  have:=sB x h h0
  rw[this];simp
 simpa using sA this
theorem JA(x:Nat)(h0:0<x)(h:x<256):aA Tryz.prog 182 [.int .u32 (x:Int)] St.none (fun r _=>r=.int .i64 (((bF x).headD 0:Nat):Int)):=by
 refine(aA.body 14 [.tmp 2] Tryz.func182 rfl rfl rfl rfl ?_)
 have hg:=KA x h (by omega)
 have ht:=J3 x h (by omega)
 have hh:=AJ h (by omega)
 obtain⟨d,hd⟩:∃d,(bF x).headD 0=d:=⟨_,rfl⟩
 rw[hd] at hg ht hh ⊢
 repeat' (first|(with_reducible first|(refine wN fun _ hnl=>?_;revert hnl;(repeat refine wS fun _ _=>?_);intro hnl)|refine wE ?_|(refine wK ?_ ?_<;>intro h)|(refine wB ?_ ?_<;>intro h<;>simp only[h]))|simp(maxSteps:=4000000) (disch:=first|exact ddL|fail) only[go_sem,simprocAttr,Tryz.f182])
 change R (mpure _ _ (CN _ _ _ (.int .u32 (tzI x))))
 rw[hg]
 refine Kg ⟨by rw[td5],by rw[td5],ht.1,ht.2.1,rfl⟩ ?_
 generalize tzI x=w
 repeat' (first|(with_reducible first|(refine wN fun _ hnl=>?_;revert hnl;(repeat refine wS fun _ _=>?_);intro hnl)|refine wE ?_|(refine wK ?_ ?_<;>intro h)|(refine wB ?_ ?_<;>intro h<;>simp only[h]))|simp(maxSteps:=4000000) (disch:=first|exact ddL|fail) only[go_sem,simprocAttr])
end

section
theorem C6{t:TypeId}{xs ys:List MV}{b:Bool}(h:iG Tryz.prog 6 t (.agg xs) (.agg ys)=some b)(hp:dL Tryz.prog t=true):bT Tryz.prog t .neq (.agg xs) (.agg ys)=some (True,.bool (!b)):=by
 rw[AX,h,qU,Et,hp];simp
theorem Jy:dL Tryz.prog 77=true:=by decide +kernel
theorem Lp:dL Tryz.prog 42=true:=by decide +kernel
theorem Gf(a b:PA):bT Tryz.prog 77 .neq (.agg a.c) (.agg b.c)=some (True,.bool (!decide (a=b))):=C6 (Gn 2 a b) Jy
theorem IX(a b:CA):bT Tryz.prog 42 .neq (.agg a.c) (.agg b.c)=some (True,.bool (!decide (a=b))):=C6 (I0 2 a b) Lp
theorem zG{p:PA}{i:Nat}(h0:¬(p.mask.toNat=0∨511<p.mask.toNat))(h1:¬(65536≤p.lab.toNat∨p.lab.toNat≠0∧bit p.mask.toNat 8=false))(hi:i<8)(h:(dW (p.f.get i)&&(decide ((p.f.get i).kd=0) || bit p.mask.toNat i))=false):dH p=1:=by
 unfold dH
 rw[if_neg h0,if_neg h1,if_neg]
 intro hb
 have:=List.all_eq_true.1 hb i (List.mem_range.2 hi)
 rw[h] at this
 cases this
theorem vN{p:PA}(h0:¬(p.mask.toNat=0∨511<p.mask.toNat))(h1:¬(65536≤p.lab.toNat∨p.lab.toNat≠0∧bit p.mask.toNat 8=false))(h:∀i,i<8→(dW (p.f.get i)&&(decide ((p.f.get i).kd=0) || bit p.mask.toNat i))=true):dH p=0:=by
 unfold dH
 rw[if_neg h0,if_neg h1,if_pos]
 exact List.all_eq_true.2 fun i hi=>h i (List.mem_range.1 hi)
end

section
set_option maxRecDepth 100000
theorem le2{σ:St}{l k:Nat}{o o':aX}(h1:σ l=some o)(h2:σ k=some o'):((St.none.set l o).set k o').le σ:=St.aH (St.aH (St.none_le _) h1) h2
theorem j8{α:Type}{f:α→List MV}{l:List α}{ex:List (List MV)}:(l.map f++ex).take l.length=l.map f:=by rw[List.take_append_of_le_length (by simp),List.take_of_length_le (by simp)]
theorem kQ{α:Type}{f:α→List MV}{l:List α}{ex:List (List MV)}:(l.map f++ex).drop (l.length+1)=ex.drop 1:=by
 rw[List.drop_append,List.drop_eq_nil_of_le (by simp),List.nil_append];congr 1;simp
theorem NW{α:Type}{f:α→List MV}{l:List α}{ex:List (List MV)}{σ:St}{q e:Nat}{t:TypeId}(h:σ q=some (.row t e (l.map f++ex))):View σ (.vec e q 0 l.length) (.lst e (l.map f) false):=by
 have:=View.vec (n:=l.length) (lo:=0) h (by simp)
 rwa [List.drop_zero,j8] at this
theorem fU.fc{σ:St}{f:F8}{a b:List MV}(h:fU σ a b):fU σ (fc f++a) (fc f++b):=fU.app (fU.same _) h
abbrev MS.c(m:MS):List MV:=m.k (.lst 5 (m.cmd.fl.map ND.c) false) (.lst 5 (m.rep.fl.map ND.c) false) (.lst 28 (IT.ks m.page.items) false)
theorem MS.cell(m:MS):m.c.all MV.aL=true:=by
 simp only[MS.c,MS.k,List.all_cons,CL];rfl
structure Sm (m:MS):Prop where
 f:m.cmd.fl.length≤1000000
 g:m.rep.fl.length≤1000000
 i:m.page.items.length≤1000000
end

section
set_option maxRecDepth 100000
theorem Sfx.get{bs:BL}{r:RD}(h:Sfx bs r){i:Nat}(hi:i<r.l.length):bs.getD (bs.length - r.l.length+i) 0=r.l.getD i 0:=by
 have:=h.drop
 rw[←this,List.getD_eq_getElem?_getD,List.getD_eq_getElem?_getD,List.getElem?_drop,this]
end

section
set_option maxRecDepth 100000
class Few (bs:BL):Prop where
 h:bs.length≤1000000
end

section
set_option maxRecDepth 100000
theorem zR(c:CA):aA Tryz.prog 104 [.agg c.c] St.none (fun r _=>r=.bool (dN c)):=by
 refine aA.cP (aA.body 37 [.tmp 2] Tryz.func104 rfl rfl rfl rfl ?_)
 have hlt:=c.lab.toNat_lt
 by_cases h:1≤c.id∧c.id<gO∧1≤c.ver∧c.ver≤big∧c.lab.toNat<65536
 ·have e:dN c=c.f.l.all dW:=by unfold dN;rw[decide_eq_true h,Bool.true_and]
  rw[e]
  obtain⟨h1,h2,h3,h4,h5⟩:=h
  unfold gO at h2
  unfold big at h4
  repeat' (first|(with_reducible first|(refine wT ?_;(first|((fail_if_success (have:=nl1));refine wN fun nl1 hnl=>?_)|refine wN fun _ hnl=>?_);revert hnl;(repeat refine wS fun _ _=>?_);intro hnl)|refine wE ?_|(refine wK ?_ ?_<;>intro h)|(refine wB ?_ ?_<;>intro h<;>simp only[h]))|simp(maxSteps:=4000000) (disch:=first|exact ddL|fail) only[go_sem,simprocAttr,Tryz.f104,bS,cA])
  refine aG (α:=Nat) (fun i=>⟨37,[(3,.int .i64 (i:Int)),(1,.ptr nl1 0 0)],[]⟩) (fun _=>St.none.set nl1 (.row 42 27 [c.c])) (fun i=>i≤8∧∀j,j<i→dW (c.f.get j)=true) (fun i=>8 - i) (.of (.less ?_ (St.le_refl _)) ⟨0,rfl,rfl,Nat.zero_le _,fun j h=>absurd h (Nat.not_lt_zero _)⟩) ?_
  ·simp(maxSteps:=4000000) (disch:=first|exact ddL|fail) only[go_sem,simprocAttr,aC,aB]
   all_goals rfl
  ·rintro i ⟨hi,hq⟩
   by_cases h8:i<8
   ·have hc:=pC (c.f.get i).kd (c.f.get i).n (c.f.get i).s
    cases hok:dW (c.f.get i)
    ·rw[hok] at hc
     repeat' (first|(with_reducible first|refine up hc ?_)|(with_reducible first|(refine wT ?_;(first|((fail_if_success (have:=nl1));refine wN fun nl1 hnl=>?_)|refine wN fun _ hnl=>?_);revert hnl;(repeat refine wS fun _ _=>?_);intro hnl)|refine wE ?_|(refine wK ?_ ?_<;>intro h)|(refine wB ?_ ?_<;>intro h<;>simp only[h]))|simp(maxSteps:=4000000) (disch:=first|exact ddL|fail) only[go_sem,simprocAttr,bS,cA,kR,nI])
     have e:c.f.l.all dW=false:=by
      cases hb:c.f.l.all dW
      ·rfl
      ·have:=(F8.Em c.f dW).1 hb i h8
       rw[hok] at this;cases this
     rw[e]
     first|exact⟨_,St.le_refl _,rfl⟩|exact⟨_,St.le_refl _⟩
    ·rw[hok] at hc
     repeat' (first|(with_reducible first|refine up hc ?_)|(with_reducible first|(refine wT ?_;(first|((fail_if_success (have:=nl1));refine wN fun nl1 hnl=>?_)|refine wN fun _ hnl=>?_);revert hnl;(repeat refine wS fun _ _=>?_);intro hnl)|refine wE ?_|(refine wK ?_ ?_<;>intro h)|(refine wB ?_ ?_<;>intro h<;>simp only[h]))|simp(maxSteps:=4000000) (disch:=first|exact ddL|fail) only[go_sem,simprocAttr,bS,cA,kR,nI])
     refine .of (.less ?_ (St.le_refl _)) ⟨i+1,rfl,rfl,⟨by omega,fun j hj=>?_⟩,by omega⟩
     ·simp(maxSteps:=4000000) (disch:=first|exact ddL|fail) only[go_sem,simprocAttr,aC,aB]
      all_goals rfl
     ·by_cases hji:j=i
      ·rw[hji];exact hok
      ·exact hq j (by omega)
   ·have:i=8:=by omega
    subst this
    rw[(F8.Em c.f dW).2 hq]
    repeat' (first|(with_reducible first|(refine wT ?_;(first|((fail_if_success (have:=nl1));refine wN fun nl1 hnl=>?_)|refine wN fun _ hnl=>?_);revert hnl;(repeat refine wS fun _ _=>?_);intro hnl)|refine wE ?_|(refine wK ?_ ?_<;>intro h)|(refine wB ?_ ?_<;>intro h<;>simp only[h]))|simp(maxSteps:=4000000) (disch:=first|exact ddL|fail) only[go_sem,simprocAttr])
    first|exact⟨_,St.le_refl _,rfl⟩|exact⟨_,St.le_refl _⟩
 ·have e:dN c=false:=by unfold dN;rw[decide_eq_false h,Bool.false_and]
  rw[e]
  unfold gO big at h
  repeat' (first|(with_reducible first|(refine wT ?_;(first|((fail_if_success (have:=nl1));refine wN fun nl1 hnl=>?_)|refine wN fun _ hnl=>?_);revert hnl;(repeat refine wS fun _ _=>?_);intro hnl)|refine wE ?_|(refine wK ?_ ?_<;>intro h)|(refine wB ?_ ?_<;>intro h<;>simp only[h]))|simp(maxSteps:=4000000) (disch:=first|exact ddL|fail) only[go_sem,simprocAttr,Tryz.f104,bS,cA])
  all_goals first|exact⟨_,St.le_refl _,rfl⟩|exact⟨_,St.le_refl _⟩|(exfalso;omega)
end

section
set_option maxRecDepth 100000
theorem wrap32{n:Nat}(h:n<4294967296):IntKind.u32.wrap (n:Int)=(n:Int):=by
 simp only[IntKind.wrap,IntKind.signed,IntKind.bits]
 simp
 omega
theorem Hk(n:Nat)(h:n<32):aA Tryz.prog 137 [.int .i64 (n:Int)] St.none (fun r _=>r=.int .u32 ((2 ^ n:Nat):Int)):=by
 refine(aA.body 19 [.tmp 2] Tryz.func137 rfl rfl rfl rfl ?_)
 repeat' (first|(with_reducible first|(refine wN fun _ hnl=>?_;revert hnl;(repeat refine wS fun _ _=>?_);intro hnl)|refine wE ?_|(refine wK ?_ ?_<;>intro h)|(refine wB ?_ ?_<;>intro h<;>simp only[h]))|simp(maxSteps:=4000000) (disch:=first|exact ddL|fail) only[go_sem,simprocAttr,Tryz.f137])
 refine aG (α:=Nat) (fun i=>⟨19,[(4,.int .i64 (i:Int)),(3,.int .u32 ((2 ^ i:Nat):Int)),(0,.int .i64 (n:Int))],[]⟩) (fun _=>St.none) (fun i=>i≤n) (fun i=>n - i) (.of (.less ?_ (St.le_refl _)) ⟨0,rfl,rfl,Nat.zero_le _⟩) ?_
 ·simp(maxSteps:=4000000) (disch:=first|exact ddL|fail) only[go_sem,simprocAttr,aC,aB]
  all_goals rfl
 ·intro i hi
  have hi:i≤n:=hi
  by_cases hlt:i<n
  ·have h2:2 ^ (i+1)<4294967296:=Nat.pow_lt_pow_right (a:=2) (n:=32) (by decide) (by omega)
   have e:IntKind.u32.wrap (((2 ^ i:Nat):Int) * 2)=((2 ^ (i+1):Nat):Int):=by
    rw[show((2 ^ i:Nat):Int) * 2=((2 ^ (i+1):Nat):Int) by rw[Nat.pow_succ];simp]
    exact wrap32 h2
   obtain⟨p,hp⟩:∃p,2 ^ i=p:=⟨_,rfl⟩
   rw[hp] at e ⊢
   repeat' (first|(with_reducible first|(refine wN fun _ hnl=>?_;revert hnl;(repeat refine wS fun _ _=>?_);intro hnl)|refine wE ?_|(refine wK ?_ ?_<;>intro h)|(refine wB ?_ ?_<;>intro h<;>simp only[h]))|simp(maxSteps:=4000000) (disch:=first|exact ddL|fail) only[go_sem,simprocAttr,e])
   refine .of (.less (l1:=[(4,.int .i64 ((i+1:Nat):Int)),(3,.int .u32 ((2 ^ (i+1):Nat):Int)),(0,.int .i64 (n:Int))]) ?_ (St.le_refl _)) ⟨i+1,rfl,rfl,by omega,by omega⟩
   obtain⟨q,hq⟩:∃q,2 ^ (i+1)=q:=⟨_,rfl⟩
   rw[hq] at e ⊢
   simp(maxSteps:=4000000) (disch:=first|exact ddL|fail) only[go_sem,simprocAttr,aC,aB,e]
   all_goals rfl
  ·have:i=n:=by omega
   subst this
   obtain⟨p,hp⟩:∃p,2 ^ i=p:=⟨_,rfl⟩
   rw[hp]
   repeat' (first|(with_reducible first|(refine wN fun _ hnl=>?_;revert hnl;(repeat refine wS fun _ _=>?_);intro hnl)|refine wE ?_|(refine wK ?_ ?_<;>intro h)|(refine wB ?_ ?_<;>intro h<;>simp only[h]))|simp(maxSteps:=4000000) (disch:=first|exact ddL|fail) only[go_sem,simprocAttr])
theorem D2(s n:Nat)(h:n<32)(hs:s<2 ^ n):aA Tryz.prog 94 [.int .u32 (s:Int),.int .i64 (n:Int)] St.none (fun r _=>r=.int .u32 ((s ||| 2 ^ n:Nat):Int)):=by
 refine(aA.body 13 [.tmp 4] Tryz.func94 rfl rfl rfl rfl ?_)
 have h2:2 ^ n≤2147483648:=Nat.pow_le_pow_right (n:=2) (i:=n) (j:=31) (by decide) (by omega)
 have h1:=mX s (n:Int) (by omega)
 rw[AI h,show bit s n=false from Nat.testBit_lt_two_pow hs] at h1
 have h3:=Hk n h
 have e:s ||| 2 ^ n=s+2 ^ n:=by
  have:=Nat.two_pow_add_eq_or_of_lt hs 1
  rw[Nat.mul_one] at this
  rw[Nat.or_comm,←this,Nat.add_comm]
 rw[e]
 have ew:IntKind.u32.wrap ((s:Int)+((2 ^ n:Nat):Int))=((s+2 ^ n:Nat):Int):=by
  rw[show(s:Int)+((2 ^ n:Nat):Int)=((s+2 ^ n:Nat):Int) by simp]
  exact wrap32 (by omega)
 obtain⟨p,hp⟩:∃p,2 ^ n=p:=⟨_,rfl⟩
 rw[hp] at h3 ew ⊢
 repeat' (first|(with_reducible first|refine up h1 ?_|refine up h3 ?_)|(with_reducible first|(refine wN fun _ hnl=>?_;revert hnl;(repeat refine wS fun _ _=>?_);intro hnl)|refine wE ?_|(refine wK ?_ ?_<;>intro h)|(refine wB ?_ ?_<;>intro h<;>simp only[h]))|simp(maxSteps:=4000000) (disch:=first|exact ddL|fail) only[go_sem,simprocAttr,Tryz.f94,ew])
 all_goals first|rfl|(refine aT mixed (by decide +kernel) (kn [(137,[.int .i64 (n:Int)],⟨[],fun v=>v=.int .u32 (p:Int),none⟩)]) ?_;repeat' (first|(with_reducible refine aQ p6 h3 ?_)|(with_reducible first|(refine wN fun _ hnl=>?_;revert hnl;(repeat refine wS fun _ _=>?_);intro hnl)|refine wE ?_|(refine wK ?_ ?_<;>intro h)|(refine wB ?_ ?_<;>intro h<;>simp only[h]))|simp(maxSteps:=4000000) (disch:=first|exact ddL|fail) only[go_sem,simprocAttr,ew]);rfl)
end
end Go.Proofs.YtaojijkdamfbnaaGreatDoor
