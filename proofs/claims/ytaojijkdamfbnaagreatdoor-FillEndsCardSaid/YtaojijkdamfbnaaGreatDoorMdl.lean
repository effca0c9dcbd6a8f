/- Parts of the proof, joined; conditions: those that its theorems name. -/
import Derived.Test.YtaojijkdamfbnaaGreatDoorMdi
import Derived.Test.YtaojijkdamfbnaaGreatDoorMdj
import Derived.Test.YtaojijkdamfbnaaGreatDoorMdk
set_option linter.unusedVariables false
set_option linter.unusedSimpArgs false
set_option maxHeartbeats 4000000
namespace Go.Proofs.YtaojijkdamfbnaaGreatDoor
section
class Sfx (bs:BL) (r:RD):Prop where
 h:r.l <:+ bs
instance {bs:BL} {c:Prop} [Decidable c] {r s:RD} [h:Sfx bs r] [k:Sfx bs s]:Sfx bs (if c then r else s):=by
 split
 ·exact h
 ·exact k
theorem Sfx.len{bs:BL}{r:RD}(h:Sfx bs r):r.l.length≤bs.length:=h.h.length_le
theorem Sfx.drop{bs:BL}{r:RD}(h:Sfx bs r):bs.drop (bs.length - r.l.length)=r.l:=by
 obtain⟨a,e⟩:=h.h
 rw[←e]
 simp
theorem rW{P:Program}{g:FuncId}{ms:List MV}{σ:St}{l:Nat}{o o':aX}{r:MV}{k:MV→St→Prop}(hs:σ l=some o)(h:aA P g ms (St.none.set l o) fun v σ'=>v=r∧σ'=St.none.set l o')(hk:R (bV r (σ.set l o') k)):R (eA P g ms σ k):=by
 refine cL h (St.aH (St.none_le _) hs) ?_
 rintro v σ' ⟨rfl,rfl⟩ -
 have e:(St.none.set l o').over (σ.minus (St.none.set l o))=σ.set l o':=by
  funext j
  by_cases h:j=l
  ·subst h;simp[St.over,St.set]
  ·simp[St.over,St.set,St.minus,h,St.none]
 rw[e]
 exact hk
def MH(l:List (Nat × MV))(e k:Nat):List (Nat × MV)→Prop
 | []=>True
 | p::r=>(b9 l p.1=p.2∨(p.2=.vec e k 0 0∧(b9 l p.1=.bC∨b9 l p.1=.lst e [] true)))∧MH l e k r
theorem B2{l:List (Nat × MV)}{e k:Nat}:∀{l1:List (Nat × MV)},MH l e k l1→∀p,p∈l1→b9 l p.1=p.2∨(p.2=.vec e k 0 0∧(b9 l p.1=.bC∨b9 l p.1=.lst e [] true))
 | [],_,p,hp=>absurd hp (List.not_mem_nil)
 | q::r,h,p,hp=>by
  rcases List.mem_cons.1 hp with rfl|hp
  ·exact h.1
  ·exact B2 h.2 p hp
theorem Gh.uB{n:Nat}{l:List (Nat × MV)}{d:List (FuncId × List MV)}{σ:St}{K:FR→St→Prop}(t:TypeId)(e:Nat)(l1:Nat→List (Nat × MV))(h1:∀k,MH l e k (l1 k))
 (h:∀k,σ k=none→Gh ⟨n,l1 k,d⟩ (σ.set k (.row t e [])) K):Gh ⟨n,l,d⟩ σ K:=Gh.row t e l1 (fun k=>B2 (h1 k)) h
theorem aA.obj{P:Program}{g:FuncId}{ms:List MV}{σ:St}{X:MV}{l:Nat}{o:aX}(h:aA P g ms σ fun v σ'=>v=X∧σ' l=some o):aA P g ms σ fun v σ'=>v=X∧σ'=St.none.set l o :=
 h.less fun v σ' k=>⟨St.none.set l o,St.aH (St.none_le _) k.2,k.1,rfl⟩
end

section
inductive Fk:Prop→Prop→Prop→Prop
 | i {c A B:Prop}:Fk (R (mif c A B)) (c→R A) (¬c→R B)
 | f {p:Prop} [Decidable p] {A B:Prop}:Fk (R (iH (.bool (decide p)) A B)) (p→R A) (¬p→R B)
 | g {p:Prop} [Decidable p] {A B:Prop}:Fk (R (bO (.bool (decide p)) true A B)) (p→R A) (¬p→R B)
 | h {p:Prop} [Decidable p] {A B:Prop}:Fk (R (bO (.bool (decide p)) false A B)) (¬p→R A) (p→R B)
theorem wK{p a b:Prop}(h1:a)(h2:b)(e:Fk p a b:=by first|exact .i|exact .f|exact .g|exact .h):p:=by
 cases e
 ·exact wI h1 h2
 ·exact wF h1 h2
 ·exact wG h1 h2
 ·exact wH h1 h2
inductive Fb:Prop→Prop→Prop→Prop
 | b {b:Bool} {A B:Prop}:Fb (R (iH (.bool b) A B)) (b=true→R A) (b=false→R B)
 | g {b want:Bool} {A B:Prop}:Fb (R (bO (.bool b) want A B)) (b=want→R A) (b=(!want)→R B)
theorem wB{p a b:Prop}(h1:a)(h2:b)(e:Fb p a b:=by first|exact .b|exact .g):p:=by
 cases e
 ·exact aE h1 h2
 ·exact aD h1 h2
theorem wE{id:Nat}{l:List Oper}{f:FR}{σ:St}{Q:MQ}(h:R (l6 Tryz.prog (fun _ _=>none) (@OfNat.ofNat (Array Oper) (nat_lit 0) (@_root_.id (OfNat (Array Oper) (nat_lit 0)) (OfNat.mk (l.toArray)))) (Q .normal) (@OfNat.ofNat (List Oper) (nat_lit 0) (@_root_.id (OfNat (List Oper) (nat_lit 0)) (OfNat.mk l))) f σ))
 (hchk:(chk l.toArray&&l.all fun o=>k7 o.op)=true:=by decide +kernel):R (qV Tryz.prog id (@OfNat.ofNat (List Oper) (nat_lit 0) (@_root_.id (OfNat (List Oper) (nat_lit 0)) (OfNat.mk l))) f σ Q):=wD hchk h
inductive Up (l:Nat) (o o':aX):St→St→Prop
 | u0 {σ:St}:Up l o o' (σ.set l o) (σ.set l o')
 | u1 {σ:St} {j:Nat} {oj:aX} (h:j≠l):Up l o o' ((σ.set l o).set j oj) ((σ.set l o').set j oj)
 | u2 {σ:St} {j i:Nat} {oj oi:aX} (h:j≠l) (h1:i≠l):Up l o o' (((σ.set l o).set j oj).set i oi) (((σ.set l o').set j oj).set i oi)
 | u3 {σ:St} {j i m:Nat} {oj oi om:aX} (h:j≠l) (h1:i≠l) (h2:m≠l):Up l o o' ((((σ.set l o).set j oj).set i oi).set m om) ((((σ.set l o').set j oj).set i oi).set m om)
theorem FXs:(type_of% @EH)∧(type_of% @bT)∧(type_of% @cA)∧(type_of% @EG)∧(type_of% @fV)∧(type_of% @EA)∧(type_of% @AB)∧(type_of% @EF)∧(type_of% @Aw)∧(type_of% @kR)∧(type_of% @Cc)∧(type_of% @uM)∧(type_of% @AH)∧(type_of% @sM)∧(type_of% @nI)∧(type_of% @wQ)∧(type_of% @EC)∧(type_of% @EE)∧(type_of% @yB)∧(type_of% @EB)∧(∀{f:F8} {i:Nat} {v:VA} (h:i<8),(f.set i v).get i=v) :=
 ⟨EH,bT,cA,EG,fV,EA,AB,EF,Aw,kR,Cc,uM,AH,sM,nI,wQ,EC,EE,yB,EB,F8.KA⟩
theorem FYs:(type_of% FXs)∧(type_of% @CQ)∧(type_of% @AA)∧(∀{α:Type} (l:List α),l++[]=l)∧(∀{α:Type} (l:List α),l.take 0=[])∧(type_of% NX)∧(∀{α:Type} (a:α) (l r:List α),a::l++r=a::(l++r))∧(∀{α:Type} (l:List α),[]++l=l) :=
 ⟨FXs,CQ,AA,List.append_nil,fun _=>List.take_zero,NX,fun _ _ _=>List.cons_append,List.nil_append⟩
end

section
def hasB(s:Nat)(n:Int):Bool:=decide (0≤n∧n≤31∧s / 2 ^ n.toNat % 2=1)
theorem Ih(s:Nat)(k:Nat):s / 2 ^ k / 2=s / 2 ^ (k+1):=by
 rw[Nat.pow_succ,Nat.div_div_eq_div_mul]
set_option maxHeartbeats 2000000 in
theorem mX (s:Nat) (n:Int) (h1:s<4294967296):aA Tryz.prog 100 [.int .u32 (s:Int),.int .i64 n] St.none (fun r _=>r=.bool (hasB s n)):=by
 refine(aA.body 22 [.tmp 4] Tryz.func100 rfl rfl rfl rfl ?_)
 by_cases hn:n<0∨31<n
 ·repeat' (first|(with_reducible first|(refine wN fun nl hnl=>?_;revert hnl;(repeat refine wS fun _ _=>?_);intro hnl)|refine wD (by decide +kernel) ?_|refine wI (fun h=>?_) fun h=>?_|refine wF (fun h=>?_) fun h=>?_|refine wG (fun h=>?_) fun h=>?_|refine wH (fun h=>?_) fun h=>?_|((first|refine aE (fun h=>?_) fun h=>?_|refine aD (fun h=>?_) fun h=>?_)<;>simp only[h]))|simp(maxSteps:=4000000) (disch:=first|exact ddL|fail) only[go_sem,simprocAttr,Tryz.f100])
  all_goals simp only[hasB,MV.bool.injEq,Bool.false_eq,decide_eq_false_iff_not]
  all_goals omega
 ·obtain⟨m,rfl⟩:∃m:Nat,n=m:=⟨n.toNat,by omega⟩
  repeat' (first|(with_reducible first|(refine wN fun nl hnl=>?_;revert hnl;(repeat refine wS fun _ _=>?_);intro hnl)|refine wD (by decide +kernel) ?_|refine wI (fun h=>?_) fun h=>?_|refine wF (fun h=>?_) fun h=>?_|refine wG (fun h=>?_) fun h=>?_|refine wH (fun h=>?_) fun h=>?_|((first|refine aE (fun h=>?_) fun h=>?_|refine aD (fun h=>?_) fun h=>?_)<;>simp only[h]))|simp(maxSteps:=4000000) (disch:=first|exact ddL|fail) only[go_sem,simprocAttr,Tryz.f100])
  refine aG (α:=Nat) (fun a=>⟨22,[(5,.int .i64 (a:Int)),(0,.int .u32 ((s / 2 ^ a:Nat):Int)),(1,.int .i64 (m:Int))],[]⟩) (fun _=>St.none)
   (fun a=>a≤m) (fun a=>m - a) (.of (.less ?_ (St.le_refl _)) ⟨0,rfl,rfl,Nat.zero_le _⟩) ?_
  ·simp(maxSteps:=4000000) (disch:=first|exact ddL|fail) only[go_sem,simprocAttr,aC,aB,Nat.pow_zero,Nat.div_one]
   all_goals rfl
  ·intro k hk
   have hk:k≤m:=hk
   have hb:s / 2 ^ k<4294967296:=Nat.lt_of_le_of_lt (Nat.div_le_self ..) h1
   by_cases hlt:k<m
   ·repeat' (first|(with_reducible first|(refine wN fun nl hnl=>?_;revert hnl;(repeat refine wS fun _ _=>?_);intro hnl)|refine wD (by decide +kernel) ?_|refine wI (fun h=>?_) fun h=>?_|refine wF (fun h=>?_) fun h=>?_|refine wG (fun h=>?_) fun h=>?_|refine wH (fun h=>?_) fun h=>?_|((first|refine aE (fun h=>?_) fun h=>?_|refine aD (fun h=>?_) fun h=>?_)<;>simp only[h]))|simp(maxSteps:=4000000) (disch:=first|exact ddL|fail) only[go_sem,simprocAttr,Nat.add_zero])
    refine .of (.less (l1:=[(5,.int .i64 ((k+1:Nat):Int)),(0,.int .u32 ((s / 2 ^ (k+1):Nat):Int)),(1,.int .i64 (m:Int))]) ?_ (St.le_refl _)) ⟨k+1,rfl,rfl,by omega,by omega⟩
    rw[←Ih]
    have ew:IntKind.u32.wrap (((s / 2 ^ k:Nat):Int).tdiv 2)=((s / 2 ^ k / 2:Nat):Int):=by
     generalize s / 2 ^ k=w at hb ⊢
     have e2:((w:Int)).tdiv 2=((w / 2:Nat):Int):=by
      rw[Int.tdiv_eq_ediv_of_nonneg (by omega)]
      omega
     rw[e2]
     simp only[IntKind.wrap,IntKind.signed,IntKind.bits]
     simp
     omega
    simp(maxSteps:=4000000) (disch:=first|exact ddL|fail) only[go_sem,simprocAttr,aC,aB,ew]
    all_goals rfl
   ·have:k=m:=by omega
    subst this
    repeat' (first|(with_reducible first|(refine wN fun nl hnl=>?_;revert hnl;(repeat refine wS fun _ _=>?_);intro hnl)|refine wD (by decide +kernel) ?_|refine wI (fun h=>?_) fun h=>?_|refine wF (fun h=>?_) fun h=>?_|refine wG (fun h=>?_) fun h=>?_|refine wH (fun h=>?_) fun h=>?_|((first|refine aE (fun h=>?_) fun h=>?_|refine aD (fun h=>?_) fun h=>?_)<;>simp only[h]))|simp(maxSteps:=4000000) (disch:=first|exact ddL|fail) only[go_sem,simprocAttr])
    simp only[hasB,Int.toNat_natCast,MV.bool.injEq]
    have e2:(((s / 2 ^ k:Nat):Int).tmod 2)=((s / 2 ^ k % 2:Nat):Int):=by
     generalize s / 2 ^ k=w at hb ⊢
     rw[Int.tmod_eq_emod_of_nonneg (by omega)]
     omega
    refine decide_eq_decide.mpr ?_
    rw[e2]
    generalize s / 2 ^ k % 2=w
    omega
end

section
set_option maxRecDepth 100000
theorem AL{s:Nat}{i:Nat}(h:i<32):hasB s (i:Int)=bit s i:=by
 unfold hasB bit
 rw[Nat.testBit_eq_decide_div_mod_eq]
 refine decide_eq_decide.mpr ?_
 rw[Int.toNat_natCast]
 constructor
 ·exact fun h=>h.2.2
 ·exact fun k=>⟨by omega,by omega,k⟩
theorem xQ(m:UInt32)(i:Nat)(h:i<32):aA Tryz.prog 100 [.int .u32 (m.toNat:Int),.int .i64 (i:Int)] St.none (fun r _=>r=.bool (bit m.toNat i)):=by
 have:=mX m.toNat (i:Int) m.toNat_lt
 rwa [AL h] at this
theorem D3(m:UInt32):aA Tryz.prog 99 [.int .u32 (m.toNat:Int)] St.none (fun r _=>r=.bool (bit m.toNat 8)):=by
 refine(aA.body 5 [.tmp 2] Tryz.func99 rfl rfl rfl rfl ?_)
 have h:=xQ m 8 (by decide)
 repeat' (first|(with_reducible first|refine up h ?_)|(with_reducible first|(refine wN fun _ hnl=>?_;revert hnl;(repeat refine wS fun _ _=>?_);intro hnl)|refine wE ?_|(refine wK ?_ ?_<;>intro h)|(refine wB ?_ ?_<;>intro h<;>simp only[h]))|simp(maxSteps:=4000000) (disch:=first|exact ddL|fail) only[go_sem,simprocAttr,Tryz.f99])
 all_goals rfl
theorem zV(m:UInt32):aA Tryz.prog 37 [.int .u32 (m.toNat:Int)] St.none (fun r _=>r=.bool (decide (m.toNat≤511))):=by
 refine(aA.body 5 [.tmp 2] Tryz.func37 rfl rfl rfl rfl ?_)
 repeat' (first|(with_reducible first|(refine wN fun _ hnl=>?_;revert hnl;(repeat refine wS fun _ _=>?_);intro hnl)|refine wE ?_|(refine wK ?_ ?_<;>intro h)|(refine wB ?_ ?_<;>intro h<;>simp only[h]))|simp(maxSteps:=4000000) (disch:=first|exact ddL|fail) only[go_sem,simprocAttr,Tryz.f37])
 all_goals first|rfl|(refine decide_eq_decide.mpr ?_;omega)
end

section
set_option maxRecDepth 100000
set_option maxHeartbeats 4000000
theorem rY{n:Nat}(h:n<4294967296):IntKind.u32.wrap (n:Int)=(n:Int):=by
 simp only[IntKind.wrap,IntKind.signed,IntKind.bits]
 simp
 omega
theorem Aj(a b:Nat)(ha:a<4294967296)(hb:b<4294967296):kK .u32 (a:Int) (b:Int)=((a &&& b:Nat):Int):=by
 have hab:a &&& b<4294967296:=Nat.lt_of_le_of_lt Nat.and_le_left ha
 unfold kK
 have e:(BitVec.ofInt IntKind.u32.bits (a:Int) &&& BitVec.ofInt IntKind.u32.bits (b:Int)).toNat=a &&& b:=by
  rw[BitVec.toNat_and]
  simp only[BitVec.ofInt_natCast,BitVec.toNat_ofNat,IntKind.bits]
  rw[Nat.mod_eq_of_lt (by omega),Nat.mod_eq_of_lt (by omega)]
 rw[e]
 exact rY hab
theorem Oc(a b:Nat)(ha:a<4294967296)(hb:b<4294967296):orK .u32 (a:Int) (b:Int)=((a ||| b:Nat):Int):=by
 have hab:a ||| b<2 ^ 32:=Nat.or_lt_two_pow (by omega) (by omega)
 unfold orK
 have e:(BitVec.ofInt IntKind.u32.bits (a:Int) ||| BitVec.ofInt IntKind.u32.bits (b:Int)).toNat=a ||| b:=by
  rw[BitVec.toNat_or]
  simp only[BitVec.ofInt_natCast,BitVec.toNat_ofNat,IntKind.bits]
  rw[Nat.mod_eq_of_lt (by omega),Nat.mod_eq_of_lt (by omega)]
 rw[e]
 exact rY hab
theorem HP(a b:Nat)(ha:a<4294967296)(hb:b<4294967296):oM .u32 (a:Int) (b:Int)=((a &&& (4294967295 - b):Nat):Int):=by
 have hab:a &&& (4294967295 - b)<4294967296:=Nat.lt_of_le_of_lt Nat.and_le_left ha
 unfold oM
 have e:(BitVec.ofInt IntKind.u32.bits (a:Int) &&& ~~~BitVec.ofInt IntKind.u32.bits (b:Int)).toNat=a &&& (4294967295 - b):=by
  rw[BitVec.toNat_and,BitVec.toNat_not]
  simp only[BitVec.ofInt_natCast,BitVec.toNat_ofNat,IntKind.bits]
  rw[Nat.mod_eq_of_lt (by omega),Nat.mod_eq_of_lt (by omega)]
 rw[e]
 exact rY hab
theorem xO(n:Nat)(h:n<32):aA Tryz.prog 175 [.int .i64 (n:Int)] St.none (fun r _=>r=.int .u32 ((2 ^ n:Nat):Int)):=by
 refine(aA.body 12 [.tmp 2] Tryz.func175 rfl rfl rfl rfl ?_)
 repeat' (first|(with_reducible first|(refine wN fun _ hnl=>?_;revert hnl;(repeat refine wS fun _ _=>?_);intro hnl)|refine wE ?_|(refine wK ?_ ?_<;>intro h)|(refine wB ?_ ?_<;>intro h<;>simp only[h]))|simp(maxSteps:=4000000) (disch:=first|exact ddL|fail) only[go_sem,simprocAttr,Tryz.f175])
 rw[Nat.min_eq_left (by omega),Int.one_mul,show(2:Int) ^ n=((2 ^ n:Nat):Int) by simp]
 exact congrArg _ (rY (Nat.pow_lt_pow_right (a:=2) (n:=32) (by decide) h))
theorem Nq(m:Nat)(h:m<4294967296):m &&& (4294967295 - 511)=0↔m≤511:=by
 have e:∀i,(4294967295 - 511:Nat).testBit i=(decide (9≤i)&&decide (i<32)):=by
  intro i
  by_cases hi:i<32
  ·have:∀i,i<32→(4294967295 - 511:Nat).testBit i=(decide (9≤i)&&decide (i<32)):=by decide
   exact this i hi
  ·rw[Nat.testBit_lt_two_pow (Nat.lt_of_lt_of_le (show 4294967295 - 511<2 ^ 32 by decide) (Nat.pow_le_pow_right (by decide) (by omega))),decide_eq_false hi,Bool.and_false]
 constructor
 ·intro h0
  refine Classical.byContradiction fun hn=>?_
  have h1:m / 2 ^ 9≠0:=by omega
  obtain⟨i,hi⟩:=Nat.exists_testBit_of_ne_zero h1
  rw[Nat.testBit_div_two_pow] at hi
  have hi32:i+9<32:=by
   refine Classical.byContradiction fun hc=>?_
   rw[Nat.testBit_lt_two_pow (Nat.lt_of_lt_of_le (show m<2 ^ 32 from h) (Nat.pow_le_pow_right (by decide) (by omega)))] at hi
   cases hi
  have h2:=congrArg (fun x=>Nat.testBit x (i+9)) h0
  simp only[Nat.testBit_and,Nat.zero_testBit,e,hi] at h2
  rw[decide_eq_true (by omega),decide_eq_true hi32] at h2
  cases h2
 ·intro hm
  refine Nat.eq_of_testBit_eq fun i=>?_
  rw[Nat.testBit_and,Nat.zero_testBit,e]
  by_cases hi:9≤i
  ·rw[Nat.testBit_lt_two_pow (Nat.lt_of_lt_of_le (show m<2 ^ 9 by omega) (Nat.pow_le_pow_right (by decide) hi)),Bool.false_and]
  ·rw[decide_eq_false hi,Bool.false_and,Bool.and_false]
theorem zQ(m:UInt32):aA Tryz.prog 143 [.int .u32 (m.toNat:Int)] St.none (fun r _=>r=.bool (decide (m.toNat≤511))):=by
 refine(aA.body 5 [.tmp 2] Tryz.func143 rfl rfl rfl rfl ?_)
 have hm:=m.toNat_lt
 have h:aA Tryz.prog 184 [.int .u32 (m.toNat:Int),.int .u32 511] St.none (fun r _=>r=.bool (decide (m.toNat≤511))):=by
  refine(aA.body 9 [.tmp 4] Tryz.func184 rfl rfl rfl rfl ?_)
  have e:oM .u32 (m.toNat:Int) 511=_:=HP m.toNat 511 hm (by decide)
  repeat' (first|(with_reducible first|(refine wN fun _ hnl=>?_;revert hnl;(repeat refine wS fun _ _=>?_);intro hnl)|refine wE ?_|(refine wK ?_ ?_<;>intro h)|(refine wB ?_ ?_<;>intro h<;>simp only[h]))|simp(maxSteps:=4000000) (disch:=first|exact ddL|fail) only[go_sem,simprocAttr,Tryz.f184,e])
  exact decide_eq_decide.mpr ⟨fun h=>(Nq m.toNat hm).1 (by exact_mod_cast h),fun h=>by rw[(Nq m.toNat hm).2 h];rfl⟩
 repeat' (first|(with_reducible first|refine up h ?_)|(with_reducible first|(refine wN fun _ hnl=>?_;revert hnl;(repeat refine wS fun _ _=>?_);intro hnl)|refine wE ?_|(refine wK ?_ ?_<;>intro h)|(refine wB ?_ ?_<;>intro h<;>simp only[h]))|simp(maxSteps:=4000000) (disch:=first|exact ddL|fail) only[go_sem,simprocAttr,Tryz.f143])
theorem Kk(m k:Nat):m &&& 2 ^ k=if m.testBit k=true then 2 ^ k else 0:=by
 refine Nat.eq_of_testBit_eq fun i=>?_
 rw[Nat.testBit_and,Nat.testBit_two_pow]
 by_cases h:k=i
 ·subst h
  cases hb:m.testBit k
  ·simp
  ·simp[Nat.testBit_two_pow]
 ·cases m.testBit k
  ·simp[h]
  ·simp[h,Nat.testBit_two_pow]
theorem nZ(m:UInt32):aA Tryz.prog 97 [.int .u32 (m.toNat:Int)] St.none (fun r _=>r=.bool (bit m.toNat 8)):=by
 refine(aA.body 6 [.tmp 2] Tryz.func97 rfl rfl rfl rfl ?_)
 have hm:=m.toNat_lt
 have e:kK .u32 (m.toNat:Int) 256=_:=Aj m.toNat 256 hm (by decide)
 repeat' (first|(with_reducible first|(refine wN fun _ hnl=>?_;revert hnl;(repeat refine wS fun _ _=>?_);intro hnl)|refine wE ?_|(refine wK ?_ ?_<;>intro h)|(refine wB ?_ ?_<;>intro h<;>simp only[h]))|simp(maxSteps:=4000000) (disch:=first|exact ddL|fail) only[go_sem,simprocAttr,Tryz.f97,e])
 rw[show(256:Nat)=2 ^ 8 by decide,Kk]
 unfold bit
 cases m.toNat.testBit 8<;>rfl
def dbT:List Int:=[0,1,28,2,29,14,24,3,30,22,20,15,25,17,4,8,31,27,13,23,21,19,16,7,26,12,18,6,11,5,10,9]
def tzI(x:Nat):Int:=(IntKind.u32.wrap (kK IntKind.u32 (x:Int) (IntKind.u32.wrap (0 - (x:Int))) * 125613361)).fdiv (2 ^ min 27 32)
theorem J5:∀x:Nat,x<256→x≠0→0≤tzI x∧tzI x<32∧dbT[(tzI x).toNat]?=some (((bF x).headD 0:Nat):Int):=by decide +kernel
theorem LP(i:Nat):GT 0 i=(dbT[i]?).map (Value.int .u8):=by
 unfold GT
 rw[if_pos rfl,List.getElem?_map];rfl
theorem Ki{C:Prop}{v:MV}{σ:St}{k:MV→St→Prop}(hC:C)(hk:R (k v σ)):R (mpure σ k (some (C,v))):=⟨hC,hk⟩
theorem KC(x:Nat)(h:x<256)(h0:x≠0):CR Tryz.prog 230 0 (.int .u32 (tzI x))=some ((td Tryz.prog 5).ok=true∧(td Tryz.prog 5).size=1∧0≤tzI x∧tzI x<32∧(ofV (.int .u8 (((bF x).headD 0:Nat):Int))).aL=true,.cptr [.int .u8 (((bF x).headD 0:Nat):Int)]):=by
 unfold CR
 rw[L9]
 simp only
 rw[LP,(J5 x h h0).2.2]
 rfl
theorem AM{x:Nat}(h:x<256)(h0:x≠0):(bF x).headD 0<8:=by
 rw[sA x h h0]
 have:(bF x).headD 0∈bF x:=by
  have:=sA x h h0
  rw[this];simp
 simpa using r9 this
theorem JC(x:Nat)(h0:0<x)(h:x<256):aA Tryz.prog 182 [.int .u32 (x:Int)] St.none (fun r _=>r=.int .i64 (((bF x).headD 0:Nat):Int)):=by
 refine(aA.body 14 [.tmp 2] Tryz.func182 rfl rfl rfl rfl ?_)
 have hg:=KC x h (by omega)
 have ht:=J5 x h (by omega)
 have hh:=AM h (by omega)
 obtain⟨d,hd⟩:∃d,(bF x).headD 0=d:=⟨_,rfl⟩
 rw[hd] at hg ht hh ⊢
 repeat' (first|(with_reducible first|(refine wN fun _ hnl=>?_;revert hnl;(repeat refine wS fun _ _=>?_);intro hnl)|refine wE ?_|(refine wK ?_ ?_<;>intro h)|(refine wB ?_ ?_<;>intro h<;>simp only[h]))|simp(maxSteps:=4000000) (disch:=first|exact ddL|fail) only[go_sem,simprocAttr,Tryz.f182])
 change R (mpure _ _ (CR _ _ _ (.int .u32 (tzI x))))
 rw[hg]
 refine Ki ⟨by rw[td5],by rw[td5],ht.1,ht.2.1,rfl⟩ ?_
 generalize tzI x=w
 repeat' (first|(with_reducible first|(refine wN fun _ hnl=>?_;revert hnl;(repeat refine wS fun _ _=>?_);intro hnl)|refine wE ?_|(refine wK ?_ ?_<;>intro h)|(refine wB ?_ ?_<;>intro h<;>simp only[h]))|simp(maxSteps:=4000000) (disch:=first|exact ddL|fail) only[go_sem,simprocAttr])
end

section
set_option maxRecDepth 100000
theorem MU{a b:VA}:a=b↔a.kd=b.kd∧a.n=b.n∧a.s=b.s:=by
 obtain⟨a1,a2,a3⟩:=a
 obtain⟨b1,b2,b3⟩:=b
 simp
theorem l5{P:Program}{d:Nat}{t:TypeId}{fs:List (Nat × TypeId)}{xs ys:List MV}(hk:(td P t).k=.struct fs)(hp:dL P t=true):iG P (d+1) t (.agg xs) (.agg ys)=bS P (iG P d) xs ys fs:=by
 simp only[iG,hk,hp,if_true]
theorem Dm{P:Program}{d n:Nat}{t e:TypeId}{xs ys:List MV}(hk:(td P t).k=.array n e)(hp:(td P e).ok=true):iG P (d+1) t (.agg xs) (.agg ys)=bS P (iG P d) xs ys ((List.range n).map fun i=>(i * (td P e).size,e)):=by
 simp only[iG,hk,hp,if_true]
theorem o4{P:Program}{d:Nat}{t:TypeId}{k k':IntKind}{a b:Int}(hk:(td P t).k=.int k'):iG P (d+1) t (.int k a) (.int k b)=some (decide (a=b)):=by
 simp only[iG,hk,if_true]
theorem I3{P:Program}{d:Nat}{t:TypeId}{a b:ByteArray}(hk:(td P t).k=.str):iG P (d+1) t (.str a) (.str b)=some (decide (a=b)):=by
 simp only[iG,hk]
theorem NW:(td Tryz.prog 3).k=.int .i64:=by rw[td3]
theorem Ma:(td Tryz.prog 28).k=.int .u32:=by rw[Ec]
theorem Oo:(td Tryz.prog 9).k=.str:=by rw[td9]
theorem xH{l:List MV}{i:Nat}{f:F8}(hl:l=fc f)(h:i<8):cZ (td Tryz.prog 39) l (i * 3)=.agg (f.get i).c:=by
 simp only[cZ,uN,TK.isAgg,if_true,hl]
 exact congrArg MV.agg (nI h)
theorem EX(d:Nat)(a b:VA):iG Tryz.prog (d+2) 39 (.agg a.c) (.agg b.c)=some (decide (a=b)):=by
 have hp:dL Tryz.prog 39=true:=by decide +kernel
 rw[l5 (by rw[uN]) hp]
 simp only[bS,td3,td9,cZ,TK.isAgg,Bool.false_eq_true,if_false,List.getD_cons_zero,List.getD_cons_succ,List.length_cons,List.length_nil,o4 NW,I3 Oo]
 simp[MU,Bool.decide_and]
theorem Mj{f g:F8}:f=g↔∀i,i∈List.range 8→f.get i=g.get i :=
 ⟨fun h i _=>by rw[h],fun h=>F8.ext fun i hi=>h i (List.mem_range.2 hi)⟩
theorem A6(d:Nat)(f g:F8):∀L:List Nat,(∀i,i∈L→i<8)→bS Tryz.prog (iG Tryz.prog (d+2)) (fc f) (fc g) (L.map fun i=>(i * 3,39))=some (decide (∀i,i∈L→f.get i=g.get i))
 | [],_=>by simp[bS]
 | i::L,h=>by
  have hi:=h i (by simp)
  have ih:=A6 d f g L fun j hj=>h j (by simp[hj])
  have h3:(td Tryz.prog 39).size=3:=by rw[uN]
  have ho:(td Tryz.prog 39).ok=true:=by rw[uN]
  simp only[List.map_cons,bS]
  rw[xH rfl hi,xH rfl hi,ih,EX,if_pos ⟨ho,by rw[h3,bT];omega,by rw[h3,bT];omega,by rw[h3];decide⟩]
  simp only[Option.map_some,List.forall_mem_cons]
  rw[Bool.decide_and]
theorem A7(d:Nat)(f g:F8):iG Tryz.prog (d+3) 40 (.agg (fc f)) (.agg (fc g))=some (decide (f=g)):=by
 have h3:(td Tryz.prog 39).size=3:=by rw[uN]
 rw[Dm (n:=8) (e:=39) (by rw[Ed]) (by rw[uN]),h3,A6 d f g _ (fun i hi=>List.mem_range.1 hi)]
 congr 1
 exact decide_eq_decide.mpr Mj.symm
theorem ME{a b:PA}:a=b↔a.mask=b.mask∧a.lab=b.lab∧a.f=b.f:=by
 obtain⟨a1,a2,a3⟩:=a
 obtain⟨b1,b2,b3⟩:=b
 simp
theorem Mg{a b:CA}:a=b↔a.id=b.id∧a.ver=b.ver∧a.lab=b.lab∧a.f=b.f:=by
 obtain⟨a1,a2,a3,a4⟩:=a
 obtain⟨b1,b2,b3,b4⟩:=b
 simp
theorem Gr(d:Nat)(a b:PA):iG Tryz.prog (d+4) 77 (.agg a.c) (.agg b.c)=some (decide (a=b)):=by
 have hp:dL Tryz.prog 77=true:=by decide +kernel
 rw[l5 (by rw[NV]) hp]
 simp only[bS,Ec,Ed,cZ,TK.isAgg,if_true,Bool.false_eq_true,if_false,List.getD_cons_zero,List.getD_cons_succ,List.length_cons,List.length_nil,List.drop_succ_cons,List.drop_zero,fV (Nat.le_refl 24),bT,A7,o4 Ma]
 simp[ME,Fc,Bool.decide_and]
theorem I2(d:Nat)(a b:CA):iG Tryz.prog (d+4) 42 (.agg a.c) (.agg b.c)=some (decide (a=b)):=by
 have hp:dL Tryz.prog 42=true:=by decide +kernel
 rw[l5 (by rw[J1]) hp]
 simp only[bS,Ec,td3,Ed,cZ,TK.isAgg,if_true,Bool.false_eq_true,if_false,List.getD_cons_zero,List.getD_cons_succ,List.length_cons,List.length_nil,List.drop_succ_cons,List.drop_zero,fV (Nat.le_refl 24),bT,A7,o4 Ma,o4 NW]
 simp[Mg,Fc,Bool.decide_and]
abbrev IT.k(x:IT):List MV:=.int .i64 x.kd::.int .i64 x.c.id::.int .i64 x.c.ver::.int .u32 (x.c.lab.toNat:Int)::fc x.c.f
end

section
theorem C9{t:TypeId}{xs ys:List MV}{b:Bool}(h:iG Tryz.prog 6 t (.agg xs) (.agg ys)=some b)(hp:dL Tryz.prog t=true):bU Tryz.prog t .neq (.agg xs) (.agg ys)=some (True,.bool (!b)):=by
 rw[A0,h,qU,Ex,hp];simp
theorem JA:dL Tryz.prog 77=true:=by decide +kernel
theorem Lr:dL Tryz.prog 42=true:=by decide +kernel
theorem Gj(a b:PA):bU Tryz.prog 77 .neq (.agg a.c) (.agg b.c)=some (True,.bool (!decide (a=b))):=C9 (Gr 2 a b) JA
theorem IZ(a b:CA):bU Tryz.prog 42 .neq (.agg a.c) (.agg b.c)=some (True,.bool (!decide (a=b))):=C9 (I2 2 a b) Lr
theorem zJ{p:PA}{i:Nat}(h0:¬(p.mask.toNat=0∨511<p.mask.toNat))(h1:¬(65536≤p.lab.toNat∨p.lab.toNat≠0∧bit p.mask.toNat 8=false))(hi:i<8)(h:(dW (p.f.get i)&&(decide ((p.f.get i).kd=0) || bit p.mask.toNat i))=false):dH p=1:=by
 unfold dH
 rw[if_neg h0,if_neg h1,if_neg]
 intro hb
 have:=List.all_eq_true.1 hb i (List.mem_range.2 hi)
 rw[h] at this
 cases this
theorem vO{p:PA}(h0:¬(p.mask.toNat=0∨511<p.mask.toNat))(h1:¬(65536≤p.lab.toNat∨p.lab.toNat≠0∧bit p.mask.toNat 8=false))(h:∀i,i<8→(dW (p.f.get i)&&(decide ((p.f.get i).kd=0) || bit p.mask.toNat i))=true):dH p=0:=by
 unfold dH
 rw[if_neg h0,if_neg h1,if_pos]
 exact List.all_eq_true.2 fun i hi=>h i (List.mem_range.1 hi)
end

section
set_option maxRecDepth 100000
theorem le2{σ:St}{l k:Nat}{o o':aX}(h1:σ l=some o)(h2:σ k=some o'):((St.none.set l o).set k o').le σ:=St.aH (St.aH (St.none_le _) h1) h2
theorem j8{α:Type}{f:α→List MV}{l:List α}{ex:List (List MV)}:(l.map f++ex).take l.length=l.map f:=by rw[List.take_append_of_le_length (by simp),List.take_of_length_le (by simp)]
theorem kQ{α:Type}{f:α→List MV}{l:List α}{ex:List (List MV)}:(l.map f++ex).drop (l.length+1)=ex.drop 1:=by
 rw[List.drop_append,List.drop_eq_nil_of_le (by simp),List.nil_append];congr 1;simp
theorem NY{α:Type}{f:α→List MV}{l:List α}{ex:List (List MV)}{σ:St}{q e:Nat}{t:TypeId}(h:σ q=some (.row t e (l.map f++ex))):View σ (.vec e q 0 l.length) (.lst e (l.map f) false):=by
 have:=View.vec (n:=l.length) (lo:=0) h (by simp)
 rwa [List.drop_zero,j8] at this
theorem fT.fc{σ:St}{f:F8}{a b:List MV}(h:fT σ a b):fT σ (fc f++a) (fc f++b):=fT.app (fT.same _) h
abbrev MS.c(m:MS):List MV:=m.k (.lst 5 (m.cmd.fl.map ND.c) false) (.lst 5 (m.rep.fl.map ND.c) false) (.lst 28 (IT.ks m.page.items) false)
theorem MS.cell(m:MS):m.c.all MV.aL=true:=by
 simp only[MS.c,MS.k,List.all_cons,CQ];rfl
structure Sm (m:MS):Prop where
 f:m.cmd.fl.length≤1000000
 g:m.rep.fl.length≤1000000
 i:m.page.items.length≤1000000
end

section
set_option maxRecDepth 100000
theorem Sfx.get{bs:BL}{r:RD}(h:Sfx bs r){i:Nat}(hi:i<r.l.length):bs.getD (bs.length - r.l.length+i) 0=r.l.getD i 0:=by
 have:=h.drop
 rw[←this,List.getD_eq_getElem?_getD,List.getD_eq_getElem?_getD,List.getElem?_drop,this]
end

section
set_option maxRecDepth 100000
class Few (bs:BL):Prop where
 h:bs.length≤1000000
end

section
set_option maxRecDepth 100000
theorem zU(c:CA):aA Tryz.prog 104 [.agg c.c] St.none (fun r _=>r=.bool (dN c)):=by
 refine aA.cP (aA.body 37 [.tmp 2] Tryz.func104 rfl rfl rfl rfl ?_)
 have hlt:=c.lab.toNat_lt
 by_cases h:1≤c.id∧c.id<gM∧1≤c.ver∧c.ver≤big∧c.lab.toNat<65536
 ·have e:dN c=c.f.l.all dW:=by unfold dN;rw[decide_eq_true h,Bool.true_and]
  rw[e]
  obtain⟨h1,h2,h3,h4,h5⟩:=h
  unfold gM at h2
  unfold big at h4
  repeat' (first|(with_reducible first|(refine wT ?_;(first|((fail_if_success (have:=nl1));refine wN fun nl1 hnl=>?_)|refine wN fun _ hnl=>?_);revert hnl;(repeat refine wS fun _ _=>?_);intro hnl)|refine wE ?_|(refine wK ?_ ?_<;>intro h)|(refine wB ?_ ?_<;>intro h<;>simp only[h]))|simp(maxSteps:=4000000) (disch:=first|exact ddL|fail) only[go_sem,simprocAttr,Tryz.f104,bT,cA])
  refine aG (α:=Nat) (fun i=>⟨37,[(3,.int .i64 (i:Int)),(1,.ptr nl1 0 0)],[]⟩) (fun _=>St.none.set nl1 (.row 42 27 [c.c])) (fun i=>i≤8∧∀j,j<i→dW (c.f.get j)=true) (fun i=>8 - i) (.of (.less ?_ (St.le_refl _)) ⟨0,rfl,rfl,Nat.zero_le _,fun j h=>absurd h (Nat.not_lt_zero _)⟩) ?_
  ·simp(maxSteps:=4000000) (disch:=first|exact ddL|fail) only[go_sem,simprocAttr,aC,aB]
   all_goals rfl
  ·rintro i ⟨hi,hq⟩
   by_cases h8:i<8
   ·have hc:=pC (c.f.get i).kd (c.f.get i).n (c.f.get i).s
    cases hok:dW (c.f.get i)
    ·rw[hok] at hc
     repeat' (first|(with_reducible first|refine up hc ?_)|(with_reducible first|(refine wT ?_;(first|((fail_if_success (have:=nl1));refine wN fun nl1 hnl=>?_)|refine wN fun _ hnl=>?_);revert hnl;(repeat refine wS fun _ _=>?_);intro hnl)|refine wE ?_|(refine wK ?_ ?_<;>intro h)|(refine wB ?_ ?_<;>intro h<;>simp only[h]))|simp(maxSteps:=4000000) (disch:=first|exact ddL|fail) only[go_sem,simprocAttr,bT,cA,kR,nI])
     have e:c.f.l.all dW=false:=by
      cases hb:c.f.l.all dW
      ·rfl
      ·have:=(F8.Er c.f dW).1 hb i h8
       rw[hok] at this;cases this
     rw[e]
     first|exact⟨_,St.le_refl _,rfl⟩|exact⟨_,St.le_refl _⟩
    ·rw[hok] at hc
     repeat' (first|(with_reducible first|refine up hc ?_)|(with_reducible first|(refine wT ?_;(first|((fail_if_success (have:=nl1));refine wN fun nl1 hnl=>?_)|refine wN fun _ hnl=>?_);revert hnl;(repeat refine wS fun _ _=>?_);intro hnl)|refine wE ?_|(refine wK ?_ ?_<;>intro h)|(refine wB ?_ ?_<;>intro h<;>simp only[h]))|simp(maxSteps:=4000000) (disch:=first|exact ddL|fail) only[go_sem,simprocAttr,bT,cA,kR,nI])
     refine .of (.less ?_ (St.le_refl _)) ⟨i+1,rfl,rfl,⟨by omega,fun j hj=>?_⟩,by omega⟩
     ·simp(maxSteps:=4000000) (disch:=first|exact ddL|fail) only[go_sem,simprocAttr,aC,aB]
      all_goals rfl
     ·by_cases hji:j=i
      ·rw[hji];exact hok
      ·exact hq j (by omega)
   ·have:i=8:=by omega
    subst this
    rw[(F8.Er c.f dW).2 hq]
    repeat' (first|(with_reducible first|(refine wT ?_;(first|((fail_if_success (have:=nl1));refine wN fun nl1 hnl=>?_)|refine wN fun _ hnl=>?_);revert hnl;(repeat refine wS fun _ _=>?_);intro hnl)|refine wE ?_|(refine wK ?_ ?_<;>intro h)|(refine wB ?_ ?_<;>intro h<;>simp only[h]))|simp(maxSteps:=4000000) (disch:=first|exact ddL|fail) only[go_sem,simprocAttr])
    first|exact⟨_,St.le_refl _,rfl⟩|exact⟨_,St.le_refl _⟩
 ·have e:dN c=false:=by unfold dN;rw[decide_eq_false h,Bool.false_and]
  rw[e]
  unfold gM big at h
  repeat' (first|(with_reducible first|(refine wT ?_;(first|((fail_if_success (have:=nl1));refine wN fun nl1 hnl=>?_)|refine wN fun _ hnl=>?_);revert hnl;(repeat refine wS fun _ _=>?_);intro hnl)|refine wE ?_|(refine wK ?_ ?_<;>intro h)|(refine wB ?_ ?_<;>intro h<;>simp only[h]))|simp(maxSteps:=4000000) (disch:=first|exact ddL|fail) only[go_sem,simprocAttr,Tryz.f104,bT,cA])
  all_goals first|exact⟨_,St.le_refl _,rfl⟩|exact⟨_,St.le_refl _⟩|(exfalso;omega)
end

section
set_option maxRecDepth 100000
theorem wrap32{n:Nat}(h:n<4294967296):IntKind.u32.wrap (n:Int)=(n:Int):=by
 simp only[IntKind.wrap,IntKind.signed,IntKind.bits]
 simp
 omega
theorem Ho(n:Nat)(h:n<32):aA Tryz.prog 137 [.int .i64 (n:Int)] St.none (fun r _=>r=.int .u32 ((2 ^ n:Nat):Int)):=by
 refine(aA.body 19 [.tmp 2] Tryz.func137 rfl rfl rfl rfl ?_)
 repeat' (first|(with_reducible first|(refine wN fun _ hnl=>?_;revert hnl;(repeat refine wS fun _ _=>?_);intro hnl)|refine wE ?_|(refine wK ?_ ?_<;>intro h)|(refine wB ?_ ?_<;>intro h<;>simp only[h]))|simp(maxSteps:=4000000) (disch:=first|exact ddL|fail) only[go_sem,simprocAttr,Tryz.f137])
 refine aG (α:=Nat) (fun i=>⟨19,[(4,.int .i64 (i:Int)),(3,.int .u32 ((2 ^ i:Nat):Int)),(0,.int .i64 (n:Int))],[]⟩) (fun _=>St.none) (fun i=>i≤n) (fun i=>n - i) (.of (.less ?_ (St.le_refl _)) ⟨0,rfl,rfl,Nat.zero_le _⟩) ?_
 ·simp(maxSteps:=4000000) (disch:=first|exact ddL|fail) only[go_sem,simprocAttr,aC,aB]
  all_goals rfl
 ·intro i hi
  have hi:i≤n:=hi
  by_cases hlt:i<n
  ·have h2:2 ^ (i+1)<4294967296:=Nat.pow_lt_pow_right (a:=2) (n:=32) (by decide) (by omega)
   have e:IntKind.u32.wrap (((2 ^ i:Nat):Int) * 2)=((2 ^ (i+1):Nat):Int):=by
    rw[show((2 ^ i:Nat):Int) * 2=((2 ^ (i+1):Nat):Int) by rw[Nat.pow_succ];simp]
    exact wrap32 h2
   obtain⟨p,hp⟩:∃p,2 ^ i=p:=⟨_,rfl⟩
   rw[hp] at e ⊢
   repeat' (first|(with_reducible first|(refine wN fun _ hnl=>?_;revert hnl;(repeat refine wS fun _ _=>?_);intro hnl)|refine wE ?_|(refine wK ?_ ?_<;>intro h)|(refine wB ?_ ?_<;>intro h<;>simp only[h]))|simp(maxSteps:=4000000) (disch:=first|exact ddL|fail) only[go_sem,simprocAttr,e])
   refine .of (.less (l1:=[(4,.int .i64 ((i+1:Nat):Int)),(3,.int .u32 ((2 ^ (i+1):Nat):Int)),(0,.int .i64 (n:Int))]) ?_ (St.le_refl _)) ⟨i+1,rfl,rfl,by omega,by omega⟩
   obtain⟨q,hq⟩:∃q,2 ^ (i+1)=q:=⟨_,rfl⟩
   rw[hq] at e ⊢
   simp(maxSteps:=4000000) (disch:=first|exact ddL|fail) only[go_sem,simprocAttr,aC,aB,e]
   all_goals rfl
  ·have:i=n:=by omega
   subst this
   obtain⟨p,hp⟩:∃p,2 ^ i=p:=⟨_,rfl⟩
   rw[hp]
   repeat' (first|(with_reducible first|(refine wN fun _ hnl=>?_;revert hnl;(repeat refine wS fun _ _=>?_);intro hnl)|refine wE ?_|(refine wK ?_ ?_<;>intro h)|(refine wB ?_ ?_<;>intro h<;>simp only[h]))|simp(maxSteps:=4000000) (disch:=first|exact ddL|fail) only[go_sem,simprocAttr])
theorem D6(s n:Nat)(h:n<32)(hs:s<2 ^ n):aA Tryz.prog 94 [.int .u32 (s:Int),.int .i64 (n:Int)] St.none (fun r _=>r=.int .u32 ((s ||| 2 ^ n:Nat):Int)):=by
 refine(aA.body 13 [.tmp 4] Tryz.func94 rfl rfl rfl rfl ?_)
 have h2:2 ^ n≤2147483648:=Nat.pow_le_pow_right (n:=2) (i:=n) (j:=31) (by decide) (by omega)
 have h1:=mX s (n:Int) (by omega)
 rw[AL h,show bit s n=false from Nat.testBit_lt_two_pow hs] at h1
 have h3:=Ho n h
 have e:s ||| 2 ^ n=s+2 ^ n:=by
  have:=Nat.two_pow_add_eq_or_of_lt hs 1
  rw[Nat.mul_one] at this
  rw[Nat.or_comm,←this,Nat.add_comm]
 rw[e]
 have ew:IntKind.u32.wrap ((s:Int)+((2 ^ n:Nat):Int))=((s+2 ^ n:Nat):Int):=by
  rw[show(s:Int)+((2 ^ n:Nat):Int)=((s+2 ^ n:Nat):Int) by simp]
  exact wrap32 (by omega)
 obtain⟨p,hp⟩:∃p,2 ^ n=p:=⟨_,rfl⟩
 rw[hp] at h3 ew ⊢
 repeat' (first|(with_reducible first|refine up h1 ?_|refine up h3 ?_)|(with_reducible first|(refine wN fun _ hnl=>?_;revert hnl;(repeat refine wS fun _ _=>?_);intro hnl)|refine wE ?_|(refine wK ?_ ?_<;>intro h)|(refine wB ?_ ?_<;>intro h<;>simp only[h]))|simp(maxSteps:=4000000) (disch:=first|exact ddL|fail) only[go_sem,simprocAttr,Tryz.f94,ew])
 all_goals first|rfl|(refine aT mixed (by decide +kernel) (kn [(137,[.int .i64 (n:Int)],⟨[],fun v=>v=.int .u32 (p:Int),none⟩)]) ?_;repeat' (first|(with_reducible refine aQ p6 h3 ?_)|(with_reducible first|(refine wN fun _ hnl=>?_;revert hnl;(repeat refine wS fun _ _=>?_);intro hnl)|refine wE ?_|(refine wK ?_ ?_<;>intro h)|(refine wB ?_ ?_<;>intro h<;>simp only[h]))|simp(maxSteps:=4000000) (disch:=first|exact ddL|fail) only[go_sem,simprocAttr,ew]);rfl)
end

section
section
variable {P:Program} {C:cC} {ops:Array Oper}
def gate(ops:Array Oper)(n1:Nat):Bool:=(List.range ops.size).all fun i=>decide (i<n1) || (List.range n1).all fun j=>((nL ops.toList []).getD i 0).testBit j
theorem EK{n1:Nat}(h:gate ops n1=true){i j:Nat}(hi:i<ops.size)(h1:n1≤i)(hj:j<n1):((nL ops.toList []).getD i 0).testBit j=true:=by
 have:=List.all_eq_true.1 h i (List.mem_range.2 hi)
 rw[Bool.or_eq_true,decide_eq_true_eq] at this
 rcases this with q|q
 ·omega
 ·exact List.all_eq_true.1 q j (List.mem_range.2 hj)
theorem xF{listed:Array Bool}{n i:Nat}(hs:n≤listed.size):left (listed.setIfInBounds i true) n=(left listed n).filter fun j=>j != i:=by
 unfold left
 rw[List.filter_filter]
 refine List.filter_congr fun j hj=>?_
 have hj:j<n:=by simpa using hj
 by_cases h:j=i
 ·subst h;simp[show j<listed.size by omega]
 ·have:(i:Nat)≠j:=fun e=>h e.symm
  simp[h,Array.getElem?_setIfInBounds_ne this]
theorem Es{X:RX}{loc:Nat→Nat→Prop}(hC:lI X loc C)(hchk:nB X ops=true){F:Fence}(hF:F=Fence.wide∨∃l0,F=Fence.wide.inRound l0)(hdef:∀o,o∈ops.toList→∀c,o.op≠.defer c){Qx:Exit→Act→World→Prop}{Φ0:Phi}{σ0:St}{w0:World}(n1:Nat)(hn1:n1≤ops.size)(hg1:gate ops n1=true){K:FR→St→Prop}
 (hfin:∀(fuel:Nat) (listed:Array Bool) (f:FR) (σ:St) (Φ:Phi) (w:World) (a:Act),left listed n1=[]→listed.size=ops.size→(left listed ops.size).length=fuel→pJ ops (fun i=>listed.getD i false=true)→(∀j,n1≤j→j<ops.size→listed.getD j true=false)→Inv Φ w σ→cG Φ a.tmps f→cT Φ w a.defers f.d→DOk X loc f→Step Φ0 σ0 w0 Φ σ w →
   K f σ→wpAnyIn F 0 P .any ops Qx fuel listed a w):∀(fuel:Nat) (listed:Array Bool) (f:FR) (σ:St) (Φ:Phi) (w:World) (a:Act),listed.size=ops.size→(left listed ops.size).length=fuel →
  pJ ops (fun i=>listed.getD i false=true)→(∀j,n1≤j→j<ops.size→listed.getD j true=false)→Inv Φ w σ→cG Φ a.tmps f→cT Φ w a.defers f.d→DOk X loc f→Step Φ0 σ0 w0 Φ σ w →
  gl P C ops (fun f' _ σ'=>∃f'',FEq f' f''∧K f'' σ') (opsOf ops (left listed n1)) f (fun l=>Φ.obj l≠none) σ→wpAnyIn F 0 P .any ops Qx fuel listed a w:=by
 have hKok:KOk (fun f' (_:Nat→Prop) σ'=>∃f'',FEq f' f''∧K f'' σ'):=fun f f' U U' σ hf _ ⟨f'',h1,h2⟩=>⟨f'',hf.symm.trans h1,h2⟩
 have ready_left:∀(listed:Array Bool) i,i∈Region.ready .any ops listed→i∈left listed ops.size:=fun listed i hi=>by
  obtain⟨h0,o,ho,-⟩:=mem_ready.1 hi
  exact mem_left.2 ⟨(Array.getElem?_eq_some_iff.1 ho).1,h0⟩
 have chk1:∀i oi,ops[i]?=some oi→(∀e,e∈oi.after.toList→Region.binds .any e=true→e.on<i)∧∀j oj,j<i→ops[j]?=some oj→((nL ops.toList []).getD i 0).testBit j=true∨uL X ops oj oi=true:=by
  intro i oi hoi
  have hlt:=(Array.getElem?_eq_some_iff.1 hoi).1
  have h:=hchk
  simp only[nB,Bool.and_eq_true] at h
  replace h:=h.2
  simp only[List.all_eq_true,List.mem_range] at h
  have h1:=h i hlt
  rw[hoi] at h1
  simp only[Bool.and_eq_true,List.all_eq_true,Bool.or_eq_true,Bool.not_eq_true',decide_eq_true_eq,List.mem_range] at h1
  refine⟨fun e he hb=>?_,fun j oj hj hoj=>?_⟩
  ·rcases h1.1 e he with q|q
   ·rw[hb] at q;cases q
   ·exact q
  ·have:=h1.2 j hj
   rw[hoj] at this
   simpa using this
 intro fuel
 induction fuel with
 | zero =>
  intro listed f σ Φ w a hsz hl hc hup hi hr hd hD hs h
  have hnil0:left listed ops.size=[]:=List.eq_nil_of_length_eq_zero hl
  have hnil:left listed n1=[]:=by
   rw[List.eq_nil_iff_forall_not_mem]
   intro i hi
   obtain⟨h1,h2⟩:=mem_left.1 hi
   have:i∈left listed ops.size:=mem_left.2 ⟨by omega,h2⟩
   rw[hnil0] at this;cases this
  rw[hnil] at h
  obtain⟨f'',h1,h2⟩:=h
  exact hfin 0 listed f'' σ Φ w a hnil hsz hl hc hup hi ⟨hr.1.trans h1.1,fun t=>by rw[←h1.2.2 t];exact hr.2 t⟩ (h1.2.1 ▸ hd) ⟨fun t ht=>by rw[←h1.2.2 t];exact hD.1 t ht,hD.2.1,fun p hp=>⟨(hD.2.2 p hp).1,fun l i o e=>(hD.2.2 p hp).2 l i o (by rw[h1.2.2];exact e)⟩⟩ hs h2
 | succ fuel ih =>
  intro listed f σ Φ w a hsz hl hc hup hi hr hd hD hs h
  by_cases hnil:left listed n1=[]
  ·rw[hnil] at h
   obtain⟨f'',h1,h2⟩:=h
   exact hfin (fuel+1) listed f'' σ Φ w a hnil hsz hl hc hup hi ⟨hr.1.trans h1.1,fun t=>by rw[←h1.2.2 t];exact hr.2 t⟩ (h1.2.1 ▸ hd) ⟨fun t ht=>by rw[←h1.2.2 t];exact hD.1 t ht,hD.2.1,fun p hp=>⟨(hD.2.2 p hp).1,fun l i o e=>(hD.2.2 p hp).2 l i o (by rw[h1.2.2];exact e)⟩⟩ hs h2
  refine⟨fun hnone=>?_,fun i hrd=>?_⟩
  ·-- the first that is left is ready
   exfalso
   cases hleft:left listed ops.size with
   | nil=>rw[hleft] at hl;cases hl
   | cons i0 r =>
    have h0:i0∈left listed ops.size:=by rw[hleft];simp
    obtain⟨hlt,h0'⟩:=mem_left.1 h0
    have hoi:ops[i0]?=some ops[i0]:=Array.getElem?_eq_getElem hlt
    have:i0∈Region.ready .any ops listed:=mem_ready.2 ⟨h0',_,hoi,fun e he hb=>by
     have hlt':=(chk1 i0 _ hoi).1 e (by simpa using he) hb
     cases hq:listed.getD e.on false with
     | true=>rfl
     | false =>
      exfalso
      have hm:e.on∈left listed ops.size:=mem_left.2 ⟨by omega,by
       have hb2:e.on<listed.size:=by omega
       simpa[hb2] using hq⟩
      have hp:(left listed ops.size).Pairwise (·<·):=List.Pairwise.filter _ List.pairwise_lt_range
      rw[hleft] at hp hm
      have:=(List.pairwise_cons.1 hp).1
      rcases List.mem_cons.1 hm with q|q
      ·omega
      ·have:=this e.on q;omega⟩
    rw[hnone] at this;cases this
  ·obtain⟨h0,o,ho,hpre⟩:=mem_ready.1 hrd
   have hio:i<ops.size:=(Array.getElem?_eq_some_iff.1 ho).1
   have hmask:∀j,((nL ops.toList []).getD i 0).testBit j=true→listed.getD j false=true:=fun j q =>
    nX (L:=fun i=>listed.getD i false=true) ops.toList [] [] rfl (by simpa using hc) (fun i hi j hj=>by simp at hj) i (.inr ⟨o,by simpa using ho,fun e he hb=>hpre e (by simpa using he) hb⟩) j q
   have hin1:i<n1:=by
    refine Classical.byContradiction fun hge=>hnil ?_
    rw[List.eq_nil_iff_forall_not_mem]
    intro j hj
    obtain⟨q1,q2⟩:=mem_left.1 hj
    have:=hmask j (EK hg1 hio (by omega) q1)
    have hb2:j<listed.size:=by omega
    simp[hb2] at this q2
    rw[this] at q2;cases q2
   have hmem:i∈left listed n1:=mem_left.2 ⟨hin1,h0⟩
   obtain⟨l1,l2,he,hlt,hflt⟩:=nV hmem
   have hsw:∀x,x∈opsOf ops l1→uL X ops x o=true:=by
    intro x hx
    obtain⟨j,hj,hx⟩:=List.mem_filterMap.1 hx
    rcases (chk1 i o ho).2 j x (hlt j hj) hx with q|q
    ·exfalso
     have:=hmask j q
     have hjl:j∈left listed n1:=by rw[he];simp[hj]
     have hj2:=(mem_left.1 hjl)
     have hb2:j<listed.size:=by omega
     simp[hb2] at this hj2
     simp[this] at hj2
    ·exact q
   have e2:opsOf ops (left listed n1)=opsOf ops l1++o::opsOf ops l2:=by rw[he];simp[opsOf,List.filterMap_append,ho]
   rw[e2] at h
   have hdom:Dom (fun l=>Φ.obj l≠none) σ:=fun l hl q=>hl (hi.eE q)
   have hfin':Fin (fun l=>Φ.obj l≠none):=by
    obtain⟨n,hn⟩:=hi.fresh.1.1
    exact⟨n,fun l hl q=>q (hn l hl)⟩
   have hkall:∀(j:Nat) x,ops[j]?=some x→nU X x=true:=fun j x hx=>by
    have h:=hchk
    simp only[nB,Bool.and_eq_true,List.all_eq_true] at h
    exact h.1 x (by rw[←Array.getElem?_toList] at hx;exact List.mem_of_getElem? hx)
   have hp:=CV (pull hKok hC (opsOf ops l2) o (opsOf ops l1) f _ σ hdom hfin' hD hsw (fun x hx=>by
    obtain⟨j,hj,hx⟩:=List.mem_filterMap.1 hx
    exact hkall j x hx) h)
   have e3:opsOf ops (left (listed.setIfInBounds i true) n1)=opsOf ops l1++opsOf ops l2:=by rw[xF (by omega),hflt];simp[opsOf,List.filterMap_append]
   have hlen:(left (listed.setIfInBounds i true) ops.size).length=fuel:=by
    obtain⟨m1,m2,hm,-,hmf⟩:=nV (ready_left listed i hrd)
    rw[sT hsz,hmf]
    rw[hm] at hl
    simp at hl ⊢;omega
   have hup':∀j,n1≤j→j<ops.size→(listed.setIfInBounds i true).getD j true=false:=fun j h1 h2=>by
    have hne:i≠j:=by omega
    rw[←hup j h1 h2]
    simp[Array.getElem?_setIfInBounds_ne hne]
   have hcl:pJ ops (fun k=>(listed.setIfInBounds i true).getD k false=true):=by
    intro k ok hk hlk e hek hb
    by_cases hki:k=i
    ·subst hki
     rw[ho] at hk;cases hk
     exact getD_set_true (hpre e (by simpa using hek) hb)
    ·have:listed.getD k false=true:=by rw[←hlk,getD_set_ne _ (Ne.symm hki)]
     exact getD_set_true (hc k ok hk this e hek hb)
   have next:∀v mv σ' Φ' w' ,Rel Φ' v mv→Inv Φ' w' σ'→Step Φ σ w Φ' σ' w' →
     (∃U':Nat→Prop,(∀l,U' l→Φ.obj l≠none∨σ' l≠none)∧GV (gfo P C ops f o) mv∧∀U1',(∀l,U' l→U1' l)→gl P C ops (fun f' _ σ'=>∃f'',FEq f' f''∧K f'' σ') (opsOf ops l1++opsOf ops l2) (bA f o.dst mv) U1' σ') →
     wpAnyIn F 0 P .any ops Qx fuel (listed.setIfInBounds i true) (a.put o.dst v) w':=by
    rintro v mv σ' Φ' w' r1 i1 s1 ⟨U',hu,hgv,hk⟩
    refine ih _ (bA f o.dst mv) σ' Φ' w' (a.put o.dst v) (by simpa using hsz) hlen hcl hup' i1 (cI (hr.mono s1.le) o.dst r1) (by rw[bI,dS];exact hd.step hi s1) (hD.put (hkall i o ho) hgv) (hs.trans s1) ?_
    rw[e3]
    refine hk _ fun l hl=>?_
    rcases hu l hl with q|q
    ·intro hn
     cases hp:Φ.obj l with
     | none=>exact q hp
     | some p=>rw[s1.le.obj l p hp] at hn;cases hn
    ·intro hn;exact q (i1.eE hn)
   unfold wpOpIn
   rw[ho]
   simp only
   have hFo:F=Fence.wide∨∃l0,F=Fence.wide.inRound l0∧∀c,o.op≠.defer c:=hF.imp id fun⟨l0,e⟩=>⟨l0,e,hdef o (by rw[←Array.getElem?_toList] at ho;exact List.mem_of_getElem? ho)⟩
   have hfn:∀g,F.fn g:=fun g=>by rcases hF with rfl|⟨l,rfl⟩<;>trivial
   have run:gs (fun l=>Φ.obj l≠none) σ (gop P C f o.op) (fun v U1 σ1=>GV (gfo P C ops f o) v∧∀U1',(∀l,U1 l→U1' l)→gl P C ops (fun f' _ σ'=>∃f'',FEq f' f''∧K f'' σ') (opsOf ops l1++opsOf ops l2) (bA f o.dst v) U1' σ1) →
     o.wpIn F 0 P a w (wpAnyIn F 0 P .any ops Qx fuel (listed.setIfInBounds i true)) Qx:=by
    intro hg
    refine fO hFo ?_
    refine kE (L1 hg) Φ w a _ _ hi hr fun v mv σ' Φ' w' r1 i1 s1 hk=>next v mv σ' Φ' w' r1 i1 s1 (hk fun l h1 h2 q=>?_)
    rcases s1.locs l _ (Option.ne_none_iff_exists'.1 h1).choose_spec with⟨o',ho'⟩|ho'
    ·rw[h2] at ho';cases ho'
    ·exact q ho'
   obtain⟨G,hG⟩:∃G,GV (gfo P C ops f o)=G:=⟨_,rfl⟩
   rw[hG] at hp run next
   unfold gfo at hp
   split at hp
   ·rename_i hg
    have hw:Region.wanted o (yielded ops a.tmps)=true:=by unfold Region.wanted;rw[hg]
    rw[if_pos hw]
    exact run hp
   ·rename_i j want hg
    split at hp
    ·rename_i t ht
     split at hp
     ·rename_i b hb
      have hmg:∀{A B:Prop},(b=want→A)∧(b=(!want)→B)→(Region.wanted o (yielded ops a.tmps)=true∧A)∨(Region.wanted o (yielded ops a.tmps)=false∧B):=fun {A B} h =>
       cE (ops:=ops) (o:=o) (f:=f) (by unfold eR;rw[hg];simp only[ht,hb];exact h) hr
      split at hp
      ·rename_i hbw
       rcases hmg (A:=True) (B:=False) ⟨fun _=>trivial,fun e=>by rw[hbw] at e;cases want<;>cases e⟩ with⟨hw,-⟩|⟨-,hw⟩
       ·rw[if_pos hw];exact run hp
       ·exact hw.elim
      ·rename_i hbw
       rcases hmg (A:=False) (B:=True) ⟨fun e=>hbw e,fun _=>trivial⟩ with⟨-,hw⟩|⟨hw,-⟩
       ·exact hw.elim
       ·rw[if_neg (by simp[hw])]
        obtain⟨-,U',hu,hgv,hk⟩:=k8 hp
        exact⟨fun f _=>hfn f,next undef (.tup []) σ Φ w eV hi (.refl _ _ _) ⟨U',hu,hgv,hk⟩⟩
     ·rename_i hb
      rcases cE (ops:=ops) (o:=o) (f:=f) (yes:=False) (no:=True) (by unfold eR;rw[hg];simp only[ht,hb]) hr with⟨-,hw⟩|⟨hw,-⟩
      ·exact hw.elim
      ·rw[if_neg (by simp[hw])]
       obtain⟨-,U',hu,hgv,hk⟩:=k8 hp
       exact⟨fun f _=>hfn f,next undef (.tup []) σ Φ w eV hi (.refl _ _ _) ⟨U',hu,hgv,hk⟩⟩
     ·exact(eM hp).elim
    ·exact(eM hp).elim
theorem xE{n m:Nat}(h:m≤n):left (Array.replicate n false) m=List.range m:=by
 unfold left
 refine List.filter_eq_self.2 fun j hj=>?_
 have hj:j<m:=by simpa using hj
 simp[show j<n by omega]
theorem Bz:∀(l:List Oper) (n:Nat),n≤l.length→opsOf l.toArray (List.range n)=l.take n:=by
 intro l n hn
 unfold opsOf
 induction n with
 | zero=>simp
 | succ n ih =>
  rw[List.range_succ,List.filterMap_append,ih (by omega),List.take_add_one]
  congr 1
  cases hl:l[n]? with
  | none=>simp[hl]
  | some o=>simp[hl]
theorem DP(l:List Oper)(n:Nat):∀m,opsOf l.toArray ((List.range' n m))=(l.drop n).take m:=by
 intro m
 induction m generalizing n with
 | zero=>simp[opsOf]
 | succ m ih =>
  have ih:=ih (n+1)
  unfold opsOf at ih ⊢
  simp only[List.getElem?_toArray] at ih ⊢
  rw[List.range'_succ,List.filterMap_cons]
  cases hl:l[n]? with
  | none =>
   have:l.length≤n:=List.getElem?_eq_none_iff.1 hl
   simp only[hl]
   rw[ih,List.drop_eq_nil_of_le (by omega),List.drop_eq_nil_of_le this]
   simp
  | some o =>
   have hn:=(List.getElem?_eq_some_iff.1 hl).1
   have ho:=(List.getElem?_eq_some_iff.1 hl).2
   simp only[hl]
   rw[ih,List.drop_eq_getElem_cons hn,List.take_succ_cons,ho]
theorem left_at{listed:Array Bool}{n n1:Nat}(hs:listed.size=n)(h1:left listed n1=[])(hn:n1≤n)(hup:∀j,n1≤j→j<n→listed.getD j true=false):left listed n=List.range' n1 (n - n1):=by
 have e:List.range n=List.range n1++List.range' n1 (n - n1):=by
  obtain⟨d,rfl⟩:∃d,n=n1+d:=⟨n - n1,by omega⟩
  rw[Nat.add_sub_cancel_left,List.range_add,List.range'_eq_map_range]
 unfold left at h1 ⊢
 rw[e,List.filter_append,h1,List.nil_append]
 refine List.filter_eq_self.2 fun j hj=>?_
 have hj':=List.mem_range'_1.1 hj
 rw[hup j hj'.1 (by omega)]
 rfl
theorem Ie{u:fS}(hC:PlU u C){MC:FuncId→List MV→St→(MV→St→Prop)→Prop}(hMC:∀U σ,Dom U σ→∀g ms k,MC g ms σ k→gs U σ (fP P C g ms) fun v _ σ'=>k v σ'){K:FR→St→Prop}{l:List Oper}{f:FR}{σ:St}{Φ:Phi}{w:World}(hi:Inv Φ w σ)(h:cK P MC ops K l f σ):gl P C ops (fun f' _ σ'=>∃f'',FEq f' f''∧K f'' σ') l f (fun l=>Φ.obj l≠none) σ:=by
 refine LX (C:=C) (MC:=MC) hMC (u:=u) hC l f _ σ (fun l hl q=>hl (hi.eE q)) ?_ h
 obtain⟨n,hn⟩:=hi.fresh.1.1
 exact⟨n,fun l hl q=>q (hn l hl)⟩
def NOk(P:Program)(MC:FuncId→List MV→St→(MV→St→Prop)→Prop)(ops:Array Oper)(post:List Oper)(Qx:Exit→Act→World→Prop)(N:Act→World→Prop):Prop :=
 ∀(K2:FR→St→Prop) (f2:FR) (σ2:St) (Φ2:Phi) (w2:World) (a2:Act),Inv Φ2 w2 σ2→cG Φ2 a2.tmps f2→cT Φ2 w2 a2.defers f2.d →
  (∀f3 σ3 Φ3 w3 a3,Inv Φ3 w3 σ3→cG Φ3 a3.tmps f3→cT Φ3 w3 a3.defers f3.d→Step Φ2 σ2 w2 Φ3 σ3 w3→K2 f3 σ3→Qx .normal a3 w3)→cK P MC ops K2 post f2 σ2→N a2 w2
def Ek(F:Fence)(P:Program)(ops:Array Oper)(Qx:Exit→Act→World→Prop)(y:Oper)(a:Act)(w:World)(N:Act→World→Prop):Prop :=
 if Region.wanted y (yielded ops a.tmps) then y.wpIn F 0 P a w N Qx else(∀f,y.about P w a.eval=some f→F.fn f)∧N (a.put y.dst undef) w
theorem tT(hm:P.follows .mixedOrders=true)(u:fS)(hCu:PlU u C){MC:FuncId→List MV→St→(MV→St→Prop)→Prop}(hMC:∀U σ,Dom U σ→∀g ms k,MC g ms σ k→gs U σ (fP P C g ms) fun v _ σ'=>k v σ')(pre:List Oper)(y:Oper)(post:List Oper)(ho:ops=(pre++y::post).toArray)(hdef:∀o,o∈ops.toList→∀c,o.op≠.defer c)(hchk:nB ⟨[],[],none,u⟩ ops=true)(hg1:gate ops pre.length=true)(hg2:gate ops (pre.length+1)=true)
 {F:Fence}(hF:F=Fence.wide∨∃l0,F=Fence.wide.inRound l0){Qx:Exit→Act→World→Prop}{id:Nat}{f:FR}{σ:St}{Φ:Phi}{w:World}{a:Act}{K1:FR→St→Prop}(hi:Inv Φ w σ)(hr:cG Φ a.tmps f)(hd:cT Φ w a.defers f.d)
 (hy:∀f1 σ1 Φ1 w1 a1 N,Inv Φ1 w1 σ1→cG Φ1 a1.tmps f1→cT Φ1 w1 a1.defers f1.d→Step Φ σ w Φ1 σ1 w1→K1 f1 σ1→NOk P MC ops post Qx N→Ek F P ops Qx y a1 w1 N)
 (h:cK P MC ops K1 pre f σ):(Code.region id ops true).wpIn F 0 P Qx a w:=by
 have hsz:ops.size=pre.length+1+post.length:=by rw[ho];simp;omega
 have hC:lI ⟨[],[],none,u⟩ (fun _ _=>True) C:=⟨hCu,trivial⟩
 have hD0:∀f,DOk ⟨[],[],none,u⟩ (fun _ _=>True) f:=fun f=>⟨fun t ht=>(by cases ht),fun t t' ht=>(by cases ht),fun p hp=>(by cases hp)⟩
 have hi':Inv Φ { w with drawn:=w.drawn+1 } σ:=⟨fun l o hl=>by
  have:=hi.own l o hl
  cases o<;>exact this,hi.inj,hi.snap,hi.apart,hi.fresh⟩
 have hst:Step Φ σ w Φ σ { w with drawn:=w.drawn+1 }:=⟨.refl Φ,rfl,rfl,rfl,iN (Nat.le_succ _),Nat.le_refl _,fun _ _ _=>rfl,fun _ _ h=>.inl h,fun l o h=>.inl ⟨o,h⟩,fun _ h=>.inl h⟩
 have yat:ops[pre.length]?=some y:=by rw[ho];simp
 refine wpIn_region_any hm (Es (C:=C) (K:=K1) hC hchk hF hdef (Φ0:=Φ) (σ0:=σ) (w0:=w) pre.length (by omega) hg1 ?_ ops.size _ f σ Φ _ a (by simp) ?_ ?_ (fun j _ hj=>by simp[hj]) hi' hr (hd.step hi hst) (hD0 f) hst ?_)
 ·intro fuel listed f1 σ1 Φ1 w1 a1 hnil hls hlen hcl hup i1 r1 d1 _ s1 k1
  have hleft:=left_at hls hnil (by omega) hup
  have hfuel:fuel=post.length+1:=by rw[←hlen,hleft,List.length_range'];omega
  subst hfuel
  have chk1:∀i oi,ops[i]?=some oi→∀e,e∈oi.after.toList→Region.binds .any e=true→e.on<i:=by
   intro i oi hoi e he hb
   have hlt:=(Array.getElem?_eq_some_iff.1 hoi).1
   have h:=hchk
   simp only[nB,Bool.and_eq_true] at h
   replace h:=h.2
   simp only[List.all_eq_true,List.mem_range] at h
   have h1:=h i hlt
   rw[hoi] at h1
   simp only[Bool.and_eq_true,List.all_eq_true,Bool.or_eq_true,Bool.not_eq_true',decide_eq_true_eq,List.mem_range] at h1
   rcases h1.1 e he with q|q
   ·rw[hb] at q;cases q
   ·exact q
  have hlow:∀j,j<pre.length→listed.getD j false=true:=fun j hj=>by
   refine Classical.byContradiction fun hq=>?_
   have hb2:j<listed.size:=by omega
   have:j∈left listed pre.length:=mem_left.2 ⟨hj,by
    cases hb:listed[j]'hb2
    ·simp[hb2,hb]
    ·simp[hb2,hb] at hq⟩
   rw[hnil] at this;cases this
  refine⟨fun hnone=>?_,fun i hrd=>?_⟩
  ·exfalso
   have hb2:pre.length<listed.size:=by omega
   have:pre.length∈Region.ready .any ops listed:=mem_ready.2 ⟨hup _ (Nat.le_refl _) (by omega),y,yat,fun e he hb=>hlow _ (chk1 _ _ yat e (by simpa using he) hb)⟩
   rw[hnone] at this;cases this
  ·obtain⟨h0,o,hoi,hpre⟩:=mem_ready.1 hrd
   have hio:i<ops.size:=(Array.getElem?_eq_some_iff.1 hoi).1
   have hmask:∀j,((nL ops.toList []).getD i 0).testBit j=true→listed.getD j false=true:=fun j q =>
    nX (L:=fun i=>listed.getD i false=true) ops.toList [] [] rfl (by simpa using hcl) (fun i hi j hj=>by simp at hj) i (.inr ⟨o,by simpa using hoi,fun e he hb=>hpre e (by simpa using he) hb⟩) j q
   have hge:pre.length≤i:=by
    refine Classical.byContradiction fun hlt=>?_
    have:=hlow i (by omega)
    have hb2:i<listed.size:=by omega
    simp[hb2] at this h0
    rw[this] at h0;cases h0
   have hle:i≤pre.length:=by
    refine Classical.byContradiction fun hgt=>?_
    have:=hmask pre.length (EK hg2 hio (by omega) (Nat.lt_succ_self _))
    have q:=hup pre.length (Nat.le_refl _) (by omega)
    have hb2:pre.length<listed.size:=by omega
    simp[hb2] at this q
    rw[this] at q;cases q
   have hii:i=pre.length:=by omega
   subst hii
   rw[yat] at hoi;cases hoi
   unfold wpOpIn
   rw[yat]
   refine hy f1 σ1 Φ1 w1 a1 _ i1 r1 d1 s1 k1 ?_
   intro K2 f2 σ2 Φ2 w2 a2 i2 r2 d2 hfin h2
   have hup2:∀j,pre.length+1≤j→j<ops.size→(listed.setIfInBounds pre.length true).getD j true=false:=fun j h1 h2=>by
    have hne:pre.length≠j:=by omega
    rw[←hup j (by omega) h2]
    simp[Array.getElem?_setIfInBounds_ne hne]
   have hl2:left (listed.setIfInBounds pre.length true) ops.size=List.range' (pre.length+1) post.length:=by
    rw[left_at (n1:=pre.length+1) (by simpa using hls) ?_ (by omega) hup2,hsz]
    ·congr 1;omega
    ·rw[xF (by omega)]
     rw[List.eq_nil_iff_forall_not_mem]
     intro j hj
     obtain⟨q1,q2⟩:=List.mem_filter.1 hj
     obtain⟨q3,q4⟩:=mem_left.1 q1
     have hjn:j≠pre.length:=by simpa using q2
     have:j∈left listed pre.length:=mem_left.2 ⟨by omega,q4⟩
     rw[hnil] at this;cases this
   refine Es (C:=C) (K:=K2) hC hchk hF hdef (Φ0:=Φ2) (σ0:=σ2) (w0:=w2) ops.size (Nat.le_refl _) (List.all_eq_true.2 fun i hi=>by simp at hi;simp[hi]) ?_ post.length _ f2 σ2 Φ2 w2 a2 (by simpa using hls) (by rw[hl2,List.length_range']) ?_ (fun j h1 h2=>by omega) i2 r2 d2 (hD0 f2) (.refl _ _ _) ?_
   ·intro fuel listed3 f3 σ3 Φ3 w3 a3 hnil3 hls3 hlen3 _ _ i3 r3 d3 _ s3 k3
    rw[hnil3] at hlen3
    simp at hlen3
    subst hlen3
    refine⟨?_,hfin f3 σ3 Φ3 w3 a3 i3 r3 d3 s3 k3⟩
    rw[List.eq_nil_iff_forall_not_mem]
    intro i hi
    obtain⟨q1,o,q2,-⟩:=mem_ready.1 hi
    have:i∈left listed3 ops.size:=mem_left.2 ⟨(Array.getElem?_eq_some_iff.1 q2).1,q1⟩
    rw[hnil3] at this;cases this
   ·intro k ok hk hlk e hek hb
    by_cases hki:k=pre.length
    ·subst hki
     rw[yat] at hk;cases hk
     exact getD_set_true (hpre e (by simpa using hek) hb)
    ·have:listed.getD k false=true:=by rw[←hlk,getD_set_ne _ (Ne.symm hki)]
     exact getD_set_true (hcl k ok hk this e hek hb)
   ·rw[hl2]
    have e:opsOf ops (List.range' (pre.length+1) post.length)=post:=by
     rw[ho,DP]
     simp
    rw[e]
    exact Ie hCu hMC i2 h2
 ·rw[xE (Nat.le_refl _)];simp
 ·intro i o ho hl
  simp only[Array.getD_eq_getD_getElem?,Array.getElem?_replicate] at hl
  split at hl<;>simp at hl
 ·rw[xE (by omega)]
  have e:opsOf ops (List.range pre.length)=pre:=by
   rw[ho,Bz _ _ (by simp)]
   simp
  rw[e]
  exact Ie hCu hMC hi h
theorem G5(hm:P.follows .mixedOrders=true)(C:cC)(pre:List Oper)(y:Oper)(post:List Oper)(ho:ops=(pre++y::post).toArray)(hdef:tG (pre++y::post)=true)(hchk:(chk ops&&gate ops pre.length&&gate ops (pre.length+1))=true){id:Nat}{f:FR}{σ:St}{Q:MQ}
 (h:l6 P C ops (fun f1 σ1=>eR ops f1 y (iJ P f1 σ1 y.dst (fun f' σ'=>l6 P C ops (Q .normal) post f' σ') y.op) (l6 P C ops (Q .normal) post (bA f1 y.dst (.tup [])) σ1)) pre f σ):mwp P (.region id ops true) f σ Q:=by
 intro F hF Φ w a hi hr hd
 simp only[Bool.and_eq_true] at hchk
 have hF':F=Fence.wide∨∃l0,F=Fence.wide.inRound l0:=Or.imp (fun q=>q) (fun⟨l0,e,_⟩=>⟨l0,e⟩) hF
 have hfn:∀g,F.fn g:=fun g=>by rcases hF' with rfl|⟨l,rfl⟩<;>trivial
 have hdef':∀o,o∈ops.toList→∀c,o.op≠.defer c:=fun o h=>k0 hdef o (by rw[ho] at h;simpa using h)
 refine tT (C:=C.pl) (MC:=yR P C) hm .no C.L2.u (fun _ _ hd _ _ _ h=>EP hd h) pre y post ho hdef' hchk.1.1 hchk.1.2 hchk.2 hF' hi hr hd ?_ h
 intro f1 σ1 Φ1 w1 a1 N i1 r1 d1 s1 k1 hN
 have hyd:∀c,y.op≠.defer c:=hdef' y (by rw[ho];simp)
 have hFo:F=Fence.wide∨∃l0,F=Fence.wide.inRound l0∧∀c,y.op≠.defer c:=hF'.imp (fun q=>q) fun⟨l0,e⟩=>⟨l0,e,hyd⟩
 unfold Ek
 rcases cE k1 r1 with⟨hw,hk⟩|⟨hw,hk⟩
 ·rw[if_pos hw]
  refine fO hFo (jY hyd hk Φ1 w1 a1 _ _ i1 r1 fun v mv σ' Φ' w' r2 i2 s2 hk2=>?_)
  exact hN (Q .normal) _ σ' Φ' w' (a1.put y.dst v) i2 (cI (r1.mono s2.le) y.dst r2) (by rw[bI,dS];exact d1.step i1 s2) (fun f3 σ3 Φ3 w3 a3 i3 r3 d3 s3 k3=>⟨f3,σ3,Φ3,d3,r3,i3,s1.trans (s2.trans s3),k3⟩) hk2
 ·rw[if_neg (by simp[hw])]
  exact⟨fun f _=>hfn f,hN (Q .normal) _ σ1 Φ1 w1 (a1.put y.dst undef) i1 (cI r1 y.dst eV) (by rw[bI,dS];exact d1) (fun f3 σ3 Φ3 w3 a3 i3 r3 d3 s3 k3=>⟨f3,σ3,Φ3,d3,r3,i3,s1.trans s3,k3⟩) hk⟩
theorem HJ{C:YC}(hm:P.follows .mixedOrders=true)(L:List FuncId)(D:cC)(hDu:PlU (.these L) D)(pre:List Oper)(y:Oper)(post:List Oper)(ho:ops=(pre++y::post).toArray)(hdef:tG (pre++y::post)=true)(hchk:(nB ⟨[],[],none,.these L⟩ ops&&gate ops pre.length&&gate ops (pre.length+1))=true){id:Nat}{f:FR}{σ:St}{t:Option Nat}{Q:YQ}
 {o:Operand}{args:Array Operand}{ts:Array TypeId}(hy:y.op=.call ⟨.value o,args,ts⟩)(hspec:lK P C.l C.xs C.Y C.Yx C.Φ0 C.σ0 C.n0)
 (h:cK P (eB P D) ops (fun f1 σ1=>eR ops f1 y (∃i x,t=some i∧C.xs[i]?=some x∧(∀m,m∈x→gL m)∧aF f1 o=.fn (.yield C.l) [] []∧args.toList.map (aF f1)=x ∧
    cK P (eB P D) ops (fun f2 σ2=>Q .normal f2 σ2 (some (i+1))) post (bA f1 y.dst (.bool true)) σ1∧cK P (eB P D) ops (fun f2 σ2=>Q .normal f2 σ2 none) post (bA f1 y.dst (.bool false)) σ1)
   (cK P (eB P D) ops (fun f2 σ2=>Q .normal f2 σ2 t) post (bA f1 y.dst (.tup [])) σ1)) pre f σ):ywp P C (.region id ops true) f σ t Q:=by
 intro F hF Φ w a S hi hr hd
 simp only[Bool.and_eq_true] at hchk
 have hF':F=Fence.wide∨∃l0,F=Fence.wide.inRound l0:=Or.imp (fun q=>q) (fun⟨l0,e,_⟩=>⟨l0,e⟩) hF
 have hfn:∀g,F.fn g:=fun g=>by rcases hF' with rfl|⟨l,rfl⟩<;>trivial
 have hdep:=hF.depth
 have hdef':∀o,o∈ops.toList→∀c,o.op≠.defer c:=fun o h=>k0 hdef o (by rw[ho] at h;simpa using h)
 refine tT (C:=D) (MC:=eB P D) hm (.these L) hDu (fun _ _ hd _ _ _ h=>AJ hd h) pre y post ho hdef' hchk.1.1 hchk.1.2 hchk.2 hF' hi.inv hr hd ?_ h
 intro f1 σ1 Φ1 w1 a1 N i1 r1 d1 s1 k1 hN
 have hi1:=hi.go i1 s1
 unfold Ek
 rcases cE k1 r1 with⟨hw,hk⟩|⟨hw,hk⟩
 ·rw[if_pos hw]
  obtain⟨i,x,rfl,hx,hno,hv,hargs,ht,hfl⟩:=hk
  have rv:=aK r1 o
  rw[hv] at rv
  obtain⟨first,cap,he,h1,h2⟩:=rv.kY
  have e1:first=#[]:=Array.eq_empty_of_size_eq_zero (by simpa using h1.1)
  have e2:cap=#[]:=Array.eq_empty_of_size_eq_zero (by simpa using h2.1)
  subst e1 e2
  have hrels:=jO r1 args
  rw[hargs] at hrels
  obtain⟨Ψ,hΨ⟩:∃Ψ:Phi,Ψ=⟨Φ1.snap,fun _=>none,0⟩:=⟨_,rfl⟩
  have hrels':fH Ψ (args.map a1.eval) x:=⟨hrels.1,fun j m hm=>by
   subst hΨ
   exact gL.rel (Φ:=Φ1) (Φ':=⟨Φ1.snap,fun _=>none,0⟩) (fun _ _ q=>q) (hno m (List.mem_of_getElem? hm)) (hrels.2 j m hm)⟩
  obtain⟨fn,tmps,assign,body,hrun,hround⟩:=hspec i x S w1 Ψ (args.map a1.eval) hx hi1.st hi1.apt.agree hi1.size (fun m=>by subst hΨ;rfl) (fun b v q=>by
   subst hΨ
   exact⟨i1.snap b v q,hi1.apt.snap b v q,hi1.snapn b v q⟩) hrels'
  have hsem:(y.semAt F.round a1.eval).run P w1=.ok (.round C.l fn tmps assign body) w1:=by
   rw[Oper.semAt_eq _ _ _ (by rw[hy];intro c e;cases e)]
   unfold execOp
   simp only[hy,resolve,he,Deferred.ofValue,Sem.run_bind,Sem.run_pure,Result.andThen_ok,invoke,Array.empty_append,Array.append_empty]
   exact hrun
  refine⟨fun g _=>hfn g,?_⟩
  rw[hsem]
  refine⟨(fun q=>by rw[hdep] at q;cases q),?_⟩
  refine(nO hF' hround).mono ?_
  rintro e w2 ⟨b,S',rfl,hS1,hS2,hS3,hS4,hS5,hS6,hS7,hS8,hS9,hS10,hS11⟩
  -- our own side is as it was
  have ow:∀k,aR Φ1 σ1 k→w2.heap[k]?=w1.heap[k]?:=fun k hk=>by
   refine hS8 k ?_ fun q=>hi1.apt.own k q hk
   obtain⟨l,ob,p,q1,q2,q3⟩:=hk
   obtain⟨p',e,hlt⟩:=(i1.own l ob q1).place
   rw[q2] at e;cases e
   exact hlt k q3
  have i2:Inv Φ1 w2 σ1:=⟨fun l ob hl=>(i1.own l ob hl).mono (.refl _) fun p R q1 q2=>ow R ⟨l,ob,p,hl,q1,q2⟩,i1.inj,fun c v q=>by
    have hb:=World.block_lt_of_cell? w1 c (i1.snap c v q)
    rw[World.dJ (hS8 c.block hb (hi1.apt.snap c v q))]
    exact i1.snap c v q,i1.apart,i1.fresh⟩
  have apt2:Apt Φ1 σ1 S' w2:=by
   have lt1:∀k,aR Φ1 σ1 k→k<w1.heap.size:=fun k ⟨l,ob,p,q1,q2,q3⟩=>by
    obtain⟨p',e,hlt⟩:=(i1.own l ob q1).place
    rw[q2] at e;cases e
    exact hlt k q3
   refine⟨hS2,fun k hk ho=>?_,fun c v q ho=>?_,fun c v q hk=>?_⟩
   ·rcases hS9 k hk with q|q
    ·exact hi1.apt.own k q ho
    ·have:=lt1 k ho;omega
   ·rcases hS10 c v q with q|q|q|q
    ·exact hi1.apt.snown c v q ho
    ·exact hi1.apt.own _ q ho
    ·have:=lt1 _ ho;omega
    ·subst hΨ
     obtain⟨l,ob,p,q1,q2,q3⟩:=ho
     exact i1.apart l ob p c.block c v q1 q2 q3 q rfl
   ·rcases hS9 _ hk with p|p
    ·exact hi1.apt.snap c v q p
    ·have:=World.block_lt_of_cell? w1 c (i1.snap c v q);omega
  have st2:cU Φ1 σ1 w1 S Φ1 σ1 w2 S':=⟨.refl _,hS3,hS4,hS5,hS6,hS7,fun k hk _ hw=>hS8 k hk hw,fun c v q=>.inl q,fun R q=>.inl q,hS9,fun c v q=>by
   subst hΨ
   rcases hS10 c v q with q|q|q|q
   ·exact .inl q
   ·exact .inr (.inl q)
   ·exact .inr (.inr (.inl q))
   ·exact .inr (.inr (.inr (.inl q)))⟩
  have d2:cT Φ1 w2 a1.defers f1.d:=d1.mono (.refl _) hS7 fun D hD=>by
   rw[hS8 D (Array.getElem?_eq_some_iff.1 hD).1 (fun q=>hi1.apt.agree.nomark D q _ ((hi1.apt.agree.same D q).symm.trans hD))]
   exact hD
  have go:∀(b:Bool) (t':Option Nat),C.st t' S'→cK P (eB P D) ops (fun f2 σ2=>Q .normal f2 σ2 t') post (bA f1 y.dst (.bool b)) σ1→N (a1.put y.dst (.bool b)) w2:=by
   intro b t' hst hm
   have hyi:gQ C Φ1 σ1 w2 S' t':=⟨i2,apt2,hi1.snapn,hi1.ownd,Nat.le_trans hi1.size hS7,hst⟩
   exact hN (fun f2 σ2=>Q .normal f2 σ2 t') _ σ1 Φ1 w2 (a1.put y.dst (.bool b)) i2 (cI r1 y.dst (.bool b)) (by rw[bI,dS];exact d2)
    (fun f3 σ3 Φ3 w3 a3 i3 r3 d3 s3 k3=>⟨f3,σ3,t',Φ3,S',hyi.go i3 s3,r3,d3,((cU.of S s1).trans st2).trans (.of S' s3),k3⟩) hm
  cases b with
  | true=>exact go true (some (i+1)) (by rw[if_pos rfl] at hS11;exact hS11) ht
  | false=>exact go false none (by rw[if_neg (by decide)] at hS11;exact hS11) hfl
 ·rw[if_neg (by simp[hw])]
  exact⟨fun f _=>hfn f,hN (fun f2 σ2=>Q .normal f2 σ2 t) _ σ1 Φ1 w1 (a1.put y.dst undef) i1 (cI r1 y.dst eV) (by rw[bI,dS];exact d1) (fun f3 σ3 Φ3 w3 a3 i3 r3 d3 s3 k3=>⟨f3,σ3,t,Φ3,S,hi1.go i3 s3,r3,d3,(cU.of S s1).trans (.of S s3),k3⟩) hk⟩
theorem fQ{id:Nat}{l:List Oper}{f:FR}{σ:St}{Q:MQ}(hm:P.follows .mixedOrders=true)(C:cC)(pre:List Oper){dst:Option Tmp}{op:Op}{ty:TypeId}{pos:String}{after:Array Edge}(post:List Oper)(ho:l=pre++⟨dst,op,ty,pos,after,none⟩::post)
 (hchk:(tG l&&(chk l.toArray&&gate l.toArray pre.length&&gate l.toArray (pre.length+1)))=true)
 (h:R (l6 P C (@OfNat.ofNat (Array Oper) (nat_lit 0) (@_root_.id (OfNat (Array Oper) (nat_lit 0)) (OfNat.mk (l.toArray)))) (fun f1 σ1=>iJ P f1 σ1 dst (fun f' σ'=>l6 P C (@OfNat.ofNat (Array Oper) (nat_lit 0) (@_root_.id (OfNat (Array Oper) (nat_lit 0)) (OfNat.mk (l.toArray)))) (Q .normal) (@OfNat.ofNat (List Oper) (nat_lit 0) (@_root_.id (OfNat (List Oper) (nat_lit 0)) (OfNat.mk post))) f' σ') op)
   (@OfNat.ofNat (List Oper) (nat_lit 0) (@_root_.id (OfNat (List Oper) (nat_lit 0)) (OfNat.mk pre))) f σ)):R (qV P id (@OfNat.ofNat (List Oper) (nat_lit 0) (@_root_.id (OfNat (List Oper) (nat_lit 0)) (OfNat.mk l))) f σ Q):=by
 rw[Bool.and_eq_true] at hchk
 exact G5 hm C pre ⟨dst,op,ty,pos,after,none⟩ post (by rw[←ho]) (by rw[←ho];exact hchk.1) hchk.2 h
end
end
end Go.Proofs.YtaojijkdamfbnaaGreatDoor
