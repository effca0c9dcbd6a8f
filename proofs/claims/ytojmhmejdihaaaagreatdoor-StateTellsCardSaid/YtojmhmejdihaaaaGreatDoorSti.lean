/- Parts of the proof, joined; conditions: those that its theorems name. -/
import Derived.Test.YtojmhmejdihaaaaGreatDoorStg
set_option linter.unusedVariables false
set_option linter.unusedSimpArgs false
set_option maxHeartbeats 4000000
namespace Go.Proofs.YtojmhmejdihaaaaGreatDoor
section
set_option maxRecDepth 100000
set_option maxHeartbeats 4000000
theorem tZ{n:Nat}(h:n<4294967296):IntKind.u32.wrap (n:Int)=(n:Int):=by
 simp only[IntKind.wrap,IntKind.signed,IntKind.bits]
 simp
 omega
theorem F4(a b:Nat)(ha:a<4294967296)(hb:b<4294967296):mE .u32 (a:Int) (b:Int)=((a &&& b:Nat):Int):=by
 have hab:a &&& b<4294967296:=Nat.lt_of_le_of_lt Nat.and_le_left ha
 unfold mE
 have e:(BitVec.ofInt IntKind.u32.bits (a:Int) &&& BitVec.ofInt IntKind.u32.bits (b:Int)).toNat=a &&& b:=by
  rw[BitVec.toNat_and]
  simp only[BitVec.ofInt_natCast,BitVec.toNat_ofNat,IntKind.bits]
  rw[Nat.mod_eq_of_lt (by omega),Nat.mod_eq_of_lt (by omega)]
 rw[e]
 exact tZ hab
theorem QT(a b:Nat)(ha:a<4294967296)(hb:b<4294967296):orK .u32 (a:Int) (b:Int)=((a ||| b:Nat):Int):=by
 have hab:a ||| b<2 ^ 32:=Nat.or_lt_two_pow (by omega) (by omega)
 unfold orK
 have e:(BitVec.ofInt IntKind.u32.bits (a:Int) ||| BitVec.ofInt IntKind.u32.bits (b:Int)).toNat=a ||| b:=by
  rw[BitVec.toNat_or]
  simp only[BitVec.ofInt_natCast,BitVec.toNat_ofNat,IntKind.bits]
  rw[Nat.mod_eq_of_lt (by omega),Nat.mod_eq_of_lt (by omega)]
 rw[e]
 exact tZ hab
theorem JI(a b:Nat)(ha:a<4294967296)(hb:b<4294967296):pW .u32 (a:Int) (b:Int)=((a &&& (4294967295 - b):Nat):Int):=by
 have hab:a &&& (4294967295 - b)<4294967296:=Nat.lt_of_le_of_lt Nat.and_le_left ha
 unfold pW
 have e:(BitVec.ofInt IntKind.u32.bits (a:Int) &&& ~~~BitVec.ofInt IntKind.u32.bits (b:Int)).toNat=a &&& (4294967295 - b):=by
  rw[BitVec.toNat_and,BitVec.toNat_not]
  simp only[BitVec.ofInt_natCast,BitVec.toNat_ofNat,IntKind.bits]
  rw[Nat.mod_eq_of_lt (by omega),Nat.mod_eq_of_lt (by omega)]
 rw[e]
 exact tZ hab
theorem zT(n:Nat)(h:n<32):aA Tryz.prog 327 [.int .i64 (n:Int)] St.none (fun r _=>r=.int .u32 ((2 ^ n:Nat):Int)):=by
 refine(aA.body 12 [.tmp 2] Tryz.func327 rfl rfl rfl rfl ?_)
 repeat' (first|(with_reducible first|(refine wN fun _ hnl=>?_;revert hnl;(repeat refine wS fun _ _=>?_);intro hnl)|refine wE ?_|(refine wK ?_ ?_<;>intro h)|(refine wB ?_ ?_<;>intro h<;>simp only[h]))|simp(maxSteps:=4000000) (disch:=first|exact ddL|fail) only[go_sem,simprocAttr,Tryz.f327])
 rw[Nat.min_eq_left (by omega),Int.one_mul,show(2:Int) ^ n=((2 ^ n:Nat):Int) by simp]
 exact congrArg _ (tZ (Nat.pow_lt_pow_right (a:=2) (n:=32) (by decide) h))
theorem PY(m:Nat)(h:m<4294967296):m &&& (4294967295 - 511)=0↔m≤511:=by
 have e:∀i,(4294967295 - 511:Nat).testBit i=(decide (9≤i)&&decide (i<32)):=by
  intro i
  by_cases hi:i<32
  ·have:∀i,i<32→(4294967295 - 511:Nat).testBit i=(decide (9≤i)&&decide (i<32)):=by decide
   exact this i hi
  ·rw[Nat.testBit_lt_two_pow (Nat.lt_of_lt_of_le (show 4294967295 - 511<2 ^ 32 by decide) (Nat.pow_le_pow_right (by decide) (by omega))),decide_eq_false hi,Bool.and_false]
 constructor
 ·intro h0
  refine Classical.byContradiction fun hn=>?_
  have h1:m / 2 ^ 9≠0:=by omega
  obtain⟨i,hi⟩:=Nat.exists_testBit_of_ne_zero h1
  rw[Nat.testBit_div_two_pow] at hi
  have hi32:i+9<32:=by
   refine Classical.byContradiction fun hc=>?_
   rw[Nat.testBit_lt_two_pow (Nat.lt_of_lt_of_le (show m<2 ^ 32 from h) (Nat.pow_le_pow_right (by decide) (by omega)))] at hi
   cases hi
  have h2:=congrArg (fun x=>Nat.testBit x (i+9)) h0
  simp only[Nat.testBit_and,Nat.zero_testBit,e,hi] at h2
  rw[decide_eq_true (by omega),decide_eq_true hi32] at h2
  cases h2
 ·intro hm
  refine Nat.eq_of_testBit_eq fun i=>?_
  rw[Nat.testBit_and,Nat.zero_testBit,e]
  by_cases hi:9≤i
  ·rw[Nat.testBit_lt_two_pow (Nat.lt_of_lt_of_le (show m<2 ^ 9 by omega) (Nat.pow_le_pow_right (by decide) hi)),Bool.false_and]
  ·rw[decide_eq_false hi,Bool.false_and,Bool.and_false]
theorem lX(m:UInt32):aA Tryz.prog 122 [.int .u32 (m.toNat:Int)] St.none (fun r _=>r=.bool (decide (m.toNat≤511))):=by
 refine(aA.body 5 [.tmp 2] Tryz.func122 rfl rfl rfl rfl ?_)
 have hm:=m.toNat_lt
 have h:aA Tryz.prog 205 [.int .u32 (m.toNat:Int),.int .u32 511] St.none (fun r _=>r=.bool (decide (m.toNat≤511))):=by
  refine(aA.body 9 [.tmp 4] Tryz.func205 rfl rfl rfl rfl ?_)
  have e:pW .u32 (m.toNat:Int) 511=_:=JI m.toNat 511 hm (by decide)
  repeat' (first|(with_reducible first|(refine wN fun _ hnl=>?_;revert hnl;(repeat refine wS fun _ _=>?_);intro hnl)|refine wE ?_|(refine wK ?_ ?_<;>intro h)|(refine wB ?_ ?_<;>intro h<;>simp only[h]))|simp(maxSteps:=4000000) (disch:=first|exact ddL|fail) only[go_sem,simprocAttr,Tryz.f205,e])
  exact decide_eq_decide.mpr ⟨fun h=>(PY m.toNat hm).1 (by exact_mod_cast h),fun h=>by rw[(PY m.toNat hm).2 h];rfl⟩
 repeat' (first|(with_reducible first|refine up h ?_)|(with_reducible first|(refine wN fun _ hnl=>?_;revert hnl;(repeat refine wS fun _ _=>?_);intro hnl)|refine wE ?_|(refine wK ?_ ?_<;>intro h)|(refine wB ?_ ?_<;>intro h<;>simp only[h]))|simp(maxSteps:=4000000) (disch:=first|exact ddL|fail) only[go_sem,simprocAttr,Tryz.f122])
theorem Mx(m k:Nat):m &&& 2 ^ k=if m.testBit k=true then 2 ^ k else 0:=by
 refine Nat.eq_of_testBit_eq fun i=>?_
 rw[Nat.testBit_and,Nat.testBit_two_pow]
 by_cases h:k=i
 ·subst h
  cases hb:m.testBit k
  ·simp
  ·simp[Nat.testBit_two_pow]
 ·cases m.testBit k
  ·simp[h]
  ·simp[h,Nat.testBit_two_pow]
theorem Fo(m:UInt32):aA Tryz.prog 198 [.int .u32 (m.toNat:Int)] St.none (fun r _=>r=.bool (bit m.toNat 8)):=by
 refine(aA.body 6 [.tmp 2] Tryz.func198 rfl rfl rfl rfl ?_)
 have hm:=m.toNat_lt
 have e:mE .u32 (m.toNat:Int) 256=_:=F4 m.toNat 256 hm (by decide)
 repeat' (first|(with_reducible first|(refine wN fun _ hnl=>?_;revert hnl;(repeat refine wS fun _ _=>?_);intro hnl)|refine wE ?_|(refine wK ?_ ?_<;>intro h)|(refine wB ?_ ?_<;>intro h<;>simp only[h]))|simp(maxSteps:=4000000) (disch:=first|exact ddL|fail) only[go_sem,simprocAttr,Tryz.f198,e])
 rw[show(256:Nat)=2 ^ 8 by decide,Mx]
 unfold bit
 cases m.toNat.testBit 8<;>rfl
def dbT:List Int:=[0,1,28,2,29,14,24,3,30,22,20,15,25,17,4,8,31,27,13,23,21,19,16,7,26,12,18,6,11,5,10,9]
def tzI(x:Nat):Int:=(IntKind.u32.wrap (mE IntKind.u32 (x:Int) (IntKind.u32.wrap (0 - (x:Int))) * 125613361)).fdiv (2 ^ min 27 32)
theorem Mf:∀x:Nat,x<256→x≠0→0≤tzI x∧tzI x<32∧dbT[(tzI x).toNat]?=some (((bU x).headD 0:Nat):Int):=by decide +kernel
theorem N6(i:Nat):GT 0 i=(dbT[i]?).map (Value.int .u8):=by
 unfold GT
 rw[if_pos rfl,List.getElem?_map];rfl
theorem Mu{C:Prop}{v:MV}{σ:St}{k:MV→St→Prop}(hC:C)(hk:R (k v σ)):R (mpure σ k (some (C,v))):=⟨hC,hk⟩
theorem MP(x:Nat)(h:x<256)(h0:x≠0):Eh Tryz.prog 386 0 (.int .u32 (tzI x))=some ((td Tryz.prog 5).ok=true∧(td Tryz.prog 5).size=1∧0≤tzI x∧tzI x<32∧(ofV (.int .u8 (((bU x).headD 0:Nat):Int))).aP=true,.cptr [.int .u8 (((bU x).headD 0:Nat):Int)]):=by
 unfold Eh
 rw[Om]
 simp only
 rw[N6,(Mf x h h0).2.2]
 rfl
theorem BZ{x:Nat}(h:x<256)(h0:x≠0):(bU x).headD 0<8:=by
 rw[uD x h h0]
 have:(bU x).headD 0∈bU x:=by
  have:=uD x h h0
  rw[this];simp
 simpa using Bx this
theorem LA(x:Nat)(h0:0<x)(h:x<256):aA Tryz.prog 331 [.int .u32 (x:Int)] St.none (fun r _=>r=.int .i64 (((bU x).headD 0:Nat):Int)):=by
 refine(aA.body 14 [.tmp 2] Tryz.func331 rfl rfl rfl rfl ?_)
 have hg:=MP x h (by omega)
 have ht:=Mf x h (by omega)
 have hh:=BZ h (by omega)
 obtain⟨d,hd⟩:∃d,(bU x).headD 0=d:=⟨_,rfl⟩
 rw[hd] at hg ht hh ⊢
 repeat' (first|(with_reducible first|(refine wN fun _ hnl=>?_;revert hnl;(repeat refine wS fun _ _=>?_);intro hnl)|refine wE ?_|(refine wK ?_ ?_<;>intro h)|(refine wB ?_ ?_<;>intro h<;>simp only[h]))|simp(maxSteps:=4000000) (disch:=first|exact ddL|fail) only[go_sem,simprocAttr,Tryz.f331])
 change R (mpure _ _ (Eh _ _ _ (.int .u32 (tzI x))))
 rw[hg]
 refine Mu ⟨by rw[td5],by rw[td5],ht.1,ht.2.1,rfl⟩ ?_
 generalize tzI x=w
 repeat' (first|(with_reducible first|(refine wN fun _ hnl=>?_;revert hnl;(repeat refine wS fun _ _=>?_);intro hnl)|refine wE ?_|(refine wK ?_ ?_<;>intro h)|(refine wB ?_ ?_<;>intro h<;>simp only[h]))|simp(maxSteps:=4000000) (disch:=first|exact ddL|fail) only[go_sem,simprocAttr])
end

section
set_option maxRecDepth 100000
theorem le2{σ:St}{l k:Nat}{o o':bE}(h1:σ l=some o)(h2:σ k=some o'):((St.none.set l o).set k o').le σ:=St.aL (St.aL (St.none_le _) h1) h2
theorem j8{α:Type}{f:α→List MV}{l:List α}{ex:List (List MV)}:(l.map f++ex).take l.length=l.map f:=by rw[List.take_append_of_le_length (by simp),List.take_of_length_le (by simp)]
theorem kS{α:Type}{f:α→List MV}{l:List α}{ex:List (List MV)}:(l.map f++ex).drop (l.length+1)=ex.drop 1:=by
 rw[List.drop_append,List.drop_eq_nil_of_le (by simp),List.nil_append];congr 1;simp
theorem QE{α:Type}{f:α→List MV}{l:List α}{ex:List (List MV)}{σ:St}{q e:Nat}{t:TypeId}(h:σ q=some (.row t e (l.map f++ex))):View σ (.vec e q 0 l.length) (.lst e (l.map f) false):=by
 have:=View.vec (n:=l.length) (lo:=0) h (by simp)
 rwa [List.drop_zero,j8] at this
theorem Gs{c P Q:Prop}[Decidable c]:(if c then P else Q)↔(c→P)∧(¬c→Q):=by split<;>simp[*]
theorem gF.fc{σ:St}{f:F8}{a b:List MV}(h:gF σ a b):gF σ (fc f++a) (fc f++b):=gF.app (gF.same _) h
abbrev MS.c(m:MS):List MV:=m.k (.lst 5 (m.cmd.fl.map ND.c) false) (.lst 5 (m.rep.fl.map ND.c) false) (.lst 28 (IT.ks m.page.items) false)
theorem MS.cell(m:MS):m.c.all MV.aP=true:=by
 simp only[MS.c,MS.k,List.all_cons,Eg];rfl
structure Sm (m:MS):Prop where
 f:m.cmd.fl.length≤1000000
 g:m.rep.fl.length≤1000000
 i:m.page.items.length≤1000000
end

section
def T.sem(av:ND→Bool):T→Bool
 | .leaf x=>if x.op=1 then true else if x.op=2 then false else av x
 | .one x a=>!a.sem av
 | .two x a b=>if x.op=11 then a.sem av&&b.sem av else a.sem av || b.sem av
end

section
def wd(g:Nat→Bool):Nat→Nat
 | 0=>0
 | n+1=>wd g n ||| (if g n=true then 2 ^ n else 0)
def tw(f:Nat→Bool)(i:Nat):Nat:=wd (fun j=>f (64 * i+j)) 64
end
end Go.Proofs.YtojmhmejdihaaaaGreatDoor
