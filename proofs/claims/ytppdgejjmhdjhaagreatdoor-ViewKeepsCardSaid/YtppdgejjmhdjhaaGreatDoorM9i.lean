/- Parts of the proof; conditions: as its theorems name them. -/
import Derived.Test.YtppdgejjmhdjhaaGreatDoorM9f
import Derived.Test.YtppdgejjmhdjhaaGreatDoorM9g
import Derived.Shelf.Strings.Shaped
import Derived.Test.YtppdgejjmhdjhaaGreatDoorRows
import Derived.Shelf.SlIterI.Nil
import Derived.Shelf.SortM.Plain
import Derived.Shelf.SortM.SortNone
import Derived.Conc.MuLib
import Derived.KernelRfl
set_option linter.unusedVariables false
set_option linter.unusedSimpArgs false
set_option maxHeartbeats 8000000
set_option maxRecDepth 100000
namespace Go.Proofs.YtppdgejjmhdjhaaGreatDoor
section
theorem y9{n:Nat}(h:n<4294967296):IntKind.u32.wrap (n:Int)=(n:Int):=by
 simp only[IntKind.wrap,IntKind.signed,IntKind.bits]
 simp
 omega
theorem EN(a b:Nat)(ha:a<4294967296)(hb:b<4294967296):nU .u32 (a:Int) (b:Int)=((a &&& b:Nat):Int):=by
 have hab:a &&& b<4294967296:=Nat.lt_of_le_of_lt Nat.and_le_left ha
 unfold nU
 have e:(BitVec.ofInt IntKind.u32.bits (a:Int) &&& BitVec.ofInt IntKind.u32.bits (b:Int)).toNat=a &&& b:=by
  rw[BitVec.toNat_and]
  simp only[BitVec.ofInt_natCast,BitVec.toNat_ofNat,IntKind.bits]
  rw[Nat.mod_eq_of_lt oM,Nat.mod_eq_of_lt oM]
 rw[e]
 exact y9 hab
theorem Xe(a b:Nat)(ha:a<4294967296)(hb:b<4294967296):orK .u32 (a:Int) (b:Int)=((a ||| b:Nat):Int):=by
 have hab:a ||| b<2 ^ 32:=Nat.or_lt_two_pow oM oM
 unfold orK
 have e:(BitVec.ofInt IntKind.u32.bits (a:Int) ||| BitVec.ofInt IntKind.u32.bits (b:Int)).toNat=a ||| b:=by
  rw[BitVec.toNat_or]
  simp only[BitVec.ofInt_natCast,BitVec.toNat_ofNat,IntKind.bits]
  rw[Nat.mod_eq_of_lt oM,Nat.mod_eq_of_lt oM]
 rw[e]
 exact y9 hab
theorem OW(a b:Nat)(ha:a<4294967296)(hb:b<4294967296):tG .u32 (a:Int) (b:Int)=((a &&& (4294967295 - b):Nat):Int):=by
 have hab:a &&& (4294967295 - b)<4294967296:=Nat.lt_of_le_of_lt Nat.and_le_left ha
 unfold tG
 have e:(BitVec.ofInt IntKind.u32.bits (a:Int) &&& ~~~BitVec.ofInt IntKind.u32.bits (b:Int)).toNat=a &&& (4294967295 - b):=by
  rw[BitVec.toNat_and,BitVec.toNat_not]
  simp only[BitVec.ofInt_natCast,BitVec.toNat_ofNat,IntKind.bits]
  rw[Nat.mod_eq_of_lt oM,Nat.mod_eq_of_lt oM]
 rw[e]
 exact y9 hab
theorem CK(n:Nat)(h:n<32):aA Tryz.prog 264 [.int .i64 (n:Int)] St.none (fun r _=>r=.int .u32 ((2 ^ n:Nat):Int)):=by
 refine(mB 12 [.tmp 2] Tryz.func264 ?_)
 repeat' first|refine wZ1 @Tryz.f264.eq_1 ?_|fail
 rw[Nat.min_eq_left oM,Int.one_mul,show(2:Int) ^ n=((2 ^ n:Nat):Int) by simp]
 exact congrArg _ (y9 (Nat.pow_lt_pow_right (a:=2) (n:=32) (by decide) h))
theorem Wr(m:Nat)(h:m<4294967296):m &&& (4294967295 - 511)=0↔m≤511:=by
 have e:∀i,(4294967295 - 511:Nat).testBit i=(decide (9≤i)&&decide (i<32)):=by
  intro i
  by_cases hi:i<32
  ·have:∀i,i<32→(4294967295 - 511:Nat).testBit i=(decide (9≤i)&&decide (i<32)):=by decide
   exact this i hi
  ·rw[Nat.testBit_lt_two_pow (Nat.lt_of_lt_of_le (show 4294967295 - 511<2 ^ 32 by decide) (Nat.pow_le_pow_right (by decide) oM)),decide_eq_false hi,Bool.and_false]
 constructor
 ·intro h0
  refine Classical.byContradiction fun hn=>?_
  have h1:m / 2 ^ 9≠0:=by omega
  obtain⟨i,hi⟩:=Nat.exists_testBit_of_ne_zero h1
  rw[Nat.testBit_div_two_pow] at hi
  have hi32:i+9<32:=by
   refine Classical.byContradiction fun hc=>?_
   rw[Nat.testBit_lt_two_pow (Nat.lt_of_lt_of_le (show m<2 ^ 32 from h) (Nat.pow_le_pow_right (by decide) oM))] at hi
   cases hi
  have h2:=congrArg (fun x=>Nat.testBit x (i+9)) h0
  simp only[Nat.testBit_and,Nat.zero_testBit,e,hi] at h2
  rw[decide_eq_true oM,decide_eq_true hi32] at h2
  cases h2
 ·intro hm
  refine Nat.eq_of_testBit_eq fun i=>?_
  rw[Nat.testBit_and,Nat.zero_testBit,e]
  by_cases hi:9≤i
  ·rw[Nat.testBit_lt_two_pow (Nat.lt_of_lt_of_le (show m<2 ^ 9 by omega) (Nat.pow_le_pow_right (by decide) hi)),Bool.false_and]
  ·rw[decide_eq_false hi,Bool.false_and,Bool.and_false]
theorem oN(m:UInt32):aA Tryz.prog 63 [.int .u32 (m.toNat:Int)] St.none (fun r _=>r=.bool (decide (m.toNat≤511))):=by
 refine(mB 5 [.tmp 2] Tryz.func63 ?_)
 have hm:=m.toNat_lt
 have h:aA Tryz.prog 134 [.int .u32 (m.toNat:Int),.int .u32 511] St.none (fun r _=>r=.bool (decide (m.toNat≤511))):=by
  refine(mB 9 [.tmp 4] Tryz.func134 ?_)
  have e:tG .u32 (m.toNat:Int) 511=_:=OW m.toNat 511 hm (by decide)
  repeat' first|refine wZ2 @Tryz.f134.eq_1 @e ?_|fail
  exact decide_eq_decide.mpr ⟨fun h=>(Wr m.toNat hm).1 (by exact_mod_cast h),fun h=>by rw[(Wr m.toNat hm).2 h];rfl⟩
 repeat' first|(with_reducible first|refine up h ?_)|refine wZ1 @Tryz.f63.eq_1 ?_|exact wC1 @Tryz.f63.eq_1|fail
theorem SI(m k:Nat):m &&& 2 ^ k=if m.testBit k=true then 2 ^ k else 0:=by
 refine Nat.eq_of_testBit_eq fun i=>?_
 rw[Nat.testBit_and,Nat.testBit_two_pow]
 by_cases h:k=i
 ·subst h
  cases hb:m.testBit k
  ·simp
  ·simp[Nat.testBit_two_pow]
 ·cases m.testBit k
  ·simp[h]
  ·simp[h,Nat.testBit_two_pow]
theorem sT(m:UInt32):aA Tryz.prog 155 [.int .u32 (m.toNat:Int)] St.none (fun r _=>r=.bool (bit m.toNat 8)):=by
 refine(mB 6 [.tmp 2] Tryz.func155 ?_)
 have hm:=m.toNat_lt
 have e:nU .u32 (m.toNat:Int) 256=_:=EN m.toNat 256 hm (by decide)
 repeat' first|refine wZ2 @Tryz.f155.eq_1 @e ?_|fail
 rw[show(256:Nat)=2 ^ 8 by decide,SI]
 unfold bit
 cases m.toNat.testBit 8<;>rfl
def dbT:List Int:=[0,1,28,2,29,14,24,3,30,22,20,15,25,17,4,8,31,27,13,23,21,19,16,7,26,12,18,6,11,5,10,9]
def tzI(x:Nat):Int:=(IntKind.u32.wrap (nU IntKind.u32 (x:Int) (IntKind.u32.wrap (0 - (x:Int))) * 125613361)).fdiv (2 ^ min 27 32)
theorem Sf:∀x:Nat,x<256→x≠0→0≤tzI x∧tzI x<32∧dbT[(tzI x).toNat]?=some (((b6 x).headD 0:Nat):Int):=by decide +kernel
theorem Us(i:Nat):GT 0 i=(dbT[i]?).map (Value.int .u8):=by
 unfold GT
 rw[if_pos rfl,List.getElem?_map];rfl
theorem SF{C:Prop}{v:MV}{σ:St}{k:MV→St→Prop}(hC:C)(hk:R (k v σ)):R (mpure σ k (some (C,v))):=⟨hC,hk⟩
theorem S6(x:Nat)(h:x<256)(h0:x≠0):IF Tryz.prog 325 0 (.int .u32 (tzI x))=some ((td Tryz.prog 5).ok=true∧(td Tryz.prog 5).size=1∧0≤tzI x∧tzI x<32∧(ofV (.int .u8 (((b6 x).headD 0:Nat):Int))).aL=true,.cptr [.int .u8 (((b6 x).headD 0:Nat):Int)]):=by
 unfold IF
 rw[UF]
 simp only
 rw[Us,(Sf x h h0).2.2]
 rfl
theorem Fj{x:Nat}(h:x<256)(h0:x≠0):(b6 x).headD 0<8:=by
 rw[zE x h h0]
 have:(b6 x).headD 0∈b6 x:=by
  have:=zE x h h0
  rw[this];simp
 simpa using tH this
theorem Rh(x:Nat)(h0:0<x)(h:x<256):aA Tryz.prog 274 [.int .u32 (x:Int)] St.none (fun r _=>r=.int .i64 (((b6 x).headD 0:Nat):Int)):=by
 refine(mB 14 [.tmp 2] Tryz.func274 ?_)
 have hg:=S6 x h oM
 have ht:=Sf x h oM
 have hh:=Fj h oM
 obtain⟨d,hd⟩:∃d,(b6 x).headD 0=d:=⟨_,rfl⟩
 rw[hd] at hg ht hh ⊢
 repeat' first|refine wZ1 @Tryz.f274.eq_1 ?_|fail
 change R (mpure _ _ (IF _ _ _ (.int .u32 (tzI x))))
 rw[hg]
 refine SF ⟨by rw[td5],by rw[td5],ht.1,ht.2.1,rfl⟩ ?_
 generalize tzI x=w
 repeat' first|refine wZ0 ?_|exact wC0|fail
end

section
theorem WA(n:Nat):((n:Int)).fdiv (2 ^ min 16 32)=((n / 65536:Nat):Int):=by
 rw[show(2:Int) ^ min 16 32=65536 by decide,Int.fdiv_eq_ediv_of_nonneg _ (by decide)]
 omega
theorem Rg:dH Tryz.prog 54=true:=by decide +kernel
theorem Nb(a b:VA):cJ Tryz.prog 54 .neq (.agg a.c) (.agg b.c)=some (True,.bool (!decide (a=b))):=Dv (Lk 4 a b) Rg
theorem Ua(m:UInt32)(i:Nat)(h:i<8):nU .u32 ((m.toNat:Int).fdiv (2 ^ min i 32)) 1=if bit m.toNat i=true then 1 else 0:=by
 rw[Nat.min_eq_left oM,show(2:Int) ^ i=((2 ^ i:Nat):Int) by simp,Int.fdiv_eq_ediv_of_nonneg _ (Int.natCast_nonneg _)]
 rw[show(m.toNat:Int) / ((2 ^ i:Nat):Int)=((m.toNat / 2 ^ i:Nat):Int) by simp]
 have hm:=m.toNat_lt
 have e:nU .u32 ((m.toNat / 2 ^ i:Nat):Int) 1=_:=EN (m.toNat / 2 ^ i) 1 (Nat.lt_of_le_of_lt (Nat.div_le_self _ _) hm) (by decide)
 rw[e,Nat.and_one_is_mod]
 unfold bit
 rw[Nat.testBit_eq_decide_div_mod_eq]
 have:=Nat.mod_two_eq_zero_or_one (m.toNat / 2 ^ i)
 rcases this with h|h<;>rw[h]<;>rfl
theorem jD(p:PA):aA Tryz.prog 141 [.agg p.c] St.none (fun r _=>r=.int .i64 (bH p)):=by
 refine aA.bR (mB 55 [.tmp 2] Tryz.func141 ?_)
 have hm:=oN p.mask
 have hl:=sT p.mask
 have hmt:=p.mask.toNat_lt
 have hlt:=p.lab.toNat_lt
 have hsh:=WA p.lab.toNat
 by_cases h0:p.mask.toNat=0∨511<p.mask.toNat
 ·have e:bH p=11:=by unfold bH;rw[if_pos h0]
  rw[e]
  repeat' first|(with_reducible first|refine up hm ?_|refine up hl ?_)|(refine wM ?_;(first|(have _:=nl1)|(intro nl1));intros)|(refine wY ?_ ?_<;>intro h)|refine wZ3 @Tryz.f141.eq_1 @cN @dS ?_|fail
  all_goals exact lE
 ·by_cases h1:65536≤p.lab.toNat∨p.lab.toNat≠0∧bit p.mask.toNat 8=false
  ·have e:bH p=1:=by unfold bH;rw[if_neg h0,if_pos h1]
   rw[e]
   generalize bit p.mask.toNat 8=b8 at hl h1
   cases b8
   all_goals
    repeat' first|(with_reducible first|refine up hm ?_|refine up hl ?_)|(refine wM ?_;(first|(have _:=nl1)|(intro nl1));intros)|(refine wY ?_ ?_<;>intro h)|refine wZ4 @Tryz.f141.eq_1 @cN @dS @hsh ?_|fail
    all_goals first|exact⟨_,St.le_refl _,rfl⟩|exact⟨_,St.le_refl _⟩|(exfalso;simp only[reduceCtorEq,and_false,or_false,and_true] at h1;omega)
  ·have hbad:=fun i=>uF (i:=i) h0 h1
   have hgood:=rZ h0 h1
   have h1':p.lab.toNat<65536:=by omega
   have h1'':p.lab.toNat=0∨bit p.mask.toNat 8=true:=by
    cases hb:bit p.mask.toNat 8
    ·rw[hb] at h1;left;simp at h1;omega
    ·right;rfl
   clear h1
   generalize bit p.mask.toNat 8=b8 at hl h1''
   cases b8
   all_goals
    repeat' first|(with_reducible first|refine up hm ?_|refine up hl ?_)|(refine wM ?_;(first|(have _:=nl1)|(intro nl1));intros)|(refine wY ?_ ?_<;>intro h)|refine wZ5 @Tryz.f141.eq_1 @cN @dS @hJ @hsh ?_|fail
    all_goals try (exfalso;simp only[reduceCtorEq,or_false] at h1'';omega)
    all_goals
     refine aE (α:=Nat) (fun i=>⟨55,[(33,.int .i64 (i:Int)),(32,.agg (fc p.f)),(1,.ptr nl1 0 0)],[]⟩) (fun _=>St.none.set nl1 (.row 57 26 [p.c])) (fun i=>i≤8∧∀j,j<i→(fH (p.f.get j)&&(decide ((p.f.get j).kd=0) || bit p.mask.toNat j))=true) (fun i=>8 - i) (.of (.less ?_ (St.le_refl _)) ⟨0,rfl,rfl,Nat.zero_le _,fun j h=>absurd h (Nat.not_lt_zero _)⟩) ?_
     ·exact wW
     ·rintro i ⟨hi,hq⟩
      by_cases h8:i<8
      ·have hc:=yC (p.f.get i).kd (p.f.get i).n (p.f.get i).s
       have hbad:=hbad i h8
       have hsb:=Ua p.mask i h8
       have hv:cJ Tryz.prog 54 .neq (.agg (p.f.get i).c) (.agg [.int .i64 0,.int .i64 0,.str ⟨#[]⟩])=some (True,.bool (!decide (p.f.get i=va0))):=Nb (p.f.get i) va0
       have hz:fH (p.f.get i)=true→decide (p.f.get i=va0)=decide ((p.f.get i).kd=0):=fun hok=>by
        refine decide_eq_decide.mpr ⟨fun h=>by rw[h];rfl,fun h=>Uq hok h⟩
       obtain⟨x,hx⟩:∃x,p.f.get i=x:=⟨_,rfl⟩
       have hat:=pM (f:=p.f) h8
       rw[hx] at hc hbad hv hz hat
       obtain⟨bx,hbx⟩:∃b,bit p.mask.toNat i=b:=⟨_,rfl⟩
       rw[hbx] at hbad hsb
       cases hok:fH x<;>(have hc:aA Tryz.prog 211 [.agg x.c] St.none (fun r _=>r=.bool (fH x)):=hc)<;>rw[hok] at hc hbad hz
       ·rw[hbad (Bool.false_and _)]
        clear hbad hgood hq hz
        repeat' first|(with_reducible first|refine up hc ?_)|(refine wM ?_;intros)|refine wZ4 @cN @dS @hJ @hat ?_|fail
        all_goals exact lE
       ·rw[hz rfl] at hv
        obtain⟨bk,hbk⟩:∃b,decide (x.kd=0)=b:=⟨_,rfl⟩
        rw[hbk] at hv hbad
        cases hgg:(bk || bx)
        ·rw[hbad (by rw[hgg];rfl)]
         clear hbad hgood hq hz
         simp only[Bool.or_eq_false_iff] at hgg
         obtain⟨rfl,rfl⟩:=hgg
         rw[if_neg (by simp)] at hsb
         repeat' first|(with_reducible first|refine up hc ?_)|(refine wM ?_;intros)|refine wZ6 @cN @dS @hJ @hat @hv @hsb ?_|fail
         all_goals exact lE
        ·clear hbad hgood hz
         have hnext:∀j,j<i+1→(fH (p.f.get j)&&(decide ((p.f.get j).kd=0) || bit p.mask.toNat j))=true:=fun j hj=>by
          by_cases hji:j=i
          ·rw[hji,hx,hok,hbk,hbx,hgg];rfl
          ·exact hq j oM
         clear hq
         cases bk<;>cases bx
         ·simp at hgg
         all_goals
          simp only[if_true,Bool.false_eq_true,if_false] at hsb
          repeat' first|(with_reducible first|refine up hc ?_)|(refine wM ?_;intros)|refine wZ6 @cN @dS @hJ @hat @hv @hsb ?_|fail
          all_goals
           refine .of (.less ?_ (St.aB (St.none_le _) sS)) ⟨i+1,rfl,rfl,⟨by omega,hnext⟩,by omega⟩
           exact wW
      ·have:i=8:=by omega
       subst this
       rw[hgood hq]
       repeat' first|refine wZ0 ?_|fail
       all_goals exact lE
end

section
abbrev eC(L:List Nat):List (List MV):=L.map fun(i:Nat)=>[.int .i64 (i:Int)]
theorem Oa(s:Nat)(hs:s<256)(l:Nat):OT Tryz.prog 273 [.ptr l 0 0] (St.none.set l (.row 23 1 [[.int .u32 (s:Int)]])) (eC (b6 s)):=by
 refine OT.iB 14 Tryz.func273 rfl rfl rfl rfl fun C hC hspec=>?_
 have hxl:(eC (b6 s)).length=(b6 s).length:=by simp[eC]
 rw[hxl]
 refine bO (CZ (SD (α:=Nat × Nat) (fun a=>⟨14,[(0,.fn (.yield C.l) [] []),(1,.ptr l 0 0)],[]⟩) (fun a=>St.none.set l (.row 23 1 [[.int .u32 (a.1:Int)]])) (fun a=>some a.2)
   (fun a=>a.1<256∧b6 a.1=(b6 s).drop a.2∧a.2≤(b6 s).length) (fun a=>(b6 a.1).length) ?_ ?_))
 ·refine .of (.less ?_ (St.le_refl _)) ⟨(s,0),rfl,rfl,rfl,hs,rfl,Nat.zero_le _⟩
  simp(maxSteps:=4000000) (disch:=first|exact ddL|fail) only[go_sem,simprocAttr,bC,aS]
 ·rintro⟨x,j⟩ ⟨hx,hj,hjl⟩
  simp only at hx hj hjl ⊢
  by_cases h0:x=0
  ·subst h0
   rw[L2] at hj
   have hjj:(b6 s).length≤j:=by
    refine Classical.byContradiction fun h=>?_
    have:=congrArg List.length hj
    rw[List.length_drop] at this
    simp at this
    omega
   have hje:j=(b6 s).length:=by omega
   refine zA (H0 ?_)
   repeat' first|refine wZ1 @Tryz.f273.eq_1 ?_|fail
   refine .inl ?_
   rw[hje]
  ·have hlow:=zE x hx h0
   have hh:=Fj hx h0
   have hlt:j<(b6 s).length:=by
    refine Classical.byContradiction fun h=>?_
    rw[List.drop_eq_nil_of_le oM] at hj
    rw[hj] at hlow
    cases hlow
   have hdrop:=List.drop_eq_getElem_cons hlt
   rw[←hj,hlow] at hdrop
   obtain⟨hd1,hd2⟩:=List.cons.inj hdrop
   have hnext:x &&& (x - 1)<256:=Nat.lt_of_le_of_lt Nat.and_le_left hx
   have htz:=Rh x oM hx
   have ha:nU .u32 (x:Int) ((x:Int) - 1)=((x &&& (x - 1):Nat):Int):=by
    have:=EN x (x - 1) oM oM
    rwa [show((x - 1:Nat):Int)=(x:Int) - 1 by omega] at this
   have hlen:(b6 (x &&& (x - 1))).length<(b6 x).length:=by
    conv=>rhs;rw[hlow]
    simp
   obtain⟨d,hde⟩:∃d,(b6 x).headD 0=d:=⟨_,rfl⟩
   rw[hde] at htz hh hd1
   obtain⟨y,hy⟩:∃y,x &&& (x - 1)=y:=⟨_,rfl⟩
   rw[hy] at ha hnext hd2 hlen
   clear hlow hdrop hde
   refine zA (H0 ?_)
   repeat' first|refine wZ1 @Tryz.f273.eq_1 ?_|fail
   refine bO (zA (CZ (zA (OS (ops:=#[_,_,_,_,_]) [_,_,_] _ [_] rfl rfl rfl rfl rfl (x:=[.int .i64 (d:Int)]) (by
    rw[hC]
    rw[List.getElem?_map,List.getElem?_eq_getElem hlt,←hd1];rfl) (fun m hm=>by simp at hm;subst hm;exact .flat (.int _ _)) hspec ?_))))
   repeat' first|(with_reducible first|refine up htz ?_)|refine wZ0 ?_|fail
   refine⟨bO (H0 ?_),bO (H0 ?_)⟩
   ·repeat' first|refine wZ0 ?_|fail
    refine bO (H0 ?_)
    repeat' first|refine wZ1 @ha ?_|fail
    refine .of (.less ?_ (St.le_refl _)) ⟨(y,j+1),rfl,rfl,rfl,⟨hnext,hd2,by omega⟩,hlen⟩
    simp(maxSteps:=4000000) (disch:=first|exact ddL|fail) only[go_sem,simprocAttr,bC,aS]
   ·repeat' first|refine wZ0 ?_|fail
    exact .inr trivial
theorem MJ{L:List Nat}{j:Nat}(h:j<L.length):eC (L.take (j+1))=eC (L.take j)++[[.int .i64 ((L.getD j 0:Nat):Int)]]:=by
 rw[eC,List.take_succ_eq_append_getElem h,List.map_append,bP 0 h];rfl
theorem DX(s:Nat)(hs:s<256)(l:Nat):aA Tryz.prog 235 [.aN,.fn (.func 273) [] [.ptr l 0 0]] (St.none.set l (.row 23 1 [[.int .u32 (s:Int)]])) (fun r _=>r=.lst 1 (eC (b6 s)) false):=by
 refine aA.seen (mB 13 [.tmp 4] Tryz.func235 ?_)
 repeat' first|(refine wM ?_;(first|(have _:=nl1)|(intro nl1));intros)|refine wZ1 @Tryz.f235.eq_1 ?_|fail
 have d1:nl1≠l:=by assumption
 have hbl:=vF s
 refine bO (Bz (gf:=273) (xs:=eC (b6 s)) rfl (σi:=St.none.set l (.row 23 1 [[.int .u32 (s:Int)]])) (St.aB (St.none_le _) sS) (Oa s hs l) ?_ rfl rfl
  (fc:=⟨13,[(2,.ptr nl1 0 0)],[]⟩) rfl (α:=Nat × List (List MV))
  (fun j a=>(St.none.set nl1 (.row 75 1 [[.vec 1 a.1 0 j]])).set a.1 (.row 3 1 (eC ((b6 s).take j)++a.2))) (fun j a=>a.1≠nl1) ?_ ?_ ?_)
 ·intro x hx
  obtain⟨y,_,rfl⟩:=List.mem_map.1 hx
  rfl
 ·refine Gh.Lw (b:=nl1) (t:=75) (e:=1) (pre:=[]) (post:=[]) 3 1 ?_ fun q hq=>?_
  ·simp[St.minus,St.set,St.none,d1]
  ·have q1:q≠nl1:=fun e=>by subst e;simp[St.minus,St.set,St.none,d1] at hq
   refine .of (.less ?_ (σ1:=(St.none.set nl1 (.row 75 1 [[.vec 1 q 0 0]])).set q (.row 3 1 [])) (le2 (by simp[St.set,q1,Ne.symm q1]) (by simp[St.set]))) ⟨rfl,(q,[]),rfl,q1⟩
   simp(maxSteps:=4000000) (disch:=first|exact ddL|fail) only[go_sem,simprocAttr,bC,aS]
 ·rintro j x ⟨q,ex⟩ hx q1
  simp only at q1 ⊢
  have hjl:j<(b6 s).length:=by
   have:=(List.getElem?_eq_some_iff.1 hx).1
   simpa[eC] using this
  have hxe:x=[.int .i64 (((b6 s).getD j 0:Nat):Int)]:=by
   rw[List.getElem?_map,List.getElem?_eq_getElem hjl,←bP 0 hjl] at hx
   exact(Option.some.inj hx).symm
  subst hxe
  have hsn:=MJ hjl
  obtain⟨d,hd⟩:∃d,(b6 s).getD j 0=d:=⟨_,rfl⟩
  rw[hd] at hsn ⊢
  have hlj:(eC ((b6 s).take j)).length=j:=by rw[List.length_map,List.length_take];omega
  obtain⟨pre,hpre⟩:∃pre,eC ((b6 s).take j)=pre:=⟨_,rfl⟩
  rw[hpre] at hsn hlj ⊢
  change mwp _ _ (FR.mk 13 [(7,.int .i64 (d:Int)),(2,.ptr nl1 0 0)] []) _ _
  have q2:=Ne.symm q1
  have htk:(pre++ex).take j=pre:=by rw[←hlj,List.take_left'];rfl
  have hdr:(pre++ex).drop (j+1)=ex.drop 1:=by
   rw[←List.drop_drop,←hlj,List.drop_left'];rfl
  refine cB ?_
  repeat' first|refine wZ0 ?_|fail
  refine bO (cB ?_)
  repeat' first|(refine wM ?_;(first|(have _:=nl3)|(have _:=nl2;intro nl3)|(intro nl2));intros)|(refine wY ?_ ?_<;>intro h)|refine wZ2 @htk @hdr ?_|fail
  ·have hex:ex=[]:=List.eq_nil_of_length_eq_zero oM
   subst hex
   clear h
   refine .of (.less (l1:=[]) (fun p hp=>by cases hp) (σ1:=(St.none.set nl1 (.row 75 1 [[.vec 1 nl3 0 (j+1)]])).set nl3 (.row 3 1 (eC ((b6 s).take (j+1))++[]))) (le2 sS sS)) ⟨(nl3,[]),rfl,by assumption⟩
  ·refine .of (.less (l1:=[]) (fun p hp=>by cases hp) (σ1:=(St.none.set nl1 (.row 75 1 [[.vec 1 nl3 0 (j+1)]])).set nl3 (.row 3 1 (eC ((b6 s).take (j+1))++ex.drop 1))) (le2 sS sS)) ⟨(nl3,ex.drop 1),rfl,by assumption⟩
 ·rintro⟨q,ex⟩ q1
  simp only at q1 ⊢
  have q2:=Ne.symm q1
  have hli:(eC (b6 s)).length=(b6 s).length:=List.length_map _
  rw[hli,List.take_length]
  show R _
  repeat' first|refine wZ0 ?_|fail
  exact WV (aD _ _ _)
theorem BG(s:Nat)(hs:s<256)(l:Nat):aA Tryz.prog 180 [.fn (.func 273) [] [.ptr l 0 0]] (St.none.set l (.row 23 1 [[.int .u32 (s:Int)]])) (fun r _=>r=.lst 1 (eC (b6 s)) false):=by
 refine(mB 5 [.tmp 2] Tryz.func180 ?_)
 have h:=DX s hs l
 repeat' first|refine wZ1 @Tryz.f180.eq_1 ?_|fail
 refine bJ h (St.le_refl _) ?_
 rintro v σ' rfl -
 repeat' first|refine wZ0 ?_|exact wC0|fail
theorem uJ(m:UInt32):aA Tryz.prog 156 [.int .u32 (m.toNat:Int)] St.none (fun r _=>r=.lst 1 (eC (b6 m.toNat)) false):=by
 refine(mB 7 [.tmp 2] Tryz.func156 ?_)
 have ha:nU .u32 (m.toNat:Int) 255=_:=EN m.toNat 255 m.toNat_lt (by decide)
 have hlt:m.toNat &&& 255<256:=Nat.lt_of_le_of_lt Nat.and_le_right (by decide)
 have hb:=L0 m.toNat
 obtain⟨s,hs⟩:∃s,m.toNat &&& 255=s:=⟨_,rfl⟩
 rw[hs] at ha hlt hb
 have he:aA Tryz.prog 227 [.int .u32 (s:Int)] St.none (fun v σ'=>∃l,v=.fn (.func 273) [] [.ptr l 0 0]∧σ'=St.none.set l (.row 23 1 [[.int .u32 (s:Int)]])):=by
  refine(mB 4 [.tmp 2] Tryz.func227 ?_)
  repeat' first|(refine wO ?_;intros)|refine wZ1 @Tryz.f227.eq_1 ?_|fail
  exact⟨_,rfl,rfl⟩
 repeat' first|refine wZ2 @Tryz.f156.eq_1 @ha ?_|fail
 refine fQ he fun l hl=>?_
 repeat' first|refine wZ0 ?_|fail
 have h:=BG s hlt l
 refine bJ h (St.le_refl _) ?_
 rintro v σ' rfl -
 repeat' first|refine wZ0 ?_|fail
 rw[hb]
end

section
open Go.Shelf
def jL:Go.Shelf.Ren:=⟨fun|144=>296|143=>319|219=>331|217=>333|225=>334|224=>335|267=>336|266=>337|314=>338|n=>n,fun|9=>9|4=>4|3=>3|5=>5|46=>263|146=>351|51=>23|n=>n,fun|1=>1|n=>n⟩
theorem tZ:Go.Proofs.LaysM.n144 Tryz.prog jL:={
  mixed:=by kernel_rfl
  f143:=Tryz.func319.trans (congrArg some (by kernel_rfl))
  f144:=Tryz.func296.trans (congrArg some (by kernel_rfl))
  f217:=Tryz.func333.trans (congrArg some (by kernel_rfl))
  f219:=Tryz.func331.trans (congrArg some (by kernel_rfl))
  f224:=Tryz.func335.trans (congrArg some (by kernel_rfl))
  f225:=Tryz.func334.trans (congrArg some (by kernel_rfl))
  f266:=Tryz.func337.trans (congrArg some (by kernel_rfl))
  f267:=Tryz.func336.trans (congrArg some (by kernel_rfl))
  f314:=Tryz.func338.trans (congrArg some (by kernel_rfl))
  t3:=Tryz.underlying3
  a3:=Tryz.isAgg3
  z3:=Tryz.sizeOf3
  v3:=Tryz.zeroValue3
  t4:=Tryz.underlying4
  a4:=Tryz.isAgg4
  z4:=Tryz.sizeOf4
  v4:=Tryz.zeroValue4
  t5:=Tryz.underlying5
  a5:=Tryz.isAgg5
  z5:=Tryz.sizeOf5
  v5:=Tryz.zeroValue5
  t9:=Tryz.underlying9
  a9:=Tryz.isAgg9
  z9:=Tryz.sizeOf9
  v9:=Tryz.zeroValue9
  t46:=Tryz.underlying263
  a46:=Tryz.isAgg263
  z46:=Tryz.sizeOf263
  v46:=Tryz.zeroValue263
  t51:=Tryz.underlying23
  a51:=Tryz.isAgg23
  z51:=Tryz.sizeOf23
  v51:=Tryz.zeroValue23
  t146:=Tryz.underlying351
  a146:=Tryz.isAgg351
  z146:=Tryz.sizeOf351
  v146:=Tryz.zeroValue351
  g1:=by kernel_rfl
  i3:=by kernel_rfl
  i4:=by kernel_rfl
  i5:=by kernel_rfl
  i9:=by kernel_rfl
  i46:=by kernel_rfl
  i51:=by kernel_rfl
  i146:=by kernel_rfl
  m1:=by kernel_rfl
  s1_3:=fun w h=>Go.Proofs.cell_of_shapedOpen_int (zero:=#[.int .i64 0]) (t:=3) h (of_decide_eq_true (by kernel_rfl)) (by kernel_rfl) rfl (by kernel_rfl) (by kernel_rfl) Tryz.underlying3 }
end

section
open Go.Shelf
theorem Bn:∀W:World,W.ShapedOpen Tryz.prog→∀g,g∈GI→∃m,W.cell? ⟨g,0,none⟩=some (.int .i64 m):=fun W h g hg=>by
 simp only[GI,List.mem_cons,List.not_mem_nil,or_false] at hg
 subst hg
 exact tZ.s1_3 W h
theorem wZ(s sub:ByteArray)(hs:s.size≤1000000):aA Tryz.prog 296 [.str s,.str sub] St.none fun r _=>r=.bool (Lib.contains s.data.toList sub.data.toList):=by
 refine⟨⟨_,Tryz.func296,rfl,rfl⟩,fun Φ w vs hi hr=>?_⟩
 obtain⟨m,hm⟩:=hi.fresh.2.2 (jL.g 1) (by simp[GI,jL])
 have e0:=(hr.2 0 _ rfl).gB
 have e1:=(hr.2 1 _ rfl).gB
 have hv:vs=#[.string s,.string sub]:=by
  have h1:=hr.1
  apply Array.ext
  ·simpa using h1
  ·intro i h3 h4
   match i,h3 with
   | 0,h3=>simpa[Array.getD_eq_getD_getElem?,Array.getElem?_eq_getElem h3] using e0
   | 1,h3=>simpa[Array.getD_eq_getD_getElem?,Array.getElem?_eq_getElem h3] using e1
   | i+2,_=>simp at h4;omega
 subst hv
 refine(Any.strings_Contains { tZ with } s sub m w oM (hi.snap _ _ hm)).mono ?_
 rintro e' w' ⟨rfl,rfl⟩
 exact⟨_,_,_,Φ,rfl,.bool _,hi,.refl _ _ _,rfl⟩
end

section
structure DE where
 id:Int
 ver:Int
 sq:Int
 deriving DecidableEq
abbrev DE.c(d:DE):List MV:=[.int .i64 d.id,.int .i64 d.ver,.int .i64 d.sq]
abbrev aM(n:Int):List MV:=[.int .i64 n]
structure GR where
 no:Int
 mem:List Int
 deriving DecidableEq
abbrev GR.c(g:GR):List MV:=[.int .i64 g.no,.lst 1 (g.mem.map aM) false]
structure BK where
 sq:Int
 nx:Int
 cards:List CA
 dead:List DE
 gr:List GR
 deriving DecidableEq
abbrev BK.c(b:BK):List MV:=[.int .i64 b.sq,.int .i64 b.nx,.lst 27 (b.cards.map CA.c) false,.lst 3 (b.dead.map DE.c) false,.lst 2 (b.gr.map GR.c) false]
structure TU where
 sq:Int
 id:Int
 old:Int
 new:Int
 card:CA
 deriving DecidableEq
abbrev TU.c(t:TU):List MV:=.int .i64 t.sq::.int .i64 t.id::.int .i64 t.old::.int .i64 t.new::t.card.c
structure SU where
 dev:Int
 ep:Int
 fl:List ND
 mask:UInt32
 floor:Int
 mem:List Int
 log:List TU
 deriving DecidableEq
abbrev SU.c(s:SU):List MV:=[.int .i64 s.dev,.int .i64 s.ep,.lst 5 (s.fl.map ND.c) false,.int .u32 (s.mask.toNat:Int),.int .i64 s.floor,.lst 1 (s.mem.map aM) false,.lst 31 (s.log.map TU.c) false]
structure RW where
 last:Int
 ep:Int
 ans:RE
 deriving DecidableEq
abbrev RW.c(r:RW):List MV:=.int .i64 r.last::.int .i64 r.ep::r.ans.c
structure SA where
 bk:BK
 subs:List SU
 rows:List RW
 deriving DecidableEq
abbrev SA.c(s:SA):List MV:=s.bk.c++[.lst 7 (s.subs.map SU.c) false,.lst 12 (s.rows.map RW.c) false]
end

section
theorem half(i j:Nat):Int.fdiv ((i:Int)+j) (2 ^ (min 1 64:Nat))=(((i+j) / 2:Nat):Int):=by
 rw[show((2:Int) ^ (min 1 64:Nat))=2 by decide,Int.fdiv_eq_ediv_of_nonneg _ oM]
 omega
end

section
theorem tB{v:VA}(h:fH v=true):v.s.size≤1000000:=by
 unfold fH at h
 split at h
 ·simp only[decide_eq_true_eq] at h
  rw[h];decide
 ·split at h
  ·simp only[decide_eq_true_eq] at h
   rw[h.2.2];decide
  ·split at h
   ·simp only[decide_eq_true_eq] at h
    omega
   ·cases h
theorem CC{x:ND}(h:fP x=true):x.v.s.size≤1000000:=by
 have h0:va0.s.size≤1000000:=by decide
 unfold fP at h
 split at h
 ·simp only[decide_eq_true_eq] at h;rw[h.2];exact h0
 ·split at h
  ·simp only[decide_eq_true_eq] at h;rw[h.2.2];exact h0
  ·split at h
   ·simp only[decide_eq_true_eq] at h;rw[h.2.2];exact h0
   ·split at h
    ·simp only[decide_eq_true_eq] at h;exact tB h.2.2.1
    ·split at h
     ·simp only[decide_eq_true_eq] at h;exact tB h.2.2.1
     ·cases h
end

section
theorem TR{x y:ND}(h:x.c=y.c):x=y:=by
 obtain⟨a,b,c,d,e⟩:=x
 obtain⟨a',b',c',d',e'⟩:=y
 simp only[ND.c,List.cons.injEq,MV.int.injEq,MV.str.injEq,true_and,and_true] at h
 obtain⟨rfl,rfl,rfl,rfl,rfl⟩:=h
 rfl
theorem Gy:∀{l m:List ND},l.map ND.c=m.map ND.c→l=m
 | [],[],_=>rfl
 | [],_::_,h=>by simp at h
 | _::_,[],h=>by simp at h
 | x::l,y::m,h=>by
  rw[List.map_cons,List.map_cons,List.cons.injEq] at h
  rw[TR h.1,Gy h.2]
end

section
open Go.Shelf
def rR:Go.Shelf.Ren:=⟨fun|7=>201|10=>246|n=>n,fun|23=>249|26=>3|3=>126|28=>169|0=>0|27=>168|33=>235|4=>4|n=>n,fun|n=>n⟩
theorem MN:Go.Proofs.SlLaysZI.n7 Tryz.prog rR:={
  mixed:=by kernel_rfl
  f7:=⟨Tryz.f201.name,by decide,Tryz.func201.trans (congrArg some (by kernel_rfl))⟩
  f10:=⟨Tryz.f246.name,by decide,Tryz.func246.trans (congrArg some (by kernel_rfl))⟩
  t0:=Tryz.underlying0
  a0:=Tryz.isAgg0
  z0:=Tryz.sizeOf0
  v0:=Tryz.zeroValue0
  t4:=Tryz.underlying4
  a4:=Tryz.isAgg4
  z4:=Tryz.sizeOf4
  v4:=Tryz.zeroValue4
  t23:=Tryz.underlying249
  a23:=Tryz.isAgg249
  z23:=Tryz.sizeOf249
  v23:=Tryz.zeroValue249
  t26:=Tryz.underlying3
  a26:=Tryz.isAgg3
  z26:=Tryz.sizeOf3
  v26:=Tryz.zeroValue3
  t27:=Tryz.underlying168
  a27:=Tryz.isAgg168
  z27:=Tryz.sizeOf168
  v27:=Tryz.zeroValue168
  t28:=Tryz.underlying169
  a28:=Tryz.isAgg169
  z28:=Tryz.sizeOf169
  v28:=Tryz.zeroValue169
  t33:=Tryz.underlying235
  a33:=Tryz.isAgg235
  z33:=Tryz.sizeOf235
  v33:=Tryz.zeroValue235 }
def rS:Go.Shelf.Ren:=⟨fun|7=>97|10=>182|n=>n,fun|23=>131|26=>3|3=>3|28=>169|0=>0|27=>168|33=>235|4=>4|n=>n,fun|n=>n⟩
theorem MO:Go.Proofs.SlLaysZI.n7 Tryz.prog rS:={
  mixed:=by kernel_rfl
  f7:=⟨Tryz.f97.name,by decide,Tryz.func97.trans (congrArg some (by kernel_rfl))⟩
  f10:=⟨Tryz.f182.name,by decide,Tryz.func182.trans (congrArg some (by kernel_rfl))⟩
  t0:=Tryz.underlying0
  a0:=Tryz.isAgg0
  z0:=Tryz.sizeOf0
  v0:=Tryz.zeroValue0
  t4:=Tryz.underlying4
  a4:=Tryz.isAgg4
  z4:=Tryz.sizeOf4
  v4:=Tryz.zeroValue4
  t23:=Tryz.underlying131
  a23:=Tryz.isAgg131
  z23:=Tryz.sizeOf131
  v23:=Tryz.zeroValue131
  t26:=Tryz.underlying3
  a26:=Tryz.isAgg3
  z26:=Tryz.sizeOf3
  v26:=Tryz.zeroValue3
  t27:=Tryz.underlying168
  a27:=Tryz.isAgg168
  z27:=Tryz.sizeOf168
  v27:=Tryz.zeroValue168
  t28:=Tryz.underlying169
  a28:=Tryz.isAgg169
  z28:=Tryz.sizeOf169
  v28:=Tryz.zeroValue169
  t33:=Tryz.underlying235
  a33:=Tryz.isAgg235
  z33:=Tryz.sizeOf235
  v33:=Tryz.zeroValue235 }
def hU:Go.Shelf.Ren:=⟨fun|6=>96|8=>180|9=>181|11=>235|13=>237|12=>236|23=>287|24=>288|14=>278|15=>279|16=>280|17=>281|18=>282|19=>283|20=>284|21=>285|22=>286|25=>305|26=>306|27=>307|28=>308|29=>309|30=>299|31=>322|n=>n,fun|26=>3|28=>169|24=>75|0=>0|3=>3|37=>263|48=>23|50=>318|4=>4|40=>312|39=>311|45=>239|5=>5|9=>9|51=>328|55=>332|57=>343|58=>344|33=>235|n=>n,fun|n=>n⟩
theorem xH:Go.Proofs.SlLaysZI.n6 Tryz.prog hU:={
  mixed:=by kernel_rfl
  f6:=⟨Tryz.f96.name,by decide,Tryz.func96.trans (congrArg some (by kernel_rfl))⟩
  f8:=⟨Tryz.f180.name,by decide,Tryz.func180.trans (congrArg some (by kernel_rfl))⟩
  f11:=⟨Tryz.f235.name,by decide,Tryz.func235.trans (congrArg some (by kernel_rfl))⟩
  t0:=Tryz.underlying0
  a0:=Tryz.isAgg0
  z0:=Tryz.sizeOf0
  v0:=Tryz.zeroValue0
  t24:=Tryz.underlying75
  a24:=Tryz.isAgg75
  z24:=Tryz.sizeOf75
  v24:=Tryz.zeroValue75
  t26:=Tryz.underlying3
  a26:=Tryz.isAgg3
  z26:=Tryz.sizeOf3
  v26:=Tryz.zeroValue3
  t28:=Tryz.underlying169
  a28:=Tryz.isAgg169
  z28:=Tryz.sizeOf169
  v28:=Tryz.zeroValue169
  i26:=by kernel_rfl }
def Bq:Go.Shelf.Ren:=⟨fun|5=>181|8=>237|7=>236|19=>287|20=>288|10=>278|11=>279|12=>280|13=>281|14=>282|15=>283|16=>284|17=>285|18=>286|30=>305|31=>306|32=>307|33=>308|34=>309|35=>299|40=>322|n=>n,fun|23=>75|25=>3|3=>3|32=>263|22=>75|0=>0|44=>23|46=>318|4=>4|36=>312|35=>311|41=>239|5=>5|9=>9|53=>328|57=>332|63=>343|64=>344|n=>n,fun|n=>n⟩
theorem Co:Go.Proofs.SlLaysM.n5 Tryz.prog Bq:={
  mixed:=by kernel_rfl
  f5:=⟨Tryz.f181.name,by decide,Tryz.func181.trans (congrArg some (by kernel_rfl))⟩
  f7:=⟨Tryz.f236.name,by decide,Tryz.func236.trans (congrArg some (by kernel_rfl))⟩
  f8:=Tryz.func237.trans (congrArg some (by kernel_rfl))
  f10:=⟨Tryz.f278.name,by decide,Tryz.func278.trans (congrArg some (by kernel_rfl))⟩
  f11:=⟨Tryz.f279.name,by decide,Tryz.func279.trans (congrArg some (by kernel_rfl))⟩
  f12:=⟨Tryz.f280.name,by decide,Tryz.func280.trans (congrArg some (by kernel_rfl))⟩
  f13:=⟨Tryz.f281.name,by decide,Tryz.func281.trans (congrArg some (by kernel_rfl))⟩
  f14:=⟨Tryz.f282.name,by decide,Tryz.func282.trans (congrArg some (by kernel_rfl))⟩
  f15:=⟨Tryz.f283.name,by decide,Tryz.func283.trans (congrArg some (by kernel_rfl))⟩
  f16:=⟨Tryz.f284.name,by decide,Tryz.func284.trans (congrArg some (by kernel_rfl))⟩
  f17:=⟨Tryz.f285.name,by decide,Tryz.func285.trans (congrArg some (by kernel_rfl))⟩
  f18:=⟨Tryz.f286.name,by decide,Tryz.func286.trans (congrArg some (by kernel_rfl))⟩
  f19:=Tryz.func287.trans (congrArg some (by kernel_rfl))
  f20:=Tryz.func288.trans (congrArg some (by kernel_rfl))
  f30:=⟨Tryz.f305.name,by decide,Tryz.func305.trans (congrArg some (by kernel_rfl))⟩
  f31:=Tryz.func306.trans (congrArg some (by kernel_rfl))
  f32:=Tryz.func307.trans (congrArg some (by kernel_rfl))
  f33:=⟨Tryz.f308.name,by decide,Tryz.func308.trans (congrArg some (by kernel_rfl))⟩
  f34:=⟨Tryz.f309.name,by decide,Tryz.func309.trans (congrArg some (by kernel_rfl))⟩
  f35:=⟨Tryz.f299.name,by decide,Tryz.func299.trans (congrArg some (by kernel_rfl))⟩
  f40:=⟨Tryz.f322.name,by decide,Tryz.func322.trans (congrArg some (by kernel_rfl))⟩
  t0:=Tryz.underlying0
  a0:=Tryz.isAgg0
  z0:=Tryz.sizeOf0
  v0:=Tryz.zeroValue0
  t3:=Tryz.underlying3
  a3:=Tryz.isAgg3
  z3:=Tryz.sizeOf3
  v3:=Tryz.zeroValue3
  t4:=Tryz.underlying4
  a4:=Tryz.isAgg4
  z4:=Tryz.sizeOf4
  v4:=Tryz.zeroValue4
  t5:=Tryz.underlying5
  a5:=Tryz.isAgg5
  z5:=Tryz.sizeOf5
  v5:=Tryz.zeroValue5
  t9:=Tryz.underlying9
  a9:=Tryz.isAgg9
  z9:=Tryz.sizeOf9
  v9:=Tryz.zeroValue9
  t22:=Tryz.underlying75
  a22:=Tryz.isAgg75
  z22:=Tryz.sizeOf75
  v22:=Tryz.zeroValue75
  t23:=Tryz.underlying75
  a23:=Tryz.isAgg75
  z23:=Tryz.sizeOf75
  v23:=Tryz.zeroValue75
  t25:=Tryz.underlying3
  a25:=Tryz.isAgg3
  z25:=Tryz.sizeOf3
  v25:=Tryz.zeroValue3
  t32:=Tryz.underlying263
  a32:=Tryz.isAgg263
  z32:=Tryz.sizeOf263
  v32:=Tryz.zeroValue263
  t35:=Tryz.underlying311
  a35:=Tryz.isAgg311
  z35:=Tryz.sizeOf311
  v35:=Tryz.zeroValue311
  t36:=Tryz.underlying312
  a36:=Tryz.isAgg312
  z36:=Tryz.sizeOf312
  v36:=Tryz.zeroValue312
  t41:=Tryz.underlying239
  a41:=Tryz.isAgg239
  z41:=Tryz.sizeOf239
  v41:=Tryz.zeroValue239
  t44:=Tryz.underlying23
  a44:=Tryz.isAgg23
  z44:=Tryz.sizeOf23
  v44:=Tryz.zeroValue23
  t46:=Tryz.underlying318
  a46:=Tryz.isAgg318
  z46:=Tryz.sizeOf318
  v46:=Tryz.zeroValue318
  t53:=Tryz.underlying328
  a53:=Tryz.isAgg328
  z53:=Tryz.sizeOf328
  v53:=Tryz.zeroValue328
  t57:=Tryz.underlying332
  a57:=Tryz.isAgg332
  z57:=Tryz.sizeOf332
  v57:=Tryz.zeroValue332
  t63:=Tryz.underlying343
  a63:=Tryz.isAgg343
  z63:=Tryz.sizeOf343
  v63:=Tryz.zeroValue343
  t64:=Tryz.underlying344
  a64:=Tryz.isAgg344
  z64:=Tryz.sizeOf344
  v64:=Tryz.zeroValue344 }
end

section
open Go.MapKept Go.RowKit Go.Maps Go.Sort Go.Shelf
open Go.WideElems (Fit rd rg)
def Vb:MV→Int
 | .int _ n=>n
 | _=>0
def eF(es:List (MV × MV)):List Int:=es.map fun p=>Vb p.1
def pZ{H:Type}(_:Value):Option (DataW H × List MemPlace):=some (.lit (.bool true),[])
theorem TZ{H:Type}{P:Program}{Φ:Phi}{w:World}{l:Nat}{es:List (MV × MV)}{k:TypeId}(h:eX Φ w l (.mp es))(hk:P.underlying k=some (.int .i64))
 (he:(es.all fun p=>isK .i64 p.1)=true)(hwf:∀n∈eF es,(Lit.int .i64 n).wf=true)(hl:es.length≤maxLen) :
  ∃(p:Place) (b:Nat) (D0:DataW H),Φ.obj l=some p∧p.blk=some b∧w.ownsMap P k pZ b es.length D0∧(intKeys D0).Perm (eF es)∧Maps.size D0=es.length:=by
 obtain⟨p,R,c,clock,hp,hR,hh,hs,hst,hrel⟩:=h.FH
 have key:∀(i:Nat) (e:MapEntry),c.toList[i]?=some e→Go.WideElems.rd (H:=H) P k pZ e=some (Lit.int .i64 ((eF es).getD i 0),.lit (.bool true)):=fun i e hi=>by
  have hlt:i<es.length:=by
   have:=(List.getElem?_eq_some_iff.1 hi).1
   rw[←hs];simpa using this
  obtain⟨e',q1,q2,_⟩:=hrel i es[i] (List.getElem?_eq_getElem hlt)
  rw[hi] at q1;cases q1
  have hik:=List.all_eq_true.1 he es[i] (List.getElem_mem hlt)
  obtain⟨n,hn⟩:=mH hik
  rw[hn] at q2
  have hkn:(eF es).getD i 0=n:=by
   simp[eF,List.getD_eq_getElem?_getD,List.getElem?_eq_getElem hlt,hn,Vb]
  have hw:=hwf n (by
   rw[eF,List.mem_map]
   exact⟨es[i],List.getElem_mem hlt,by rw[hn];rfl⟩)
  rw[hkn]
  simp[Go.WideElems.rd,pZ,q2.aT,keyOf,mapKey,hk,hw]
 have hF:Fit (H:=H) P k pZ c clock:=⟨by rw[hs];exact hl,hst,fun x hx=>by
  obtain⟨i,hi,rfl⟩:=List.mem_iff_getElem.1 hx
  exact⟨_,key i _ (List.getElem?_eq_getElem hi)⟩⟩
 have hmap:(c.toList.map (rg (H:=H) P k pZ)).map (fun q=>Go.intOf q.1)=eF es:=by
  refine List.ext_getElem? fun i=>?_
  simp only[List.map_map,List.getElem?_map]
  rcases Nat.lt_or_ge i es.length with hi|hi
  ·have hc:i<c.toList.length:=by simpa[hs] using hi
   rw[List.getElem?_eq_getElem hc]
   have h1:=key i _ (List.getElem?_eq_getElem hc)
   simp only[Option.map_some,Function.comp,Go.WideElems.rg_of h1]
   have h2:i<(eF es).length:=by simpa[eF] using hi
   simp[Go.intOf,List.getD_eq_getElem?_getD,List.getElem?_eq_getElem h2]
  ·rw[List.getElem?_eq_none (by simpa[hs] using hi),List.getElem?_eq_none (by simpa[eF] using hi)]
   rfl
 refine⟨p,R,.map ((c.toList.map (rg P k pZ)).foldr DataW.insert []),hp,hR,⟨c,clock,hh,hF,by omega,rfl⟩,?_,?_⟩
 ·show(((c.toList.map (rg P k pZ)).foldr DataW.insert []).map fun q=>Go.intOf q.1).Perm _
  rw[←hmap]
  exact(Go.WideShapes.sorted_perm _).map _
 ·show((c.toList.map (rg P k pZ)).foldr DataW.insert []).length=_
  rw[length_sorted];simp[hs]
theorem Inv.T9{Φ:Phi}{w w':World}{σ:St}(hi:Inv Φ w σ)(hi':Inv Φ w' σ)(st:Step Φ σ w Φ σ w')(g:Nat)(hg:w.heap.size≤g) :
  Inv (Φ.s6 w' (fun k=>k=g)) w' σ∧Step Φ σ w (Φ.s6 w' (fun k=>k=g)) σ w':=by
 have hle:=y6 Φ w' (fun k=>k=g)
 refine⟨⟨fun l o h=>(hi'.own l o h).mono hle (fun _ _ _ _=>rfl),hi'.inj,fun a v hv=>?_,fun l o p R a v hl hp hR hv=>?_,hi.fresh.1,fun q i v h=>hle.snap _ _ (hi.fresh.2.1 q i v h),hi.fresh.2.2.mono hle.snap⟩,
  ⟨hle,st.os,st.tape,st.output,st.drawn,st.size,st.block,fun a v hv=>?_,st.locs,st.ownd⟩⟩
 ·rcases fX hv with q|⟨_,q⟩
  ·exact hi'.snap a v q
  ·exact q
 ·rcases fX hv with q|⟨q,_⟩
  ·exact hi'.apart l o p R a v hl hp hR q
  ·intro e
   obtain⟨p',hp',hlt⟩:=(hi.own l o hl).place
   rw[show Φ.obj l=some p from hp] at hp'
   cases hp'
   have:=hlt R hR
   have q:R=g:=by rw[←e];exact q
   omega
 ·rcases fX hv with q|⟨q,_⟩
  ·exact .inl q
  ·have q:a.block=g:=q
   exact .inr (.inl oM)
theorem x9{P:Program}{ρ ρk:Ren}(L6:SlLaysZI.n6 P ρ)(L10:SlLaysZI.n10 P ρk)(hs:∀m,AnyZI.SortsIn P ρ Fence.wide m)
 (e9:∀args w,(callFunc (ρ.f 9) args).run P w=.ok (.enter (ρ.f 9) args) w)(eg:∀args w,(callFunc (ρk.f 10) args).run P w=.ok (.enter (ρk.f 10) args) w)(hent:Enters P (ρ.f 6))
 {l l2:Nat}{tm:TypeId}{es:List (MV × MV)}(hne:l≠l2)(he:(es.all fun p=>isK .i64 p.1)=true)(hwf:∀n∈eF es,(Lit.int .i64 n).wf=true)(hl:es.length≤1000000) :
  aA P (ρ.f 6) [.fn (.func (ρk.f 10)) [] [.ptr l 0 0]] ((St.none.set l (.row tm 1 [[.mapv l2]])).set l2 (.mp es)) fun r σ' =>
   (∃ns:List Int,ns.Perm (eF es)∧ns.Pairwise (fun a b=>a≤b)∧r=.lst 1 (ns.map fun n=>[.int .i64 n]) false)∧σ'=(St.none.set l (.row tm 1 [[.mapv l2]])).set l2 (.mp es):=by
 obtain⟨σ0,hσ0⟩:∃σ0:St,(St.none.set l (.row tm 1 [[.mapv l2]])).set l2 (.mp es)=σ0:=⟨_,rfl⟩
 have h2:σ0 l2=some (.mp es):=by rw[←hσ0];exact aD _ _ _
 have h1:σ0 l=some (.row tm 1 [[.mapv l2]]):=by rw[←hσ0];simp[St.set,hne]
 rw[hσ0]
 refine⟨hent,fun Φ w vs hi hr=>?_⟩
 obtain⟨first,cap,e0,r1,r2⟩:=(hr.2 0 _ rfl).sI
 have hf0:first=#[]:=by have:=r1.1;simp at this;exact this
 subst hf0
 have hcs:cap.size=1:=r2.1
 obtain⟨p,R,hp,hR,hc⟩:=(r2.2 0 _ rfl).i6
 have hbo:p.bo=0:=hi.fresh.1.2 l p hp
 have hcap:cap=#[.pointer (some ⟨R,0,none⟩)]:=by
  refine Array.ext (by simpa using hcs) fun i q1 q2=>?_
  have hi0:i=0:=by omega
  subst hi0
  have:=hc
  rw[hbo] at this
  simp[Array.getD,q1] at this
  exact this
 have hvs:vs=#[.func (.func (ρk.f 10)) #[] #[.pointer (some ⟨R,0,none⟩)]]:=by
  have hz:=hr.1
  simp at hz
  refine Array.ext (by simpa using hz) fun i q1 q2=>?_
  have hi0:i=0:=by omega
  subst hi0
  have:=e0
  rw[hcap] at this
  simp[Array.getD,q1] at this
  exact this
 subst hvs
 -- the map
 obtain⟨p2,b,D0,hp2,hb2,hown,hperm,hsz⟩:=TZ (H:=Unit) (P:=P) (k:=ρk.t 26) (hi.own l2 _ h2) L10.t26 he hwf (Nat.le_trans hl (by decide))
 -- the box
 obtain⟨p',hp',hpe,hlen,hmax,hx,hmatch⟩:=hi.own l _ h1
 rw[hp] at hp'
 cases hp'
 rw[hR] at hmatch
 obtain⟨c,fz,hheap,_,_,hcell⟩:=hmatch
 obtain⟨_,v,hv,hrel⟩:=hcell 0 _ 0 _ rfl rfl
 obtain⟨p3,R3,hp3,hR3,rfl⟩:=hrel.nE
 rw[hp2] at hp3
 cases hp3
 rw[hb2] at hR3
 cases hR3
 have hRlt:R<w.heap.size:=by
  obtain⟨q,_⟩:=Array.getElem?_eq_some_iff.1 hheap;exact q
 have hcl:w.cell? ⟨R,0,none⟩=some (.map (some b)):=by
  simp only[World.cell?,hheap]
  rw[hbo] at hv
  simpa using hv
 have hseq:=AnyZI.keys_gives (H:=Unit) (ρ:=ρk) L10 Fence.wide 2 trivial rfl oM R b es.length D0 w hRlt hcl hown
 have cS:=AnyZI.sorted_in L6 Fence.wide 5 trivial trivial trivial trivial rfl oM (hs _) e9 (ρk.f 10) _ trivial eg _ (Maps.size D0) (by rw[hsz];exact Nat.le_trans hl (by decide)) (by rw[hsz];omega) w hseq
 refine(callsIn_wide.1 cS).mono ?_
 rintro e w' ⟨v,ss,rfl,hS,hrow,hnil,hb⟩
 obtain⟨i2,s2⟩:=hi.grow (w':=w') hb.os hb.tape hb.output (by simp[drw,DR]) hb.size hb.block
 have hpm:(ss.mergeSort (fun x y=>decide (x≤y))).Perm (eF es):=(List.mergeSort_perm ss _).trans (hS.trans hperm)
 have hpw:(ss.mergeSort (fun x y=>decide (x≤y))).Pairwise (fun a b=>a≤b):=(List.pairwise_mergeSort (le:=fun x y:Int=>decide (x≤y)) (fun a b c=>by simp;omega) (fun a b=>by simp;omega) ss).imp (fun h=>by simpa using h)
 generalize hns:ss.mergeSort (fun x y=>decide (x≤y))=ns at *
 have hnl:ns.length=ss.length:=by rw[←hns];exact List.length_mergeSort ss
 rcases hrow.2 with⟨rfl,hz⟩|⟨g,capn,cur,rfl,hbase,hgb,q1,q2,q3,q4⟩
 ·have hn0:ns=[]:=List.eq_nil_of_length_eq_zero oM
  subst hn0
  exact⟨_,_,σ0,Φ,rfl,.lstn 1 false,i2,s2,⟨[],hpm,hpw,rfl⟩,rfl⟩
 ·obtain⟨i3,s3⟩:=hi.T9 i2 s2 g hbase
  have h0:0<ss.length:=by
   rcases Nat.eq_zero_or_pos ss.length with h|h
   ·have:=hnil.2 (List.eq_nil_of_length_eq_zero h)
    cases this
   ·exact h
  refine⟨_,.lst 1 (ns.map fun n=>[.int .i64 n]) false,σ0,_,rfl,?_,i3,s3,⟨ns,hpm,hpw,rfl⟩,rfl⟩
  have hat:∀i,i<ns.length→w'.cell? ⟨g,i,none⟩=some (.int .i64 (ns.getD i 0)):=fun i hi'=>by
   have e1:(cur.toList.take (ss.length * 1))[i]?=(ns.map encZ)[i]?:=by rw[q4]
   rw[List.getElem?_take,if_pos oM,List.getElem?_map,List.getElem?_eq_getElem hi'] at e1
   simp only[World.cell?,hgb]
   simp at e1
   simp[e1,List.getD_eq_getElem?_getD,List.getElem?_eq_getElem hi',encZ]
  have hsn:∀i,i<ns.length→(Φ.s6 w' (fun k=>k=g)).snap ⟨g,i,none⟩=some (.int .i64 (ns.getD i 0)):=fun i hi'=>by
   simp only[Phi.s6]
   split
   ·rename_i u hu
    have:=World.block_lt_of_cell? w _ (hi.snap _ _ hu)
    simp only at this
    omega
   ·simp[hat i hi']
  refine Rel.lst (vs:=fun i _=>.int .i64 (ns.getD i 0)) (by simpa using hnl) h0 q1 q2 (fun h=>by cases h) (fun i x hx=>?_) (fun i x j m hx hm=>?_) (fun i x j m hx hm=>?_)
  all_goals
   rw[List.getElem?_map,Option.map_eq_some_iff] at hx
   obtain⟨n,hn,rfl⟩:=hx
  ·rfl
  ·have hin:=(List.getElem?_eq_some_iff.1 hn).1
   have hj:j=0:=by
    have:=(List.getElem?_eq_some_iff.1 hm).1
    simpa using this
   subst hj
   simp at hm
   subst hm
   exact⟨rfl,by simpa using hsn i hin⟩
  ·have hj:j=0:=by
    have:=(List.getElem?_eq_some_iff.1 hm).1
    simpa using this
   subst hj
   simp at hm
   subst hm
   simp[List.getD_eq_getElem?_getD,hn]
   exact .int _ _
theorem R4(m:Nat):AnyZI.SortsIn Tryz.prog hU Fence.wide m :=
 ⟨fun blk off cap ss W hH hblk hsz=>callsIn_wide.2 (AnyM.slices_Sort_int Co blk off cap ss W hH hblk hsz),
  fun p cap W=>callsIn_wide.2 (AnyM.slices_Sort_int_none Co p cap W)⟩
theorem Ew{l l2:Nat}{es:List (MV × MV)}(hne:l≠l2)(he:(es.all fun p=>isK .i64 p.1)=true)(hwf:∀n∈eF es,(Lit.int .i64 n).wf=true)(hl:es.length≤1000000) :
  aA Tryz.prog 96 [.fn (.func 246) [] [.ptr l 0 0]] ((St.none.set l (.row 249 1 [[.mapv l2]])).set l2 (.mp es)) fun r σ' =>
   (∃ns:List Int,ns.Perm (eF es)∧ns.Pairwise (fun a b=>a≤b)∧r=.lst 1 (ns.map fun n=>[.int .i64 n]) false)∧σ'=(St.none.set l (.row 249 1 [[.mapv l2]])).set l2 (.mp es) :=
 x9 (ρ:=hU) (ρk:=rR) xH { MN with } R4 (enters_of Tryz.func181 (by kernel_rfl) rfl) (enters_of Tryz.func246 (by kernel_rfl) rfl) ⟨_,Tryz.func96,rfl,rfl⟩ hne he hwf hl
theorem r6{l l2:Nat}{es:List (MV × MV)}(hne:l≠l2)(he:(es.all fun p=>isK .i64 p.1)=true)(hwf:∀n∈eF es,(Lit.int .i64 n).wf=true)(hl:es.length≤1000000) :
  aA Tryz.prog 96 [.fn (.func 182) [] [.ptr l 0 0]] ((St.none.set l (.row 131 1 [[.mapv l2]])).set l2 (.mp es)) fun r σ' =>
   (∃ns:List Int,ns.Perm (eF es)∧ns.Pairwise (fun a b=>a≤b)∧r=.lst 1 (ns.map fun n=>[.int .i64 n]) false)∧σ'=(St.none.set l (.row 131 1 [[.mapv l2]])).set l2 (.mp es) :=
 x9 (ρ:=hU) (ρk:=rS) xH { MO with } R4 (enters_of Tryz.func181 (by kernel_rfl) rfl) (enters_of Tryz.func182 (by kernel_rfl) rfl) ⟨_,Tryz.func96,rfl,rfl⟩ hne he hwf hl
end

section
abbrev mu:Go.Conc.Locks.MuLink:={ lock:=248,unlock:=249,ilock:=291,iunlock:=292,lockSlow:=314,unlockSlow:=317,disable:=310,enable:=312,acquire:=313,relMerge:=315,cas32:=311,add32:=316,tMutex:=186,tIMutex:=184,tPMutex:=320,tPIMutex:=334,tPI32:=336,tUP:=338,tNoCopy:=179,tU32:=23 }
theorem QI:Go.Conc.Locks.MuLib Tryz.prog mu :=
  ⟨Tryz.func248,Tryz.func249,Tryz.func291,Tryz.func292,Tryz.func310,Tryz.func312,Tryz.func313,Tryz.func315,Tryz.func311,Tryz.func316,Tryz.underlying184,Tryz.runUnderlying184,Tryz.sizeOf184,Tryz.isAgg184,Tryz.zeroValue184,Tryz.underlying186,Tryz.runUnderlying186,Tryz.sizeOf186,Tryz.isAgg186,Tryz.zeroValue186,Tryz.underlying320,Tryz.runUnderlying320,Tryz.sizeOf320,Tryz.isAgg320,Tryz.zeroValue320,Tryz.underlying334,Tryz.runUnderlying334,Tryz.sizeOf334,Tryz.isAgg334,Tryz.zeroValue334,Tryz.underlying336,Tryz.runUnderlying336,Tryz.sizeOf336,Tryz.isAgg336,Tryz.zeroValue336,Tryz.underlying338,Tryz.runUnderlying338,Tryz.sizeOf338,Tryz.isAgg338,Tryz.zeroValue338,Tryz.underlying179,Tryz.runUnderlying179,Tryz.sizeOf179,Tryz.isAgg179,Tryz.zeroValue179,Tryz.underlying21,Tryz.runUnderlying21,Tryz.sizeOf21,Tryz.isAgg21,Tryz.zeroValue21,(by kernel_rfl)⟩
end

section
section
variable {P:Program} {C:cC} {ops:Array Oper}
def gate(ops:Array Oper)(n1:Nat):Bool:=(List.range ops.size).all fun i=>decide (i<n1) || (List.range n1).all fun j=>((rU ops.toList []).getD i 0).testBit j
theorem KX{n1:Nat}(h:gate ops n1=true){i j:Nat}(hi:i<ops.size)(h1:n1≤i)(hj:j<n1):((rU ops.toList []).getD i 0).testBit j=true:=by
 have:=List.all_eq_true.1 h i (List.mem_range.2 hi)
 rw[Bool.or_eq_true,decide_eq_true_eq] at this
 rcases this with q|q
 ·omega
 ·exact List.all_eq_true.1 q j (List.mem_range.2 hj)
theorem Cr{listed:Array Bool}{n i:Nat}(hs:n≤listed.size):left (listed.setIfInBounds i true) n=(left listed n).filter fun j=>j != i:=by
 unfold left
 rw[List.filter_filter]
 refine List.filter_congr fun j hj=>?_
 have hj:j<n:=by simpa using hj
 by_cases h:j=i
 ·subst h;simp[show j<listed.size by omega]
 ·have:(i:Nat)≠j:=fun e=>h e.symm
  simp[h,Array.getElem?_setIfInBounds_ne this]
theorem KE{X:RX}{loc:Nat→Nat→Prop}(hC:oX X loc C)(hchk:r8 X ops=true){F:Fence}(hF:F=Fence.wide∨∃l0,F=Fence.wide.inRound l0)(hdef:∀o,o∈ops.toList→∀c,o.op≠.defer c){Qx:Exit→Act→World→Prop}{Φ0:Phi}{σ0:St}{w0:World}(n1:Nat)(hn1:n1≤ops.size)(hg1:gate ops n1=true){K:FR→St→Prop}
 (hfin:∀(fuel:Nat) (listed:Array Bool) (f:FR) (σ:St) (Φ:Phi) (w:World) (a:Act),left listed n1=[]→listed.size=ops.size→(left listed ops.size).length=fuel→vC ops (fun i=>listed.getD i false=true)→(∀j,n1≤j→j<ops.size→listed.getD j true=false)→Inv Φ w σ→dD Φ a.tmps f→eG Φ w a.defers f.d→DOk X loc f→Step Φ0 σ0 w0 Φ σ w →
   K f σ→wpAnyIn F 0 P .any ops Qx fuel listed a w):∀(fuel:Nat) (listed:Array Bool) (f:FR) (σ:St) (Φ:Phi) (w:World) (a:Act),listed.size=ops.size→(left listed ops.size).length=fuel →
  vC ops (fun i=>listed.getD i false=true)→(∀j,n1≤j→j<ops.size→listed.getD j true=false)→Inv Φ w σ→dD Φ a.tmps f→eG Φ w a.defers f.d→DOk X loc f→Step Φ0 σ0 w0 Φ σ w →
  gl P C ops (fun f' _ σ'=>∃f'',FEq f' f''∧K f'' σ') (opsOf ops (left listed n1)) f (fun l=>Φ.obj l≠none) σ→wpAnyIn F 0 P .any ops Qx fuel listed a w:=by
 have hKok:KOk (fun f' (_:Nat→Prop) σ'=>∃f'',FEq f' f''∧K f'' σ'):=fun f f' U U' σ hf _ ⟨f'',h1,h2⟩=>⟨f'',hf.symm.trans h1,h2⟩
 have ready_left:∀(listed:Array Bool) i,i∈Region.ready .any ops listed→i∈left listed ops.size:=fun listed i hi=>by
  obtain⟨h0,o,ho,-⟩:=mem_ready.1 hi
  exact mem_left.2 ⟨(Array.getElem?_eq_some_iff.1 ho).1,h0⟩
 have chk1:∀i oi,ops[i]?=some oi→(∀e,e∈oi.after.toList→Region.binds .any e=true→e.on<i)∧∀j oj,j<i→ops[j]?=some oj→((rU ops.toList []).getD i 0).testBit j=true∨yA X ops oj oi=true:=by
  intro i oi hoi
  have hlt:=(Array.getElem?_eq_some_iff.1 hoi).1
  have h:=hchk
  simp only[r8,Bool.and_eq_true] at h
  replace h:=h.2
  simp only[List.all_eq_true,List.mem_range] at h
  have h1:=h i hlt
  rw[hoi] at h1
  simp only[Bool.and_eq_true,List.all_eq_true,Bool.or_eq_true,Bool.not_eq_true',decide_eq_true_eq,List.mem_range] at h1
  refine⟨fun e he hb=>?_,fun j oj hj hoj=>?_⟩
  ·rcases h1.1 e he with q|q
   ·rw[hb] at q;cases q
   ·exact q
  ·have:=h1.2 j hj
   rw[hoj] at this
   simpa using this
 intro fuel
 induction fuel with
 | zero =>
  intro listed f σ Φ w a hsz hl hc hup hi hr hd hD hs h
  have hnil0:left listed ops.size=[]:=List.eq_nil_of_length_eq_zero hl
  have hnil:left listed n1=[]:=by
   rw[List.eq_nil_iff_forall_not_mem]
   intro i hi
   obtain⟨h1,h2⟩:=mem_left.1 hi
   have:i∈left listed ops.size:=mem_left.2 ⟨by omega,h2⟩
   rw[hnil0] at this;cases this
  rw[hnil] at h
  obtain⟨f'',h1,h2⟩:=h
  exact hfin 0 listed f'' σ Φ w a hnil hsz hl hc hup hi ⟨hr.1.trans h1.1,fun t=>by rw[←h1.2.2 t];exact hr.2 t⟩ (h1.2.1 ▸ hd) ⟨fun t ht=>by rw[←h1.2.2 t];exact hD.1 t ht,hD.2.1,fun p hp=>⟨(hD.2.2 p hp).1,fun l i o e=>(hD.2.2 p hp).2 l i o (by rw[h1.2.2];exact e)⟩⟩ hs h2
 | succ fuel ih =>
  intro listed f σ Φ w a hsz hl hc hup hi hr hd hD hs h
  by_cases hnil:left listed n1=[]
  ·rw[hnil] at h
   obtain⟨f'',h1,h2⟩:=h
   exact hfin (fuel+1) listed f'' σ Φ w a hnil hsz hl hc hup hi ⟨hr.1.trans h1.1,fun t=>by rw[←h1.2.2 t];exact hr.2 t⟩ (h1.2.1 ▸ hd) ⟨fun t ht=>by rw[←h1.2.2 t];exact hD.1 t ht,hD.2.1,fun p hp=>⟨(hD.2.2 p hp).1,fun l i o e=>(hD.2.2 p hp).2 l i o (by rw[h1.2.2];exact e)⟩⟩ hs h2
  refine⟨fun hnone=>?_,fun i hrd=>?_⟩
  ·-- the first that is left is ready
   exfalso
   cases hleft:left listed ops.size with
   | nil=>rw[hleft] at hl;cases hl
   | cons i0 r =>
    have h0:i0∈left listed ops.size:=by rw[hleft];simp
    obtain⟨hlt,h0'⟩:=mem_left.1 h0
    have hoi:ops[i0]?=some ops[i0]:=Array.getElem?_eq_getElem hlt
    have:i0∈Region.ready .any ops listed:=mem_ready.2 ⟨h0',_,hoi,fun e he hb=>by
     have hlt':=(chk1 i0 _ hoi).1 e (by simpa using he) hb
     cases hq:listed.getD e.on false with
     | true=>rfl
     | false =>
      exfalso
      have hm:e.on∈left listed ops.size:=mem_left.2 ⟨by omega,by
       have hb2:e.on<listed.size:=by omega
       simpa[hb2] using hq⟩
      have hp:(left listed ops.size).Pairwise (·<·):=List.Pairwise.filter _ List.pairwise_lt_range
      rw[hleft] at hp hm
      have:=(List.pairwise_cons.1 hp).1
      rcases List.mem_cons.1 hm with q|q
      ·omega
      ·have:=this e.on q;omega⟩
    rw[hnone] at this;cases this
  ·obtain⟨h0,o,ho,hpre⟩:=mem_ready.1 hrd
   have hio:i<ops.size:=(Array.getElem?_eq_some_iff.1 ho).1
   have hmask:∀j,((rU ops.toList []).getD i 0).testBit j=true→listed.getD j false=true:=fun j q =>
    sN (L:=fun i=>listed.getD i false=true) ops.toList [] [] rfl (by simpa using hc) (fun i hi j hj=>by simp at hj) i (.inr ⟨o,by simpa using ho,fun e he hb=>hpre e (by simpa using he) hb⟩) j q
   have hin1:i<n1:=by
    refine Classical.byContradiction fun hge=>hnil ?_
    rw[List.eq_nil_iff_forall_not_mem]
    intro j hj
    obtain⟨q1,q2⟩:=mem_left.1 hj
    have:=hmask j (KX hg1 hio oM q1)
    have hb2:j<listed.size:=by omega
    simp[hb2] at this q2
    rw[this] at q2;cases q2
   have hmem:i∈left listed n1:=mem_left.2 ⟨hin1,h0⟩
   obtain⟨l1,l2,he,hlt,hflt⟩:=sK hmem
   have hsw:∀x,x∈opsOf ops l1→yA X ops x o=true:=by
    intro x hx
    obtain⟨j,hj,hx⟩:=List.mem_filterMap.1 hx
    rcases (chk1 i o ho).2 j x (hlt j hj) hx with q|q
    ·exfalso
     have:=hmask j q
     have hjl:j∈left listed n1:=by rw[he];simp[hj]
     have hj2:=(mem_left.1 hjl)
     have hb2:j<listed.size:=by omega
     simp[hb2] at this hj2
     simp[this] at hj2
    ·exact q
   have e2:opsOf ops (left listed n1)=opsOf ops l1++o::opsOf ops l2:=by rw[he];simp[opsOf,List.filterMap_append,ho]
   rw[e2] at h
   have hdom:Dom (fun l=>Φ.obj l≠none) σ:=fun l hl q=>hl (hi.fV q)
   have hfin':Fin (fun l=>Φ.obj l≠none):=by
    obtain⟨n,hn⟩:=hi.fresh.1.1
    exact⟨n,fun l hl q=>q (hn l hl)⟩
   have hkall:∀(j:Nat) x,ops[j]?=some x→sJ X x=true:=fun j x hx=>by
    have h:=hchk
    simp only[r8,Bool.and_eq_true,List.all_eq_true] at h
    exact h.1 x (by rw[←Array.getElem?_toList] at hx;exact List.mem_of_getElem? hx)
   have hp:=IJ (pull hKok hC (opsOf ops l2) o (opsOf ops l1) f _ σ hdom hfin' hD hsw (fun x hx=>by
    obtain⟨j,hj,hx⟩:=List.mem_filterMap.1 hx
    exact hkall j x hx) h)
   have e3:opsOf ops (left (listed.setIfInBounds i true) n1)=opsOf ops l1++opsOf ops l2:=by rw[Cr oM,hflt];simp[opsOf,List.filterMap_append]
   have hlen:(left (listed.setIfInBounds i true) ops.size).length=fuel:=by
    obtain⟨m1,m2,hm,-,hmf⟩:=sK (ready_left listed i hrd)
    rw[z7 hsz,hmf]
    rw[hm] at hl
    simp at hl ⊢;omega
   have hup':∀j,n1≤j→j<ops.size→(listed.setIfInBounds i true).getD j true=false:=fun j h1 h2=>by
    have hne:i≠j:=by omega
    rw[←hup j h1 h2]
    simp[Array.getElem?_setIfInBounds_ne hne]
   have hcl:vC ops (fun k=>(listed.setIfInBounds i true).getD k false=true):=by
    intro k ok hk hlk e hek hb
    by_cases hki:k=i
    ·subst hki
     rw[ho] at hk;cases hk
     exact getD_set_true (hpre e (by simpa using hek) hb)
    ·have:listed.getD k false=true:=by rw[←hlk,getD_set_ne _ (Ne.symm hki)]
     exact getD_set_true (hc k ok hk this e hek hb)
   have next:∀v mv σ' Φ' w' ,Rel Φ' v mv→Inv Φ' w' σ'→Step Φ σ w Φ' σ' w' →
     (∃U':Nat→Prop,(∀l,U' l→Φ.obj l≠none∨σ' l≠none)∧GV (gfo P C ops f o) mv∧∀U1',(∀l,U' l→U1' l)→gl P C ops (fun f' _ σ'=>∃f'',FEq f' f''∧K f'' σ') (opsOf ops l1++opsOf ops l2) (bM f o.dst mv) U1' σ') →
     wpAnyIn F 0 P .any ops Qx fuel (listed.setIfInBounds i true) (a.put o.dst v) w':=by
    rintro v mv σ' Φ' w' r1 i1 s1 ⟨U',hu,hgv,hk⟩
    refine ih _ (bM f o.dst mv) σ' Φ' w' (a.put o.dst v) (by simpa using hsz) hlen hcl hup' i1 (cO (hr.mono s1.le) o.dst r1) (by rw[bT,eE];exact hd.step hi s1) (hD.put (hkall i o ho) hgv) (hs.trans s1) ?_
    rw[e3]
    refine hk _ fun l hl=>?_
    rcases hu l hl with q|q
    ·intro hn
     cases hp:Φ.obj l with
     | none=>exact q hp
     | some p=>rw[s1.le.obj l p hp] at hn;cases hn
    ·intro hn;exact q (i1.fV hn)
   unfold wpOpIn
   rw[ho]
   simp only
   have hFo:F=Fence.wide∨∃l0,F=Fence.wide.inRound l0∧∀c,o.op≠.defer c:=hF.imp id fun⟨l0,e⟩=>⟨l0,e,hdef o (by rw[←Array.getElem?_toList] at ho;exact List.mem_of_getElem? ho)⟩
   have hfn:∀g,F.fn g:=fun g=>by rcases hF with rfl|⟨l,rfl⟩<;>trivial
   have run:gs (fun l=>Φ.obj l≠none) σ (gop P C f o.op) (fun v U1 σ1=>GV (gfo P C ops f o) v∧∀U1',(∀l,U1 l→U1' l)→gl P C ops (fun f' _ σ'=>∃f'',FEq f' f''∧K f'' σ') (opsOf ops l1++opsOf ops l2) (bM f o.dst v) U1' σ1) →
     o.wpIn F 0 P a w (wpAnyIn F 0 P .any ops Qx fuel (listed.setIfInBounds i true)) Qx:=by
    intro hg
    refine eT hFo ?_
    refine nK (UB hg) Φ w a _ _ hi hr fun v mv σ' Φ' w' r1 i1 s1 hk=>next v mv σ' Φ' w' r1 i1 s1 (hk fun l h1 h2 q=>?_)
    rcases s1.locs l _ (Option.ne_none_iff_exists'.1 h1).choose_spec with⟨o',ho'⟩|ho'
    ·rw[h2] at ho';cases ho'
    ·exact q ho'
   obtain⟨G,hG⟩:∃G,GV (gfo P C ops f o)=G:=⟨_,rfl⟩
   rw[hG] at hp run next
   unfold gfo at hp
   split at hp
   ·rename_i hg
    have hw:Region.wanted o (yielded ops a.tmps)=true:=by unfold Region.wanted;rw[hg]
    rw[if_pos hw]
    exact run hp
   ·rename_i j want hg
    split at hp
    ·rename_i t ht
     split at hp
     ·rename_i b hb
      have hmg:∀{A B:Prop},(b=want→A)∧(b=(!want)→B)→(Region.wanted o (yielded ops a.tmps)=true∧A)∨(Region.wanted o (yielded ops a.tmps)=false∧B):=fun {A B} h =>
       cL (ops:=ops) (o:=o) (f:=f) (by unfold fZ;rw[hg];simp only[ht,hb];exact h) hr
      split at hp
      ·rename_i hbw
       rcases hmg (A:=True) (B:=False) ⟨fun _=>trivial,fun e=>by rw[hbw] at e;cases want<;>cases e⟩ with⟨hw,-⟩|⟨-,hw⟩
       ·rw[if_pos hw];exact run hp
       ·exact hw.elim
      ·rename_i hbw
       rcases hmg (A:=False) (B:=True) ⟨fun e=>hbw e,fun _=>trivial⟩ with⟨-,hw⟩|⟨hw,-⟩
       ·exact hw.elim
       ·rw[if_neg (by simp[hw])]
        obtain⟨-,U',hu,hgv,hk⟩:=oO hp
        exact⟨fun f _=>hfn f,next undef (.tup []) σ Φ w gU hi (.refl _ _ _) ⟨U',hu,hgv,hk⟩⟩
     ·rename_i hb
      rcases cL (ops:=ops) (o:=o) (f:=f) (yes:=False) (no:=True) (by unfold fZ;rw[hg];simp only[ht,hb]) hr with⟨-,hw⟩|⟨hw,-⟩
      ·exact hw.elim
      ·rw[if_neg (by simp[hw])]
       obtain⟨-,U',hu,hgv,hk⟩:=oO hp
       exact⟨fun f _=>hfn f,next undef (.tup []) σ Φ w gU hi (.refl _ _ _) ⟨U',hu,hgv,hk⟩⟩
     ·exact(gD hp).elim
    ·exact(gD hp).elim
theorem Cq{n m:Nat}(h:m≤n):left (Array.replicate n false) m=List.range m:=by
 unfold left
 refine List.filter_eq_self.2 fun j hj=>?_
 have hj:j<m:=by simpa using hj
 simp[show j<n by omega]
theorem GH:∀(l:List Oper) (n:Nat),n≤l.length→opsOf l.toArray (List.range n)=l.take n:=by
 intro l n hn
 unfold opsOf
 induction n with
 | zero=>simp
 | succ n ih =>
  rw[List.range_succ,List.filterMap_append,ih oM,List.take_add_one]
  congr 1
  cases hl:l[n]? with
  | none=>simp[hl]
  | some o=>simp[hl]
theorem JH(l:List Oper)(n:Nat):∀m,opsOf l.toArray ((List.range' n m))=(l.drop n).take m:=by
 intro m
 induction m generalizing n with
 | zero=>simp[opsOf]
 | succ m ih =>
  have ih:=ih (n+1)
  unfold opsOf at ih ⊢
  simp only[List.getElem?_toArray] at ih ⊢
  rw[List.range'_succ,List.filterMap_cons]
  cases hl:l[n]? with
  | none =>
   have:l.length≤n:=List.getElem?_eq_none_iff.1 hl
   simp only[hl]
   rw[ih,List.drop_eq_nil_of_le oM,List.drop_eq_nil_of_le this]
   simp
  | some o =>
   have hn:=(List.getElem?_eq_some_iff.1 hl).1
   have ho:=(List.getElem?_eq_some_iff.1 hl).2
   simp only[hl]
   rw[ih,List.drop_eq_getElem_cons hn,List.take_succ_cons,ho]
theorem left_at{listed:Array Bool}{n n1:Nat}(hs:listed.size=n)(h1:left listed n1=[])(hn:n1≤n)(hup:∀j,n1≤j→j<n→listed.getD j true=false):left listed n=List.range' n1 (n - n1):=by
 have e:List.range n=List.range n1++List.range' n1 (n - n1):=by
  obtain⟨d,rfl⟩:∃d,n=n1+d:=⟨n - n1,by omega⟩
  rw[Nat.add_sub_cancel_left,List.range_add,List.range'_eq_map_range]
 unfold left at h1 ⊢
 rw[e,List.filter_append,h1,List.nil_append]
 refine List.filter_eq_self.2 fun j hj=>?_
 have hj':=List.mem_range'_1.1 hj
 rw[hup j hj'.1 oM]
 rfl
theorem Pw{u:iV}(hC:PlU u C){MC:FuncId→List MV→St→(MV→St→Prop)→Prop}(hMC:∀U σ,Dom U σ→∀g ms k,MC g ms σ k→gs U σ (iM P C g ms) fun v _ σ'=>k v σ'){K:FR→St→Prop}{l:List Oper}{f:FR}{σ:St}{Φ:Phi}{w:World}(hi:Inv Φ w σ)(h:fU P MC ops K l f σ):gl P C ops (fun f' _ σ'=>∃f'',FEq f' f''∧K f'' σ') l f (fun l=>Φ.obj l≠none) σ:=by
 refine Ux (C:=C) (MC:=MC) hMC (u:=u) hC l f _ σ (fun l hl q=>hl (hi.fV q)) ?_ h
 obtain⟨n,hn⟩:=hi.fresh.1.1
 exact⟨n,fun l hl q=>q (hn l hl)⟩
def NOk(P:Program)(MC:FuncId→List MV→St→(MV→St→Prop)→Prop)(ops:Array Oper)(post:List Oper)(Qx:Exit→Act→World→Prop)(N:Act→World→Prop):Prop :=
 ∀(K2:FR→St→Prop) (f2:FR) (σ2:St) (Φ2:Phi) (w2:World) (a2:Act),Inv Φ2 w2 σ2→dD Φ2 a2.tmps f2→eG Φ2 w2 a2.defers f2.d →
  (∀f3 σ3 Φ3 w3 a3,Inv Φ3 w3 σ3→dD Φ3 a3.tmps f3→eG Φ3 w3 a3.defers f3.d→Step Φ2 σ2 w2 Φ3 σ3 w3→K2 f3 σ3→Qx .normal a3 w3)→fU P MC ops K2 post f2 σ2→N a2 w2
def Kx(F:Fence)(P:Program)(ops:Array Oper)(Qx:Exit→Act→World→Prop)(y:Oper)(a:Act)(w:World)(N:Act→World→Prop):Prop :=
 if Region.wanted y (yielded ops a.tmps) then y.wpIn F 0 P a w N Qx else(∀f,y.about P w a.eval=some f→F.fn f)∧N (a.put y.dst undef) w
theorem AK(hm:P.follows .mixedOrders=true)(u:iV)(hCu:PlU u C){MC:FuncId→List MV→St→(MV→St→Prop)→Prop}(hMC:∀U σ,Dom U σ→∀g ms k,MC g ms σ k→gs U σ (iM P C g ms) fun v _ σ'=>k v σ')(pre:List Oper)(y:Oper)(post:List Oper)(ho:ops=(pre++y::post).toArray)(hdef:∀o,o∈ops.toList→∀c,o.op≠.defer c)(hchk:r8 ⟨[],[],none,u⟩ ops=true)(hg1:gate ops pre.length=true)(hg2:gate ops (pre.length+1)=true)
 {F:Fence}(hF:F=Fence.wide∨∃l0,F=Fence.wide.inRound l0){Qx:Exit→Act→World→Prop}{id:Nat}{f:FR}{σ:St}{Φ:Phi}{w:World}{a:Act}{K1:FR→St→Prop}(hi:Inv Φ w σ)(hr:dD Φ a.tmps f)(hd:eG Φ w a.defers f.d)
 (hy:∀f1 σ1 Φ1 w1 a1 N,Inv Φ1 w1 σ1→dD Φ1 a1.tmps f1→eG Φ1 w1 a1.defers f1.d→Step Φ σ w Φ1 σ1 w1→K1 f1 σ1→NOk P MC ops post Qx N→Kx F P ops Qx y a1 w1 N)
 (h:fU P MC ops K1 pre f σ):(Code.region id ops true).wpIn F 0 P Qx a w:=by
 have hsz:ops.size=pre.length+1+post.length:=by rw[ho];simp;omega
 have hC:oX ⟨[],[],none,u⟩ (fun _ _=>True) C:=⟨hCu,trivial⟩
 have hD0:∀f,DOk ⟨[],[],none,u⟩ (fun _ _=>True) f:=fun f=>⟨fun t ht=>(by cases ht),fun t t' ht=>(by cases ht),fun p hp=>(by cases hp)⟩
 have hi':Inv Φ { w with drawn:=w.drawn+1 } σ:=⟨fun l o hl=>by
  have:=hi.own l o hl
  cases o<;>exact this,hi.inj,hi.snap,hi.apart,hi.fresh⟩
 have hst:Step Φ σ w Φ σ { w with drawn:=w.drawn+1 }:=⟨.refl Φ,rfl,rfl,rfl,kM (Nat.le_succ _),Nat.le_refl _,fun _ _ _=>rfl,fun _ _ h=>.inl h,fun l o h=>.inl ⟨o,h⟩,fun _ h=>.inl h⟩
 have yat:ops[pre.length]?=some y:=by rw[ho];simp
 refine wpIn_region_any hm (KE (C:=C) (K:=K1) hC hchk hF hdef (Φ0:=Φ) (σ0:=σ) (w0:=w) pre.length oM hg1 ?_ ops.size _ f σ Φ _ a (by simp) ?_ ?_ (fun j _ hj=>by simp[hj]) hi' hr (hd.step hi hst) (hD0 f) hst ?_)
 ·intro fuel listed f1 σ1 Φ1 w1 a1 hnil hls hlen hcl hup i1 r1 d1 _ s1 k1
  have hleft:=left_at hls hnil oM hup
  have hfuel:fuel=post.length+1:=by rw[←hlen,hleft,List.length_range'];omega
  subst hfuel
  have chk1:∀i oi,ops[i]?=some oi→∀e,e∈oi.after.toList→Region.binds .any e=true→e.on<i:=by
   intro i oi hoi e he hb
   have hlt:=(Array.getElem?_eq_some_iff.1 hoi).1
   have h:=hchk
   simp only[r8,Bool.and_eq_true] at h
   replace h:=h.2
   simp only[List.all_eq_true,List.mem_range] at h
   have h1:=h i hlt
   rw[hoi] at h1
   simp only[Bool.and_eq_true,List.all_eq_true,Bool.or_eq_true,Bool.not_eq_true',decide_eq_true_eq,List.mem_range] at h1
   rcases h1.1 e he with q|q
   ·rw[hb] at q;cases q
   ·exact q
  have hlow:∀j,j<pre.length→listed.getD j false=true:=fun j hj=>by
   refine Classical.byContradiction fun hq=>?_
   have hb2:j<listed.size:=by omega
   have:j∈left listed pre.length:=mem_left.2 ⟨hj,by
    cases hb:listed[j]'hb2
    ·simp[hb2,hb]
    ·simp[hb2,hb] at hq⟩
   rw[hnil] at this;cases this
  refine⟨fun hnone=>?_,fun i hrd=>?_⟩
  ·exfalso
   have hb2:pre.length<listed.size:=by omega
   have:pre.length∈Region.ready .any ops listed:=mem_ready.2 ⟨hup _ (Nat.le_refl _) oM,y,yat,fun e he hb=>hlow _ (chk1 _ _ yat e (by simpa using he) hb)⟩
   rw[hnone] at this;cases this
  ·obtain⟨h0,o,hoi,hpre⟩:=mem_ready.1 hrd
   have hio:i<ops.size:=(Array.getElem?_eq_some_iff.1 hoi).1
   have hmask:∀j,((rU ops.toList []).getD i 0).testBit j=true→listed.getD j false=true:=fun j q =>
    sN (L:=fun i=>listed.getD i false=true) ops.toList [] [] rfl (by simpa using hcl) (fun i hi j hj=>by simp at hj) i (.inr ⟨o,by simpa using hoi,fun e he hb=>hpre e (by simpa using he) hb⟩) j q
   have hge:pre.length≤i:=by
    refine Classical.byContradiction fun hlt=>?_
    have:=hlow i oM
    have hb2:i<listed.size:=by omega
    simp[hb2] at this h0
    rw[this] at h0;cases h0
   have hle:i≤pre.length:=by
    refine Classical.byContradiction fun hgt=>?_
    have:=hmask pre.length (KX hg2 hio oM (Nat.lt_succ_self _))
    have q:=hup pre.length (Nat.le_refl _) oM
    have hb2:pre.length<listed.size:=by omega
    simp[hb2] at this q
    rw[this] at q;cases q
   have hii:i=pre.length:=by omega
   subst hii
   rw[yat] at hoi;cases hoi
   unfold wpOpIn
   rw[yat]
   refine hy f1 σ1 Φ1 w1 a1 _ i1 r1 d1 s1 k1 ?_
   intro K2 f2 σ2 Φ2 w2 a2 i2 r2 d2 hfin h2
   have hup2:∀j,pre.length+1≤j→j<ops.size→(listed.setIfInBounds pre.length true).getD j true=false:=fun j h1 h2=>by
    have hne:pre.length≠j:=by omega
    rw[←hup j oM h2]
    simp[Array.getElem?_setIfInBounds_ne hne]
   have hl2:left (listed.setIfInBounds pre.length true) ops.size=List.range' (pre.length+1) post.length:=by
    rw[left_at (n1:=pre.length+1) (by simpa using hls) ?_ oM hup2,hsz]
    ·congr 1;omega
    ·rw[Cr oM]
     rw[List.eq_nil_iff_forall_not_mem]
     intro j hj
     obtain⟨q1,q2⟩:=List.mem_filter.1 hj
     obtain⟨q3,q4⟩:=mem_left.1 q1
     have hjn:j≠pre.length:=by simpa using q2
     have:j∈left listed pre.length:=mem_left.2 ⟨by omega,q4⟩
     rw[hnil] at this;cases this
   refine KE (C:=C) (K:=K2) hC hchk hF hdef (Φ0:=Φ2) (σ0:=σ2) (w0:=w2) ops.size (Nat.le_refl _) (List.all_eq_true.2 fun i hi=>by simp at hi;simp[hi]) ?_ post.length _ f2 σ2 Φ2 w2 a2 (by simpa using hls) (by rw[hl2,List.length_range']) ?_ (fun j h1 h2=>by omega) i2 r2 d2 (hD0 f2) (.refl _ _ _) ?_
   ·intro fuel listed3 f3 σ3 Φ3 w3 a3 hnil3 hls3 hlen3 _ _ i3 r3 d3 _ s3 k3
    rw[hnil3] at hlen3
    simp at hlen3
    subst hlen3
    refine⟨?_,hfin f3 σ3 Φ3 w3 a3 i3 r3 d3 s3 k3⟩
    rw[List.eq_nil_iff_forall_not_mem]
    intro i hi
    obtain⟨q1,o,q2,-⟩:=mem_ready.1 hi
    have:i∈left listed3 ops.size:=mem_left.2 ⟨(Array.getElem?_eq_some_iff.1 q2).1,q1⟩
    rw[hnil3] at this;cases this
   ·intro k ok hk hlk e hek hb
    by_cases hki:k=pre.length
    ·subst hki
     rw[yat] at hk;cases hk
     exact getD_set_true (hpre e (by simpa using hek) hb)
    ·have:listed.getD k false=true:=by rw[←hlk,getD_set_ne _ (Ne.symm hki)]
     exact getD_set_true (hcl k ok hk this e hek hb)
   ·rw[hl2]
    have e:opsOf ops (List.range' (pre.length+1) post.length)=post:=by
     rw[ho,JH]
     simp
    rw[e]
    exact Pw hCu hMC i2 h2
 ·rw[Cq (Nat.le_refl _)];simp
 ·intro i o ho hl
  simp only[Array.getD_eq_getD_getElem?,Array.getElem?_replicate] at hl
  split at hl<;>simp at hl
 ·rw[Cq oM]
  have e:opsOf ops (List.range pre.length)=pre:=by
   rw[ho,GH _ _ (by simp)]
   simp
  rw[e]
  exact Pw hCu hMC hi h
theorem NS(hm:P.follows .mixedOrders=true)(C:cC)(pre:List Oper)(y:Oper)(post:List Oper)(ho:ops=(pre++y::post).toArray)(hdef:Ar (pre++y::post)=true)(hchk:(chk ops&&gate ops pre.length&&gate ops (pre.length+1))=true){id:Nat}{f:FR}{σ:St}{Q:MQ}
 (h:kG P C ops (fun f1 σ1=>fZ ops f1 y (jB P f1 σ1 y.dst (fun f' σ'=>kG P C ops (Q .normal) post f' σ') y.op) (kG P C ops (Q .normal) post (bM f1 y.dst (.tup [])) σ1)) pre f σ):mwp P (.region id ops true) f σ Q:=by
 intro F hF Φ w a hi hr hd
 simp only[Bool.and_eq_true] at hchk
 have hF':F=Fence.wide∨∃l0,F=Fence.wide.inRound l0:=Or.imp (fun q=>q) (fun⟨l0,e,_⟩=>⟨l0,e⟩) hF
 have hfn:∀g,F.fn g:=fun g=>by rcases hF' with rfl|⟨l,rfl⟩<;>trivial
 have hdef':∀o,o∈ops.toList→∀c,o.op≠.defer c:=fun o h=>oH hdef o (by rw[ho] at h;simpa using h)
 refine AK (C:=C.pl) (MC:=pU P C) hm .no C.Lu.u (fun _ _ hd _ _ _ h=>yQ hd h) pre y post ho hdef' hchk.1.1 hchk.1.2 hchk.2 hF' hi hr hd ?_ h
 intro f1 σ1 Φ1 w1 a1 N i1 r1 d1 s1 k1 hN
 have hyd:∀c,y.op≠.defer c:=hdef' y (by rw[ho];simp)
 have hFo:F=Fence.wide∨∃l0,F=Fence.wide.inRound l0∧∀c,y.op≠.defer c:=hF'.imp (fun q=>q) fun⟨l0,e⟩=>⟨l0,e,hyd⟩
 unfold Kx
 rcases cL k1 r1 with⟨hw,hk⟩|⟨hw,hk⟩
 ·rw[if_pos hw]
  refine eT hFo (kH hyd hk Φ1 w1 a1 _ _ i1 r1 fun v mv σ' Φ' w' r2 i2 s2 hk2=>?_)
  exact hN (Q .normal) _ σ' Φ' w' (a1.put y.dst v) i2 (cO (r1.mono s2.le) y.dst r2) (by rw[bT,eE];exact d1.step i1 s2) (fun f3 σ3 Φ3 w3 a3 i3 r3 d3 s3 k3=>⟨f3,σ3,Φ3,d3,r3,i3,s1.trans (s2.trans s3),k3⟩) hk2
 ·rw[if_neg (by simp[hw])]
  exact⟨fun f _=>hfn f,hN (Q .normal) _ σ1 Φ1 w1 (a1.put y.dst undef) i1 (cO r1 y.dst gU) (by rw[bT,eE];exact d1) (fun f3 σ3 Φ3 w3 a3 i3 r3 d3 s3 k3=>⟨f3,σ3,Φ3,d3,r3,i3,s1.trans s3,k3⟩) hk⟩
theorem cF{id:Nat}{l:List Oper}{f:FR}{σ:St}{Q:MQ}(hm:P.follows .mixedOrders=true)(C:cC)(pre:List Oper){dst:Option Tmp}{op:Op}{ty:TypeId}{pos:String}{after:Array Edge}(post:List Oper)(ho:l=pre++⟨dst,op,ty,pos,after,none⟩::post)
 (hchk:(Ar l&&(chk l.toArray&&gate l.toArray pre.length&&gate l.toArray (pre.length+1)))=true)
 (h:R (kG P C (@OfNat.ofNat (Array Oper) (nat_lit 0) (@_root_.id (OfNat (Array Oper) (nat_lit 0)) (OfNat.mk (l.toArray)))) (fun f1 σ1=>jB P f1 σ1 dst (fun f' σ'=>kG P C (@OfNat.ofNat (Array Oper) (nat_lit 0) (@_root_.id (OfNat (Array Oper) (nat_lit 0)) (OfNat.mk (l.toArray)))) (Q .normal) (@OfNat.ofNat (List Oper) (nat_lit 0) (@_root_.id (OfNat (List Oper) (nat_lit 0)) (OfNat.mk post))) f' σ') op)
   (@OfNat.ofNat (List Oper) (nat_lit 0) (@_root_.id (OfNat (List Oper) (nat_lit 0)) (OfNat.mk pre))) f σ)):R (rV P id (@OfNat.ofNat (List Oper) (nat_lit 0) (@_root_.id (OfNat (List Oper) (nat_lit 0)) (OfNat.mk l))) f σ Q):=by
 rw[Bool.and_eq_true] at hchk
 exact NS hm C pre ⟨dst,op,ty,pos,after,none⟩ post (by rw[←ho]) (by rw[←ho];exact hchk.1) hchk.2 h
end
end
end Go.Proofs.YtppdgejjmhdjhaaGreatDoor
