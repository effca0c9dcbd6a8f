/- Parts of the proof; conditions: as its theorems name them. -/
import Derived.Test.YtppdgejjmhdjhaaGreatDoorMbc
import Derived.Shelf.Strings.Shaped
import Derived.Test.YtppdgejjmhdjhaaGreatDoorRows
import Derived.Lib.IndexMore
import Derived.Shelf.SlIterI.Nil
import Derived.Shelf.SortM.Plain
import Derived.Shelf.SortM.SortNone
import Derived.Laws.LoneSync
import Derived.Lib.SliceRun
import Derived.OwnWalk
import Derived.Conc.MuLone
import Derived.Conc.MuLib
import Derived.KernelRfl
set_option linter.all false
set_option maxHeartbeats 8000000
set_option maxRecDepth 100000
namespace Go.Proofs.YtppdgejjmhdjhaaGreatDoor
open BitVec renaming ofInt->aa,ofInt_natCast->ab,toNat_ofNat->ac,toNat_and->ad
open Bool renaming and_eq_true->ag,false_and->am,true_and->an,false_eq_true->ap,and_false->au,decide_and->av,or_eq_true->aI
open Classical renaming byContradiction->aN,not_not->a6
open Fence renaming wide->a7
open Go.World renaming putObj_heap_other->be,block_lt_of_cell?->bv,putObj_size->b0,putObj_heap_same->b5,size_alloc->b6,cell?->b7
open Int renaming fdiv_eq_ediv_of_nonneg->ca
open IntKind renaming bits->cb,signed->cd,u32->ce,wrap->cf
open List renaming length_cons->ci,mem_of_getElem?->co,getElem?_eq_some_iff->cr,getD_eq_getElem?_getD->ct,getElem?_eq_getElem->cv,cons_append->cx,length_append->cy,all_eq_true->c8,eq_nil_of_length_eq_zero->da,mem_range->de,length_map->df,take_succ_eq_append_getElem->dk,drop_eq_getElem_cons->dl,mem_cons->dn,map_cons->dt,getElem?_map->du,nil_append->d0,take_of_length_le->d5,length_nil->d6,take_length->d7,length_take->d8,eq_nil_iff_forall_not_mem->d9,drop_eq_nil_of_le->ea,append_assoc->eb,range->ek,getD_cons_zero->em,getD_cons_succ->eo,drop_succ_cons->et,drop_zero->ey,take_append_of_le_length->fd,map->fm,append_nil->fo,map_nil->fq,pairwise_cons->ft,getElem?_cons_zero->fu,map_append->fv,filterMap_append->f0,range'->f9,length_reverse->gc,take_add_one->ge,mem_map->gg,flatten_cons->gi,not_mem_nil->gk,drop_length->gm,all_cons->gn,take->gq,take_append_drop->gt,getElem?_eq_none->gu,take_succ_cons->gx,filter_eq_self->gy,mem_filterMap->g0,length_range'->g5
open List.cons renaming injEq->g6
open Lit renaming int->g7
open ND renaming c->g8
open Nat renaming le_refl->g9,zero_le->hE,testBit_eq_decide_div_mod_eq->hI,pow_le_pow_right->hM,pow_lt_pow_right->hO,mod_two_eq_zero_or_one->hP,mod_eq_of_lt->hQ,lt_of_lt_of_le->hT,lt_of_le_of_lt->hX,testBit_lt_two_pow->hY,min_eq_left->hZ,testBit_two_pow->ia,le_trans->ib,zero_testBit->ii,testBit_and->ik,eq_of_testBit_eq->io,or_lt_two_pow->ip,and_le_left->i8,add_sub_cancel_left->ja,zero_mul->jb,zero_add->je,mul_one->jj
open Ne renaming symm->jn
open OfNat renaming ofNat->jp,mk->jr
open Option.some renaming injEq->ju,inj->j1
open Region renaming wanted->j2,ready->j3
open Sem renaming run_pure->j4,run_bind->j5
open St renaming none->ka,set->kb,aB->kf
open T renaming fl->kg,ok->kk
open TK renaming isAgg->ko
open _root_.Array renaming getElem?_eq_some_iff->kr,getD_eq_getD_getElem?->kt,getElem?_setIfInBounds_ne->kv,getElem?_push->kw,eq_empty_of_size_eq_zero->k6,getElem?_eq_getElem->la,length_toList->lb,ext->lc,getElem?_toList->ld,getElem?_append->li,getD->lr
open aA renaming bV->ls,seen->lv
def val:BL→Nat
 |[]=>0
 |c::l=>c.toNat % 128+128*val l
def GY{s:Nat}{i:Nat}(h:i<32):hasB s (i:Int)=bit s i:=by
 unfold hasB bit;rw[hI];refine decide_eq_decide.mpr ?_;rw[Int.toNat_natCast];constructor
 ·exact fun h=>h.2.2
 ·exact fun k=>⟨oM,oM,k⟩
def sN(m:UInt32)(i:Nat)(h:i<32):aA Tryz.prog 178 [.int .u32 (m.toNat:Int),.int .i64 (i:Int)] ka (fun r _=>r=.bool (bit m.toNat i)):=by
 have:=sQ m.toNat (i:Int) m.toNat_lt
 rwa [GY h] at this
def uI(m:UInt32):aA Tryz.prog 177 [.int .u32 (m.toNat:Int)] ka (fun r _=>r=.bool (bit m.toNat 8)):=by
 refine(mB 5 [.tmp 2] Tryz.func177 ?_);have h:=sN m 8 br;repeat' first|(with_reducible first|refine up h ?_)|refine aw @Tryz.f177.eq_1 ?_|exact ev @Tryz.f177.eq_1|fail
 all_goals rfl
def wX(m:UInt32):aA Tryz.prog 12 [.int .u32 (m.toNat:Int)] ka (fun r _=>r=.bool (decide (m.toNat≤511))):=by
 refine(mB 5 [.tmp 2] Tryz.func12 ?_);repeat' first|refine aw @Tryz.f12.eq_1 ?_|fail
 all_goals first|rfl|(refine decide_eq_decide.mpr ?_;omega)
def Ax{n:Nat}(h:n<4294967296):ce.wrap (n:Int)=(n:Int):=by simp only[cf,cd,cb];simp;omega
def Gl(a b:Nat)(ha:a<4294967296)(hb:b<4294967296):pD .u32 (a:Int) (b:Int)=((a &&& b:Nat):Int):=by
 have hab:a &&& b<4294967296:=hX i8 ha;unfold pD;have e:(aa ce.bits (a:Int) &&& aa ce.bits (b:Int)).toNat=a &&& b:=by rw[ad];simp only[ab,ac,cb];rw[hQ oM,hQ oM]
 rw[e];exact Ax hab
def YM(a b:Nat)(ha:a<4294967296)(hb:b<4294967296):orK .u32 (a:Int) (b:Int)=((a ||| b:Nat):Int):=by
 have hab:a ||| b<2 ^ 32:=ip oM oM;unfold orK;have e:(aa ce.bits (a:Int) ||| aa ce.bits (b:Int)).toNat=a ||| b:=by rw[BitVec.toNat_or];simp only[ab,ac,cb];rw[hQ oM,hQ oM]
 rw[e];exact Ax hab
def Qp(a b:Nat)(ha:a<4294967296)(hb:b<4294967296):uY .u32 (a:Int) (b:Int)=((a &&& (4294967295-b):Nat):Int):=by
 have hab:a &&& (4294967295-b)<4294967296:=hX i8 ha;unfold uY;have e:(aa ce.bits (a:Int) &&& ~~~aa ce.bits (b:Int)).toNat=a &&& (4294967295-b):=by rw[ad,BitVec.toNat_not];simp only[ab,ac,cb];rw[hQ oM,hQ oM]
 rw[e];exact Ax hab
def DQ(n:Nat)(h:n<32):aA Tryz.prog 264 [.int .i64 (n:Int)] ka (fun r _=>r=.int .u32 ((2 ^ n:Nat):Int)):=by
 refine(mB 12 [.tmp 2] Tryz.func264 ?_);repeat' first|refine aw @Tryz.f264.eq_1 ?_|fail
 rw[hZ oM,Int.one_mul,show(2:Int) ^ n=((2 ^ n:Nat):Int) by simp];exact congrArg _ (Ax (hO (a:=2) (n:=32) br h))
def XS(m:Nat)(h:m<4294967296):m &&& (4294967295-511)=0↔m≤511:=by
 have e:∀i,(4294967295-511:Nat).testBit i=(decide (9≤i)&&decide (i<32)):=by
  intro i;by_cases hi:i<32
  ·have:∀i,i<32→(4294967295-511:Nat).testBit i=(decide (9≤i)&&decide (i<32)):=br;exact this i hi
  ·rw[hY (hT (show 4294967295-511<2 ^ 32 by decide) (hM br oM)),decide_eq_false hi,au]
 constructor
 ·intro h0;refine aN fun hn=>?_;have h1:m / 2 ^ 9≠0:=oM;obtain⟨i,hi⟩:=Nat.exists_testBit_of_ne_zero h1;rw[Nat.testBit_div_two_pow] at hi;have hi32:i+9<32:=by refine aN fun hc=>?_;rw[hY (hT (show m<2 ^ 32 from h) (hM br oM))] at hi;cases hi
  have h2:=congrArg (fun x=>Nat.testBit x (i+9)) h0;simp only[ik,ii,e,hi] at h2;rw[decide_eq_true oM,decide_eq_true hi32] at h2;cases h2
 ·intro hm;refine io fun i=>?_;rw[ik,ii,e];by_cases hi:9≤i
  ·rw[hY (hT (show m<2 ^ 9 by omega) (hM br hi)),am]
  ·rw[decide_eq_false hi,am,au]
def wJ(m:UInt32):aA Tryz.prog 63 [.int .u32 (m.toNat:Int)] ka (fun r _=>r=.bool (decide (m.toNat≤511))):=by
 refine(mB 5 [.tmp 2] Tryz.func63 ?_);have hm:=m.toNat_lt;have h:aA Tryz.prog 134 [.int .u32 (m.toNat:Int),.int .u32 511] ka (fun r _=>r=.bool (decide (m.toNat≤511))):=by
  refine(mB 9 [.tmp 4] Tryz.func134 ?_);have e:uY .u32 (m.toNat:Int) 511=_:=Qp m.toNat 511 hm br;repeat' first|refine bu @Tryz.f134.eq_1 @e ?_|fail
  exact decide_eq_decide.mpr ⟨fun h=>(XS m.toNat hm).1 (by exact_mod_cast h),fun h=>by rw[(XS m.toNat hm).2 h];rfl⟩
 repeat' first|(with_reducible first|refine up h ?_)|refine aw @Tryz.f63.eq_1 ?_|exact ev @Tryz.f63.eq_1|fail
def Ub(m k:Nat):m &&& 2 ^ k=if m.testBit k=true then 2 ^ k else 0:=by
 refine io fun i=>?_;rw[ik,ia];by_cases h:k=i
 ·subst h;cases hb:m.testBit k
  ·simp
  ·simp[ia]
 ·cases m.testBit k
  ·simp[h]
  ·simp[h,ia]
def uC(m:UInt32):aA Tryz.prog 155 [.int .u32 (m.toNat:Int)] ka (fun r _=>r=.bool (bit m.toNat 8)):=by
 refine(mB 6 [.tmp 2] Tryz.func155 ?_);have hm:=m.toNat_lt;have e:pD .u32 (m.toNat:Int) 256=_:=Gl m.toNat 256 hm br;repeat' first|refine bu @Tryz.f155.eq_1 @e ?_|fail
 rw[show(256:Nat)=2 ^ 8 by decide,Ub];unfold bit;cases m.toNat.testBit 8<;>rfl
def dbT:List Int:=[0,1,28,2,29,14,24,3,30,22,20,15,25,17,4,8,31,27,13,23,21,19,16,7,26,12,18,6,11,5,10,9]
def tzI(x:Nat):Int:=(ce.wrap (pD ce (x:Int) (ce.wrap (0-(x:Int)))*125613361)).fdiv (2 ^ min 27 32)
def TW:∀x:Nat,x<256→x≠0→0≤tzI x∧tzI x<32∧dbT[(tzI x).toNat]?=some (((cE x).headD 0:Nat):Int):=by decide +kernel
def VN(i:Nat):GT 0 i=(dbT[i]?).map (Value.int .u8):=by unfold GT;rw[if_pos rfl,du];rfl
def T9{C:Prop}{v:MV}{σ:St}{k:MV→St→Prop}(hC:C)(hk:R (k v σ)):R (mpure σ k (some (C,v))):=⟨hC,hk⟩
def Ur(x:Nat)(h:x<256)(h0:x≠0):JX Tryz.prog 325 0 (.int .u32 (tzI x))=some ((td Tryz.prog 5).ok=true∧(td Tryz.prog 5).size=1∧0≤tzI x∧tzI x<32∧(vq (.int .u8 (((cE x).headD 0:Nat):Int))).aP=true,.cg [.int .u8 (((cE x).headD 0:Nat):Int)]):=by unfold JX;rw[V5];simp only;rw[VN,(TW x h h0).2.2];rfl
def GZ{x:Nat}(h:x<256)(h0:x≠0):(cE x).headD 0<8:=by
 rw[AA x h h0];have:(cE x).headD 0∈cE x:=by have:=AA x h h0;rw[this];simp
 simpa using uZ this
def S5(x:Nat)(h0:0<x)(h:x<256):aA Tryz.prog 274 [.int .u32 (x:Int)] ka (fun r _=>r=.int .i64 (((cE x).headD 0:Nat):Int)):=by
 refine(mB 14 [.tmp 2] Tryz.func274 ?_);have hg:=Ur x h oM;have ht:=TW x h oM;have hh:=GZ h oM;obtain⟨d,hd⟩:∃d,(cE x).headD 0=d:=⟨_,rfl⟩
 rw[hd] at hg ht hh ⊢;repeat' first|refine aw @Tryz.f274.eq_1 ?_|fail
 change R (mpure _ _ (JX _ _ _ (.int .u32 (tzI x))));rw[hg];refine T9 ⟨by rw[td5],by rw[td5],ht.1,ht.2.1,rfl⟩ ?_;generalize tzI x=w;repeat' first|refine ed ?_|exact ll|fail
def Xh{a b:VA}:a=b↔a.kd=b.kd∧a.n=b.n∧a.s=b.s:=by obtain⟨a1,a2,a3⟩:=a;obtain⟨b1,b2,b3⟩:=b;simp
def lC{P:Program}{d:Nat}{t:TypeId}{fs:List (Nat×TypeId)}{xs ys:List MV}(hk:(td P t).k=.struct fs)(hp:dU P t=true):jX P (d+1) t (.agg xs) (.agg ys)=cK P (jX P d) xs ys fs:=by simp only[jX,hk,hp,if_true]
def Kv{P:Program}{d n:Nat}{t e:TypeId}{xs ys:List MV}(hk:(td P t).k=.array n e)(hp:(td P e).ok=true):jX P (d+1) t (.agg xs) (.agg ys)=cK P (jX P d) xs ys ((ek n).map fun i=>(i*(td P e).size,e)):=by simp only[jX,hk,hp,if_true]
def o6{P:Program}{d:Nat}{t:TypeId}{k k':IntKind}{a b:Int}(hk:(td P t).k=.int k'):jX P (d+1) t (.int k a) (.int k b)=some (decide (a=b)):=by simp only[jX,hk,if_true]
def R5{P:Program}{d:Nat}{t:TypeId}{a b:ByteArray}(hk:(td P t).k=.str):jX P (d+1) t (.str a) (.str b)=some (decide (a=b)):=by simp only[jX,hk]
def Vy:(td Tryz.prog 3).k=.int .i64:=by rw[td3]
def V6:(td Tryz.prog 23).k=.int .u32:=by rw[LK]
def Y9:(td Tryz.prog 9).k=.str:=by rw[td9]
def DF{l:List MV}{i:Nat}{f:F8}(hl:l=fc f)(h:i<8):eJ (td Tryz.prog 54) l (i*3)=.agg (f.get i).c:=by simp only[eJ,BX,ko,if_true,hl];exact congrArg MV.agg (qT h)
def MG(d:Nat)(a b:VA):jX Tryz.prog (d+2) 54 (.agg a.c) (.agg b.c)=some (decide (a=b)):=by
 have hp:dU Tryz.prog 54=true:=by decide +kernel
 rw[lC (by rw[BX]) hp];simp only[cK,td3,td9,eJ,ko,ap,if_false,em,eo,ci,d6,o6 Vy,R5 Y9];simp[Xh,av]
def Wp{f g:F8}:f=g↔∀i,i∈ek 8→f.get i=g.get i :=
 ⟨fun h i _=>by rw[h],fun h=>F8.ext fun i hi=>h i (de.2 hi)⟩
theorem Ht(d:Nat)(f g:F8):∀L:List Nat,(∀i,i∈L→i<8)→cK Tryz.prog (jX Tryz.prog (d+2)) (fc f) (fc g) (L.map fun i=>(i*3,54))=some (decide (∀i,i∈L→f.get i=g.get i))
 |[],_=>by simp[cK]
 |i::L,h=>by
  have hi:=h i ax;have ih:=Ht d f g L fun j hj=>h j (by simp[hj]);have h3:(td Tryz.prog 54).size=3:=by rw[BX]
  have ho:(td Tryz.prog 54).ok=true:=by rw[BX]
  simp only[dt,cK];rw[DF rfl hi,DF rfl hi,ih,MG,if_pos ⟨ho,by rw[h3,dD];omega,by rw[h3,dD];omega,by rw[h3];decide⟩];simp only[Option.map_some,List.forall_mem_cons];rw[av]
def Hu(d:Nat)(f g:F8):jX Tryz.prog (d+3) 55 (.agg (fc f)) (.agg (fc g))=some (decide (f=g)):=by
 have h3:(td Tryz.prog 54).size=3:=by rw[BX]
 rw[Kv (n:=8) (e:=54) (by rw[LL]) (by rw[BX]),h3,Ht d f g _ (fun i hi=>de.1 hi)]
 congr 1
 exact decide_eq_decide.mpr Wp.symm
def WX{a b:PA}:a=b↔a.mask=b.mask∧a.fp=b.fp∧a.f=b.f:=by obtain⟨a1,a2,a3⟩:=a;obtain⟨b1,b2,b3⟩:=b;simp
def Wh{a b:CA}:a=b↔a.id=b.id∧a.c9=b.c9∧a.fp=b.fp∧a.f=b.f:=by obtain⟨a1,a2,a3,a4⟩:=a;obtain⟨b1,b2,b3,b4⟩:=b;simp
def to_iff{a b:TO}:a=b↔a.dev=b.dev∧a.ep=b.ep∧a.sq=b.sq∧a.cu=b.cu:=by obtain⟨a1,a2,a3,a4⟩:=a;obtain⟨b1,b2,b3,b4⟩:=b;simp
def WB{a b:IT}:a=b↔a.kd=b.kd∧a.c=b.c:=by obtain⟨a1,a2⟩:=a;obtain⟨b1,b2⟩:=b;simp
def Ox(d:Nat)(a b:PA):jX Tryz.prog (d+4) 57 (.agg a.c) (.agg b.c)=some (decide (a=b)):=by
 have hp:dU Tryz.prog 57=true:=by decide +kernel
 rw[lC (by rw[TN]) hp];simp only[cK,LK,LL,eJ,ko,if_true,ap,if_false,em,eo,ci,d6,et,ey,jQ (g9 24),dD,Hu,o6 V6];simp[WX,M8,av]
def R2(d:Nat)(a b:CA):jX Tryz.prog (d+4) 126 (.agg a.c) (.agg b.c)=some (decide (a=b)):=by
 have hp:dU Tryz.prog 126=true:=by decide +kernel
 rw[lC (by rw[TL]) hp];simp only[cK,LK,td3,LL,eJ,ko,if_true,ap,if_false,em,eo,ci,d6,et,ey,jQ (g9 24),dD,Hu,o6 V6,o6 Vy];simp[Wh,M8,av]
def Oy(d:Nat)(a b:TO):jX Tryz.prog (d+2) 103 (.agg a.c) (.agg b.c)=some (decide (a=b)):=by
 have hp:dU Tryz.prog 103=true:=by decide +kernel
 rw[lC (by rw[BW]) hp];simp only[cK,td3,eJ,ko,ap,if_false,em,eo,ci,d6,o6 Vy];simp[to_iff,av]
abbrev IT.k(x:IT):List MV:=.int .i64 x.kd::.int .i64 x.c.id::.int .i64 x.c.c9::.int .u32 (x.c.fp.toNat:Int)::fc x.c.f
def R4(d:Nat)(a b:IT):jX Tryz.prog (d+5) 164 (.agg a.k) (.agg b.k)=some (decide (a=b)):=by
 have hp:dU Tryz.prog 164=true:=by decide +kernel
 have hq:=R2 d a.c b.c;rw[lC (by rw[V4]) hp];simp only[cK,TL,td3,eJ,ko,if_true,ap,if_false,em,eo,ci,d6,et,ey,gx,jQ (g9 24),dD,hq,o6 Vy];simp[WB,av]
def Kg{t:TypeId}{xs ys:List MV}{b:Bool}(h:jX Tryz.prog 6 t (.agg xs) (.agg ys)=some b)(hp:dU Tryz.prog t=true):cX Tryz.prog t .neq (.agg xs) (.agg ys)=some (True,.bool (!b)):=by rw[A4,h,rA,Mc,hp];simp
def WE{t:TypeId}{xs ys:List MV}{b:Bool}(h:jX Tryz.prog 6 t (.agg xs) (.agg ys)=some b)(hp:dU Tryz.prog t=true):cX Tryz.prog t .eql (.agg xs) (.agg ys)=some (True,.bool b):=by rw[A4,h,rA,Mb,hp];simp
def SZ:dU Tryz.prog 57=true:=by decide +kernel
def S3:dU Tryz.prog 103=true:=by decide +kernel
def Vm:dU Tryz.prog 164=true:=by decide +kernel
def Dy(a b:PA):cX Tryz.prog 57 .neq (.agg a.c) (.agg b.c)=some (True,.bool (!decide (a=b))):=Kg (Ox 2 a b) SZ
def Dx(a b:TO):cX Tryz.prog 103 .eql (.agg a.c) (.agg b.c)=some (True,.bool (decide (a=b))):=WE (Oy 4 a b) S3
def RQ(a b:IT):cX Tryz.prog 164 .neq (.agg a.k) (.agg b.k)=some (True,.bool (!decide (a=b))):=Kg (R4 1 a b) Vm
def vZ{p:PA}{i:Nat}(h0:¬(p.mask.toNat=0∨511<p.mask.toNat))(h1:¬(65536≤p.fp.toNat∨p.fp.toNat≠0∧bit p.mask.toNat 8=false))(hi:i<8)(h:(fW (p.f.get i)&&(decide ((p.f.get i).kd=0) || bit p.mask.toNat i))=false):bL p=1:=by unfold bL;rw[if_neg h0,if_neg h1,if_neg];intro hb;have:=c8.1 hb i (de.2 hi);rw[h] at this;cases this
def tE{p:PA}(h0:¬(p.mask.toNat=0∨511<p.mask.toNat))(h1:¬(65536≤p.fp.toNat∨p.fp.toNat≠0∧bit p.mask.toNat 8=false))(h:∀i,i<8→(fW (p.f.get i)&&(decide ((p.f.get i).kd=0) || bit p.mask.toNat i))=true):bL p=0:=by unfold bL;rw[if_neg h0,if_neg h1,if_pos];exact c8.2 fun i hi=>h i (de.1 hi)
def X3(n:Nat):((n:Int)).fdiv (2 ^ min 16 32)=((n / 65536:Nat):Int):=by rw[show(2:Int) ^ min 16 32=65536 by decide,ca _ br];omega
def S4:dU Tryz.prog 54=true:=by decide +kernel
def Oo(a b:VA):cX Tryz.prog 54 .neq (.agg a.c) (.agg b.c)=some (True,.bool (!decide (a=b))):=Kg (MG 4 a b) S4
def Vt(m:UInt32)(i:Nat)(h:i<8):pD .u32 ((m.toNat:Int).fdiv (2 ^ min i 32)) 1=if bit m.toNat i=true then 1 else 0:=by rw[hZ oM,show(2:Int) ^ i=((2 ^ i:Nat):Int) by simp,ca _ (Int.natCast_nonneg _)];rw[show(m.toNat:Int) / ((2 ^ i:Nat):Int)=((m.toNat / 2 ^ i:Nat):Int) by simp];have hm:=m.toNat_lt;have e:pD .u32 ((m.toNat / 2 ^ i:Nat):Int) 1=_:=Gl (m.toNat / 2 ^ i) 1 (hX (Nat.div_le_self _ _) hm) br;rw[e,Nat.and_one_is_mod];unfold bit;rw[hI];have:=hP (m.toNat / 2 ^ i);rcases this with h|h<;>rw[h]<;>rfl
def j0(p:PA):aA Tryz.prog 141 [.agg p.c] ka (fun r _=>r=.int .i64 (bL p)):=by
 refine ls (mB 55 [.tmp 2] Tryz.func141 ?_);have hm:=wJ p.mask;have hl:=uC p.mask;have qy:=p.mask.toNat_lt;have bh:=p.fp.toNat_lt;have oz:=X3 p.fp.toNat;by_cases h0:p.mask.toNat=0∨511<p.mask.toNat
 ·have e:bL p=11:=by unfold bL;rw[if_pos h0]
  rw[e];repeat' first|(with_reducible first|refine up hm ?_|refine up hl ?_)|(refine wM ?_;(first|(have _:=ah)|(intro ah));intros)|(refine wY ?_ ?_<;>intro h)|refine fx @Tryz.f141.eq_1 @dD @dV ?_|fail
  all_goals exact lE
 ·by_cases h1:65536≤p.fp.toNat∨p.fp.toNat≠0∧bit p.mask.toNat 8=false
  ·have e:bL p=1:=by unfold bL;rw[if_neg h0,if_pos h1]
   rw[e];generalize bit p.mask.toNat 8=b8 at hl h1;cases b8;all_goals
    repeat' first|(with_reducible first|refine up hm ?_|refine up hl ?_)|(refine wM ?_;(first|(have _:=ah)|(intro ah));intros)|(refine wY ?_ ?_<;>intro h)|refine jf @Tryz.f141.eq_1 @dD @dV @oz ?_|fail
    all_goals first|exact⟨_,ba,rfl⟩|exact⟨_,ba⟩|(exfalso;simp only[reduceCtorEq,and_false,or_false,and_true] at h1;omega)
  ·have ny:=fun i=>vZ (i:=i) h0 h1;have sz:=tE h0 h1;have h1':p.fp.toNat<65536:=oM;have h1'':p.fp.toNat=0∨bit p.mask.toNat 8=true:=by
    cases hb:bit p.mask.toNat 8
    ·rw[hb] at h1;left;simp at h1;omega
    ·right;rfl
   clear h1;generalize bit p.mask.toNat 8=b8 at hl h1'';cases b8;all_goals
    repeat' first|(with_reducible first|refine up hm ?_|refine up hl ?_)|(refine wM ?_;(first|(have _:=ah)|(intro ah));intros)|(refine wY ?_ ?_<;>intro h)|refine wZ5 @Tryz.f141.eq_1 @dD @dV @jQ @oz ?_|fail
    all_goals try (exfalso;simp only[reduceCtorEq,or_false] at h1'';omega)
    all_goals
     refine aG (α:=Nat) (fun i=>⟨55,[(33,.int .i64 (i:Int)),(32,.agg (fc p.f)),(1,.ptr ah 0 0)],[]⟩) (fun _=>ka.set ah (.row 57 26 [p.c])) (fun i=>i≤8∧∀j,j<i→(fW (p.f.get j)&&(decide ((p.f.get j).kd=0) || bit p.mask.toNat j))=true) (fun i=>8-i) (.of (.less ?_ ba) ⟨0,rfl,rfl,hE _,fun j h=>absurd h (Nat.not_lt_zero _)⟩) ?_
     ·exact wW
     ·rintro i ⟨hi,hq⟩;by_cases h8:i<8
      ·have hc:=z8 (p.f.get i).kd (p.f.get i).n (p.f.get i).s;have ny:=ny i h8;have ug:=Vt p.mask i h8;have hv:cX Tryz.prog 54 .neq (.agg (p.f.get i).c) (.agg [.int .i64 0,.int .i64 0,.str ⟨#[]⟩])=some (True,.bool (!decide (p.f.get i=ir))):=Oo (p.f.get i) ir;have hz:fW (p.f.get i)=true→decide (p.f.get i=ir)=decide ((p.f.get i).kd=0):=fun cm=>by refine decide_eq_decide.mpr ⟨fun h=>by rw[h];rfl,fun h=>VI cm h⟩
       obtain⟨x,hx⟩:∃x,p.f.get i=x:=⟨_,rfl⟩
       have ay:=qT (f:=p.f) h8;rw[hx] at hc ny hv hz ay;obtain⟨bx,hbx⟩:∃b,bit p.mask.toNat i=b:=⟨_,rfl⟩
       rw[hbx] at ny ug;cases cm:fW x<;>(have hc:aA Tryz.prog 211 [.agg x.c] ka (fun r _=>r=.bool (fW x)):=hc)<;>rw[cm] at hc ny hz
       ·rw[ny (am _)];clear ny sz hq hz;repeat' first|(with_reducible first|refine up hc ?_)|(refine wM ?_;intros)|refine jf @dD @dV @jQ @ay ?_|fail
        all_goals exact lE
       ·rw[hz rfl] at hv;obtain⟨bk,qt⟩:∃b,decide (x.kd=0)=b:=⟨_,rfl⟩
        rw[qt] at hv ny;cases hgg:(bk || bx)
        ·rw[ny (by rw[hgg];rfl)];clear ny sz hq hz;simp only[Bool.or_eq_false_iff] at hgg;obtain⟨rfl,rfl⟩:=hgg;rw[if_neg ax] at ug;repeat' first|(with_reducible first|refine up hc ?_)|(refine wM ?_;intros)|refine xv @dD @dV @jQ @ay @hv @ug ?_|fail
         all_goals exact lE
        ·clear ny sz hz;have kx:∀j,j<i+1→(fW (p.f.get j)&&(decide ((p.f.get j).kd=0) || bit p.mask.toNat j))=true:=fun j hj=>by
          by_cases hji:j=i
          ·rw[hji,hx,cm,qt,hbx,hgg];rfl
          ·exact hq j oM
         clear hq;cases bk<;>cases bx
         ·simp at hgg
         all_goals
          simp only[if_true,ap,if_false] at ug;repeat' first|(with_reducible first|refine up hc ?_)|(refine wM ?_;intros)|refine xv @dD @dV @jQ @ay @hv @ug ?_|fail
          all_goals
           refine .of (.less ?_ (kf bt sS)) ⟨i+1,rfl,rfl,⟨oM,kx⟩,oM⟩;exact wW
      ·have:i=8:=oM;subst this;rw[sz hq];repeat' first|refine ed ?_|fail
       all_goals exact lE
def ni{σ:St}{l k:Nat}{o o':aY}(h1:σ l=some o)(h2:σ k=some o'):((ka.set l o).set k o').le σ:=kf (kf bt h1) h2
def rW{α:Type}{f:α→List MV}{l:List α}{ex:List (List MV)}:(l.map f++ex).take l.length=l.map f:=by rw[fd ax,d5 ax]
def tQ{α:Type}{f:α→List MV}{l:List α}{ex:List (List MV)}:(l.map f++ex).drop (l.length+1)=ex.drop 1:=by rw[List.drop_append,ea ax,d0];congr 1;simp
def Yr{α:Type}{f:α→List MV}{l:List α}{ex:List (List MV)}{σ:St}{q e:Nat}{t:TypeId}(h:σ q=some (.row t e (l.map f++ex))):View σ (.vec e q 0 l.length) (.aj e (l.map f) false):=by
 have:=View.vec (n:=l.length) (lo:=0) h ax
 rwa [ey,rW] at this
def zw{σ:St}{p:PG}{m:MV}(h:View σ m (.aj 28 (IT.ks p.items) false)):View σ (.agg (p.k m)) (.agg p.c) :=
 View.Wc ⟨.same _,.same _,.same _,.same _,.same _,.same _,.same _,.same _,.same _,.same _,h,trivial⟩ rfl
def jC.fc{σ:St}{f:F8}{a b:List MV}(h:jC σ a b):jC σ (fc f++a) (fc f++b):=jC.app (jC.same _) h
abbrev MS.c(m:MS):List MV:=m.k (.aj 5 (m.cmd.fl.map g8) false) (.aj 5 (m.rep.fl.map g8) false) (.aj 28 (IT.ks m.aq.items) false)
def MS.cell(m:MS):m.c.all MV.aP=true:=by simp only[MS.c,MS.k,gn,JW];rfl
structure Sm (m:MS):Prop where
 f:m.cmd.fl.length≤1000000
 g:m.rep.fl.length≤1000000
 i:m.aq.items.length≤1000000
abbrev eO(L:List Nat):List (List MV):=L.map fun(i:Nat)=>[.int .i64 (i:Int)]
def Pp(s:Nat)(hs:s<256)(l:Nat):Qj Tryz.prog 273 [.ptr l 0 0] (ka.set l (.row 23 1 [[.int .u32 (s:Int)]])) (eO (cE s)):=by
 refine Qj.gY 14 Tryz.func273 rfl rfl rfl rfl fun C hC jz=>?_;have zt:(eO (cE s)).length=(cE s).length:=by simp[eO]
 rw[zt];refine bO (sU (Jt (α:=Nat×Nat) (fun a=>⟨14,[(0,.fn (.yield C.l) [] []),(1,.ptr l 0 0)],[]⟩) (fun a=>ka.set l (.row 23 1 [[.int .u32 (a.1:Int)]])) (fun a=>some a.2)
   (fun a=>a.1<256∧cE a.1=(cE s).drop a.2∧a.2≤(cE s).length) (fun a=>(cE a.1).length) ?_ ?_))
 ·refine .of (.less ?_ ba) ⟨(s,0),rfl,rfl,rfl,hs,rfl,hE _⟩;simp(maxSteps:=4000000) (disch:=first|exact gd|fail) only[go_sem,simprocAttr,bE,aX]
 ·rintro⟨x,j⟩ ⟨hx,hj,xk⟩;simp only at hx hj xk ⊢;by_cases h0:x=0
  ·subst h0;rw[Nk] at hj;have hjj:(cE s).length≤j:=by refine aN fun h=>?_;have:=congrArg List.length hj;rw[List.length_drop] at this;simp at this;omega
   have hje:j=(cE s).length:=oM;refine j8 (nJ ?_);repeat' first|refine aw @Tryz.f273.eq_1 ?_|fail
   refine .inl ?_;rw[hje]
  ·have zk:=AA x hx h0;have hh:=GZ hx h0;have bh:j<(cE s).length:=by refine aN fun h=>?_;rw[ea oM] at hj;rw[hj] at zk;cases zk
   have hdrop:=dl bh;rw[←hj,zk] at hdrop;obtain⟨Zy,hd2⟩:=List.cons.inj hdrop;have kx:x &&& (x-1)<256:=hX i8 hx;have htz:=S5 x oM hx;have ha:pD .u32 (x:Int) ((x:Int)-1)=((x &&& (x-1):Nat):Int):=by
    have:=Gl x (x-1) oM oM
    rwa [show((x-1:Nat):Int)=(x:Int)-1 by omega] at this
   have hlen:(cE (x &&& (x-1))).length<(cE x).length:=by
    conv=>rhs;rw[zk]
    simp
   obtain⟨d,hde⟩:∃d,(cE x).headD 0=d:=⟨_,rfl⟩
   rw[hde] at htz hh Zy;obtain⟨y,hy⟩:∃y,x &&& (x-1)=y:=⟨_,rfl⟩
   rw[hy] at ha kx hd2 hlen;clear zk hdrop hde;refine j8 (nJ ?_);repeat' first|refine aw @Tryz.f273.eq_1 ?_|fail
   refine bO (j8 (sU (j8 (Qh (ops:=#[_,_,_,_,_]) [_,_,_] _ [_] rfl rfl rfl rfl rfl (x:=[.int .i64 (d:Int)]) (by
    rw[hC];rw[du,cv bh,←Zy];rfl) (fun m hm=>by simp at hm;subst hm;exact .flat (.int _ _)) jz ?_))))
   repeat' first|(with_reducible first|refine up htz ?_)|refine ed ?_|fail
   refine⟨bO (nJ ?_),bO (nJ ?_)⟩
   ·repeat' first|refine ed ?_|fail
    refine bO (nJ ?_);repeat' first|refine aw @ha ?_|fail
    refine .of (.less ?_ ba) ⟨(y,j+1),rfl,rfl,rfl,⟨kx,hd2,oM⟩,hlen⟩;simp(maxSteps:=4000000) (disch:=first|exact gd|fail) only[go_sem,simprocAttr,bE,aX]
   ·repeat' first|refine ed ?_|fail
    exact .inr trivial
def NY{L:List Nat}{j:Nat}(h:j<L.length):eO (L.take (j+1))=eO (L.take j)++[[.int .i64 ((L.getD j 0:Nat):Int)]]:=by rw[eO,dk h,fv,cU 0 h];rfl
def E8(s:Nat)(hs:s<256)(l:Nat):aA Tryz.prog 235 [.aK,.fn (.func 273) [] [.ptr l 0 0]] (ka.set l (.row 23 1 [[.int .u32 (s:Int)]])) (fun r _=>r=.aj 1 (eO (cE s)) false):=by
 refine lv (mB 13 [.tmp 4] Tryz.func235 ?_);repeat' first|(refine wM ?_;(first|(have _:=ah)|(intro ah));intros)|refine aw @Tryz.f235.eq_1 ?_|fail
 have d1:ah≠l:=bc;have sc:=xU s;refine bO (Ct (gf:=273) (xs:=eO (cE s)) rfl (σi:=ka.set l (.row 23 1 [[.int .u32 (s:Int)]])) (kf bt sS) (Pp s hs l) ?_ rfl rfl
  (fc:=⟨13,[(2,.ptr ah 0 0)],[]⟩) rfl (α:=Nat×List (List MV))
  (fun j a=>(ka.set ah (.row 75 1 [[.vec 1 a.1 0 j]])).set a.1 (.row 3 1 (eO ((cE s).take j)++a.2))) (fun j a=>a.1≠ah) ?_ ?_ ?_)
 ·intro x hx;obtain⟨y,_,rfl⟩:=gg.1 hx;rfl
 ·refine Gh.IW (b:=ah) (t:=75) (e:=1) (pre:=[]) (post:=[]) 3 1 ?_ fun q hq=>?_
  ·simp[St.minus,kb,ka,d1]
  ·have q1:q≠ah:=fun e=>by subst e;simp[St.minus,kb,ka,d1] at hq
   refine .of (.less ?_ (σ1:=(ka.set ah (.row 75 1 [[.vec 1 q 0 0]])).set q (.row 3 1 [])) (ni (by simp[kb,q1,jn q1]) (by simp[kb]))) ⟨rfl,(q,[]),rfl,q1⟩;simp(maxSteps:=4000000) (disch:=first|exact gd|fail) only[go_sem,simprocAttr,bE,aX]
 ·rintro j x ⟨q,ex⟩ hx q1;simp only at q1 ⊢;have xk:j<(cE s).length:=by have:=(cr.1 hx).1;simpa[eO] using this
  have hxe:x=[.int .i64 (((cE s).getD j 0:Nat):Int)]:=by rw[du,cv xk,←cU 0 xk] at hx;exact(j1 hx).symm
  subst hxe;have cc:=NY xk;obtain⟨d,hd⟩:∃d,(cE s).getD j 0=d:=⟨_,rfl⟩
  rw[hd] at cc ⊢;have hlj:(eO ((cE s).take j)).length=j:=by rw[df,d8];omega
  obtain⟨pre,mo⟩:∃pre,eO ((cE s).take j)=pre:=⟨_,rfl⟩
  rw[mo] at cc hlj ⊢;change il _ _ (FR.mk 13 [(7,.int .i64 (d:Int)),(2,.ptr ah 0 0)] []) _ _;have q2:=jn q1;have fi:(pre++ex).take j=pre:=by rw[←hlj,List.take_left'];rfl
  have gv:(pre++ex).drop (j+1)=ex.drop 1:=by rw[←List.drop_drop,←hlj,List.drop_left'];rfl
  refine cA ?_;repeat' first|refine ed ?_|fail
  refine bO (cA ?_);repeat' first|(refine wM ?_;(first|(have _:=ao)|(have _:=ak;intro ao)|(intro ak));intros)|(refine wY ?_ ?_<;>intro h)|refine bu @fi @gv ?_|fail
  ·have hex:ex=[]:=da oM;subst hex;clear h;refine .of (.less (l1:=[]) (fun p hp=>by cases hp) (σ1:=(ka.set ah (.row 75 1 [[.vec 1 ao 0 (j+1)]])).set ao (.row 3 1 (eO ((cE s).take (j+1))++[]))) (ni sS sS)) ⟨(ao,[]),rfl,bc⟩
  ·refine .of (.less (l1:=[]) (fun p hp=>by cases hp) (σ1:=(ka.set ah (.row 75 1 [[.vec 1 ao 0 (j+1)]])).set ao (.row 3 1 (eO ((cE s).take (j+1))++ex.drop 1))) (ni sS sS)) ⟨(ao,ex.drop 1),rfl,bc⟩
 ·rintro⟨q,ex⟩ q1;simp only at q1 ⊢;have q2:=jn q1;have hli:(eO (cE s)).length=(cE s).length:=df _;rw[hli,d7];show R _;repeat' first|refine ed ?_|fail
  exact Yr cj
def CB(s:Nat)(hs:s<256)(l:Nat):aA Tryz.prog 180 [.fn (.func 273) [] [.ptr l 0 0]] (ka.set l (.row 23 1 [[.int .u32 (s:Int)]])) (fun r _=>r=.aj 1 (eO (cE s)) false):=by
 refine(mB 5 [.tmp 2] Tryz.func180 ?_);have h:=E8 s hs l;repeat' first|refine aw @Tryz.f180.eq_1 ?_|fail
 refine bU h ba ?_;rintro v af rfl -;repeat' first|refine ed ?_|exact ll|fail
def wC(m:UInt32):aA Tryz.prog 156 [.int .u32 (m.toNat:Int)] ka (fun r _=>r=.aj 1 (eO (cE m.toNat)) false):=by
 refine(mB 7 [.tmp 2] Tryz.func156 ?_);have ha:pD .u32 (m.toNat:Int) 255=_:=Gl m.toNat 255 m.toNat_lt br;have bh:m.toNat &&& 255<256:=hX Nat.and_le_right br;have hb:=Nj m.toNat;obtain⟨s,hs⟩:∃s,m.toNat &&& 255=s:=⟨_,rfl⟩
 rw[hs] at ha bh hb;have he:aA Tryz.prog 227 [.int .u32 (s:Int)] ka (fun v af=>∃l,v=.fn (.func 273) [] [.ptr l 0 0]∧af=ka.set l (.row 23 1 [[.int .u32 (s:Int)]])):=by
  refine(mB 4 [.tmp 2] Tryz.func227 ?_);repeat' first|(refine wO ?_;intros)|refine aw @Tryz.f227.eq_1 ?_|fail
  exact⟨_,rfl,rfl⟩
 repeat' first|refine bu @Tryz.f156.eq_1 @ha ?_|fail
 refine hU he fun l hl=>?_;repeat' first|refine ed ?_|fail
 have h:=CB s bh l;refine bU h ba ?_;rintro v af rfl -;repeat' first|refine ed ?_|fail
 rw[hb]
def Sfx.get{bs:BL}{r:RD}(h:Sfx bs r){i:Nat}(hi:i<r.l.length):bs.getD (bs.length-r.l.length+i) 0=r.l.getD i 0:=by have:=h.drop;rw[←this,ct,ct,List.getElem?_drop,this]
class Few (bs:BL):Prop where
 h:bs.length≤1000000
def edW(w k:Int):Bool:=if w=1 then edG k else if w=2 then edI k else edP k
def yK(k w:Int)(h0:0≤k)(h7:k≤7)(hw:w=1∨w=2∨w=4):aA Tryz.prog 140 [.int .i64 k,.int .i64 w] ka (fun r _=>r=.bool (edW w k)):=by
 refine(mB 12 [.tmp 4] Tryz.func140 ?_);have hk:k=0∨k=1∨k=2∨k=3∨k=4∨k=5∨k=6∨k=7:=oM;rcases hk with rfl|rfl|rfl|rfl|rfl|rfl|rfl|rfl<;>rcases hw with rfl|rfl|rfl;all_goals
  repeat' first|refine aw @Tryz.f140.eq_1 ?_|fail
  try decide
def eH(e:ED):aA Tryz.prog 68 [.agg e.c] ka (fun r _=>r=.int .i64 (aQ e)):=by
 refine ls (mB 69 [.tmp 2] Tryz.func68 ?_);have hq:cX Tryz.prog 57 .neq (.agg (.int .u32 (e.p.mask.toNat:Int)::.int .u32 (e.p.fp.toNat:Int)::fc e.p.f)) (.agg (.int .u32 0::.int .u32 0::fc f80))=some (True,.bool (!decide (e.p=pa0))):=Dy e.p pa0;by_cases h:e.kd<1∨7<e.kd
 ·have e1:aQ e=1:=by unfold aQ;rw[if_pos h]
  rw[e1];repeat' first|(refine wO ?_;intros)|(refine wY ?_ ?_<;>intro h)|refine bu @Tryz.f68.eq_1 @ai ?_|fail
  all_goals first|exact⟨_,ba,rfl⟩|exact⟨_,ba⟩|skip
  all_goals (exfalso;omega)
 ·have hg:=yK e.kd 1 oM oM (.inl rfl);have hi:=yK e.kd 2 oM oM (.inr (.inl rfl));have hp:=yK e.kd 4 oM oM (.inr (.inr rfl));have hc:=j0 e.p;rw[show edW 1 e.kd=edG e.kd from rfl] at hg;rw[show edW 2 e.kd=edI e.kd from rfl] at hi;rw[show edW 4 e.kd=edP e.kd from rfl] at hp;obtain⟨res,iy⟩:∃x,aQ e=x:=⟨_,rfl⟩
  rw[iy];unfold aQ at iy;rw[if_neg h] at iy;obtain⟨bg,hbg⟩:∃b,edG e.kd=b:=⟨_,rfl⟩
  obtain⟨bi,rq⟩:∃b,edI e.kd=b:=⟨_,rfl⟩
  obtain⟨bp,hbp⟩:∃b,edP e.kd=b:=⟨_,rfl⟩
  obtain⟨qp,hqp⟩:∃b,decide (e.p=pa0)=b:=⟨_,rfl⟩
  have hqq:e.p=pa0↔qp=true:=by rw[←hqp];simp
  obtain⟨pe,iz⟩:∃x,bL e.p=x:=⟨_,rfl⟩
  rw[hbg] at hg iy;rw[rq] at hi iy;rw[hbp] at hp iy;rw[hqp] at hq;rw[iz] at hc iy;simp only[hqq,ne_eq,jT] at iy;clear hbg rq hbp hqp iz hqq;cases bg<;>cases bi<;>cases bp<;>cases qp;all_goals
   simp only[true_and,false_and,or_false,false_or,ap,Bool.true_eq_false,not_true_eq_false,not_false_eq_true,and_false,and_true,if_true,if_false,reduceCtorEq] at iy;repeat' first|(with_reducible first|refine up hg ?_|refine up hi ?_|refine up hp ?_|refine up hc ?_)|(refine wO ?_;intros)|(refine wY ?_ ?_<;>intro h)|refine fx @Tryz.f68.eq_1 @ai @hq ?_|fail
   all_goals first|refine⟨_,ba,?_⟩|refine⟨_,ba⟩|skip
   all_goals (subst iy)
   all_goals first|rfl|(rw[if_pos oM];done)|(rw[if_neg oM];done)|(exfalso;omega)|((repeat' split)<;>first|rfl|omega|(simp_all;done)|(simp_all;omega)|skip)
section
def VG{v:VA}(h:fW v=true):v.kd=0∨v.kd=1∨v.kd=2:=by
 unfold fW at h;split at h
 ·exact .inl ‹_›
 ·split at h
  ·exact .inr (.inl ‹_›)
  ·split at h
   ·exact .inr (.inr ‹_›)
   ·cases h
set_option maxHeartbeats 4000000 in
def Lm (x:ND):aA Tryz.prog 199 [.agg x.c] ka (fun r _=>r=.bool (gB x)):=by
 refine(mB 49 [.tmp 2] Tryz.func199 ?_);obtain⟨op,n,kd,vn,s⟩:=x;have hvc:=z8 kd vn s;cases hv:fW ⟨kd,vn,s⟩
 ·rw[hv] at hvc;have h0:(⟨kd,vn,s⟩:VA)≠ir:=fun e=>by rw[e] at hv;simp[fW,ir] at hv
  have hn:gB ⟨op,n,kd,vn,s⟩=false:=by simp[gB,h0,hv]
  rw[hn];repeat' first|(with_reducible refine aC hvc ?_)|(refine wM ?_;intro nl;intros)|(refine wY ?_ ?_<;>intro h)|refine aw @Tryz.f199.eq_1 ?_|exact ev @Tryz.f199.eq_1|fail
 ·rw[hv] at hvc;rcases VG hv with h|h|h
  ·simp only at h;subst h;have hz:(⟨0,vn,s⟩:VA)=ir:=by simpa[fW] using hv
   simp only[ir,VA.mk.injEq,true_and] at hz;obtain⟨rfl,rfl⟩:=hz;repeat' first|(with_reducible refine aC hvc ?_)|(refine wM ?_;intro nl;intros)|(refine wY ?_ ?_<;>intro h)|refine aw @Tryz.f199.eq_1 ?_|fail
   all_goals first
    |(simp[gB,ir,fW,pD,cf,cb,cd, *];done)
    |(simp[gB,ir,fW,pD,cf,cb,cd, *];omega)
    |(simp[gB,ir,fW,pD,cf,cb,cd, *];decide)
  ·simp only at h;subst h;have hz:(⟨1,vn,s⟩:VA)≠ir:=by simp[ir]
   repeat' first|(with_reducible refine aC hvc ?_)|(refine wM ?_;intro nl;intros)|(refine wY ?_ ?_<;>intro h)|refine aw @Tryz.f199.eq_1 ?_|fail
   all_goals first
    |(simp[gB,hz,hv,pD,cf,cb,cd, *];done)
    |(simp[gB,hz,hv,pD,cf,cb,cd, *];omega)
    |(simp[gB,hz,hv,pD,cf,cb,cd, *];decide)
  ·simp only at h;subst h;have hz:(⟨2,vn,s⟩:VA)≠ir:=by simp[ir]
   repeat' first|(with_reducible refine aC hvc ?_)|(refine wM ?_;intro nl;intros)|(refine wY ?_ ?_<;>intro h)|refine aw @Tryz.f199.eq_1 ?_|fail
   all_goals first
    |(simp[gB,hz,hv,pD,cf,cb,cd, *];done)
    |(simp[gB,hz,hv,pD,cf,cb,cd, *];omega)
    |(simp[gB,hz,hv,pD,cf,cb,cd, *];decide)
end
def T.depth:T→Nat
 |.leaf _=>1
 |.one _ a=>1+a.depth
 |.two _ a b=>1+max a.depth b.depth
def I8:List Nat→List Nat
 |[]=>[]
 |k::s=>shut ((k-1)::s)
def yR(s:List Nat):shut (0::s)=I8 s:=by
 cases s with
 |nil=>rw[shut];rfl
 |cons k s=>rw[shut];rfl
def yQ(n:Nat)(s:List Nat):shut ((n+1)::s)=(n+1)::s:=by rw[shut]
theorem Ak:∀{t:T},t.ok→∀(d:Nat) (s:List Nat) (l:List ND),dp d s (t.fl++l)=dp (max d (s.length+t.depth)) (I8 s) l
 |.leaf x,h,d,s,l=>by
  simp only[kk] at h;rw[kg,cx,d0,dp,h,yR];rfl
 |.one x a,h,d,s,l=>by
  rw[kg,cx,dp,h.1,yQ,Ak h.2,I8,show 0+1-1=0 from rfl,yR]
  congr 1
  simp only[ci,T.depth];omega
 |.two x a b,h,d,s,l=>by
  rw[kg,cx,dp,h.1,yQ,eb,Ak h.2.1,I8,show 1+1-1=0+1 from rfl,yQ,Ak h.2.2,I8,show 0+1-1=0 from rfl,yR]
  congr 1
  simp only[ci,T.depth];omega
def JS{t:T}(h:t.ok)(he:jK t.fl 0=(t.fl.length:Int)):jM t.fl=t.depth:=by
 have:=Ak h 0 [] [];rw[fo] at this;rw[jM,if_neg,this]
 ·simp[dp]
 ·rintro(h1|h1)
  ·have:=t.Es;rw[h1] at this;simp at this
  ·exact h1 he
abbrev jZ(L:List Nat):List (List MV):=L.map fun(i:Nat)=>[.int .i64 (i:Int)]
def ML{s:List Nat}{k:Nat}{ex:List (List MV)}:(jZ ((k::s).reverse)++ex).getD s.length []=[.int .i64 (k:Int)]:=by simp[jZ,List.getD]
def Vd{s:List Nat}{k j:Nat}{ex:List (List MV)}:(jZ ((k::s).reverse)++ex).set s.length [.int .i64 (j:Int)]=jZ ((j::s).reverse)++ex:=by simp[jZ]
def SB{s:List Nat}{k:Nat}{ex:List (List MV)}:jZ s.reverse++([.int .i64 (k:Int)]::ex)=jZ ((k::s).reverse)++ex:=by simp[jZ]
theorem Ty{s:List Nat}:shut (0::s)=shut (match s with|[]=>[]|k::r=>(k-1)::r):=by
 cases s with
 |nil=>rw[shut];simp[shut]
 |cons k r=>rw[shut]
def Ik(l:List ND)(hl:l.length≤1000000)(tt:Bool):aA Tryz.prog 200 [.aj 5 (l.map g8) tt] ka (fun r _=>r=.int .i64 (jM l:Int)):=by
 refine ls (mB 64 [.tmp 2] Tryz.func200 ?_);have dy:=DT l hl tt 0;by_cases h:l=[]∨jK l 0≠l.length
 ·have e:jM l=0:=by unfold jM;rw[if_pos h]
  rw[e];rcases h with rfl|h
  ·repeat' first|(with_reducible first|refine up dy ?_)|refine aw @Tryz.f200.eq_1 ?_|fail
   all_goals exact lE
  ·repeat' first|(with_reducible first|refine up dy ?_)|(refine wY ?_ ?_<;>intro h)|refine aw @Tryz.f200.eq_1 ?_|fail
   all_goals exact lE
 ·have e:jM l=dp 0 [] l:=by unfold jM;rw[if_neg h]
  rw[e];have h2:jK l 0=l.length:=a6.1 fun h3=>h (.inr h3);have h0:0<l.length:=by
   cases l with
   |nil=>exact absurd (.inl rfl) h
   |cons x l=>simp
  rw[h2] at dy;clear e h;repeat' first|(with_reducible first|refine up dy ?_)|refine aw @Tryz.f200.eq_1 ?_|fail
  refine aG (α:=Nat×Nat×List Nat×Nat×List (List MV)) (fun a=>⟨64,[(19,.int .i64 (a.1:Int)),(18,.int .i64 (l.length:Int)),(17,.aj 5 (l.map g8) tt),(4,.int .i64 (a.2.1:Int)),(3,.vec 1 a.2.2.2.1 0 a.2.2.1.length)],[]⟩)
   (fun a=>ka.set a.2.2.2.1 (.row 3 1 (jZ a.2.2.1.reverse++a.2.2.2.2))) (fun a=>a.1≤l.length∧dp 0 [] l=dp a.2.1 a.2.2.1 (l.drop a.1)∧a.2.1≤1+a.1∧a.2.2.1.length≤a.1∧∀x,x∈a.2.2.1→1≤x∧x≤2) (fun a=>l.length-a.1) ?_ ?_
  ·refine Gh.yN 3 1 (fun q=>[(19,.int .i64 0),(18,.int .i64 (l.length:Int)),(17,.aj 5 (l.map g8) tt),(4,.int .i64 0),(3,.vec 1 q 0 0)]) (fun k=>by(repeat' (refine And.intro ?_ ?_))<;>first|exact trivial|exact .inl rfl|exact .inr ⟨rfl,.inl rfl⟩|exact .inr ⟨rfl,.inr rfl⟩) fun q hq=>?_;exact .done ⟨(0,0,[],q,[]),rfl,rfl,hE _,rfl,hE _,g9 _,fun x hx=>by cases hx⟩
  ·rintro⟨i,d,s,q,ex⟩ ⟨hi,hq,hd,iq,hs⟩;simp only at hi hq hd iq hs ⊢;by_cases bh:i<l.length
   ·rw[NF jd bh,dp] at hq;obtain⟨x,hx⟩:∃x,l.getD i jd=x:=⟨_,rfl⟩
    rw[hx] at hq;have hp:=jA x.op;have hpc:=lI x.op;obtain⟨p,iz⟩:∃p,parts x.op=p:=⟨_,rfl⟩
    rw[iz] at hq hp hpc;have fi:(jZ s.reverse++ex).take s.length=jZ s.reverse:=by have:=rW (f:=fun(i:Nat)=>[MV.int .i64 (i:Int)]) (l:=s.reverse) (ex:=ex);rwa [gc] at this
    have gv:(jZ s.reverse++ex).drop (s.length+1)=ex.drop 1:=by have:=tQ (f:=fun(i:Nat)=>[MV.int .i64 (i:Int)]) (l:=s.reverse) (ex:=ex);rwa [gc] at this
    repeat' (first|(with_reducible first|refine up hp ?_)|(with_reducible first|(refine wT ?_;(first|((fail_if_success (have:=ah));refine wN fun ah ec=>?_)|((fail_if_success (have:=ak));refine wN fun ak ec=>?_)|((fail_if_success (have:=ao));refine wN fun ao ec=>?_)|refine wN fun _ ec=>?_);revert ec;(repeat refine wS fun _ _=>?_);intro ec)|refine wE ?_|(refine wK ?_ ?_<;>intro h)|(refine wB ?_ ?_<;>intro h<;>simp only[h]))|simp(maxSteps:=4000000) (disch:=first|decide|assumption|omega|(simp only[wL];omega)) only[go_sem,simprocAttr,cN jd,hx,fi,gv,gc])
    case' refine_1 =>
     have hex:ex=[]:=da oM;subst hex;clear h;have erow:jZ s.reverse++[]++[[MV.int .i64 (p:Int)]]=jZ ((p::s).reverse)++[]:=by simp[jZ]
     obtain⟨Z1,hex1⟩:∃e,([]:List (List MV))=e:=⟨_,rfl⟩
    case' refine_2 =>
     have erow:jZ s.reverse++[[MV.int .i64 (p:Int)]]++ex.drop 1=jZ ((p::s).reverse)++ex.drop 1:=by simp[jZ]
     obtain⟨Z1,hex1⟩:∃e,ex.drop 1=e:=⟨_,rfl⟩
    all_goals
     rw[erow];obtain⟨D,hD⟩:∃D,max d (s.length+1)=D:=⟨_,rfl⟩
     rw[hD] at hq;refine aG (α:=List Nat×List (List MV)) (fun b=>⟨64,[(19,.int .i64 (i:Int)),(18,.int .i64 (l.length:Int)),(17,.aj 5 (l.map g8) tt),(4,.int .i64 (D:Int)),(3,.vec 1 ao 0 b.1.length)],[]⟩)
      (fun b=>ka.set ao (.row 3 1 (jZ b.1.reverse++b.2))) (fun b=>shut b.1=shut (p::s)∧b.1.length≤i+1∧(∀x,x∈b.1.tail→1≤x)∧∀x,x∈b.1→x≤2) (fun b=>b.1.length) (.of (.less ?_ (kf bt cj)) ⟨(p::s,_),rfl,rfl,rfl,by simp only[ci];omega,fun x hx=>(hs x hx).1,fun x hx=>?_⟩) ?_
     ·simp(maxSteps:=4000000) (disch:=first|decide|assumption|omega|(simp only[wL];omega)) only[go_sem,simprocAttr,bE,aX,ci];all_goals (split<;>omega)
     ·rcases dn.1 hx with rfl|hx
      ·omega
      ·exact(hs x hx).2
     ·rintro⟨b,rj⟩ ⟨hb,sc,Z2,me⟩;simp only at hb sc Z2 me ⊢;cases b with
      |nil =>
       rw[shut] at hb;rw[←hb] at hq;repeat' first|refine ed ?_|fail
       refine .of (.less ?_ ba) ⟨(i+1,D,[],ao,rj),rfl,rfl,⟨by simp only;omega,hq,by simp only;omega,hE _,fun x hx=>by cases hx⟩,by simp only;omega⟩;exact wW
      |cons k r =>
       have yu:=me k ax;have nq:=ML (s:=r) (k:=k) (ex:=rj);have hWl:(jZ (k::r).reverse).length=r.length+1:=by simp[jZ]
       simp only[ci] at sc ⊢;cases k with
       |zero =>
        rw[Ty] at hb;cases r with
        |nil =>
         have zp:jZ [0].reverse++rj=jZ []++([.int .i64 0]::rj):=rfl;obtain⟨W,hW⟩:∃W,jZ [0].reverse++rj=W:=⟨_,rfl⟩
         have hl1:W.length=1+rj.length:=by rw[←hW];simp[jZ];omega
         rw[hW] at nq zp ⊢;simp only[d6] at nq ⊢;repeat' first|refine aw @nq ?_|fail
         refine .of (.less ?_ ba) ⟨([],[.int .i64 0]::rj),rfl,by rw[zp];rfl,⟨hb,hE _,(fun x hx=>by cases hx),(fun x hx=>by cases hx)⟩,ax⟩;exact wW
        |cons k2 r =>
         have h12:=Z2 k2 ax;have h22:=me k2 ax;have zp:jZ (0::k2::r).reverse++rj=jZ (k2::r).reverse++([.int .i64 0]::rj):=SB.symm;have hge2:=ML (s:=r) (k:=k2) (ex:=[.int .i64 0]::rj);have dg:=Vd (s:=r) (k:=k2) (j:=k2-1) (ex:=[.int .i64 0]::rj);rw[←zp] at hge2 dg;rw[show((k2-1:Nat):Int)=(k2:Int)-1 by omega] at dg;simp only[ci] at nq hWl sc ⊢;obtain⟨W,hW⟩:∃W,jZ (0::k2::r).reverse++rj=W:=⟨_,rfl⟩
         have hl1:W.length=r.length+1+1+rj.length:=by rw[←hW,cy,hWl]
         rw[hW] at nq hge2 dg ⊢;obtain⟨n,hn⟩:∃n,r.length=n:=⟨_,rfl⟩
         rw[hn] at nq hge2 dg hl1 sc ⊢;have hto1:(((n+1+1:Nat):Int)-1).toNat=n+1:=oM;have hto2:(((n+1:Nat):Int)-1).toNat=n:=oM;repeat' first|refine wZ5 @nq @hge2 @dg @hto1 @hto2 ?_|fail
         refine .of (.less ?_ ba) ⟨((k2-1)::r,[.int .i64 0]::rj),rfl,rfl,⟨hb,by simp only[ci];omega,fun x hx=>Z2 x (by simp at hx ⊢;exact .inr hx),fun x hx=>?_⟩,by simp only[ci];omega⟩
         ·simp only[ci,hn];exact wW
         ·rcases dn.1 hx with rfl|hx
          ·omega
          ·exact me x (by simp[hx])
       |succ k =>
        rw[shut] at hb;rw[←hb] at hq;obtain⟨W,hW⟩:∃W,jZ ((k+1)::r).reverse++rj=W:=⟨_,rfl⟩
        have hl1:W.length=r.length+1+rj.length:=by rw[←hW,cy,hWl]
        rw[hW] at nq ⊢;obtain⟨n,hn⟩:∃n,r.length=n:=⟨_,rfl⟩
        rw[hn] at nq hl1 sc ⊢;have hkc:((k+1:Nat):Int)=(k:Int)+1:=oM;rw[hkc] at nq;have hto2:(((n+1:Nat):Int)-1).toNat=n:=oM;repeat' first|refine bu @nq @hto2 ?_|fail
        refine .of (.less ?_ ba) ⟨(i+1,D,(k+1)::r,ao,rj),rfl,by rw[←hW],⟨by simp only;omega,hq,by simp only;omega,by simp only[ci];omega,fun x hx=>?_⟩,by simp only;omega⟩
        ·simp only[ci,hn];exact wW
        ·refine⟨?_,me x hx⟩;rcases dn.1 hx with rfl|hx
         ·omega
         ·exact Z2 x hx
   ·have:i=l.length:=oM;subst this;rw[gm,dp] at hq;rw[hq];repeat' first|refine ed ?_|fail
    all_goals exact lE
def CL(x:ND):aA Tryz.prog 198 [.agg x.c] ka (fun r _=>r=.bool (!gB x)):=by
 refine ls (mB 6 [.tmp 2] Tryz.func198 ?_);have h:=Lm x;repeat' first|(with_reducible first|refine up h ?_)|(refine wO ?_;intros)|refine aw @Tryz.f198.eq_1 ?_|fail
 all_goals exact lE
def Fq(l:List ND)(hl:l.length≤1000000)(t:Bool):aA Tryz.prog 133 [.aj 5 (l.map g8) t] ka (fun r _=>r=.int .i64 (bR l)):=by
 refine(mB 25 [.tmp 2] Tryz.func133 ?_);have hc:=Ce (fun x=>!gB x) 198 l hl t (fun x _=>CL x);have hd:=Ik l hl t;have he:=DT l hl t 0;have ef:(l.any fun x=>!gB x)=!l.all gB:=by rw[Bool.eq_iff_iff];simp
 rw[ef] at hc;have hlen:l.length=0↔l=[]:=List.length_eq_zero_iff;obtain⟨al,uq⟩:∃b,l.all gB=b:=⟨_,rfl⟩
 obtain⟨dd,hdd⟩:∃d,jM l=d:=⟨_,rfl⟩
 obtain⟨ee,uv⟩:∃d,jK l 0=d:=⟨_,rfl⟩
 have e:bR l=if 31<l.length then 4 else if l.length=0∨ee≠l.length∨al=false then 1 else if 8<dd then 5 else 0:=by unfold bR;rw[uq,hdd,uv];simp only[hlen]
 rw[e];rw[uq] at hc;rw[hdd] at hd;rw[uv] at he;clear e hlen ef uq hdd uv;by_cases h31:31<l.length
 ·rw[if_pos h31];repeat' first|refine aw @Tryz.f133.eq_1 ?_|exact ev @Tryz.f133.eq_1|fail
 ·rw[if_neg h31];by_cases h0:l.length=0
  ·rw[if_pos (.inl h0)];repeat' first|(with_reducible first|refine up he ?_)|refine aw @Tryz.f133.eq_1 ?_|exact ev @Tryz.f133.eq_1|fail
  ·by_cases h1:ee=l.length
   ·subst h1;cases al
    ·rw[if_pos (.inr (.inr rfl))];repeat' first|(with_reducible first|refine up he ?_|refine up hc ?_)|refine aw @Tryz.f133.eq_1 ?_|exact ev @Tryz.f133.eq_1|fail
    ·rw[if_neg (by simp[h0])];by_cases h8:8<dd
     ·rw[if_pos h8];repeat' first|(with_reducible first|refine up he ?_|refine up hc ?_|refine up hd ?_)|refine aw @Tryz.f133.eq_1 ?_|exact ev @Tryz.f133.eq_1|fail
     ·rw[if_neg h8];repeat' first|(with_reducible first|refine up he ?_|refine up hc ?_|refine up hd ?_)|refine aw @Tryz.f133.eq_1 ?_|exact ev @Tryz.f133.eq_1|fail
   ·rw[if_pos (.inr (.inl h1))];repeat' first|(with_reducible first|refine up he ?_)|refine aw @Tryz.f133.eq_1 ?_|exact ev @Tryz.f133.eq_1|fail
def nd(op:Int):ND:=⟨op,0,ir⟩
def T.root:T→ND
 |.leaf x=>x
 |.one x _=>x
 |.two x _ _=>x
def T.kids:T→List T
 |.leaf _=>[]
 |.one _ a=>[a]
 |.two _ a b=>[a,b]
def T.Ml(t:T):t.fl=t.root::(t.kids.map kg).flatten:=by cases t<;>simp[kg,T.kids,T.root]
def T.MM{t:T}(h:t.ok):t.kids.length=parts t.root.op∧∀k,k∈t.kids→k.ok:=by
 cases t with
 |leaf x=>simp only[kk] at h;simp[T.kids,T.root,h]
 |one x a=>simp only[kk] at h;simp[T.kids,T.root,h.1,h.2]
 |two x a b=>simp only[kk] at h;simp[T.kids,T.root,h.1,h.2.1,h.2.2]
theorem Er:∀(t u:T) (r s:List ND),t.ok→u.ok→t.fl++r=u.fl++s→t=u∧r=s
 |.leaf x,.leaf y,r,s,ht,hu,h=>by simp only[kg,cx,d0,g6] at h;exact⟨by rw[h.1],h.2⟩
 |.leaf x,.one y b,r,s,ht,hu,h=>by simp only[kg,cx,g6] at h;simp only[kk] at ht hu;rw[h.1] at ht;omega
 |.leaf x,.two y b c,r,s,ht,hu,h=>by simp only[kg,cx,g6] at h;simp only[kk] at ht hu;rw[h.1] at ht;omega
 |.one x a,.leaf y,r,s,ht,hu,h=>by simp only[kg,cx,g6] at h;simp only[kk] at ht hu;rw[h.1] at ht;omega
 |.one x a,.one y b,r,s,ht,hu,h=>by
  simp only[kg,cx,g6] at h;obtain⟨e1,e2⟩:=Er a b r s ht.2 hu.2 h.2;exact⟨by rw[h.1,e1],e2⟩
 |.one x a,.two y b c,r,s,ht,hu,h=>by simp only[kg,cx,g6] at h;simp only[kk] at ht hu;rw[h.1] at ht;omega
 |.two x a a',.leaf y,r,s,ht,hu,h=>by simp only[kg,cx,g6] at h;simp only[kk] at ht hu;rw[h.1] at ht;omega
 |.two x a a',.one y b,r,s,ht,hu,h=>by simp only[kg,cx,g6] at h;simp only[kk] at ht hu;rw[h.1] at ht;omega
 |.two x a a',.two y b b',r,s,ht,hu,h=>by simp only[kg,cx,g6,eb] at h;obtain⟨e1,e2⟩:=Er a b _ _ ht.2.1 hu.2.1 h.2;obtain⟨e3,e4⟩:=Er a' b' r s ht.2.2 hu.2.2 e2;exact⟨by rw[h.1,e1,e3],e4⟩
def XN{t u:T}(ht:t.ok)(hu:u.ok)(h:t.fl=u.fl):t=u:=(Er t u [] [] ht hu (by rw[h])).1
abbrev Xp(a:Int):Prop:=-9223372036854775808≤a∧a≤9223372036854775807
section
set_option maxHeartbeats 4000000 in
def gC (p:PA):aA Tryz.prog 164 [.agg p.c] ka (fun r _=>r=.int .i64 (bL p)):=by
 refine ls (mB 52 [.tmp 2] Tryz.func164 ?_);have hm:=wX p.mask;have hl:=uI p.mask;have qy:=p.mask.toNat_lt;have bh:=p.fp.toNat_lt;by_cases h0:p.mask.toNat=0∨511<p.mask.toNat
 ·have e:bL p=11:=by unfold bL;rw[if_pos h0]
  rw[e];repeat' first|(with_reducible first|refine up hm ?_|refine up hl ?_)|(refine wM ?_;(first|(have _:=ah)|(intro ah));intros)|(refine wY ?_ ?_<;>intro h)|refine fx @Tryz.f164.eq_1 @dD @dV ?_|fail
  all_goals exact lE
 ·by_cases h1:65536≤p.fp.toNat∨p.fp.toNat≠0∧bit p.mask.toNat 8=false
  ·have e:bL p=1:=by unfold bL;rw[if_neg h0,if_pos h1]
   rw[e];generalize bit p.mask.toNat 8=b8 at hl h1;cases b8;all_goals
    repeat' first|(with_reducible first|refine up hm ?_|refine up hl ?_)|(refine wM ?_;(first|(have _:=ah)|(intro ah));intros)|(refine wY ?_ ?_<;>intro h)|refine fx @Tryz.f164.eq_1 @dD @dV ?_|fail
    all_goals first|exact⟨_,ba,rfl⟩|exact⟨_,ba⟩|(exfalso;simp only[reduceCtorEq,and_false,or_false,and_true] at h1;omega)
  ·have ny:=fun i=>vZ (i:=i) h0 h1;have sz:=tE h0 h1;have h1':p.fp.toNat<65536:=oM;have h1'':p.fp.toNat=0∨bit p.mask.toNat 8=true:=by
    cases hb:bit p.mask.toNat 8
    ·rw[hb] at h1;left;simp at h1;omega
    ·right;rfl
   clear h1;generalize bit p.mask.toNat 8=b8 at hl h1'';cases b8;all_goals
    repeat' first|(with_reducible first|refine up hm ?_|refine up hl ?_)|(refine wM ?_;(first|(have _:=ah)|(intro ah));intros)|(refine wY ?_ ?_<;>intro h)|refine fx @Tryz.f164.eq_1 @dD @dV ?_|fail
    all_goals try (exfalso;simp only[reduceCtorEq,or_false] at h1'';omega)
    all_goals
     refine aG (α:=Nat) (fun i=>⟨52,[(3,.int .i64 (i:Int)),(1,.ptr ah 0 0)],[]⟩) (fun _=>ka.set ah (.row 57 26 [p.c])) (fun i=>i≤8∧∀j,j<i→(fW (p.f.get j)&&(decide ((p.f.get j).kd=0) || bit p.mask.toNat j))=true) (fun i=>8-i) (.of (.less ?_ ba) ⟨0,rfl,rfl,hE _,fun j h=>absurd h (Nat.not_lt_zero _)⟩) ?_
     ·exact wW
     ·rintro i ⟨hi,hq⟩;by_cases h8:i<8
      ·have hc:=xF (p.f.get i).kd (p.f.get i).n (p.f.get i).s;have hb:=sN p.mask i oM;have ny:=ny i h8;cases cm:(fW (p.f.get i)&&(decide ((p.f.get i).kd=0) || bit p.mask.toNat i))
       ·rw[ny cm];clear ny sz hq;have eta:(⟨(p.f.get i).kd,(p.f.get i).n,(p.f.get i).s⟩:VA)=p.f.get i:=rfl;rw[eta] at hc;cases hv:fW (p.f.get i)<;>rw[hv] at hc cm
        ·repeat' first|(with_reducible first|refine up hc ?_|refine up hb ?_)|refine xv @dD @dV @qR @qV @qT @vH ?_|fail
         all_goals exact lE
        ·cases hbb:bit p.mask.toNat i<;>rw[hbb] at hb cm
         ·repeat' first|(with_reducible first|refine up hc ?_|refine up hb ?_)|(refine wY ?_ ?_<;>intro h)|refine xv @dD @dV @qR @qV @qT @vH ?_|fail
          all_goals first|exact⟨_,ba,rfl⟩|exact⟨_,ba⟩|(exfalso;simp_all)
         ·simp at cm
       ·clear ny sz;have eta:(⟨(p.f.get i).kd,(p.f.get i).n,(p.f.get i).s⟩:VA)=p.f.get i:=rfl;rw[eta] at hc;have hok':=cm;simp only[ag,aI,decide_eq_true_eq] at cm;rw[cm.1] at hc;have hok2:=cm.2;cases hbb:bit p.mask.toNat i<;>rw[hbb] at hb hok2;all_goals
         repeat' first|(with_reducible first|refine up hc ?_|refine up hb ?_)|(refine wY ?_ ?_<;>intro h)|refine xv @dD @dV @qR @qV @qT @vH ?_|fail
         all_goals try (exfalso;simp_all;done)
         all_goals
          refine .of (.less ?_ ba) ⟨i+1,rfl,rfl,⟨oM,fun j hj=>?_⟩,oM⟩
          ·exact wW
          ·by_cases hji:j=i
           ·rw[hji];exact hok'
           ·exact hq j oM
      ·have:i=8:=oM;subst this;rw[sz hq];repeat' first|refine ed ?_|fail
       first|exact⟨_,ba,rfl⟩|exact⟨_,ba⟩
end
def wrap32{n:Nat}(h:n<4294967296):ce.wrap (n:Int)=(n:Int):=by simp only[cf,cd,cb];simp;omega
def PM(n:Nat)(h:n<32):aA Tryz.prog 234 [.int .i64 (n:Int)] ka (fun r _=>r=.int .u32 ((2 ^ n:Nat):Int)):=by
 refine(mB 19 [.tmp 2] Tryz.func234 ?_);repeat' first|refine aw @Tryz.f234.eq_1 ?_|fail
 refine aG (α:=Nat) (fun i=>⟨19,[(4,.int .i64 (i:Int)),(3,.int .u32 ((2 ^ i:Nat):Int)),(0,.int .i64 (n:Int))],[]⟩) (fun _=>ka) (fun i=>i≤n) (fun i=>n-i) (.of (.less ?_ ba) ⟨0,rfl,rfl,hE _⟩) ?_
 ·exact wW
 ·intro i hi;have hi:i≤n:=hi;by_cases bh:i<n
  ·have h2:2 ^ (i+1)<4294967296:=hO (a:=2) (n:=32) br oM;have e:ce.wrap (((2 ^ i:Nat):Int)*2)=((2 ^ (i+1):Nat):Int):=by rw[show((2 ^ i:Nat):Int)*2=((2 ^ (i+1):Nat):Int) by rw[Nat.pow_succ];simp];exact wrap32 h2
   obtain⟨p,hp⟩:∃p,2 ^ i=p:=⟨_,rfl⟩
   rw[hp] at e ⊢;repeat' first|refine aw @e ?_|fail
   refine .of (.less (l1:=[(4,.int .i64 ((i+1:Nat):Int)),(3,.int .u32 ((2 ^ (i+1):Nat):Int)),(0,.int .i64 (n:Int))]) ?_ ba) ⟨i+1,rfl,rfl,oM,oM⟩;obtain⟨q,hq⟩:∃q,2 ^ (i+1)=q:=⟨_,rfl⟩
   rw[hq] at e ⊢;simp(maxSteps:=4000000) (disch:=first|exact gd|fail) only[go_sem,simprocAttr,bE,aX,e];all_goals rfl
  ·have:i=n:=oM;subst this;obtain⟨p,hp⟩:∃p,2 ^ i=p:=⟨_,rfl⟩
   rw[hp];repeat' first|refine ed ?_|exact ll|fail
def Ly(s n:Nat)(h:n<32)(hs:s<2 ^ n):aA Tryz.prog 176 [.int .u32 (s:Int),.int .i64 (n:Int)] ka (fun r _=>r=.int .u32 ((s ||| 2 ^ n:Nat):Int)):=by
 refine(mB 13 [.tmp 4] Tryz.func176 ?_);have h2:2 ^ n≤2147483648:=hM (n:=2) (i:=n) (j:=31) br oM;have h1:=sQ s (n:Int) oM;rw[GY h,show bit s n=false from hY hs] at h1;have h3:=PM n h;have e:s ||| 2 ^ n=s+2 ^ n:=by have:=Nat.two_pow_add_eq_or_of_lt hs 1;rw[jj] at this;rw[Nat.or_comm,←this,Nat.add_comm]
 rw[e];have ew:ce.wrap ((s:Int)+((2 ^ n:Nat):Int))=((s+2 ^ n:Nat):Int):=by rw[show(s:Int)+((2 ^ n:Nat):Int)=((s+2 ^ n:Nat):Int) by simp];exact wrap32 oM
 obtain⟨p,hp⟩:∃p,2 ^ n=p:=⟨_,rfl⟩
 rw[hp] at h3 ew ⊢;repeat' first|(with_reducible first|refine up h1 ?_|refine up h3 ?_)|refine bu @Tryz.f176.eq_1 @ew ?_|exact fk @Tryz.f176.eq_1 @ew|fail
 all_goals first|rfl|(refine aJ mixed dK (kn [(234,[.int .i64 (n:Int)],⟨[],fun v=>v=.int .u32 (p:Int),none⟩)]) ?_;repeat' first|(with_reducible refine aF yD h3 ?_)|refine aw @ew ?_|fail;rfl)
section
def IQ(k:Int):aA Tryz.prog 161 [.int .i64 k] ka (fun r _=>r=.bool (edG k)):=by
 refine(mB 17 [.tmp 2] Tryz.func161 ?_);repeat' first|(refine wY ?_ ?_<;>intro h)|refine aw @Tryz.f161.eq_1 ?_|fail
 all_goals (try simp only[a6] at *)
 all_goals (first|(simp[edG, *];done)|(simp only[edG];(repeat' split)<;>(first|(simp_all;done)|omega|(exfalso;omega)))|skip)
def Tf(k:Int):aA Tryz.prog 162 [.int .i64 k] ka (fun r _=>r=.bool (edI k)):=by
 refine(mB 17 [.tmp 2] Tryz.func162 ?_);repeat' first|(refine wY ?_ ?_<;>intro h)|refine aw @Tryz.f162.eq_1 ?_|fail
 all_goals (try simp only[a6] at *)
 all_goals (first|(simp[edI, *];done)|(simp only[edI];(repeat' split)<;>(first|(simp_all;done)|omega|(exfalso;omega)))|skip)
def CR(k:Int):aA Tryz.prog 163 [.int .i64 k] ka (fun r _=>r=.bool (edP k)):=by
 refine(mB 9 [.tmp 2] Tryz.func163 ?_);repeat' first|(refine wY ?_ ?_<;>intro h)|refine aw @Tryz.f163.eq_1 ?_|fail
 all_goals (try simp only[a6] at *)
 all_goals (first|(simp[edP, *];done)|(simp only[edP];(repeat' split)<;>(first|(simp_all;done)|omega|(exfalso;omega)))|skip)
set_option maxHeartbeats 4000000 in
def cC (e:ED):aA Tryz.prog 81 [.agg e.c] ka (fun r _=>r=.int .i64 (aQ e)):=by
 refine ls (mB 74 [.tmp 2] Tryz.func81 ?_);have hg:=IQ e.kd;have hi:=Tf e.kd;have hp:=CR e.kd;have hc:=gC e.p;have hq:cX Tryz.prog 57 .neq (.agg (.int .u32 (e.p.mask.toNat:Int)::.int .u32 (e.p.fp.toNat:Int)::fc e.p.f)) (.agg (.int .u32 0::.int .u32 0::fc f80))=some (True,.bool (!decide (e.p=pa0))):=Dy e.p pa0;by_cases hk:e.kd<1∨7<e.kd
 ·have e1:aQ e=1:=by unfold aQ;rw[if_pos hk]
  rw[e1];repeat' first|(refine wO ?_;intros)|(refine wY ?_ ?_<;>intro h)|refine bu @Tryz.f81.eq_1 @ai ?_|fail
  all_goals exact lE
 ·have ZD:1≤e.kd:=oM;have yu:e.kd≤7:=oM;obtain⟨bg,hbg⟩:∃b,edG e.kd=b:=⟨_,rfl⟩
  obtain⟨bi,rq⟩:∃b,edI e.kd=b:=⟨_,rfl⟩
  obtain⟨bp,hbp⟩:∃b,edP e.kd=b:=⟨_,rfl⟩
  obtain⟨bz,hbz⟩:∃b,decide (e.p=pa0)=b:=⟨_,rfl⟩
  have e0:Unit→aQ e=if bg=false∧e.gr≠0∨bi=false∧e.id≠0∨bp=false∧bz=false then 1 else if e.gr<0∨16≤e.gr∨bi=true∧(e.id<1∨1073741824≤e.id) then 1 else if bp=true then bL e.p else 0:=by intro _;unfold aQ jT;rw[if_neg hk,hbg,rq,hbp,←hbz];simp only[decide_eq_false_iff_not,ne_eq]
  rw[hbg] at hg;rw[rq] at hi;rw[hbp] at hp;rw[hbz] at hq;obtain⟨res,iy⟩:∃r,aQ e=r:=⟨_,rfl⟩
  rw[iy] at e0 ⊢;clear hbg rq hbp hbz iy hk;cases bg<;>cases bi<;>cases bp<;>cases bz;all_goals
   repeat' first|(with_reducible first|refine up hg ?_|refine up hi ?_|refine up hp ?_|refine up hc ?_)|(refine wO ?_;intros)|(refine wY ?_ ?_<;>intro h)|refine fx @Tryz.f81.eq_1 @ai @hq ?_|fail
   all_goals (first|refine⟨_,ba,?_⟩|skip)
   all_goals rw[e0 ()]
   all_goals (try simp only[a6] at *)
   all_goals (first|(simp[*];done)|(simp only[];(repeat' split)<;>(first|(simp_all;done)|omega|(exfalso;omega)))|skip)
end
def xC(t:TO):aA Tryz.prog 125 [.agg t.c] ka (fun r _=>r=.bool (lM t)):=by
 refine ls (mB 41 [.tmp 2] Tryz.func125 ?_);repeat' first|(refine wO ?_;intros)|(refine wY ?_ ?_<;>intro h)|refine aw @Tryz.f125.eq_1 ?_|exact ev @Tryz.f125.eq_1|fail
 all_goals first|refine⟨_,ba,?_⟩|skip
 all_goals (try simp only[a6] at *)
 all_goals (first|(simp[lM,yc,jT, *];done)|(simp only[lM,yc,jT];(repeat' split)<;>(first|(simp_all;done)|omega|(exfalso;omega)))|skip)
def DP{op:Int}(h:parts op=2):op=11∨op=12:=by
 unfold parts at h;split at h
 ·omega
 ·split at h
  ·assumption
  ·omega
def DO{op:Int}(h:parts op=1):op=10:=by
 unfold parts at h;split at h
 ·assumption
 ·split at h<;>omega
def Good(t:T):Prop:=t.ok∧∀x,x∈t.fl→gB x=true
def AU{x:ND}{a:T}:Good (.one x a)↔parts x.op=1∧gB x=true∧Good a:=by simp only[Good,kk,kg,dn];exact⟨fun h=>⟨h.1.1,h.2 x (.inl rfl),h.1.2,fun y hy=>h.2 y (.inr hy)⟩,fun h=>⟨⟨h.1,h.2.2.1⟩,fun y hy=>hy.elim (fun e=>e ▸ h.2.1) (h.2.2.2 y)⟩⟩
def AV{x:ND}{a b:T}:Good (.two x a b)↔parts x.op=2∧gB x=true∧Good a∧Good b:=by
 simp only[Good,kk,kg,dn,List.mem_append];exact⟨fun h=>⟨h.1.1,h.2 x (.inl rfl),⟨h.1.2.1,fun y hy=>h.2 y (.inr (.inl hy))⟩,h.1.2.2,fun y hy=>h.2 y (.inr (.inr hy))⟩,
  fun h=>⟨⟨h.1,h.2.2.1.1,h.2.2.2.1⟩,fun y hy=>hy.elim (fun e=>e ▸ h.2.1) fun hy=>hy.elim (h.2.2.1.2 y) (h.2.2.2.2 y)⟩⟩
section
def Nh{α:Type}(D ex Y:List α)(m y:Nat)(h1:D.length=m)(h2:Y.length=y):gq m (D++ex)++Y++List.drop (m+y) (D++ex)=(D++Y)++ex.drop y:=by subst h1 h2;rw[List.take_left,List.drop_append,ea oM,d0,ja]
abbrev T.kl(t:T):List (List MV):=t.kids.map fun k=>[.aj 5 (k.fl.map g8) false]
def UD{t:T}(h:t.ok){i:Nat}(hi:i<t.kids.length) :
  jK t.fl ((1+((t.kids.take i).map kg).flatten.length:Nat):Int)=((1+((t.kids.take (i+1)).map kg).flatten.length:Nat):Int) ∧
  (t.fl.take (1+((t.kids.take (i+1)).map kg).flatten.length)).drop (1+((t.kids.take i).map kg).flatten.length)=(t.kids.getD i (.leaf jd)).fl ∧
  1+((t.kids.take i).map kg).flatten.length≤1+((t.kids.take (i+1)).map kg).flatten.length∧1+((t.kids.take (i+1)).map kg).flatten.length≤t.fl.length∧(t.kids.getD i (.leaf jd)).fl.length≤t.fl.length:=by
 obtain⟨h1,h2⟩:=T.MM h;obtain⟨k,hk⟩:∃k,t.kids.getD i (.leaf jd)=k:=⟨_,rfl⟩
 have hg:t.kids[i]=k:=by rw[←hk,cU _ hi]
 have hko:=h2 k (by rw[←hk];exact mR _ hi);have e1:((t.kids.take (i+1)).map kg).flatten=((t.kids.take i).map kg).flatten++k.fl:=by rw[dk hi,hg];simp
 have e2:t.fl=(t.root::((t.kids.take i).map kg).flatten)++(k.fl++((t.kids.drop (i+1)).map kg).flatten):=by
  rw[T.Ml]
  conv=>lhs;rw[←gt i t.kids,dl hi,hg]
  simp
 have e3:(t.root::((t.kids.take i).map kg).flatten).length=1+((t.kids.take i).map kg).flatten.length:=by rw[ci];omega
 rw[e1,cy,hk];generalize hA:t.root::((t.kids.take i).map kg).flatten=A at e2 e3;have e4:=Ma hko A ((t.kids.drop (i+1)).map kg).flatten;rw[←e2,e3] at e4;refine⟨by rw[e4,Nat.add_assoc],?_,oM,by rw[e2];simp only[cy];omega,by rw[e2];simp only[cy];omega⟩;rw[←Nat.add_assoc,←e3,e2,←eb,←cy,List.take_left,List.drop_left]
set_option maxHeartbeats 2000000 in
def pX (t:T) (h:t.ok) (hl:t.fl.length≤1000) (tt:Bool):aA Tryz.prog 131 [.aj 5 (t.fl.map g8) tt,.int .i64 0] ka (fun r _=>r=.aj 1 t.kl false):=by
 refine lv (mB 44 [.tmp 4] Tryz.func131 ?_);have vh:=t.Es;have hf0:(t.fl.getD 0 jd)=t.root:=by rw[T.Ml];rfl
 obtain⟨h1,h2⟩:=T.MM h;have me:t.kids.length≤2:=by have:=lI t.root.op;omega
 repeat' (first|(with_reducible first|(refine wT ?_;(first|((fail_if_success (have:=ah));refine wN fun ah ec=>?_)|((fail_if_success (have:=ak));refine wN fun ak ec=>?_)|((fail_if_success (have:=ao));refine wN fun ao ec=>?_)|((fail_if_success (have:=az));refine wN fun az ec=>?_)|((fail_if_success (have:=bj));refine wN fun bj ec=>?_)|refine wN fun _ ec=>?_);revert ec;(repeat refine wS fun _ _=>?_);intro ec)|refine wD dK ?_|refine wI (fun h=>?_) fun h=>?_|refine wF (fun h=>?_) fun h=>?_|refine wG (fun h=>?_) fun h=>?_|refine wH (fun h=>?_) fun h=>?_|((first|refine cY (fun h=>?_) fun h=>?_|refine cL (fun h=>?_) fun h=>?_)<;>simp only[h]))|simp(maxSteps:=4000000) (disch:=first|exact gd|fail) only[go_sem,simprocAttr,Tryz.f131,cN jd])
 refine aG (α:=Nat×Nat×List (List MV)) (fun a=>⟨44,[(7,.int .i64 (a.1:Int)),(6,.int .i64 ((1+((t.kids.take a.1).map kg).flatten.length:Nat):Int)),(5,.vec 1 a.2.1 0 a.1),(0,.aj 5 (t.fl.map g8) tt),(1,.int .i64 0)],[]⟩)
  (fun a=>ka.set a.2.1 (.row 22 1 ((t.kl.take a.1)++a.2.2))) (fun a=>a.1≤t.kids.length) (fun a=>t.kids.length-a.1) ?_ ?_
 ·refine .of (.less ?_ ba) ⟨(0,ah,[]),rfl,rfl,hE _⟩;simp(maxSteps:=4000000) (disch:=first|exact gd|fail) only[go_sem,simprocAttr,bE,aX];all_goals first|exact⟨rfl,rfl⟩|rfl
 ·rintro⟨i,q,ex⟩ hi;simp only at hi ⊢;by_cases bh:i<t.kids.length
  ·obtain⟨k1,k2,k3,k4,k5⟩:=UD h bh;have hm:min i t.kids.length=i:=hZ hi;have e1:fm (fun k=>[MV.aj 5 (fm g8 k.fl) false]) (t.kids.take (i+1))=fm (fun k=>[MV.aj 5 (fm g8 k.fl) false]) (t.kids.take i)++[[.aj 5 ((t.kids.getD i (.leaf jd)).fl.map g8) false]]:=by rw[dk bh,fv,←cU (.leaf jd) bh];rfl
   repeat' (first|(with_reducible refine aC (rQ _) ?_)|(with_reducible refine aC (sP _ oM _ _) ?_)|(with_reducible first|(refine wT ?_;(first|((fail_if_success (have:=ah));refine wN fun ah ec=>?_)|((fail_if_success (have:=ak));refine wN fun ak ec=>?_)|((fail_if_success (have:=ao));refine wN fun ao ec=>?_)|((fail_if_success (have:=az));refine wN fun az ec=>?_)|((fail_if_success (have:=bj));refine wN fun bj ec=>?_)|refine wN fun _ ec=>?_);revert ec;(repeat refine wS fun _ _=>?_);intro ec)|refine wD dK ?_|refine wI (fun h=>?_) fun h=>?_|refine wF (fun h=>?_) fun h=>?_|refine wG (fun h=>?_) fun h=>?_|refine wH (fun h=>?_) fun h=>?_|((first|refine cY (fun h=>?_) fun h=>?_|refine cL (fun h=>?_) fun h=>?_)<;>simp only[h]))|simp(maxSteps:=4000000) (disch:=first|exact gd|fail) only[go_sem,simprocAttr,cN jd,hf0,k1,k2,hm])
   ·have hex:ex=[]:=da oM;subst hex;refine .of (aR.nest (t:=22) (t1:=121) (e1:=5) (ys:=(t.kids.getD i (.leaf jd)).fl.map g8) (n1:=(t.kids.getD i (.leaf jd)).fl.length) (q:=bj) (m:=ao) (pre:=fm (fun k=>[MV.aj 5 (fm g8 k.fl) false]) (t.kids.take i)) (post:=[]) ka (by first|(simp(maxSteps:=4000000) (disch:=first|exact gd|fail) only[go_sem,simprocAttr];done)|(simp(maxSteps:=4000000) (disch:=first|exact gd|fail) only[go_sem,simprocAttr];rfl)) (cj.trans ?_) (by rw[df]) bt rfl bc ?_) ⟨(i+1,bj,[]),rfl,?_,by simp only;omega,by simp only;omega⟩
    ·rw[fo]
    ·exact wW
    ·simp only;rw[e1,fo]
   ·refine .of (aR.nest (t:=22) (t1:=121) (e1:=5) (ys:=(t.kids.getD i (.leaf jd)).fl.map g8) (n1:=(t.kids.getD i (.leaf jd)).fl.length) (q:=bj) (m:=ao) (pre:=fm (fun k=>[MV.aj 5 (fm g8 k.fl) false]) (t.kids.take i)) (post:=ex.drop 1) ka (by first|(simp(maxSteps:=4000000) (disch:=first|exact gd|fail) only[go_sem,simprocAttr];done)|(simp(maxSteps:=4000000) (disch:=first|exact gd|fail) only[go_sem,simprocAttr];rfl)) (cj.trans ?_) (by rw[df]) bt rfl bc ?_) ⟨(i+1,bj,ex.drop 1),rfl,?_,by simp only;omega,by simp only;omega⟩
    ·rw[Nh (fm (fun k=>[MV.aj 5 (fm g8 (kg k)) false]) (t.kids.take i)) ex [[MV.vec 5 ao 0 (t.kids.getD i (T.leaf jd)).fl.length]] i 1 (by rw[df,d8];omega) rfl,eb];rfl
    ·exact wW
    ·simp only;rw[e1,eb];rfl
  ·have:i=t.kids.length:=oM;subst this;repeat' (first|(with_reducible refine aC (rQ _) ?_)|(with_reducible first|(refine wT ?_;(first|((fail_if_success (have:=ah));refine wN fun ah ec=>?_)|((fail_if_success (have:=ak));refine wN fun ak ec=>?_)|((fail_if_success (have:=ao));refine wN fun ao ec=>?_)|((fail_if_success (have:=az));refine wN fun az ec=>?_)|((fail_if_success (have:=bj));refine wN fun bj ec=>?_)|refine wN fun _ ec=>?_);revert ec;(repeat refine wS fun _ _=>?_);intro ec)|refine wD dK ?_|refine wI (fun h=>?_) fun h=>?_|refine wF (fun h=>?_) fun h=>?_|refine wG (fun h=>?_) fun h=>?_|refine wH (fun h=>?_) fun h=>?_|((first|refine cY (fun h=>?_) fun h=>?_|refine cL (fun h=>?_) fun h=>?_)<;>simp only[h]))|simp(maxSteps:=4000000) (disch:=first|exact gd|fail) only[go_sem,simprocAttr,cN jd,hf0,d7])
   have hv:=View.vec (σ:=ka.set q (.row 22 1 (t.kl++ex))) (l:=q) (lo:=0) (n:=t.kids.length) cj (by rw[cy,df];omega);have e:((t.kl++ex).drop 0).take t.kids.length=t.kl:=by rw[ey,fd (by rw[df];omega),d5 (by rw[df];omega)]
   rw[e] at hv;exact hv
end
def lZ(l:List T):Nat:=l.foldl (fun d t=>max d t.depth) 0
def T.JR(t:T):t.depth=lZ t.kids+1:=by cases t<;>simp only[T.depth,T.kids,lZ,List.foldl_nil,List.foldl_cons]<;>omega
def Eh(l:List T)(t:T):lZ (l++[t])=max (lZ l) t.depth:=by simp[lZ]
theorem T.qO:∀t:T,t.depth≤t.fl.length
 |.leaf _=>by simp[T.depth,kg]
 |.one _ a=>by have:=T.qO a;simp only[T.depth,kg,ci];omega
 |.two _ a b=>by have:=T.qO a;have:=T.qO b;simp only[T.depth,kg,ci,cy];omega
def NZ{t k:T}(h:k∈t.kids):k.fl.length<t.fl.length:=by
 cases t<;>simp only[T.kids,dn,gk,or_false] at h
 ·subst h;simp only[kg,ci];omega
 ·rcases h with rfl|rfl<;>simp only[kg,ci,cy]<;>omega
def WD{t k:T}(ht:t.ok)(h:k∈t.kids):k.ok:=by
 cases t<;>simp only[T.kids,dn,gk,or_false] at h
 ·subst h;exact ht.2
 ·rcases h with rfl|rfl
  ·exact ht.2.1
  ·exact ht.2.2
def IG:∀(n:Nat) (t:T),t.ok→jK t.fl 0=(t.fl.length:Int)→t.fl.length≤n→n≤1000→∀tt:Bool,aA Tryz.prog 59 [.aj 5 (t.fl.map g8) tt] ka (fun r _=>r=.int .i64 (t.depth:Int)):=by
 intro n
 induction n with
 |zero=>intro t h _ hl;have:=t.Es;omega
 |succ n ih =>
  intro t h he hl hn tt;refine(mB 33 [.tmp 2] Tryz.func59 ?_);have dy:=sP t.fl oM tt 0;rw[he] at dy;have hk:=pX t h oM tt;have vh:=t.Es;have mz:t.kids.length≤2:=by cases t<;>simp[T.kids]
  repeat' first|(with_reducible first|refine up dy ?_|refine up hk ?_)|refine aw @Tryz.f59.eq_1 ?_|fail
  refine aG (α:=Nat) (fun i=>⟨33,[(5,.int .i64 (i:Int)),(4,.int .i64 (lZ (t.kids.take i):Int)),(3,.aj 1 t.kl false)],[]⟩) (fun _=>ka) (fun i=>i≤t.kids.length) (fun i=>t.kids.length-i) (.of (.less ?_ ba) ⟨0,rfl,rfl,hE _⟩) ?_
  ·exact wW
  ·intro i hi;have hi:i≤t.kids.length:=hi;by_cases bh:i<t.kids.length
   ·have hm:=mR (T.leaf jd) bh;have hko:=WD h hm;have hks:=NZ hm;have hke:jK (t.kids.getD i (.leaf jd)).fl 0=((t.kids.getD i (.leaf jd)).fl.length:Int):=by have:=Ma hko [] [];simpa using this
    have hd:=ih _ hko hke oM oM false;have hdl:=T.qO (t.kids.getD i (.leaf jd));have cc:lZ (t.kids.take (i+1))=max (lZ (t.kids.take i)) (t.kids.getD i (.leaf jd)).depth:=by rw[dk bh,←cU (.leaf jd) bh,Eh]
    repeat' (first|(with_reducible first|refine up hd ?_)|(with_reducible first|(refine wN fun _ ec=>?_;revert ec;(repeat refine wS fun _ _=>?_);intro ec)|refine wE ?_|(refine wK ?_ ?_<;>intro h)|(refine wB ?_ ?_<;>intro h<;>simp only[h]))|simp(maxSteps:=4000000) (disch:=first|decide|assumption|omega|(simp only[wL];omega)) only[go_sem,simprocAttr,cN (T.leaf jd)])
    refine .of (.less (l1:=[(5,.int .i64 ((i+1:Nat):Int)),(4,.int .i64 (lZ (t.kids.take (i+1)):Int)),(3,.aj 1 t.kl false)]) ?_ ba) ⟨i+1,rfl,rfl,oM,oM⟩;rw[cc];simp(maxSteps:=4000000) (disch:=first|decide|assumption|omega|(simp only[wL];omega)) only[go_sem,simprocAttr,bE,aX];all_goals omega
   ·have:i=t.kids.length:=oM;subst this;have hdk:=t.JR;have hdl:=t.qO;rw[d7];repeat' first|refine ed ?_|fail
    all_goals (first|rfl|(congr 1;omega)|omega)
def IF(l:List ND)(hl:l.length≤1000)(tt:Bool):aA Tryz.prog 59 [.aj 5 (l.map g8) tt] ka (fun r _=>r=.int .i64 (jM l:Int)):=by
 by_cases h:l=[]∨jK l 0≠l.length
 ·have e:jM l=0:=by unfold jM;rw[if_pos h]
  rw[e];refine(mB 33 [.tmp 2] Tryz.func59 ?_);have dy:=sP l oM tt 0;rcases h with rfl|h
  ·repeat' first|(with_reducible first|refine up dy ?_)|refine aw @Tryz.f59.eq_1 ?_|exact ev @Tryz.f59.eq_1|fail
   all_goals rfl
  ·repeat' first|(with_reducible first|refine up dy ?_)|(refine wY ?_ ?_<;>intro h)|refine aw @Tryz.f59.eq_1 ?_|exact ev @Tryz.f59.eq_1|fail
   all_goals rfl
 ·have h2:jK l 0=l.length:=a6.1 fun h3=>h (.inr h3);obtain⟨t,ht,rfl⟩:=parse h2;rw[JS ht h2];exact IG _ t ht h2 hl (g9 _) tt
def FH(l:List ND)(tt:Bool):aA Tryz.prog 11 [.aj 5 (l.map g8) tt] ka (fun r _=>r=.int .i64 (bR l)):=by
 refine(mB 32 [.tmp 2] Tryz.func11 ?_);unfold bR;by_cases h31:31<l.length
 ·rw[if_pos h31];repeat' first|refine aw @Tryz.f11.eq_1 ?_|exact ev @Tryz.f11.eq_1|fail
  all_goals rfl
 ·rw[if_neg h31];have dy:=sP l oM tt 0;have hd:=IF l oM tt;repeat' first|refine aw @Tryz.f11.eq_1 ?_|fail
  refine aG (α:=Nat) (fun i=>⟨32,[(3,.int .i64 (i:Int)),(0,.aj 5 (l.map g8) tt)],[]⟩) (fun _=>ka) (fun i=>i≤l.length∧(l.take i).all gB=true) (fun i=>l.length-i) (.of (.less ?_ ba) ⟨0,rfl,rfl,hE _,rfl⟩) ?_
  ·exact wW
  ·rintro i ⟨hi,hq⟩;by_cases bh:i<l.length
   ·have hn:=Lw (l.getD i jd);cases cm:gB (l.getD i jd)<;>rw[cm] at hn
    ·repeat' (first|(with_reducible first|refine up hn ?_)|(with_reducible first|(refine wN fun _ ec=>?_;revert ec;(repeat refine wS fun _ _=>?_);intro ec)|refine wE ?_|(refine wK ?_ ?_<;>intro h)|(refine wB ?_ ?_<;>intro h<;>simp only[h]))|simp(maxSteps:=4000000) (disch:=first|decide|assumption|omega|(simp only[wL];omega)) only[go_sem,simprocAttr,cN jd])
     rw[if_pos];refine .inr (.inr ?_);cases hb:l.all gB
     ·rfl
     ·have:=c8.1 hb _ (mR jd bh);rw[cm] at this;cases this
    ·repeat' (first|(with_reducible first|refine up hn ?_)|(with_reducible first|(refine wN fun _ ec=>?_;revert ec;(repeat refine wS fun _ _=>?_);intro ec)|refine wE ?_|(refine wK ?_ ?_<;>intro h)|(refine wB ?_ ?_<;>intro h<;>simp only[h]))|simp(maxSteps:=4000000) (disch:=first|decide|assumption|omega|(simp only[wL];omega)) only[go_sem,simprocAttr,cN jd])
     refine .of (.less ?_ ba) ⟨i+1,rfl,rfl,⟨oM,by rw[B6 bh,hq,←cU jd bh,cm];rfl⟩,oM⟩;exact wW
   ·have:i=l.length:=oM;subst this;rw[d7] at hq;rw[hq];by_cases he:l=[]∨jK l 0≠l.length
    ·rw[if_pos (by rcases he with h|h;exact .inl h;exact .inr (.inl h))];rcases he with rfl|he
     ·repeat' first|(with_reducible first|refine up dy ?_)|refine ed ?_|exact ll|fail
      all_goals rfl
     ·repeat' first|(with_reducible first|refine up dy ?_)|(refine wY ?_ ?_<;>intro h)|refine ed ?_|exact ll|fail
      all_goals rfl
    ·have he1:0<l.length:=by
      cases l with
      |nil=>exact absurd (.inl rfl) he
      |cons x l=>simp
     have he2:jK l 0=l.length:=a6.1 fun h3=>he (.inr h3);rw[he2] at dy;rw[if_neg (by rintro(h|h|h);exact he (.inl h);exact he (.inr h);cases h)];repeat' first|(with_reducible first|refine up dy ?_|refine up hd ?_)|(refine wY ?_ ?_<;>intro h)|refine ed ?_|exact ll|fail
     all_goals (try simp only[a6] at *)
     all_goals (first|(simp[*];done)|(simp only[];(repeat' split)<;>(first|(simp_all;done)|omega|(exfalso;omega)))|skip)
     all_goals (first|(rw[if_pos oM];done)|(rw[if_neg oM];done))
section
open Go.Shelf
def kG:Go.Shelf.Ren:=⟨fun|144=>296|143=>319|219=>331|217=>333|225=>334|224=>335|267=>336|266=>337|314=>338|n=>n,fun|9=>9|4=>4|3=>3|5=>5|46=>263|146=>351|51=>23|n=>n,fun|1=>1|n=>n⟩
def vR:Go.Proofs.LaysM.n144 Tryz.prog kG:={
  mixed:=by kernel_rfl
  f143:=Tryz.func319.trans (congrArg some (by kernel_rfl))
  f144:=Tryz.func296.trans (congrArg some (by kernel_rfl))
  f217:=Tryz.func333.trans (congrArg some (by kernel_rfl))
  f219:=Tryz.func331.trans (congrArg some (by kernel_rfl))
  f224:=Tryz.func335.trans (congrArg some (by kernel_rfl))
  f225:=Tryz.func334.trans (congrArg some (by kernel_rfl))
  f266:=Tryz.func337.trans (congrArg some (by kernel_rfl))
  f267:=Tryz.func336.trans (congrArg some (by kernel_rfl))
  f314:=Tryz.func338.trans (congrArg some (by kernel_rfl))
  t3:=Tryz.underlying3
  a3:=Tryz.isAgg3
  z3:=Tryz.sizeOf3
  v3:=Tryz.zeroValue3
  t4:=Tryz.underlying4
  a4:=Tryz.isAgg4
  z4:=Tryz.sizeOf4
  v4:=Tryz.zeroValue4
  t5:=Tryz.underlying5
  a5:=Tryz.isAgg5
  z5:=Tryz.sizeOf5
  v5:=Tryz.zeroValue5
  t9:=Tryz.underlying9
  a9:=Tryz.isAgg9
  z9:=Tryz.sizeOf9
  v9:=Tryz.zeroValue9
  t46:=Tryz.underlying263
  a46:=Tryz.isAgg263
  z46:=Tryz.sizeOf263
  v46:=Tryz.zeroValue263
  t51:=Tryz.underlying23
  a51:=Tryz.isAgg23
  z51:=Tryz.sizeOf23
  v51:=Tryz.zeroValue23
  t146:=Tryz.underlying351
  a146:=Tryz.isAgg351
  z146:=Tryz.sizeOf351
  v146:=Tryz.zeroValue351
  g1:=by kernel_rfl
  i3:=by kernel_rfl
  i4:=by kernel_rfl
  i5:=by kernel_rfl
  i9:=by kernel_rfl
  i46:=by kernel_rfl
  i51:=by kernel_rfl
  i146:=by kernel_rfl
  m1:=by kernel_rfl
  s1_3:=fun w h=>Go.Proofs.cell_of_shapedOpen_int (zero:=#[.int .i64 0]) (t:=3) h (of_decide_eq_true (by kernel_rfl)) (by kernel_rfl) rfl (by kernel_rfl) (by kernel_rfl) Tryz.underlying3 }
end
section
open Go.Shelf
def Ch:∀W:World,W.ShapedOpen Tryz.prog→∀g,g∈GI→∃m,W.cell? ⟨g,0,none⟩=some (.int .i64 m):=fun W h g hg=>by simp only[GI,dn,gk,or_false] at hg;subst hg;exact vR.s1_3 W h
def yW(s sub:ByteArray)(hs:s.size≤1000000):aA Tryz.prog 296 [.str s,.str sub] ka fun r _=>r=.bool (Lib.contains s.data.toList sub.data.toList):=by
 refine⟨⟨_,Tryz.func296,rfl,rfl⟩,fun Φ w vs hi hr=>?_⟩;obtain⟨m,hm⟩:=hi.fresh.2.2 (kG.g 1) (by simp[GI,kG]);have e0:=(hr.2 0 _ rfl).gS;have e1:=(hr.2 1 _ rfl).gS;have hv:vs=#[.string s,.string sub]:=by
  have h1:=hr.1;apply lc
  ·simpa using h1
  ·intro i h3 h4
   match i,h3 with
   |0,h3=>simpa[kt,la h3] using e0
   |1,h3=>simpa[kt,la h3] using e1
   |i+2,_=>simp at h4;omega
 subst hv;refine(Any.strings_Contains { vR with } s sub m w oM (hi.snap _ _ hm)).mono ?_;rintro e' w' ⟨rfl,rfl⟩;exact⟨_,_,_,Φ,rfl,.bool _,hi,.refl _ _ _,rfl⟩
end
structure DE where
 id:Int
 c9:Int
 sq:Int
 deriving DecidableEq
abbrev DE.c(d:DE):List MV:=[.int .i64 d.id,.int .i64 d.c9,.int .i64 d.sq]
abbrev aU(n:Int):List MV:=[.int .i64 n]
structure GR where
 no:Int
 mem:List Int
 deriving DecidableEq
abbrev GR.c(g:GR):List MV:=[.int .i64 g.no,.aj 1 (g.mem.map aU) false]
structure BK where
 sq:Int
 nx:Int
 ae:List CA
 dead:List DE
 gr:List GR
 deriving DecidableEq
abbrev BK.c(b:BK):List MV:=[.int .i64 b.sq,.int .i64 b.nx,.aj 27 (b.ae.map CA.c) false,.aj 3 (b.dead.map DE.c) false,.aj 2 (b.gr.map GR.c) false]
structure TU where
 sq:Int
 id:Int
 old:Int
 new:Int
 zc:CA
 deriving DecidableEq
abbrev TU.c(t:TU):List MV:=.int .i64 t.sq::.int .i64 t.id::.int .i64 t.old::.int .i64 t.new::t.zc.c
structure SU where
 dev:Int
 ep:Int
 fl:List ND
 mask:UInt32
 floor:Int
 mem:List Int
 log:List TU
 deriving DecidableEq
abbrev SU.c(s:SU):List MV:=[.int .i64 s.dev,.int .i64 s.ep,.aj 5 (s.fl.map g8) false,.int .u32 (s.mask.toNat:Int),.int .i64 s.floor,.aj 1 (s.mem.map aU) false,.aj 31 (s.log.map TU.c) false]
structure RW where
 last:Int
 ep:Int
 ans:RE
 deriving DecidableEq
abbrev RW.c(r:RW):List MV:=.int .i64 r.last::.int .i64 r.ep::r.ans.c
structure SA where
 bk:BK
 subs:List SU
 rows:List RW
 deriving DecidableEq
abbrev SA.c(s:SA):List MV:=s.bk.c++[.aj 7 (s.subs.map SU.c) false,.aj 12 (s.rows.map RW.c) false]
def oK(g:FuncId)(v:MV):b9:=fun g' _=>if g'=g then some ⟨[],fun w=>w=v,none⟩ else none
def dG{g:FuncId}{v:MV}{ms:List MV}:oK g v g ms=some ⟨[],fun w=>w=v,none⟩:=by simp[oK]
instance:Inhabited DE:=⟨⟨0,0,0⟩⟩
def tuZ:TU:=⟨0,0,0,0,ig⟩
section
def qF(c:Int):Int:=if 65≤c∧c≤90 then c+32 else c
def A3{c:Int}(h0:0≤c)(h1:c≤255):0≤qF c∧qF c≤255:=by unfold qF;split<;>omega
def PL(c:Int)(h0:0≤c)(h1:c≤255):aA Tryz.prog 304 [.int .u8 c] ka (fun r _=>r=.int .u8 (qF c)):=by
 refine(mB 12 [.tmp 2] Tryz.func304 ?_);by_cases h2:65≤c
 ·by_cases h3:c≤90
  ·rw[show qF c=c+32 from if_pos ⟨h2,h3⟩];repeat' first|refine aw @Tryz.f304.eq_1 ?_|exact ev @Tryz.f304.eq_1|fail
  ·rw[show qF c=c from if_neg fun h=>h3 h.2];repeat' first|refine aw @Tryz.f304.eq_1 ?_|exact ev @Tryz.f304.eq_1|fail
 ·rw[show qF c=c from if_neg fun h=>h2 h.1];repeat' first|refine aw @Tryz.f304.eq_1 ?_|exact ev @Tryz.f304.eq_1|fail
def fch(s:ByteArray)(i:Nat):List (List MV):=[[.int .u8 (qF ((s.toList.getD i 0).toNat:Int))]]
def vI(s:ByteArray):Nat→ByteArray
 |0=>⟨#[]⟩
 |i+1=>vI s i++bytesOf (fch s i)
def fR(s:ByteArray):ByteArray:=vI s s.size
def u9(x:List MV):(bytesOf [x]).size=1:=rfl
theorem tU(s:ByteArray):∀i,(vI s i).size=i
 |0=>rfl
 |i+1=>by rw[vI,ByteArray.size_append,tU s i,fch,u9]
set_option maxHeartbeats 1000000 in
def BC (s:ByteArray) (h:s.size≤1000000):aA Tryz.prog 277 [.str s] ka (fun r _=>r=.str (fR s)):=by
 refine(mB 20 [.tmp 2] Tryz.func277 ?_);repeat' first|refine aw @Tryz.f277.eq_1 ?_|fail
 refine aG (α:=Nat) (fun i=>⟨20,[(4,.int .i64 (i:Int)),(3,.str (vI s i)),(0,.str s)],[]⟩)
  (fun _=>ka) (fun i=>i≤s.size) (fun i=>s.size-i) (.of (.less ?_ ba) ⟨0,rfl,rfl,hE _⟩) ?_
 ·simp(maxSteps:=4000000) (disch:=first|exact gd|fail) only[go_sem,simprocAttr,bE,aX];all_goals repeat' first|rfl|exact .same _|refine⟨?_,?_⟩
 ·intro i hi;have hi:i≤s.size:=hi;by_cases bh:i<s.size
  ·have dq:=tU s i;have hc0:0≤((s.toList.getD i 0).toNat:Int):=oM;have hc1:((s.toList.getD i 0).toNat:Int)≤255:=by have:=(s.toList.getD i 0).toNat_lt;omega
   have hlo:=PL _ hc0 hc1;obtain⟨hr0,hr1⟩:=A3 hc0 hc1;have hf:vI s (i+1)=vI s i++bytesOf (fch s i):=rfl;have wz:fch s i=[[.int .u8 (qF ((s.toList.getD i 0).toNat:Int))]]:=rfl;have hone:=u9 [.int .u8 (qF ((s.toList.getD i 0).toNat:Int))];rw[wz] at hf;obtain⟨c,hc⟩:∃c:Int,((s.toList.getD i 0).toNat:Int)=c:=⟨_,rfl⟩
   rw[hc] at hlo hr0 hr1 hf hone hc0 hc1;repeat' first|(with_reducible refine aC hlo ?_)|(refine wO ?_;intros)|simp(maxSteps:=4000000) (disch:=first|exact gd|fail) only[go_sem,simprocAttr,hc,dq,hone,isByte]|fail
   refine .of (.less ?_ bt) ⟨i+1,rfl,rfl,oM,oM⟩;rw[hf];exact wW
  ·have hie:i=s.size:=oM;subst hie;repeat' first|refine ed ?_|fail
   rfl
def lU(a b:VA):Bool:=decide (a.kd=b.kd)&&(decide (a.kd=1) || decide (a.kd=2))&&decide (pS (cmpL a.key b.key)<0)
set_option maxHeartbeats 1000000 in
def zV (a b:VA) (ha:a.s.size≤1000000) (hb:b.s.size≤1000000):aA Tryz.prog 232 [.agg a.c,.agg b.c] ka (fun r _=>r=.bool (lU a b)):=by
 refine(mB 26 [.tmp 4] Tryz.func232 ?_);have h1:=BJ a b ha hb;have hd:lU a b=(decide (a.kd=b.kd)&&(decide (a.kd=1) || decide (a.kd=2))&&decide (pS (cmpL a.key b.key)<0)):=rfl;generalize pS (cmpL a.key b.key)=o at h1 hd;generalize lU a b=out at hd ⊢;by_cases e1:a.kd=b.kd
 ·by_cases e2:a.kd=1
  ·rw[decide_eq_true e1,decide_eq_true e2,Bool.true_or,an,an] at hd;subst hd;repeat' first|(with_reducible first|refine up h1 ?_)|(refine wO ?_;intros)|refine aw @Tryz.f232.eq_1 ?_|exact ev @Tryz.f232.eq_1|fail
  ·by_cases e3:a.kd=2
   ·rw[decide_eq_true e1,decide_eq_true e3,Bool.or_true,an,an] at hd;subst hd;repeat' first|(with_reducible first|refine up h1 ?_)|(refine wO ?_;intros)|refine aw @Tryz.f232.eq_1 ?_|exact ev @Tryz.f232.eq_1|fail
   ·rw[decide_eq_false e2,decide_eq_false e3,Bool.or_false,au,am] at hd;subst hd;repeat' first|(with_reducible first|refine up h1 ?_)|(refine wO ?_;intros)|refine aw @Tryz.f232.eq_1 ?_|exact ev @Tryz.f232.eq_1|fail
 ·rw[decide_eq_false e1,am,am] at hd;subst hd;repeat' first|(with_reducible first|refine up h1 ?_)|(refine wO ?_;intros)|refine aw @Tryz.f232.eq_1 ?_|exact ev @Tryz.f232.eq_1|fail
def tD(A B:ByteArray):Bool:=(ek (A.size+1-B.size)).any fun i=>decide (A.extract i (i+B.size)=B)
def mT(a b:VA):Bool:=decide (a.kd=2)&&decide (b.kd=2)&&tD (fR a.s) (fR b.s)
def tT(s:ByteArray):(fR s).size=s.size:=tU s s.size
set_option maxHeartbeats 1000000 in
def FK (a b:VA) (ha:a.s.size≤1000000) (hb:b.s.size≤1000000):aA Tryz.prog 233 [.agg a.c,.agg b.c] ka (fun r _=>r=.bool (mT a b)):=by
 refine(mB 40 [.tmp 4] Tryz.func233 ?_);have h1:=BC a.s ha;have h2:=BC b.s hb;have hd:mT a b=(decide (a.kd=2)&&decide (b.kd=2)&&tD (fR a.s) (fR b.s)):=rfl;have s1:=tT a.s;have s2:=tT b.s;generalize mT a b=out at hd ⊢;by_cases e1:a.kd=2
 ·by_cases e2:b.kd=2
  ·rw[decide_eq_true e1,decide_eq_true e2,an,an] at hd;obtain⟨C,hC⟩:∃C,C=kn [(277,[.str a.s],⟨[],fun v=>v=.str (fR a.s),none⟩),(277,[.str b.s],⟨[],fun v=>v=.str (fR b.s),none⟩)]:=⟨_,rfl⟩
   have f1:C 277 [.str a.s]=some ⟨[],fun v=>v=.str (fR a.s),none⟩:=by rw[hC];exact yD
   have f2:C 277 [.str b.s]=some ⟨[],fun v=>v=.str (fR b.s),none⟩:=by rw[hC];refine Mx (fun h=>?_) yD;have h:=h.2;simp only[g6,MV.str.injEq,and_true] at h;rw[h]
   clear hC;generalize fR a.s=A at h1 hd s1 f1;generalize fR b.s=B at h2 hd s2 f2;subst hd;repeat' first|(refine wO ?_;intros)|refine aw @Tryz.f233.eq_1 ?_|fail
   refine aJ mixed dK C ?_;repeat' first|(with_reducible refine aF f1 h1 ?_)|(with_reducible refine aF f2 h2 ?_)|refine ed ?_|fail
   refine aG (α:=Nat) (fun i=>⟨40,[(7,.int .i64 (i:Int)),(6,.str B),(5,.str A)],[]⟩)
    (fun _=>ka) (fun i=>i≤A.size+1∧∀j,j<i→j+B.size≤A.size→A.extract j (j+B.size)≠B) (fun i=>A.size+1-i) (.of (.less ?_ bt) ⟨0,rfl,rfl,hE _,fun j hj=>absurd hj oM⟩) ?_
   ·exact wW
   ·rintro i ⟨hi,hq⟩;by_cases bh:i+B.size≤A.size
    ·have e1:((i:Int)+(B.size:Int)).toNat=i+B.size:=oM;have e2:((i:Int)).toNat=i:=oM;repeat' first|(refine wY ?_ ?_<;>intro h)|refine bu @e1 @e2 ?_|fail
     ·refine(List.any_eq_true.2 ⟨i,de.2 oM,?_⟩).symm;exact decide_eq_true h
     ·refine .of (.less ?_ bt) ⟨i+1,rfl,rfl,⟨oM,fun j hj xk=>?_⟩,oM⟩
      ·exact wW
      ·by_cases hji:j=i
       ·subst hji;exact h
       ·exact hq j oM xk
    ·have hF:tD A B=false:=by rw[tD,List.any_eq_false];intro j hj;rw[de] at hj;have:=hq j oM oM;simpa using this
     rw[hF];repeat' first|refine ed ?_|exact ll|fail
  ·rw[decide_eq_false e2,au,am] at hd;subst hd;repeat' first|(refine wO ?_;intros)|refine aw @Tryz.f233.eq_1 ?_|exact ev @Tryz.f233.eq_1|fail
 ·rw[decide_eq_false e1,am,am] at hd;subst hd;repeat' first|(refine wO ?_;intros)|refine aw @Tryz.f233.eq_1 ?_|exact ev @Tryz.f233.eq_1|fail
end
def Ua(s n:Nat):(s &&& 2 ^ n=0)=(s / 2 ^ n % 2=0):=by
 apply propext;have h:s &&& 2 ^ n=2 ^ n*(s / 2 ^ n % 2):=by
  refine io fun i=>?_;rw[ik,ia];by_cases hi:n=i
  ·subst hi;rcases hP (s / 2 ^ n) with h|h
   ·rw[h,Nat.mul_zero,ii];have:s.testBit n=false:=by rw[hI,h];rfl
    rw[this];rfl
   ·rw[h,jj,Nat.testBit_two_pow_self];have:s.testBit n=true:=by rw[hI,h];rfl
    rw[this];simp
  ·rw[decide_eq_false hi,au];rcases hP (s / 2 ^ n) with h|h
   ·rw[h,Nat.mul_zero,ii]
   ·rw[h,jj,Nat.testBit_two_pow_of_ne hi]
 rw[h,Nat.mul_eq_zero];have:=Nat.pos_of_ne_zero (n:=2 ^ n) (Nat.ne_of_gt (Nat.two_pow_pos n));constructor
 ·rintro(h|h)
  ·omega
  ·exact h
 ·exact .inr
def Bp(s n:Nat)(hs:s<4294967296)(hn:n<32):aA Tryz.prog 253 [.int .u32 (s:Int),.int .i64 (n:Int)] ka (fun r _=>r=.bool (hasB s n)):=by
 refine(mB 10 [.tmp 4] Tryz.func253 ?_);have h:=DQ n hn;have ha:=Gl s (2 ^ n) hs (hO (a:=2) (n:=32) br hn);have hb:=Ua s n;have e:hasB s n=!decide (s &&& 2 ^ n=0):=by
  unfold hasB;have h2:((n:Int)).toNat=n:=ax;have h3:0≤(n:Int)∧(n:Int)≤31:=oM;rcases hP (s / 2 ^ n) with h|h
  ·have h4:s &&& 2 ^ n=0:=by rw[hb];exact h
   simp[h4,h]
  ·have h4:¬(s &&& 2 ^ n=0):=by rw[hb];omega
   simp[h4,h];omega
 rw[e];generalize s &&& 2 ^ n=x at ha ⊢;generalize ((2 ^ n:Nat):Int)=y at h ha;repeat' first|(with_reducible first|refine up h ?_)|refine bu @Tryz.f253.eq_1 @ha ?_|fail
 all_goals first|(simp;done)|(by_cases hx:x=0<;>simp[hx])
def zK(a b:VA):aA Tryz.prog 258 [.agg a.c,.agg b.c] ka (fun r _=>r=.bool (lU a b)):=by
 refine ls (mB 24 [.tmp 4] Tryz.func258 ?_);have h1:=C0 a b;have hd:lU a b=(decide (a.kd=b.kd)&&(decide (a.kd=1) || decide (a.kd=2))&&decide (pS (cmpL a.key b.key)<0)):=rfl;generalize pS (cmpL a.key b.key)=o at h1 hd;generalize lU a b=out at hd ⊢;by_cases e1:a.kd=b.kd
 ·by_cases e2:a.kd=1
  ·rw[decide_eq_true e1,decide_eq_true e2,Bool.true_or,an,an] at hd;subst hd;repeat' first|(with_reducible first|refine up h1 ?_)|(refine wO ?_;intros)|refine aw @Tryz.f258.eq_1 ?_|fail
   all_goals exact lE
  ·by_cases e3:a.kd=2
   ·rw[decide_eq_true e1,decide_eq_true e3,Bool.or_true,an,an] at hd;subst hd;repeat' first|(with_reducible first|refine up h1 ?_)|(refine wO ?_;intros)|refine aw @Tryz.f258.eq_1 ?_|fail
    all_goals exact lE
   ·rw[decide_eq_false e2,decide_eq_false e3,Bool.or_false,au,am] at hd;subst hd;repeat' first|(with_reducible first|refine up h1 ?_)|(refine wO ?_;intros)|refine aw @Tryz.f258.eq_1 ?_|fail
    all_goals exact lE
 ·rw[decide_eq_false e1,am,am] at hd;subst hd;repeat' first|(with_reducible first|refine up h1 ?_)|(refine wO ?_;intros)|refine aw @Tryz.f258.eq_1 ?_|fail
  all_goals exact lE
def pY(s:ByteArray)(i:Nat):List (List MV):=(s.toList.take i).map (fun c=>[.int .u8 (qF (c.toNat:Int))])++(s.toList.drop i).map (fun c=>[.int .u8 (c.toNat:Int)])
def yX(s:ByteArray):s.toList.length=s.size:=by rw[ByteArray.toList_eq,lb];rfl
def To(s:ByteArray){i:Nat}(h:i≤s.size):(pY s i).length=s.size:=by have:=yX s;simp[pY];omega
def Vr{s:ByteArray}{i:Nat}(h:i<s.size):(pY s i).getD i []=[.int .u8 ((s.toList.getD i 0).toNat:Int)]:=by
 have hl:i<s.toList.length:=by rw[yX];exact h
 unfold pY;rw[ct,List.getElem?_append_right (by simp;omega)];simp[hZ (Nat.le_of_lt hl),cv hl,ct]
def Tp{s:ByteArray}{i:Nat}(h:i<s.size):(pY s i).set i [.int .u8 (qF ((s.toList.getD i 0).toNat:Int))]=pY s (i+1):=by
 have hl:i<s.toList.length:=by rw[yX];exact h
 have e1:s.toList.drop i=s.toList[i]::s.toList.drop (i+1):=dl hl;have e2:s.toList.take (i+1)=s.toList.take i++[s.toList[i]]:=dk hl;unfold pY;rw[e1,e2,cU 0 hl,List.set_append_right _ _ (by rw[df,d8];omega)];rw[dt,df,d8,hZ (Nat.le_of_lt hl),Nat.sub_self,List.set_cons_zero,fv,dt,fq,eb];rfl
def Tv{l:List (List MV)}{i:Nat}(h:i<l.length){x:List MV}(hx:l.getD i []=x):l.set i x=l:=by subst hx;rw[ct,cv h];exact List.set_getElem_self h
theorem De(s:ByteArray):∀i,i≤s.size→vI s i=bytesOf ((s.toList.take i).map (fun c=>[.int .u8 (qF (c.toNat:Int))]))
 |0,_=>rfl
 |i+1,h=>by
  have hl:i<s.toList.length:=by rw[yX];omega
  rw[vI,De s i oM,dk hl,fv,fch,cU 0 hl];unfold bytesOf;exact ByteArray.ext (by rw[ByteArray.data_append];simp)
def NN(s:ByteArray):bytesOf (pY s s.size)=fR s:=by rw[fR,De s s.size (g9 _),pY,←yX,gm,fq,fo]
def PO(s:ByteArray):(pY s s.size).all isByte=true:=by rw[c8];intro x hx;unfold pY at hx;rw[←yX,gm,fq,fo] at hx;obtain⟨b,_,rfl⟩:=gg.1 hx;have:=A3 (c:=(b.toNat:Int)) oM (by have:=b.toNat_lt;omega);simp[isByte,this]
def Br(s:ByteArray)(h:s.size≤1000000):aA Tryz.prog 297 [.str s] ka (fun r _=>r=.str (fR s)):=by
 refine ls (mB 30 [.tmp 2] Tryz.func297 ?_);repeat' first|(refine wM ?_;(first|(have _:=ah)|(intro ah));intros)|refine aw @Tryz.f297.eq_1 ?_|fail
 refine aG (α:=Nat) (fun i=>⟨30,[(10,.int .i64 (i:Int)),(9,.int .i64 (s.size:Int)),(8,.vec 1 ah 0 s.size),(3,.vec 1 ah 0 s.size)],[]⟩)
  (fun i=>ka.set ah (.row 5 1 (pY s i))) (fun i=>i≤s.size) (fun i=>s.size-i) ?_ ?_
 ·refine .of (.less ?_ (kf bt (by simp[kb,pY]))) ⟨0,rfl,rfl,hE _⟩;exact wW
 ·intro i hi;have hi:i≤s.size:=hi;have hrl:=To s hi;by_cases bh:i<s.size
  ·have ay:=Vr bh;have gw:=Tp bh;have hc0:0≤((s.toList.getD i 0).toNat:Int):=oM;have hc1:((s.toList.getD i 0).toNat:Int)≤255:=by have:=(s.toList.getD i 0).toNat_lt;omega
   obtain⟨c,hc⟩:∃c:Int,((s.toList.getD i 0).toNat:Int)=c:=⟨_,rfl⟩
   rw[hc] at hc0 hc1 ay gw;have ti:qF c=c→(pY s i)=pY s (i+1):=fun e=>by rw[←gw,e,Tv (by rw[hrl];exact bh) ay]
   by_cases hcc:65≤c∧c≤90
   ·obtain⟨g1,g2⟩:=hcc;have e:qF c=c+97-65:=by unfold qF;rw[if_pos ⟨g1,g2⟩];omega
    rw[e] at gw;repeat' first|refine jf @ay @hrl @g1 @g2 ?_|fail
    refine .of (.less ?_ (σ1:=ka.set ah (.row 5 1 (pY s (i+1)))) (by rw[gw];exact ba)) ⟨i+1,rfl,rfl,oM,oM⟩;exact wW
   ·have e:qF c=c:=by unfold qF;rw[if_neg hcc]
    have xm:=ti e;repeat' first|(refine wY ?_ ?_<;>intro h)|refine bu @ay @hrl ?_|fail
    all_goals first
     |(exfalso;omega)
     |refine .of (.less ?_ (σ1:=ka.set ah (.row 5 1 (pY s (i+1)))) (by rw[xm];exact ba)) ⟨i+1,rfl,rfl,oM,oM⟩
    all_goals
     exact wW
  ·have:i=s.size:=oM;subst this;have hfb:=PO s;have hfs:=NN s;have fi:(pY s s.size).take s.size=pY s s.size:=d5 (by rw[hrl];exact g9 _);repeat' first|refine jf @hrl @hfb @hfs @fi ?_|fail
   all_goals exact lE
def fnG:List (FuncId×(List MV→MV))→b9
 |[]=>fun _ _=>none
 |p::r=>fun g ms=>if p.1=g then some ⟨[],fun v=>v=p.2 ms,none⟩ else fnG r g ms
def Mm{g:FuncId}{u:List MV→MV}{r:List (FuncId×(List MV→MV))}{ms:List MV}{x:MV}(h:u ms=x):fnG ((g,u)::r) g ms=some ⟨[],fun v=>v=x,none⟩:=by subst h;simp[fnG]
def QU{g g':FuncId}{u:List MV→MV}{r:List (FuncId×(List MV→MV))}{ms:List MV}{F:Fact}(fg:(g'==g)=false)(h:fnG r g ms=some F):fnG ((g',u)::r) g ms=some F:=by
 have:g'≠g:=by simpa using fg
 simp[fnG,this,h]
def extract_eq(A B:ByteArray)(i:Nat):A.extract i (i+B.size)=B↔(A.data.toList.drop i).take B.size=B.data.toList:=by
 have e:(A.extract i (i+B.size)).data.toList=(A.data.toList.drop i).take B.size:=by simp[ByteArray.data_extract,Array.toList_extract,List.extract_eq_take_drop]
 constructor
 ·intro h;rw[←e,h]
 ·intro h;rw[←e] at h;exact ByteArray.ext (Array.toList_inj.1 h)
def Bo(A B:ByteArray):tD A B=Go.Lib.contains A.data.toList B.data.toList:=by
 have hla:A.data.toList.length=A.size:=by rw[lb];rfl
 have qw:B.data.toList.length=B.size:=by rw[lb];rfl
 have hocc:∀i,Go.Lib.occAt A.data.toList B.data.toList i=true↔(A.data.toList.drop i).take B.size=B.data.toList:=fun i=>by unfold Go.Lib.occAt;rw[List.isPrefixOf_iff_prefix,List.prefix_iff_eq_take,qw];exact eq_comm
 rw[Bool.eq_iff_iff];unfold tD Go.Lib.contains;rw[List.any_eq_true,decide_eq_true_iff];constructor
 ·rintro⟨i,hi,h⟩;have hi:=de.1 hi;have h:=(extract_eq A B i).1 (of_decide_eq_true h);rcases Go.Lib.index_spec A.data.toList B.data.toList with⟨_,h2⟩|⟨j,h1,_⟩
  ·have:=h2 i oM;rw[(hocc i).2 h] at this;cases this
  ·omega
 ·intro h;rcases Go.Lib.index_spec A.data.toList B.data.toList with⟨h1,_⟩|⟨j,h1,h2,h3,_⟩
  ·omega
  ·have h4:=(hocc j).1 h3;have h5:=congrArg List.length h4;rw[d8,List.length_drop,hla,qw] at h5;refine⟨j,de.2 oM,decide_eq_true ((extract_eq A B j).2 h4)⟩
def Io(a b:VA)(ha:a.s.size≤1000000)(hb:b.s.size≤1000000):aA Tryz.prog 261 [.agg a.c,.agg b.c] ka (fun r _=>r=.bool (mT a b)):=by
 refine ls (mB 22 [.tmp 4] Tryz.func261 ?_);have f1:=Br a.s ha;have f2:=Br b.s hb;have hc:=yW (fR a.s) (fR b.s) (by rw[tT];exact ha);rw[←Bo] at hc;have hd:mT a b=(decide (a.kd=2)&&decide (b.kd=2)&&tD (fR a.s) (fR b.s)):=rfl;obtain⟨C,c1,c2⟩:∃C:b9,(∀s,C 297 [.str s]=some ⟨[],fun v=>v=.str (fR s),none⟩)∧(∀ms,C 296 ms=some ⟨[],fun v=>v=.bool (tD (fR a.s) (fR b.s)),none⟩) :=
  ⟨fnG [(297,fun ms=>match ms with|[.str s]=>.str (fR s)|_=>.bw),(296,fun _=>.bool (tD (fR a.s) (fR b.s)))],fun s=>Mm rfl,fun _=>QU rfl (Mm rfl)⟩
 have c1a:=c1 a.s;have c1b:=c1 b.s;clear c1;generalize tD (fR a.s) (fR b.s)=p at hc hd c2;generalize mT a b=out at hd ⊢;by_cases e1:a.kd=2
 ·by_cases e2:b.kd=2
  ·rw[decide_eq_true e1,decide_eq_true e2,an,an] at hd;subst hd;repeat' first|((with_reducible refine aJ mixed ?chk C ?_);(case chk=>decide +kernel))|(with_reducible refine aF c1a f1 ?_)|(with_reducible refine aF c1b f2 ?_)|(with_reducible refine aF (c2 _) hc ?_)|(refine wO ?_;intros)|refine fx @Tryz.f261.eq_1 @e1 @e2 ?_|fail
   all_goals exact lE
  ·rw[decide_eq_false e2,au,am] at hd;subst hd;repeat' first|((with_reducible refine aJ mixed ?chk C ?_);(case chk=>decide +kernel))|(with_reducible refine aF c1a f1 ?_)|(with_reducible refine aF c1b f2 ?_)|(with_reducible refine aF (c2 _) hc ?_)|(refine wO ?_;intros)|refine fx @Tryz.f261.eq_1 @e1 @e2 ?_|fail
   all_goals exact lE
 ·rw[decide_eq_false e1,am,am] at hd;subst hd;repeat' first|((with_reducible refine aJ mixed ?chk C ?_);(case chk=>decide +kernel))|(with_reducible refine aF c1a f1 ?_)|(with_reducible refine aF c1b f2 ?_)|(with_reducible refine aF (c2 _) hc ?_)|(refine wO ?_;intros)|refine bu @Tryz.f261.eq_1 @e1 ?_|fail
  all_goals exact lE
def half(i j:Nat):Int.fdiv ((i:Int)+j) (2 ^ (min 1 64:Nat))=(((i+j) / 2:Nat):Int):=by rw[show((2:Int) ^ (min 1 64:Nat))=2 by decide,ca _ oM];omega
def uS{v:VA}(h:fW v=true):v.s.size≤1000000:=by
 unfold fW at h;split at h
 ·simp only[decide_eq_true_eq] at h;rw[h];decide
 ·split at h
  ·simp only[decide_eq_true_eq] at h;rw[h.2.2];decide
  ·split at h
   ·simp only[decide_eq_true_eq] at h;omega
   ·cases h
def DL{x:ND}(h:gB x=true):x.v.s.size≤1000000:=by
 have h0:ir.s.size≤1000000:=br;unfold gB at h;split at h
 ·simp only[decide_eq_true_eq] at h;rw[h.2];exact h0
 ·split at h
  ·simp only[decide_eq_true_eq] at h;rw[h.2.2];exact h0
  ·split at h
   ·simp only[decide_eq_true_eq] at h;rw[h.2.2];exact h0
   ·split at h
    ·simp only[decide_eq_true_eq] at h;exact uS h.2.2.1
    ·split at h
     ·simp only[decide_eq_true_eq] at h;exact uS h.2.2.1
     ·cases h
def Ve{x y:ND}(h:x.c=y.c):x=y:=by obtain⟨a,b,c,d,e⟩:=x;obtain⟨a',b',c',d',e'⟩:=y;simp only[g8,g6,MV.int.injEq,MV.str.injEq,true_and,and_true] at h;obtain⟨rfl,rfl,rfl,rfl,rfl⟩:=h;rfl
theorem HX:∀{l m:List ND},l.map g8=m.map g8→l=m
 |[],[],_=>rfl
 |[],_::_,h=>by simp at h
 |_::_,[],h=>by simp at h
 |x::l,y::m,h=>by rw[dt,dt,g6] at h;rw[Ve h.1,HX h.2]
section
structure CD where
 id:Int
 c9:Int
 fp:Nat
 f:List VA
abbrev fcs(f:List VA):List MV:=(f.map VA.c).flatten
abbrev CD.c(c:CD):List MV:=.int .i64 c.id::.int .i64 c.c9::.int .u32 (c.fp:Int)::fcs c.f
theorem Ep:∀f:List VA,(fcs f).length=3*f.length
 |[]=>rfl
 |v::f=>by have:=Ep f;simp only[fcs,dt,gi,cy,ci,d6] at this ⊢;omega
theorem GN:∀(f:List VA) (i:Nat),(fcs f).drop (3*i)=fcs (f.drop i)
 |f,0=>ax
 |[],i+1=>by simp[fcs]
 |v::f,i+1=>by have:=GN f i;rw[show 3*(i+1)=3*i+1+1+1 by omega];simp only[fcs,dt,gi,cx,d0,et] at this ⊢;exact this
def Wr{f:List VA}{i:Nat}(h:i<f.length):(fcs f).drop (3*i)=.int .i64 (f.getD i ir).kd::.int .i64 (f.getD i ir).n::.str (f.getD i ir).s::fcs (f.drop (i+1)):=by rw[GN,dl h,cU ir h];rfl
def C7(c:CD){i:Nat}(h:i<c.f.length):c.c.drop (3+i*3)=.int .i64 (c.f.getD i ir).kd::.int .i64 (c.f.getD i ir).n::.str (c.f.getD i ir).s::fcs (c.f.drop (i+1)):=by rw[show 3+i*3=3*i+1+1+1 by omega];simp only[CD.c,et];exact Wr h
def Qv(c:CD){i:Nat}(h:i<c.f.length){d:MV}:c.c.getD (3+i*3) d=.int .i64 (c.f.getD i ir).kd:=by have:=C7 c h;rw[ct,←List.head?_drop,this];rfl
def No(c:CD){i:Nat}(h:i<c.f.length):(c.c.drop (3+i*3)).take 3=(c.f.getD i ir).c:=by rw[C7 c h];rfl
theorem AM:∀f:List VA,(fcs f).all MV.aP=true
 |[]=>rfl
 |v::f=>by have:=AM f;simp only[fcs,dt,gi,cx,d0,gn] at this ⊢;rw[this];rfl
def r9(c:CD):c.c.all MV.aP=true:=by simp only[CD.c,gn,AM];rfl
def vB(c:CD):c.c.length=3+3*c.f.length:=by simp only[CD.c,ci,Ep];omega
def D5{v w:VA}:decide (v.kd=w.kd∧v.n=w.n∧v.s=w.s)=decide (v=w) :=
 decide_eq_decide.2 ⟨fun⟨h1,h2,h3⟩=>by cases v;cases w;simp only at h1 h2 h3;rw[h1,h2,h3],fun h=>by rw[h];exact⟨rfl,rfl,rfl⟩⟩
def cW(c:CD)(g:Nat)(n:ND):Bool :=
 if n.op=1 then true else if n.op=3 then hasB c.fp n.n else if n.op=4 then hasB g n.n
 else if n.op=5 then !decide ((c.f.getD n.n.toNat ir).kd=0)
 else if n.op=6 then decide (c.f.getD n.n.toNat ir=n.v)
 else if n.op=7 then lU (c.f.getD n.n.toNat ir) n.v
 else if n.op=8 then lU n.v (c.f.getD n.n.toNat ir)
 else if n.op=9 then mT (c.f.getD n.n.toNat ir) n.v
 else false
structure CF (c:CD):Prop where
 len:c.f.length=8
 size:∀v,v∈c.f→v.s.size≤1000000
 fp:c.fp<4294967296
set_option maxHeartbeats 4000000 in
def Lv (x:ND) (hx:gB x=true) (c:CD) (hc:CF c) (g:Nat) (hg:g<4294967296):aA Tryz.prog 175 [.agg x.c,.agg c.c,.int .u32 (g:Int)] ka (fun r _=>r=.bool (cW c g x)):=by
 refine(mB 73 [.tmp 6] Tryz.func175 ?_);have hlen:=vB c;rw[hc.len] at hlen;have oh:=sQ c.fp x.n hc.fp;have hgrp:=sQ g x.n hg;have dc:=r9 c;obtain⟨cells,oe⟩:∃cells,c.c=cells:=⟨_,rfl⟩
 by_cases h5:5≤x.op∧x.op≤9
 ·have hn:0≤x.n∧x.n<8:=by have h:=hx;have e:x.op=5∨x.op=6∨x.op=7∨x.op=8∨x.op=9:=oM;rcases e with e|e|e|e|e<;>simp[gB,e] at h<;>omega
  obtain⟨k,hk⟩:∃k:Nat,x.n=k:=⟨x.n.toNat,oM⟩
  have hk8:k<8:=oM;have mz:k<c.f.length:=by rw[hc.len];omega
  have jo:=Qv c mz (d:=.bw);have ky:=No c mz;have hvm:=mR ir mz;have hvs:=hc.size _ hvm;have hxs:=DL hx;have hle1:=zV (c.f.getD k ir) x.v hvs hxs;have ez:=zV x.v (c.f.getD k ir) hxs hvs;have hho:=FK (c.f.getD k ir) x.v hvs hxs;have qw:cW c g x=(if x.op=5 then !decide ((c.f.getD k ir).kd=0)
   else if x.op=6 then decide (c.f.getD k ir=x.v)
   else if x.op=7 then lU (c.f.getD k ir) x.v
   else if x.op=8 then lU x.v (c.f.getD k ir)
   else mT (c.f.getD k ir) x.v):=by
   unfold cW;rw[if_neg oM,if_neg oM,if_neg oM,hk];simp only[Int.toNat_natCast];by_cases e5:x.op=5
   ·rw[if_pos e5,if_pos e5]
   ·rw[if_neg e5,if_neg e5];by_cases e6:x.op=6
    ·rw[if_pos e6,if_pos e6]
    ·rw[if_neg e6,if_neg e6];by_cases e7:x.op=7
     ·rw[if_pos e7,if_pos e7]
     ·rw[if_neg e7,if_neg e7];by_cases e8:x.op=8
      ·rw[if_pos e8,if_pos e8]
      ·rw[if_neg e8,if_neg e8,if_pos oM]
  rw[qw];rw[oe] at jo ky hlen dc ⊢;clear oh hgrp qw;generalize c.f.getD k ir=v at jo ky hvs hle1 ez hho ⊢;have sj:x.op=5∨x.op=6∨x.op=7∨x.op=8∨x.op=9:=oM;rcases sj with h|h|h|h|h;all_goals
   simp(config:={ decide:=true }) only[h,if_true,if_false];repeat' first|(with_reducible first|refine up hle1 ?_|refine up ez ?_|refine up hho ?_)|(refine wO ?_;intros)|refine wh @Tryz.f175.eq_1 @h @hk @jo @ky @hlen @dc ?_|exact yz @Tryz.f175.eq_1 @h @hk @jo @ky @hlen @dc|fail
  ·exact D5
  ·refine aJ mixed dK (fun _ _=>some ⟨[],fun r=>r=.bool (lU v x.v),none⟩) ?_;repeat' first|(with_reducible refine aF rfl hle1 ?_)|refine xv @h @hk @jo @ky @hlen @dc ?_|exact wC6 @h @hk @jo @ky @hlen @dc|fail
  ·refine aJ mixed dK (fun _ _=>some ⟨[],fun r=>r=.bool (lU x.v v),none⟩) ?_;repeat' first|(with_reducible refine aF rfl ez ?_)|refine xv @h @hk @jo @ky @hlen @dc ?_|exact wC6 @h @hk @jo @ky @hlen @dc|fail
  ·refine aJ mixed dK (fun _ _=>some ⟨[],fun r=>r=.bool (mT v x.v),none⟩) ?_;repeat' first|(with_reducible refine aF rfl hho ?_)|refine xv @h @hk @jo @ky @hlen @dc ?_|exact wC6 @h @hk @jo @ky @hlen @dc|fail
 ·have qw:cW c g x=(if x.op=1 then true else if x.op=3 then hasB c.fp x.n else if x.op=4 then hasB g x.n else false):=by unfold cW;rw[if_neg (show ¬x.op=5 by omega),if_neg (show ¬x.op=6 by omega),if_neg (show ¬x.op=7 by omega),if_neg (show ¬x.op=8 by omega),if_neg (show ¬x.op=9 by omega)]
  rw[qw];have yi:=AM c.f;have iw:=Ep c.f;rw[hc.len] at iw;simp only[CD.c];generalize fcs c.f=ff at yi iw ⊢;have n5:x.op≠5:=oM;have n6:x.op≠6:=oM;have n7:x.op≠7:=oM;have n8:x.op≠8:=oM;have n9:x.op≠9:=oM;clear qw dc oe hlen h5;by_cases e1:x.op=1
  ·rw[if_pos e1];repeat' first|(with_reducible first|refine up oh ?_|refine up hgrp ?_)|(refine wO ?_;intros)|refine fx @Tryz.f175.eq_1 @yi @iw ?_|exact tk @Tryz.f175.eq_1 @yi @iw|fail
  ·rw[if_neg e1];by_cases e3:x.op=3
   ·rw[if_pos e3];repeat' first|(with_reducible first|refine up oh ?_|refine up hgrp ?_)|(refine wO ?_;intros)|refine fx @Tryz.f175.eq_1 @yi @iw ?_|exact tk @Tryz.f175.eq_1 @yi @iw|fail
   ·rw[if_neg e3];by_cases e4:x.op=4
    ·rw[if_pos e4];repeat' first|(with_reducible first|refine up oh ?_|refine up hgrp ?_)|(refine wO ?_;intros)|refine fx @Tryz.f175.eq_1 @yi @iw ?_|exact tk @Tryz.f175.eq_1 @yi @iw|fail
    ·rw[if_neg e4];repeat' first|(with_reducible first|refine up oh ?_|refine up hgrp ?_)|(refine wO ?_;intros)|refine fx @Tryz.f175.eq_1 @yi @iw ?_|exact tk @Tryz.f175.eq_1 @yi @iw|fail
set_option maxHeartbeats 8000000 in
theorem oB (c:CD) (hc:CF c) (g:Nat) (hg:g<4294967296):∀(t:T),Good t→t.fl.length≤1000→∀(tt:Bool),
  aA Tryz.prog 90 [.aj 5 (t.fl.map g8) tt,.agg c.c,.int .u32 (g:Int)] ka (fun r _=>r=.bool (t.kz (cW c g)))
 |.leaf x,h,hl,tt=>by
  refine(mB 61 [.tmp 6] Tryz.func90 ?_);have hk:=pX (.leaf x) h.1 hl tt;have hp:x.op≠10∧x.op≠11∧x.op≠12:=by refine⟨fun e=>?_,fun e=>?_,fun e=>?_⟩<;>(have h:=h.1;simp only[kk,e] at h;revert h;decide)
  obtain⟨p1,p2,p3⟩:=hp;have hlf:=Lv x (h.2 x (by simp[kg])) c hc g hg;have dc:=r9 c;have hlen:=vB c;rw[hc.len] at hlen;have vk:gq 27 c.c=c.c:=d5 oM;have e:(T.leaf x).kz (cW c g)=cW c g x:=by
   by_cases h1:x.op=1
   ·simp[T.kz,cW,h1]
   ·by_cases h2:x.op=2
    ·simp[T.kz,cW,h2]
    ·simp[T.kz,h1,h2]
  rw[e];generalize c.c=cells at dc hlen vk hlf ⊢;simp only[kg,T.kl,T.kids,dt,fq] at hk ⊢;repeat' first|(with_reducible first|refine up hk ?_|refine up hlf ?_)|(refine wO ?_;intros)|refine fx @Tryz.f90.eq_1 @dc @hlen ?_|fail
  refine aJ mixed dK (fun _ _=>some ⟨[],fun r=>r=.bool (cW c g x),none⟩) ?_;repeat' first|(with_reducible refine aF rfl hlf ?_)|refine fx @dc @hlen @vk ?_|exact tk @dc @hlen @vk|fail
 |.one x a,h,hl,tt=>by
  refine(mB 61 [.tmp 6] Tryz.func90 ?_);have hk:=pX (.one x a) h.1 hl tt;have h1:=DO h.1.1;have hla:a.fl.length≤1000:=by simp only[kg,ci] at hl;omega
  have ih:=oB c hc g hg a (AU.1 h).2.2 hla false;have dc:=r9 c;have hlen:=vB c;rw[hc.len] at hlen;have vk:gq 27 c.c=c.c:=d5 oM;generalize c.c=cells at dc hlen vk ih ⊢;simp only[kg,T.kl,T.kids,dt,fq] at hk ⊢;repeat' first|(with_reducible first|refine up hk ?_|refine up ih ?_)|(refine wO ?_;intros)|refine jf @Tryz.f90.eq_1 @h1 @dc @hlen ?_|fail
  refine aJ mixed dK (fun _ _=>some ⟨[],fun r=>r=.bool (a.kz (cW c g)),none⟩) ?_;repeat' first|(with_reducible refine aF rfl ih ?_)|refine fx @dc @hlen @vk ?_|fail
  simp[T.kz]
 |.two x a b,h,hl,tt=>by
  refine(mB 61 [.tmp 6] Tryz.func90 ?_);have hk:=pX (.two x a b) h.1 hl tt;obtain⟨q1,_,ga,gb⟩:=AV.1 h;have hla:a.fl.length≤1000∧b.fl.length≤1000:=by simp only[kg,ci,cy] at hl;omega
  have iha:=oB c hc g hg a ga hla.1 false;have ihb:=oB c hc g hg b gb hla.2 false;have hs:(T.two x a b).kz (cW c g)=if x.op=11 then a.kz (cW c g)&&b.kz (cW c g) else a.kz (cW c g) || b.kz (cW c g):=by by_cases e:x.op=11<;>simp[T.kz,e]
  rw[hs];have dc:=r9 c;have hlen:=vB c;rw[hc.len] at hlen;have vk:gq 27 c.c=c.c:=d5 oM;generalize c.c=cells at dc hlen vk iha ihb ⊢;obtain⟨C,hC⟩:∃C,C=kn [(90,[.aj 5 (a.fl.map g8) false,.agg cells,.int .u32 (g:Int)],⟨[],fun v=>v=.bool (a.kz (cW c g)),none⟩),(90,[.aj 5 (b.fl.map g8) false,.agg cells,.int .u32 (g:Int)],⟨[],fun v=>v=.bool (b.kz (cW c g)),none⟩)]:=⟨_,rfl⟩
  have fa:C 90 [.aj 5 (a.fl.map g8) false,.agg cells,.int .u32 (g:Int)]=some ⟨[],fun v=>v=.bool (a.kz (cW c g)),none⟩:=by rw[hC];exact yD
  have fb:C 90 [.aj 5 (b.fl.map g8) false,.agg cells,.int .u32 (g:Int)]=some ⟨[],fun v=>v=.bool (b.kz (cW c g)),none⟩:=by rw[hC];refine Mx (fun h=>?_) yD;have h:=h.2;simp only[g6,MV.aj.injEq,true_and,and_true] at h;rw[XN ga.1 gb.1 (HX h)]
  clear hC hs;generalize a.kz (cW c g)=sa at iha fa ⊢;generalize b.kz (cW c g)=sb at ihb fb ⊢;simp only[kg,T.kl,T.kids,dt,fq] at hk ⊢;rcases DP q1 with h1|h1<;>rw[h1]
  ·rw[if_pos rfl];cases sa;all_goals
    repeat' first|(with_reducible first|refine up hk ?_|refine up iha ?_|refine up ihb ?_)|(refine wO ?_;intros)|refine jf @Tryz.f90.eq_1 @h1 @dc @hlen ?_|fail
    refine aJ mixed dK C ?_;repeat' first|(with_reducible refine aF fa iha ?_)|(with_reducible refine aF fb ihb ?_)|refine fx @dc @hlen @vk ?_|exact tk @dc @hlen @vk|fail
    all_goals (first|rfl|(cases sb<;>rfl))
  ·rw[if_neg br];cases sa;all_goals
    repeat' first|(with_reducible first|refine up hk ?_|refine up iha ?_|refine up ihb ?_)|(refine wO ?_;intros)|refine jf @Tryz.f90.eq_1 @h1 @dc @hlen ?_|fail
    refine aJ mixed dK C ?_;repeat' first|(with_reducible refine aF fa iha ?_)|(with_reducible refine aF fb ihb ?_)|refine fx @dc @hlen @vk ?_|fail
    all_goals (first|rfl|(cases sb<;>rfl))
end
section
open Go.Shelf
def s7:Go.Shelf.Ren:=⟨fun|7=>201|10=>246|n=>n,fun|23=>249|26=>3|3=>126|28=>169|0=>0|27=>168|33=>235|4=>4|n=>n,fun|n=>n⟩
def N4:Go.Proofs.SlLaysZI.n7 Tryz.prog s7:={
  mixed:=by kernel_rfl
  f7:=⟨Tryz.f201.name,br,Tryz.func201.trans (congrArg some (by kernel_rfl))⟩
  f10:=⟨Tryz.f246.name,br,Tryz.func246.trans (congrArg some (by kernel_rfl))⟩
  t0:=Tryz.underlying0
  a0:=Tryz.isAgg0
  z0:=Tryz.sizeOf0
  v0:=Tryz.zeroValue0
  t4:=Tryz.underlying4
  a4:=Tryz.isAgg4
  z4:=Tryz.sizeOf4
  v4:=Tryz.zeroValue4
  t23:=Tryz.underlying249
  a23:=Tryz.isAgg249
  z23:=Tryz.sizeOf249
  v23:=Tryz.zeroValue249
  t26:=Tryz.underlying3
  a26:=Tryz.isAgg3
  z26:=Tryz.sizeOf3
  v26:=Tryz.zeroValue3
  t27:=Tryz.underlying168
  a27:=Tryz.isAgg168
  z27:=Tryz.sizeOf168
  v27:=Tryz.zeroValue168
  t28:=Tryz.underlying169
  a28:=Tryz.isAgg169
  z28:=Tryz.sizeOf169
  v28:=Tryz.zeroValue169
  t33:=Tryz.underlying235
  a33:=Tryz.isAgg235
  z33:=Tryz.sizeOf235
  v33:=Tryz.zeroValue235 }
def s8:Go.Shelf.Ren:=⟨fun|7=>97|10=>182|n=>n,fun|23=>131|26=>3|3=>3|28=>169|0=>0|27=>168|33=>235|4=>4|n=>n,fun|n=>n⟩
def N5:Go.Proofs.SlLaysZI.n7 Tryz.prog s8:={
  mixed:=by kernel_rfl
  f7:=⟨Tryz.f97.name,br,Tryz.func97.trans (congrArg some (by kernel_rfl))⟩
  f10:=⟨Tryz.f182.name,br,Tryz.func182.trans (congrArg some (by kernel_rfl))⟩
  t0:=Tryz.underlying0
  a0:=Tryz.isAgg0
  z0:=Tryz.sizeOf0
  v0:=Tryz.zeroValue0
  t4:=Tryz.underlying4
  a4:=Tryz.isAgg4
  z4:=Tryz.sizeOf4
  v4:=Tryz.zeroValue4
  t23:=Tryz.underlying131
  a23:=Tryz.isAgg131
  z23:=Tryz.sizeOf131
  v23:=Tryz.zeroValue131
  t26:=Tryz.underlying3
  a26:=Tryz.isAgg3
  z26:=Tryz.sizeOf3
  v26:=Tryz.zeroValue3
  t27:=Tryz.underlying168
  a27:=Tryz.isAgg168
  z27:=Tryz.sizeOf168
  v27:=Tryz.zeroValue168
  t28:=Tryz.underlying169
  a28:=Tryz.isAgg169
  z28:=Tryz.sizeOf169
  v28:=Tryz.zeroValue169
  t33:=Tryz.underlying235
  a33:=Tryz.isAgg235
  z33:=Tryz.sizeOf235
  v33:=Tryz.zeroValue235 }
def iT:Go.Shelf.Ren:=⟨fun|6=>96|8=>180|9=>181|11=>235|13=>237|12=>236|23=>287|24=>288|14=>278|15=>279|16=>280|17=>281|18=>282|19=>283|20=>284|21=>285|22=>286|25=>305|26=>306|27=>307|28=>308|29=>309|30=>299|31=>322|n=>n,fun|26=>3|28=>169|24=>75|0=>0|3=>3|37=>263|48=>23|50=>318|4=>4|40=>312|39=>311|45=>239|5=>5|9=>9|51=>328|55=>332|57=>343|58=>344|33=>235|n=>n,fun|n=>n⟩
def zD:Go.Proofs.SlLaysZI.n6 Tryz.prog iT:={
  mixed:=by kernel_rfl
  f6:=⟨Tryz.f96.name,br,Tryz.func96.trans (congrArg some (by kernel_rfl))⟩
  f8:=⟨Tryz.f180.name,br,Tryz.func180.trans (congrArg some (by kernel_rfl))⟩
  f11:=⟨Tryz.f235.name,br,Tryz.func235.trans (congrArg some (by kernel_rfl))⟩
  t0:=Tryz.underlying0
  a0:=Tryz.isAgg0
  z0:=Tryz.sizeOf0
  v0:=Tryz.zeroValue0
  t24:=Tryz.underlying75
  a24:=Tryz.isAgg75
  z24:=Tryz.sizeOf75
  v24:=Tryz.zeroValue75
  t26:=Tryz.underlying3
  a26:=Tryz.isAgg3
  z26:=Tryz.sizeOf3
  v26:=Tryz.zeroValue3
  t28:=Tryz.underlying169
  a28:=Tryz.isAgg169
  z28:=Tryz.sizeOf169
  v28:=Tryz.zeroValue169
  i26:=by kernel_rfl }
def Ck:Go.Shelf.Ren:=⟨fun|5=>181|8=>237|7=>236|19=>287|20=>288|10=>278|11=>279|12=>280|13=>281|14=>282|15=>283|16=>284|17=>285|18=>286|30=>305|31=>306|32=>307|33=>308|34=>309|35=>299|40=>322|n=>n,fun|23=>75|25=>3|3=>3|32=>263|22=>75|0=>0|44=>23|46=>318|4=>4|36=>312|35=>311|41=>239|5=>5|9=>9|53=>328|57=>332|63=>343|64=>344|n=>n,fun|n=>n⟩
def Dp:Go.Proofs.SlLaysM.n5 Tryz.prog Ck:={
  mixed:=by kernel_rfl
  f5:=⟨Tryz.f181.name,br,Tryz.func181.trans (congrArg some (by kernel_rfl))⟩
  f7:=⟨Tryz.f236.name,br,Tryz.func236.trans (congrArg some (by kernel_rfl))⟩
  f8:=Tryz.func237.trans (congrArg some (by kernel_rfl))
  f10:=⟨Tryz.f278.name,br,Tryz.func278.trans (congrArg some (by kernel_rfl))⟩
  f11:=⟨Tryz.f279.name,br,Tryz.func279.trans (congrArg some (by kernel_rfl))⟩
  f12:=⟨Tryz.f280.name,br,Tryz.func280.trans (congrArg some (by kernel_rfl))⟩
  f13:=⟨Tryz.f281.name,br,Tryz.func281.trans (congrArg some (by kernel_rfl))⟩
  f14:=⟨Tryz.f282.name,br,Tryz.func282.trans (congrArg some (by kernel_rfl))⟩
  f15:=⟨Tryz.f283.name,br,Tryz.func283.trans (congrArg some (by kernel_rfl))⟩
  f16:=⟨Tryz.f284.name,br,Tryz.func284.trans (congrArg some (by kernel_rfl))⟩
  f17:=⟨Tryz.f285.name,br,Tryz.func285.trans (congrArg some (by kernel_rfl))⟩
  f18:=⟨Tryz.f286.name,br,Tryz.func286.trans (congrArg some (by kernel_rfl))⟩
  f19:=Tryz.func287.trans (congrArg some (by kernel_rfl))
  f20:=Tryz.func288.trans (congrArg some (by kernel_rfl))
  f30:=⟨Tryz.f305.name,br,Tryz.func305.trans (congrArg some (by kernel_rfl))⟩
  f31:=Tryz.func306.trans (congrArg some (by kernel_rfl))
  f32:=Tryz.func307.trans (congrArg some (by kernel_rfl))
  f33:=⟨Tryz.f308.name,br,Tryz.func308.trans (congrArg some (by kernel_rfl))⟩
  f34:=⟨Tryz.f309.name,br,Tryz.func309.trans (congrArg some (by kernel_rfl))⟩
  f35:=⟨Tryz.f299.name,br,Tryz.func299.trans (congrArg some (by kernel_rfl))⟩
  f40:=⟨Tryz.f322.name,br,Tryz.func322.trans (congrArg some (by kernel_rfl))⟩
  t0:=Tryz.underlying0
  a0:=Tryz.isAgg0
  z0:=Tryz.sizeOf0
  v0:=Tryz.zeroValue0
  t3:=Tryz.underlying3
  a3:=Tryz.isAgg3
  z3:=Tryz.sizeOf3
  v3:=Tryz.zeroValue3
  t4:=Tryz.underlying4
  a4:=Tryz.isAgg4
  z4:=Tryz.sizeOf4
  v4:=Tryz.zeroValue4
  t5:=Tryz.underlying5
  a5:=Tryz.isAgg5
  z5:=Tryz.sizeOf5
  v5:=Tryz.zeroValue5
  t9:=Tryz.underlying9
  a9:=Tryz.isAgg9
  z9:=Tryz.sizeOf9
  v9:=Tryz.zeroValue9
  t22:=Tryz.underlying75
  a22:=Tryz.isAgg75
  z22:=Tryz.sizeOf75
  v22:=Tryz.zeroValue75
  t23:=Tryz.underlying75
  a23:=Tryz.isAgg75
  z23:=Tryz.sizeOf75
  v23:=Tryz.zeroValue75
  t25:=Tryz.underlying3
  a25:=Tryz.isAgg3
  z25:=Tryz.sizeOf3
  v25:=Tryz.zeroValue3
  t32:=Tryz.underlying263
  a32:=Tryz.isAgg263
  z32:=Tryz.sizeOf263
  v32:=Tryz.zeroValue263
  t35:=Tryz.underlying311
  a35:=Tryz.isAgg311
  z35:=Tryz.sizeOf311
  v35:=Tryz.zeroValue311
  t36:=Tryz.underlying312
  a36:=Tryz.isAgg312
  z36:=Tryz.sizeOf312
  v36:=Tryz.zeroValue312
  t41:=Tryz.underlying239
  a41:=Tryz.isAgg239
  z41:=Tryz.sizeOf239
  v41:=Tryz.zeroValue239
  t44:=Tryz.underlying23
  a44:=Tryz.isAgg23
  z44:=Tryz.sizeOf23
  v44:=Tryz.zeroValue23
  t46:=Tryz.underlying318
  a46:=Tryz.isAgg318
  z46:=Tryz.sizeOf318
  v46:=Tryz.zeroValue318
  t53:=Tryz.underlying328
  a53:=Tryz.isAgg328
  z53:=Tryz.sizeOf328
  v53:=Tryz.zeroValue328
  t57:=Tryz.underlying332
  a57:=Tryz.isAgg332
  z57:=Tryz.sizeOf332
  v57:=Tryz.zeroValue332
  t63:=Tryz.underlying343
  a63:=Tryz.isAgg343
  z63:=Tryz.sizeOf343
  v63:=Tryz.zeroValue343
  t64:=Tryz.underlying344
  a64:=Tryz.isAgg344
  z64:=Tryz.sizeOf344
  v64:=Tryz.zeroValue344 }
end
section
open Go.MapKept Go.RowKit Go.Maps Go.Sort Go.Shelf
open Go.WideElems (Fit rd rg)
def WC:MV→Int
 |.int _ n=>n
 |_=>0
def fM(es:List (MV×MV)):List Int:=es.map fun p=>WC p.1
def rH{H:Type}(_:Value):Option (DataW H×List MemPlace):=some (.lit (.bool true),[])
def Vl{H:Type}{P:Program}{Φ:bd}{w:World}{l:Nat}{es:List (MV×MV)}{k:TypeId}(h:eT Φ w l (.mp es))(hk:P.underlying k=some (.int .i64))
 (he:(es.all fun p=>nh .i64 p.1)=true)(hwf:∀n∈fM es,(g7 .i64 n).wf=true)(hl:es.length≤maxLen) :
  ∃(p:Place) (b:Nat) (D0:DataW H),Φ.obj l=some p∧p.jh=some b∧w.ownsMap P k rH b es.length D0∧(intKeys D0).Perm (fM es)∧Maps.size D0=es.length:=by
 obtain⟨p,R,c,clock,hp,hR,hh,hs,dg,bf⟩:=h.Hj;have key:∀(i:Nat) (e:MapEntry),c.toList[i]?=some e→Go.WideElems.rd (H:=H) P k rH e=some (g7 .i64 ((fM es).getD i 0),.lit (.bool true)):=fun i e hi=>by
  have bh:i<es.length:=by have:=(cr.1 hi).1;rw[←hs];simpa using this
  obtain⟨e',q1,q2,_⟩:=bf i es[i] (cv bh);rw[hi] at q1;cases q1;have sd:=c8.1 he es[i] (List.getElem_mem bh);obtain⟨n,hn⟩:=nU sd;rw[hn] at q2;have hkn:(fM es).getD i 0=n:=by simp[fM,ct,cv bh,hn,WC]
  have hw:=hwf n (by
   rw[fM,gg];exact⟨es[i],List.getElem_mem bh,by rw[hn];rfl⟩)
  rw[hkn];simp[Go.WideElems.rd,rH,q2.aZ,keyOf,mapKey,hk,hw]
 have hF:Fit (H:=H) P k rH c clock:=⟨by rw[hs];exact hl,dg,fun x hx=>by
  obtain⟨i,hi,rfl⟩:=List.mem_iff_getElem.1 hx;exact⟨_,key i _ (cv hi)⟩⟩
 have hmap:(c.toList.map (rg (H:=H) P k rH)).map (fun q=>Go.intOf q.1)=fM es:=by
  refine List.ext_getElem? fun i=>?_;simp only[List.map_map,du];rcases Nat.lt_or_ge i es.length with hi|hi
  ·have hc:i<c.toList.length:=by simpa[hs] using hi
   rw[cv hc];have h1:=key i _ (cv hc);simp only[Option.map_some,Function.comp,Go.WideElems.rg_of h1];have h2:i<(fM es).length:=by simpa[fM] using hi
   simp[Go.intOf,ct,cv h2]
  ·rw[gu (by simpa[hs] using hi),gu (by simpa[fM] using hi)];rfl
 refine⟨p,R,.map ((c.toList.map (rg P k rH)).foldr DataW.insert []),hp,hR,⟨c,clock,hh,hF,oM,rfl⟩,?_,?_⟩
 ·show(((c.toList.map (rg P k rH)).foldr DataW.insert []).map fun q=>Go.intOf q.1).Perm _;rw[←hmap];exact(Go.WideShapes.sorted_perm _).map _
 ·show((c.toList.map (rg P k rH)).foldr DataW.insert []).length=_;rw[length_sorted];simp[hs]
def Inv.Vs{Φ:bd}{w w':World}{σ:St}(hi:Inv Φ w σ)(hi':Inv Φ w' σ)(st:Step Φ σ w Φ σ w')(g:Nat)(hg:w.heap.size≤g) :
  Inv (Φ.uP w' (fun k=>k=g)) w' σ∧Step Φ σ w (Φ.uP w' (fun k=>k=g)) σ w':=by
 have hle:=As Φ w' (fun k=>k=g);refine⟨⟨fun l o h=>(hi'.own l o h).mono hle (fun _ _ _ _=>rfl),hi'.inj,fun a v hv=>?_,fun l o p R a v hl hp hR hv=>?_,hi.fresh.1,fun q i v h=>hle.snap _ _ (hi.fresh.2.1 q i v h),hi.fresh.2.2.mono hle.snap⟩,
  ⟨hle,st.os,st.tape,st.output,st.drawn,st.size,st.block,fun a v hv=>?_,st.jc,st.cz⟩⟩
 ·rcases gN hv with q|⟨_,q⟩
  ·exact hi'.snap a v q
  ·exact q
 ·rcases gN hv with q|⟨q,_⟩
  ·exact hi'.apart l o p R a v hl hp hR q
  ·intro e;obtain⟨p',dw,bh⟩:=(hi.own l o hl).place;rw[show Φ.obj l=some p from hp] at dw;cases dw;have:=bh R hR;have q:R=g:=by rw[←e];exact q
   omega
 ·rcases gN hv with q|⟨q,_⟩
  ·exact .inl q
  ·have q:a.block=g:=q;exact .inr (.inl oM)
def zX{P:Program}{ρ ρk:Ren}(L6:SlLaysZI.n6 P ρ)(L10:SlLaysZI.n10 P ρk)(hs:∀m,AnyZI.SortsIn P ρ a7 m)
 (e9:∀args w,(callFunc (ρ.f 9) args).run P w=.ok (.enter (ρ.f 9) args) w)(eg:∀args w,(callFunc (ρk.f 10) args).run P w=.ok (.enter (ρk.f 10) args) w)(hent:Enters P (ρ.f 6))
 {l l2:Nat}{tm:TypeId}{es:List (MV×MV)}(fg:l≠l2)(he:(es.all fun p=>nh .i64 p.1)=true)(hwf:∀n∈fM es,(g7 .i64 n).wf=true)(hl:es.length≤1000000) :
  aA P (ρ.f 6) [.fn (.func (ρk.f 10)) [] [.ptr l 0 0]] ((ka.set l (.row tm 1 [[.db l2]])).set l2 (.mp es)) fun r af =>
   (∃ns:List Int,ns.Perm (fM es)∧ns.Pairwise (fun a b=>a≤b)∧r=.aj 1 (ns.map fun n=>[.int .i64 n]) false)∧af=(ka.set l (.row tm 1 [[.db l2]])).set l2 (.mp es):=by
 obtain⟨σ0,hσ0⟩:∃σ0:St,(ka.set l (.row tm 1 [[.db l2]])).set l2 (.mp es)=σ0:=⟨_,rfl⟩
 have h2:σ0 l2=some (.mp es):=by rw[←hσ0];exact cj
 have h1:σ0 l=some (.row tm 1 [[.db l2]]):=by rw[←hσ0];simp[kb,fg]
 rw[hσ0];refine⟨hent,fun Φ w vs hi hr=>?_⟩;obtain⟨first,cap,e0,r1,r2⟩:=(hr.2 0 _ rfl).pM;have hf0:first=#[]:=by have:=r1.1;simp at this;exact this
 subst hf0;have It:cap.size=1:=r2.1;obtain⟨p,R,hp,hR,hc⟩:=(r2.2 0 _ rfl).jU;have hbo:p.bo=0:=hi.fresh.1.2 l p hp;have dv:cap=#[.pointer (some ⟨R,0,none⟩)]:=by refine lc (by simpa using It) fun i q1 q2=>?_;have hi0:i=0:=oM;subst hi0;have:=hc;rw[hbo] at this;simp[lr,q1] at this;exact this
 have hvs:vs=#[.func (.func (ρk.f 10)) #[] #[.pointer (some ⟨R,0,none⟩)]]:=by have hz:=hr.1;simp at hz;refine lc (by simpa using hz) fun i q1 q2=>?_;have hi0:i=0:=oM;subst hi0;have:=e0;rw[dv] at this;simp[lr,q1] at this;exact this
 subst hvs
 -- the map
 obtain⟨p2,b,D0,hp2,me,gp,hperm,dq⟩:=Vl (H:=Unit) (P:=P) (k:=ρk.t 26) (hi.own l2 _ h2) L10.t26 he hwf (ib hl br)
 -- the box
 obtain⟨p',dw,iz,hlen,zn,hx,hmatch⟩:=hi.own l _ h1;rw[hp] at dw;cases dw;rw[hR] at hmatch;obtain⟨c,fz,xj,_,_,dc⟩:=hmatch;obtain⟨_,v,hv,bf⟩:=dc 0 _ 0 _ rfl rfl;obtain⟨p3,R3,hp3,hR3,rfl⟩:=bf.oV;rw[hp2] at hp3;cases hp3;rw[me] at hR3;cases hR3;have hRlt:R<w.heap.size:=by obtain⟨q,_⟩:=kr.1 xj;exact q
 have jv:w.cell? ⟨R,0,none⟩=some (.map (some b)):=by simp only[b7,xj];rw[hbo] at hv;simpa using hv
 have vj:=AnyZI.keys_gives (H:=Unit) (ρ:=ρk) L10 a7 2 trivial rfl oM R b es.length D0 w hRlt jv gp;have cS:=AnyZI.sorted_in L6 a7 5 trivial trivial trivial trivial rfl oM (hs _) e9 (ρk.f 10) _ trivial eg _ (Maps.size D0) (by rw[dq];exact ib hl br) (by rw[dq];omega) w vj;refine(callsIn_wide.1 cS).mono ?_;rintro e w' ⟨v,ss,rfl,hS,zp,qg,hb⟩;obtain⟨i2,s2⟩:=hi.grow (w':=w') hb.os hb.tape hb.output (by simp[ki,DR]) hb.size hb.block;have hpm:(ss.mergeSort (fun x y=>decide (x≤y))).Perm (fM es):=(List.mergeSort_perm ss _).trans (hS.trans hperm);have hpw:(ss.mergeSort (fun x y=>decide (x≤y))).Pairwise (fun a b=>a≤b):=(List.pairwise_mergeSort (le:=fun x y:Int=>decide (x≤y)) (fun a b c=>by simp;omega) (fun a b=>by simp;omega) ss).imp (fun h=>by simpa using h);generalize Z9:ss.mergeSort (fun x y=>decide (x≤y))=ns at *
 have ec:ns.length=ss.length:=by rw[←Z9];exact List.length_mergeSort ss
 rcases zp.2 with⟨rfl,hz⟩|⟨g,capn,cur,rfl,hbase,hgb,q1,q2,q3,q4⟩
 ·have Zh:ns=[]:=da oM;subst Zh;exact⟨_,_,σ0,Φ,rfl,.nj 1 false,i2,s2,⟨[],hpm,hpw,rfl⟩,rfl⟩
 ·obtain⟨i3,s3⟩:=hi.Vs i2 s2 g hbase;have h0:0<ss.length:=by
   rcases Nat.eq_zero_or_pos ss.length with h|h
   ·have:=qg.2 (da h);cases this
   ·exact h
  refine⟨_,.aj 1 (ns.map fun n=>[.int .i64 n]) false,σ0,_,rfl,?_,i3,s3,⟨ns,hpm,hpw,rfl⟩,rfl⟩;have ay:∀i,i<ns.length→w'.cell? ⟨g,i,none⟩=some (.int .i64 (ns.getD i 0)):=fun i hi'=>by
   have e1:(cur.toList.take (ss.length*1))[i]?=(ns.map encZ)[i]?:=by rw[q4]
   rw[List.getElem?_take,if_pos oM,du,cv hi'] at e1;simp only[b7,hgb];simp at e1;simp[e1,ct,cv hi',encZ]
  have cc:∀i,i<ns.length→(Φ.uP w' (fun k=>k=g)).snap ⟨g,i,none⟩=some (.int .i64 (ns.getD i 0)):=fun i hi'=>by
   simp only[bd.uP];split
   ·rename_i u hu;have:=bv w _ (hi.snap _ _ hu);simp only at this;omega
   ·simp[ay i hi']
  refine Rel.aj (vs:=fun i _=>.int .i64 (ns.getD i 0)) (by simpa using ec) h0 q1 q2 (fun h=>by cases h) (fun i x hx=>?_) (fun i x j m hx hm=>?_) (fun i x j m hx hm=>?_);all_goals
   rw[du,Option.map_eq_some_iff] at hx;obtain⟨n,hn,rfl⟩:=hx
  ·rfl
  ·have ku:=(cr.1 hn).1;have hj:j=0:=by have:=(cr.1 hm).1;simpa using this
   subst hj;simp at hm;subst hm;exact⟨rfl,by simpa using cc i ku⟩
  ·have hj:j=0:=by have:=(cr.1 hm).1;simpa using this
   subst hj;simp at hm;subst hm;simp[ct,hn];exact .int _ _
def TF(m:Nat):AnyZI.SortsIn Tryz.prog iT a7 m :=
 ⟨fun jh off cap ss W hH yh dq=>callsIn_wide.2 (AnyM.slices_Sort_int Dp jh off cap ss W hH yh dq),
  fun p cap W=>callsIn_wide.2 (AnyM.slices_Sort_int_none Dp p cap W)⟩
def FU{l l2:Nat}{es:List (MV×MV)}(fg:l≠l2)(he:(es.all fun p=>nh .i64 p.1)=true)(hwf:∀n∈fM es,(g7 .i64 n).wf=true)(hl:es.length≤1000000) :
  aA Tryz.prog 96 [.fn (.func 246) [] [.ptr l 0 0]] ((ka.set l (.row 249 1 [[.db l2]])).set l2 (.mp es)) fun r af =>
   (∃ns:List Int,ns.Perm (fM es)∧ns.Pairwise (fun a b=>a≤b)∧r=.aj 1 (ns.map fun n=>[.int .i64 n]) false)∧af=(ka.set l (.row 249 1 [[.db l2]])).set l2 (.mp es) :=
 zX (ρ:=iT) (ρk:=s7) zD { N4 with } TF (enters_of Tryz.func181 (by kernel_rfl) rfl) (enters_of Tryz.func246 (by kernel_rfl) rfl) ⟨_,Tryz.func96,rfl,rfl⟩ fg he hwf hl
def CX{l l2:Nat}{es:List (MV×MV)}(fg:l≠l2)(he:(es.all fun p=>nh .i64 p.1)=true)(hwf:∀n∈fM es,(g7 .i64 n).wf=true)(hl:es.length≤1000000) :
  aA Tryz.prog 96 [.fn (.func 182) [] [.ptr l 0 0]] ((ka.set l (.row 131 1 [[.db l2]])).set l2 (.mp es)) fun r af =>
   (∃ns:List Int,ns.Perm (fM es)∧ns.Pairwise (fun a b=>a≤b)∧r=.aj 1 (ns.map fun n=>[.int .i64 n]) false)∧af=(ka.set l (.row 131 1 [[.db l2]])).set l2 (.mp es) :=
 zX (ρ:=iT) (ρk:=s8) zD { N5 with } TF (enters_of Tryz.func181 (by kernel_rfl) rfl) (enters_of Tryz.func182 (by kernel_rfl) rfl) ⟨_,Tryz.func96,rfl,rfl⟩ fg he hwf hl
end
def Jm{P:Program}{g:FuncId}{ms:List MV}{σ:St}{om:aY}{ol:Nat→aY}{u:Nat→Nat→MV}{k:MV→St→Prop}(h:aA P g ms ka fun v af=>∃m l,l≠m∧v=u l m∧af=(ka.set m om).set l (ol m))
 (hk:∀m l,σ m=none→σ l=none→l≠m→R (cD (u l m) ((σ.set m om).set l (ol m)) k)):R (dR P g ms σ k) :=
 bU h (St.none_le σ) fun v af hv hf=>by
  obtain⟨m,l,fg,rfl,rfl⟩:=hv;rw[mY,bS,bS,dS];refine hk m l ?_ ?_ fg
  ·rcases hf m om ((cn (jn fg)).trans cj) with h|⟨o',h⟩
   ·exact h
   ·simp[ka] at h
  ·rcases hf l _ cj with h|⟨o',h⟩
   ·exact h
   ·simp[ka] at h
def aA.DY{P:Program}{g:FuncId}{ms:List MV}{σ τ:St}{X:MV}(h:aA P g ms σ fun v af=>∃jk:St,jk.le af∧τ.le af∧(∀k o,τ k=some o→jk k=none)∧View jk v X):aA P g ms σ fun v af=>v=X∧af=τ :=
 aA.ghost (h.mono fun v af ⟨jk,h1,h2,h3,h4⟩=>⟨X,τ,aR.freeze jk h1 h2 h3 (fun p hp=>by
  simp at hp;subst hp;simpa[cV] using h4),rfl,rfl⟩)
def Tt{τ:St}{q:Nat}{t:TypeId}{e n:Nat}{xs ex:List (List MV)}(hq:τ q=none)(hn:n=xs.length):∃jk:St,jk.le (τ.set q (.row t e (xs++ex)))∧τ.le (τ.set q (.row t e (xs++ex)))∧(∀k o,τ k=some o→jk k=none)∧View jk (.vec e q 0 n) (.aj e xs false) :=
 ⟨ka.set q (.row t e (xs++ex)),kf bt cj,fun j o h=>(cn (fun h1=>by subst h1;rw[hq] at h;cases h)).trans h,fun j o h=>cn (fun h1=>by subst h1;rw[hq] at h;cases h),by
  have:=View.vec (σ:=ka.set q (.row t e (xs++ex))) (lo:=0) (n:=n) cj (by rw[cy];omega)
  rwa [ey,hn,fd (g9 _),d7,←hn] at this⟩
def Mz{A:St}{a b:Nat}{x y:aY}(ha:A a=none):(A.set b y).le ((A.set a x).set b y):=fun j o h=>by
 simp only[kb] at h ⊢;split
 ·rename_i e;rw[if_pos e] at h;exact h
 ·rename_i e;rw[if_neg e] at h;rw[if_neg (fun e=>by subst e;rw[ha] at h;cases h)];exact h
def gQ{σ:St}{a:Nat}{x:aY}(ha:σ a=none):σ.le (σ.set a x):=fun j o h=>(cn (fun e=>by subst e;rw[ha] at h;cases h)).trans h
def Ao{σ:St}{l k:Nat}{o:aY}(h:(σ.set l o) k=none):k≠l∧σ k=none:=by
 have e:k≠l:=fun e=>by subst e;simp[kb] at h
 exact⟨e,by simpa[kb,e] using h⟩
abbrev fh(next:Int)(m:Nat)(dead:MV):aY:=.row 251 3 [[.int .i64 next,.db m,dead]]
abbrev bM(seq:Int)(l:Nat)(groups:MV):aY:=.row 140 3 [[.int .i64 seq,.ptr l 0 0,groups]]
def LC:aA Tryz.prog 132 [] ka (fun v af=>∃m l,l≠m∧v=.ptr l 0 0∧af=(ka.set m (.mp [])).set l (fh 1 m .aK)):=by
 refine(mB 4 [.tmp 0] Tryz.func132 ?_);repeat' first|(refine wO ?_;intros)|refine aw @Tryz.f132.eq_1 ?_|fail
 all_goals exact⟨_,_,bc,rfl,rfl⟩
def JA:aA Tryz.prog 60 [] ka (fun v af=>∃m l b,l≠m∧b≠m∧b≠l∧v=.ptr b 0 0∧af=((ka.set m (.mp [])).set l (fh 1 m .aK)).set b (bM 0 l .aK)):=by
 refine(mB 4 [.tmp 0] Tryz.func60 ?_);repeat' first|(refine Jm LC ?_;intro m l hm hl lg)|(refine wO ?_;intros)|refine aw @Tryz.f60.eq_1 ?_|fail
 all_goals exact⟨_,_,_,bc,bc,bc,rfl,rfl⟩
def Ka(m:Nat):aA Tryz.prog 201 [.db m] ka (fun v af=>∃l,v=.fn (.func 246) [] [.ptr l 0 0]∧af=ka.set l (.row 249 1 [[.db m]])):=by
 refine(mB 4 [.tmp 2] Tryz.func201 ?_);repeat' first|(refine wO ?_;intros)|refine aw @Tryz.f201.eq_1 ?_|fail
 all_goals exact⟨_,rfl,rfl⟩
def Kb(m:Nat):aA Tryz.prog 97 [.db m] ka (fun v af=>∃l,v=.fn (.func 182) [] [.ptr l 0 0]∧af=ka.set l (.row 131 1 [[.db m]])):=by
 refine(mB 4 [.tmp 2] Tryz.func97 ?_);repeat' first|(refine wO ?_;intros)|refine aw @Tryz.f97.eq_1 ?_|fail
 all_goals exact⟨_,rfl,rfl⟩
def dm(cs:List CA):List (MV×MV):=cs.map fun c=>(.int .i64 c.id,.agg c.c)
def Ql(cs:List CA):Prop:=cs.Pairwise (fun a b=>a.id<b.id)∧(∀c,c∈cs→0≤c.id∧c.id≤1073741824)∧cs.length≤1000000
def Dn(cs:List CA):fM (dm cs)=cs.map CA.id:=by simp[fM,dm,WC]
def sH(cs:List CA):((dm cs).all fun p=>nh .i64 p.1)=true:=by simp[dm,nh]
def Jr{n:Int}(h:0≤n∧n≤1099511627776):(g7 .i64 n).wf=true:=by simp[Lit.wf,IntKind.min,cd,cb];omega
def Jc{cs:List CA}(h:cs.Pairwise (fun a b=>a.id<b.id)){ns:List Int}(hp:ns.Perm (cs.map CA.id))(hs:ns.Pairwise (fun a b=>a≤b)):ns=cs.map CA.id :=
 List.Perm.eq_of_pairwise (le:=fun a b:Int=>a≤b) (fun a b _ _ h1 h2=>Int.le_antisymm h1 h2) hs ((List.pairwise_map.2 (h.imp fun h=>Int.le_of_lt h))) hp
def FV{l m:Nat}{cs:List CA}(fg:l≠m)(hc:Ql cs) :
  aA Tryz.prog 96 [.fn (.func 246) [] [.ptr l 0 0]] ((ka.set l (.row 249 1 [[.db m]])).set m (.mp (dm cs))) fun r af =>
   r=.aj 1 (cs.map fun c=>[.int .i64 c.id]) false∧af=(ka.set l (.row 249 1 [[.db m]])).set m (.mp (dm cs)):=by
 refine(FU fg (sH cs) (fun n hn=>?_) (by simp[dm];exact hc.2.2)).mono fun r af h=>?_
 ·rw[Dn] at hn;obtain⟨c,h1,rfl⟩:=gg.1 hn;have:=hc.2.1 c h1;exact Jr oM
 ·obtain⟨⟨ns,h1,h2,rfl⟩,rfl⟩:=h;rw[Dn] at h1;rw[Jc hc.1 h1 h2];simp
def Q4{cs:List CA}(h:cs.Pairwise (fun a b=>a.id<b.id)){i:Nat}{c:CA}(hi:cs[i]?=some c):eG c.id (dm cs)=some (.agg c.c):=by
 induction cs generalizing i with
 |nil=>simp at hi
 |cons d r ih =>
  obtain⟨h1,h2⟩:=ft.1 h;cases i with
  |zero =>
   simp at hi;subst hi;simp[dm,eG]
  |succ i =>
   have hi:r[i]?=some c:=by simpa using hi
   have:=h1 c (co hi);have h3:eG c.id (dm (d::r))=eG c.id (dm r):=by simp only[dm,dt,eG];rw[if_neg oM]
   rw[h3];exact ih h2 hi
def FP(next:Int)(l m:Nat)(dead:MV)(cs:List CA)(lg:l≠m)(hc:Ql cs):aA Tryz.prog 135 [.ptr l 0 0] ((ka.set m (.mp (dm cs))).set l (fh next m dead)) (fun v af=>v=.aj 27 (cs.map CA.c) false∧af=(ka.set m (.mp (dm cs))).set l (fh next m dead)):=by
 refine aA.DY (mB 30 [.tmp 2] Tryz.func135 ?_);have hk:=Ka m;obtain⟨K,hK⟩:∃K:List (List MV),(cs.map fun c=>[MV.int .i64 c.id])=K:=⟨_,rfl⟩
 have mz:K.length=cs.length:=by rw[←hK];simp
 have th:∀{b:Nat},(ka.set m (.mp (dm cs))).set l (fh next m dead) b=none→b≠m∧b≠l:=fun {b} hb =>
  ⟨fun e=>by subst e;simp[kb,jn lg] at hb,fun e=>by subst e;simp[kb] at hb⟩
 have hs:∀{b:Nat},(ka.set m (.mp (dm cs))).set l (fh next m dead) b=none→aA Tryz.prog 96 [.fn (.func 246) [] [.ptr b 0 0]] ((ka.set b (.row 249 1 [[.db m]])).set m (.mp (dm cs))) fun r af =>
   r=.aj 1 K false∧af=(ka.set b (.row 249 1 [[.db m]])).set m (.mp (dm cs)):=fun {b} hb=>by rw[←hK];exact FV (th hb).1 hc
 have hle:∀{b:Nat},(ka.set m (.mp (dm cs))).set l (fh next m dead) b=none→((ka.set b (.row 249 1 [[.db m]])).set m (.mp (dm cs))).le (((ka.set m (.mp (dm cs))).set l (fh next m dead)).set b (.row 249 1 [[.db m]])):=fun {b} hb =>
  ni cj ((cn (jn (th hb).1)).trans ((cn (jn lg)).trans cj))
 have hlen:=hc.2.2;repeat' first|(refine hU hk ?_;intro b hb)|((refine dB (hs bc) (hle bc) ?_))|refine bu @Tryz.f135.eq_1 @mz ?_|fail
 refine aG (α:=Nat×Nat×List (List MV)) (fun a=>⟨30,[(15,.int .i64 (a.1:Int)),(14,.int .i64 (cs.length:Int)),(13,.aj 1 K false),(3,.vec 27 a.2.1 0 a.1),(0,.ptr l 0 0)],[]⟩)
  (fun a=>((ka.set m (.mp (dm cs))).set l (fh next m dead)).set a.2.1 (.row 126 27 ((cs.take a.1).map CA.c++a.2.2))) (fun a=>a.1≤cs.length∧a.2.1≠m∧a.2.1≠l) (fun a=>cs.length-a.1) ?_ ?_
 ·refine Gh.step (.drop (σ1:=(ka.set m (.mp (dm cs))).set l (fh next m dead)) fun j o h=>?_) (Gh.yN 126 27 (fun q=>[(15,.int .i64 0),(14,.int .i64 (cs.length:Int)),(13,.aj 1 K false),(3,.vec 27 q 0 0),(0,.ptr l 0 0)]) (fun k=>by(repeat' (refine And.intro ?_ ?_))<;>first|exact trivial|exact .inl rfl|exact .inr ⟨rfl,.inl rfl⟩|exact .inr ⟨rfl,.inr rfl⟩) fun q hq=>?_)
  ·exact(cn (fun e=>by subst e;rw[hb] at h;cases h)).trans h
  ·obtain⟨q2,hq⟩:=Ao hq;obtain⟨q1,-⟩:=Ao hq;exact .done ⟨(0,q,[]),rfl,rfl,hE _,q1,q2⟩
 ·rintro⟨k,q,ex⟩ ⟨hk,q1,q2⟩;simp only at hk q1 q2 ⊢;have q1':=jn q1;have q2':=jn q2;have bn:=jn lg;by_cases h8:k<cs.length
  ·obtain⟨c,er⟩:∃c,cs[k]?=some c:=⟨_,cv h8⟩
   have zj:K.getD k []=[.int .i64 c.id]:=by rw[←hK,ct,du,er];rfl
   have hg:=Q4 hc.1 er;have ky:cs.take (k+1)=cs.take k++[c]:=by rw[ge,er];rfl
   have ef:=sH cs;have htl:(cs.take k).length=k:=by rw[d8];omega
   obtain⟨L,hL⟩:∃L,cs.take k=L:=⟨_,rfl⟩
   rw[hL] at htl ky ⊢;have fi:(L.map CA.c++ex).take k=L.map CA.c:=by rw[←htl];exact rW
   have gv:(L.map CA.c++ex).drop (k+1)=ex.drop 1:=by rw[←htl];exact tQ
   repeat' first|(refine wM ?_;(first|(have _:=ak)|(have _:=ah;intro ak)|(intro ah));intros)|(refine wY ?_ ?_<;>intro h)|refine wZ9 @Option.getD_some.{0} @Zn @zj @hg @ef @fi @gv @htl @mz ?_|fail
   ·have hex:ex=[]:=da oM;subst hex;refine .of (.less ?_ (σ1:=((ka.set m (.mp (dm cs))).set l (fh next m dead)).set ak (.row 126 27 (L.map CA.c++[]++[c.c]))) (Mz (by simp[kb,ka, *]))) ⟨(k+1,ak,[]),rfl,by simp[ky],⟨by simp only;omega,bc,bc⟩,by simp only;omega⟩;exact wW
   ·refine .of (.less ?_ (σ1:=((ka.set m (.mp (dm cs))).set l (fh next m dead)).set ak (.row 126 27 (L.map CA.c++[c.c]++ex.drop 1))) (Mz (by simp[kb,ka, *]))) ⟨(k+1,ak,ex.drop 1),rfl,by simp[ky],⟨by simp only;omega,bc,bc⟩,by simp only;omega⟩;exact wW
  ·have:k=cs.length:=oM;subst this;rw[d7];repeat' first|refine aw @mz ?_|fail
   exact Tt ((cn q2).trans (cn q1)) (by rw[df])
def nu:List (FuncId×Fact)→b9
 |[]=>fun _ _=>none
 |(g',F)::r=>fun g ms=>if g=g' then some F else nu r g ms
def cH{g:FuncId}{F:Fact}{r:List (FuncId×Fact)}{ms:List MV}:nu ((g,F)::r) g ms=some F:=by simp[nu]
def iB{g g':FuncId}{F F':Fact}{r:List (FuncId×Fact)}{ms:List MV}(h:nu r g ms=some F)(fg:(g==g')=false:=by rfl):nu ((g',F')::r) g ms=some F:=by
 have:g≠g':=by simpa using fg
 simp[nu,this,h]
def kw1(g:FuncId)(F:Fact):∃C:b9,∀ms,C g ms=some F:=⟨nu ([(g,F)]),fun _=>cH⟩
def yn(g1:FuncId)(F1:Fact)(g2:FuncId)(F2:Fact)(h12:(g2==g1)=false:=by rfl):∃C:b9,(∀ms,C g1 ms=some F1)∧(∀ms,C g2 ms=some F2):=⟨nu ([(g1,F1),(g2,F2)]),fun _=>cH,fun _=>iB (cH) h12⟩
def kw4(g1:FuncId)(F1:Fact)(g2:FuncId)(F2:Fact)(g3:FuncId)(F3:Fact)(g4:FuncId)(F4:Fact)(h12:(g2==g1)=false:=by rfl)(h13:(g3==g1)=false:=by rfl)(h23:(g3==g2)=false:=by rfl)(h14:(g4==g1)=false:=by rfl)(h24:(g4==g2)=false:=by rfl)(h34:(g4==g3)=false:=by rfl):∃C:b9,(∀ms,C g1 ms=some F1)∧(∀ms,C g2 ms=some F2)∧(∀ms,C g3 ms=some F3)∧(∀ms,C g4 ms=some F4):=⟨nu ([(g1,F1),(g2,F2),(g3,F3),(g4,F4)]),fun _=>cH,fun _=>iB (cH) h12,fun _=>iB (iB (cH) h23) h13,fun _=>iB (iB (iB (cH) h34) h24) h14⟩
def eR{P:Program}{C:b9}{g:FuncId}{ms:List MV}{σ:St}{k:MV→St→Prop}(rd:List Nat)(os:List aY){r:MV}(hC:C g ms=some ⟨rd,fun v=>v=r,none⟩)(yl:rd.map σ=os.map some)
 (h:aA P g ms (St.ofList rd os) fun v af=>v=r∧af=St.ofList rd os)(hk:R (cD r σ k)):R (rC P C g ms σ k) :=
 UE rd os hC yl h ⟨r,rfl⟩ fun v hv=>by subst hv;exact hk
def pG{Φ:bd}{w:World}{σ:St}(hi:Inv Φ w σ){l:Nat}{t:TypeId}{e o:Nat}{c0 m:MV}{x:List MV}(hs:σ l=some (.row t e [x]))(xf:x[o]?=some c0)(hm:m.aP=true){v:Value}(hv:Rel Φ v m) :
  ∃p R v0,Φ.obj l=some p∧p.jh=some R∧w.cell? ⟨R,p.bo+o,none⟩=some v0∧Rel Φ v0 c0∧w.frozen? ⟨R,p.bo+o,none⟩=false ∧
   Inv Φ (w.setCell ⟨R,p.bo+o,none⟩ v) (σ.set l (.row t e [x.set o m]))∧Step Φ σ w Φ (σ.set l (.row t e [x.set o m])) (w.setCell ⟨R,p.bo+o,none⟩ v):=by
 obtain⟨p,hp,iz,q1,q2,q3,q4⟩:=hi.own l _ hs;have he:x.length=e:=q3 0 _ rfl;have hol:o<x.length:=(cr.1 xf).1;simp only[ci,d6] at q1;cases hb:p.jh with
 |none=>rw[hb] at q4;simp only at q4;omega
 |some R =>
  rw[hb] at q4;obtain⟨c,fz,k1,k2,k3,k4⟩:=q4;have bh:R<w.heap.size:=(kr.1 k1).1;obtain⟨hc0,v0,hv0,hr0⟩:=k4 0 _ o c0 rfl xf;simp only[jb,je] at hv0;have hbo:p.bo+o<c.size:=(kr.1 hv0).1;refine⟨p,R,v0,hp,hb,by simpa[b7,k1] using hv0,hr0,?_,?_⟩
  ·obtain⟨f1,f2⟩:=fz;simp only[World.frozen?,k1,Bool.and_eq_false_iff,decide_eq_false_iff_not];simp only at k2;rcases k2 with k2|k2
   ·by_cases h:f1≤p.bo+o
    ·right;omega
    ·left;exact h
   ·left;omega
  ·rw[xG k1];refine hi.F6 l hs _ hp hb jJ (fun k hk=>fL hk) rfl rfl rfl (g9 _) ⟨p,hp,iz,by simpa using q1,q2,fun i y hy=>?_,?_⟩
   ·match i with
    |0=>simp only[fu,ju] at hy;subst hy;simpa using he
    |i+1=>simp at hy
   ·rw[hb];refine⟨_,fz,iR bh,by simpa[Ay] using k2,by simpa using k3,fun i y j m' hy lu=>?_⟩
    match i with
    |0 =>
     simp only[fu,ju] at hy;subst hy;simp only[jb,je];rw[List.getElem?_set] at lu;by_cases hj:o=j
     ·subst hj;rw[if_pos rfl,if_pos hol] at lu;cases lu;exact⟨hm,v,by simp[hbo],hv⟩
     ·rw[if_neg hj] at lu;have:=k4 0 _ j m' rfl lu;simp only[jb,je] at this
      rwa [kv oM]
    |i+1=>simp at hy
def Ap{Φ:bd}{vs:Array Value}{l i o:Nat}{r:List MV}(hr:iX Φ vs (.ptr l i o::r)):∃p R,Φ.obj l=some p∧p.jh=some R∧vs.getD 0 undef=.pointer (some ⟨R,p.bo+i*p.e+o,none⟩):=(hr.2 0 _ rfl).jU
abbrev SA.v(s:SA)(q:Nat):List MV:=s.bk.c++[.aj 7 (s.subs.map SU.c) false,.vec 12 q 0 s.rows.length]
section
open Go.Shelf Go.RowKit Go.Lib
def nN{P:Program}{K e:Nat}{el:TypeId}{t tr:Bool}(hn:aA P K [.aK] ka fun r _=>r=.aK)
 (hr:∀(a:Addr) (c:Nat) (w:World),Calls P K #[.slice (some a) 0 c] w fun e w'=>e=.returned (.slice (some ⟨w.heap.size,0,none⟩) 0 0)∧w'=w.alloc (.cells #[] el)):aA P K [.aj e [] t] ka fun r _=>r=.aj e [] tr:=by
 refine⟨hn.1,fun Φ w vs hi hv=>?_⟩;have h0:=hv.2 0 _ rfl;have h1:vs=#[vs.getD 0 undef]:=by
  have hz:=hv.1;refine lc (by simpa using hz) fun i q1 q2=>?_;have:i=0:=by simp at q2;omega
  subst this;simp[lr,q1]
 generalize vs.getD 0 undef=v at h0 h1;subst h1;cases h0 with
 |nj =>
  refine(hn.2 Φ w _ hi ⟨rfl,fun i m hm=>?_⟩).mono ?_
  ·match i with
   |0=>simp at hm;subst hm;exact .aK
   |i+1=>simp at hm
  ·rintro x w' ⟨v,mv,af,Φ',rfl,r1,i1,s1,rfl⟩;refine⟨v,_,af,Φ',rfl,?_,i1,s1,rfl⟩;cases r1;exact .nj _ _
 |qa a e c t ht hm =>
  refine(hr a c w).mono ?_;rintro x w' ⟨rfl,rfl⟩;obtain⟨i1,s1⟩:=hi.grow (w':=w.alloc (.cells #[] el)) rfl rfl rfl (g9 _) ax (fun k hk=>by
   show(w.heap.push _)[k]?=_;rw[kw,if_neg oM])
  exact⟨_,_,_,Φ,rfl,.qa _ _ 0 _ (fun h=>rfl) (hE _),i1,s1,rfl⟩
 |aj hl h0=>simp at hl;omega
def JP(a:Addr)(c:Nat)(w:World):Calls Tryz.prog 104 #[.slice (some a) 0 c] w fun e w'=>e=.returned (.slice (some ⟨w.heap.size,0,none⟩) 0 0)∧w'=w.alloc (.cells #[] 121):=by
 have q22:∀(w:World) (a:Option Addr) (n c n' c':Nat),(binOp .eql 22 (.slice a n c) (.slice none n' c')).run Tryz.prog w=.ok (.bool a.isNone) w:=fun w a n c n' c'=>Lib.run_eql_slice_nil w _ _ a n c n' c' Tryz.underlying22;have u22:∀w,Sem.run Tryz.prog (underlying 22) w=.ok (TypeDesc.slice 121) w:=run_underlying Tryz.underlying22
 go_enter Tryz.func104,Tryz.ntmps104
 go_wp2
 go_ret
 exact⟨rfl,rfl⟩
def Gx:aA Tryz.prog 104 [.aK] ka (fun r _=>r=.aK):=by refine(mB 8 [.tmp 2] Tryz.func104 ?_);repeat' first|refine aw @Tryz.f104.eq_1 ?_|exact ev @Tryz.f104.eq_1|fail
def Ee(e:Nat)(t:Bool):aA Tryz.prog 104 [.aj e [] t] ka (fun r _=>r=.aj e [] false):=nN Gx JP
def AF(a:Addr)(c:Nat)(w:World):Calls Tryz.prog 114 #[.slice (some a) 0 c] w fun e w'=>e=.returned (.slice (some ⟨w.heap.size,0,none⟩) 0 0)∧w'=w.alloc (.cells #[] 3):=by
 have q22:∀(w:World) (a:Option Addr) (n c n' c':Nat),(binOp .eql 75 (.slice a n c) (.slice none n' c')).run Tryz.prog w=.ok (.bool a.isNone) w:=fun w a n c n' c'=>Lib.run_eql_slice_nil w _ _ a n c n' c' Tryz.underlying75;have u22:∀w,Sem.run Tryz.prog (underlying 75) w=.ok (TypeDesc.slice 3) w:=run_underlying Tryz.underlying75
 go_enter Tryz.func114,Tryz.ntmps114
 go_wp2
 go_ret
 exact⟨rfl,rfl⟩
def zA:aA Tryz.prog 114 [.aK] ka (fun r _=>r=.aK):=by refine(mB 8 [.tmp 2] Tryz.func114 ?_);repeat' first|refine aw @Tryz.f114.eq_1 ?_|exact ev @Tryz.f114.eq_1|fail
def Ed(e:Nat)(t:Bool):aA Tryz.prog 114 [.aj e [] t] ka (fun r _=>r=.aj e [] false):=nN zA AF
end
def Gw(l:List ND)(hl:l.length≤1000000)(t:Bool):aA Tryz.prog 104 [.aj 5 (l.map g8) t] ka (fun r _=>r=.aj 5 (l.map g8) false):=by
 cases l with
 |nil=>exact Ee 5 t
 |cons x m =>
  refine lv (mB 8 [.tmp 2] Tryz.func104 ?_);simp only[ci] at hl;repeat' first|(refine wO ?_;intros)|refine aw @Tryz.f104.eq_1 ?_|fail
  exact .cq cj (by simp only[df,ci])
def qL(l:List Int)(hl:l.length≤1000000)(t:Bool):aA Tryz.prog 114 [.aj 1 (l.map aU) t] ka (fun r _=>r=.aj 1 (l.map aU) false):=by
 cases l with
 |nil=>exact Ed 1 t
 |cons x m =>
  refine lv (mB 8 [.tmp 2] Tryz.func114 ?_);simp only[ci] at hl;repeat' first|(refine wO ?_;intros)|refine aw @Tryz.f114.eq_1 ?_|fail
  exact .cq cj (by simp only[df,ci])
def Hf(op:Int):FuncId:=if op=1 then 251 else if op=3 then 252 else if op=4 then 254 else if op=5 then 255 else if op=6 then 256 else if op=7 then 257 else if op=8 then 259 else if op=9 then 260 else 262
def Dq(x:ND):List MV:=if 3≤x.op∧x.op≤9 then[.cg x.c] else[]
def Dr(x:ND):MV:=.fn (.func (Hf x.op)) [] (Dq x)
def N7(x:ND):aA Tryz.prog 205 [.agg x.c] ka (fun r _=>r=Dr x):=by
 refine lv (mB 28 [.tmp 2] Tryz.func205 ?_);unfold Dr Hf Dq;have ho:x.op=1∨x.op=3∨x.op=4∨x.op=5∨x.op=6∨x.op=7∨x.op=8∨x.op=9∨(¬x.op=1∧¬x.op=3∧¬x.op=4∧¬x.op=5∧¬x.op=6∧¬x.op=7∧¬x.op=8∧¬x.op=9):=oM;rcases ho with h|h|h|h|h|h|h|h|⟨h1,h3,h4,h5,h6,h7,h8,h9⟩
 all_goals try simp(config:={ decide:=true }) only[h,if_true,if_false]
 ·repeat' first|(refine wO ?_;intros)|refine bu @Tryz.f205.eq_1 @h ?_|fail
  exact .same _
 iterate 7
  ·repeat' first|(refine wO ?_;intros)|refine bu @Tryz.f205.eq_1 @h ?_|fail
   exact .fn rfl (yZ (.ptr cj ax))
 ·rw[if_neg h1,if_neg h3,if_neg h4,if_neg h5,if_neg h6,if_neg h7,if_neg h8,if_neg h9,if_neg oM];repeat' first|(refine wO ?_;intros)|refine wZ9 @Tryz.f205.eq_1 @h1 @h3 @h4 @h5 @h6 @h7 @h8 @h9 ?_|fail
  exact .same _
abbrev qK(c:CA):CD:=⟨c.id,c.c9,c.fp.toNat,c.f.l⟩
def Xt(c:CA)(g:Int):aA Tryz.prog 251 [.cg c.c,.int .u32 g] ka (fun r _=>r=.bool true):=by refine(mB 5 [.tmp 4] Tryz.func251 ?_);repeat' first|refine aw @Tryz.f251.eq_1 ?_|exact ev @Tryz.f251.eq_1|fail
def XB(c:CA)(g:Int):aA Tryz.prog 262 [.cg c.c,.int .u32 g] ka (fun r _=>r=.bool false):=by refine(mB 5 [.tmp 4] Tryz.func262 ?_);repeat' first|refine aw @Tryz.f262.eq_1 ?_|exact ev @Tryz.f262.eq_1|fail
def Xu(c:CA)(g:Int)(x:ND){n:Nat}(hx:x.n=n)(hn:n<32):aA Tryz.prog 252 [.cg c.c,.int .u32 g,.cg x.c] ka (fun r _=>r=.bool (hasB c.fp.toNat x.n)):=by refine(mB 13 [.tmp 5] Tryz.func252 ?_);have h:=Bp c.fp.toNat n c.fp.toNat_lt hn;rw[hx];obtain⟨C,c1⟩:=kw1 253 ⟨[],fun v=>v=.bool (hasB c.fp.toNat n),none⟩;repeat' first|((with_reducible refine aJ mixed ?chk C ?_);(case chk=>decide +kernel))|(with_reducible refine aF (c1 _) h ?_)|refine fx @Tryz.f252.eq_1 @hx @Zn ?_|exact tk @Tryz.f252.eq_1 @hx @Zn|fail
def Xv(c:CA)(g:Nat)(hg:g<4294967296)(x:ND){n:Nat}(hx:x.n=n)(hn:n<32):aA Tryz.prog 254 [.cg c.c,.int .u32 (g:Int),.cg x.c] ka (fun r _=>r=.bool (hasB g x.n)):=by refine(mB 10 [.tmp 5] Tryz.func254 ?_);have h:=Bp g n hg hn;rw[hx];repeat' first|(with_reducible first|refine up h ?_)|refine bu @Tryz.f254.eq_1 @hx ?_|exact fk @Tryz.f254.eq_1 @hx|fail
def Xw(c:CA)(g:Int)(x:ND){k:Nat}(hx:x.n=k)(hk:k<8):aA Tryz.prog 255 [.cg c.c,.int .u32 g,.cg x.c] ka (fun r _=>r=.bool (!decide ((c.f.get k).kd=0))):=by
 refine(mB 15 [.tmp 5] Tryz.func255 ?_);have gv:(fc c.f).drop (k*3)=.int .i64 (c.f.get k).kd::.int .i64 (c.f.get k).n::.str (c.f.get k).s::(fc c.f).drop ((k+1)*3):=kD (f:=c.f) hk;repeat' first|(refine wO ?_;intros)|refine jf @Tryz.f255.eq_1 @hx @Zn @gv ?_|exact ZY @Tryz.f255.eq_1 @hx @Zn @gv|fail
 all_goals first|done|(simp;done)|skip
def Xx(c:CA)(g:Int)(x:ND){k:Nat}(hx:x.n=k)(hk:k<8):aA Tryz.prog 256 [.cg c.c,.int .u32 g,.cg x.c] ka (fun r _=>r=.bool (decide (c.f.get k=x.v))):=by
 refine(mB 16 [.tmp 5] Tryz.func256 ?_);have ay:=qT (f:=c.f) hk;repeat' first|(refine wO ?_;intros)|refine jf @Tryz.f256.eq_1 @hx @Zn @ay ?_|fail
 exact D5
def Xy(c:CA)(g:Int)(x:ND){k:Nat}(hx:x.n=k)(hk:k<8):aA Tryz.prog 257 [.cg c.c,.int .u32 g,.cg x.c] ka (fun r _=>r=.bool (lU (c.f.get k) x.v)):=by refine(mB 16 [.tmp 5] Tryz.func257 ?_);have ay:=qT (f:=c.f) hk;have h:=zK (c.f.get k) x.v;obtain⟨C,c1⟩:=kw1 258 ⟨[],fun v=>v=.bool (lU (c.f.get k) x.v),none⟩;repeat' first|((with_reducible refine aJ mixed ?chk C ?_);(case chk=>decide +kernel))|(with_reducible refine aF (c1 _) h ?_)|refine jf @Tryz.f257.eq_1 @hx @Zn @ay ?_|exact ZY @Tryz.f257.eq_1 @hx @Zn @ay|fail
def Xz(c:CA)(g:Int)(x:ND){k:Nat}(hx:x.n=k)(hk:k<8):aA Tryz.prog 259 [.cg c.c,.int .u32 g,.cg x.c] ka (fun r _=>r=.bool (lU x.v (c.f.get k))):=by refine(mB 16 [.tmp 5] Tryz.func259 ?_);have ay:=qT (f:=c.f) hk;have h:=zK x.v (c.f.get k);obtain⟨C,c1⟩:=kw1 258 ⟨[],fun v=>v=.bool (lU x.v (c.f.get k)),none⟩;repeat' first|((with_reducible refine aJ mixed ?chk C ?_);(case chk=>decide +kernel))|(with_reducible refine aF (c1 _) h ?_)|refine jf @Tryz.f259.eq_1 @hx @Zn @ay ?_|exact ZY @Tryz.f259.eq_1 @hx @Zn @ay|fail
def XA(c:CA)(g:Int)(x:ND){k:Nat}(hx:x.n=k)(hk:k<8)(h1:(c.f.get k).s.size≤1000000)(h2:x.v.s.size≤1000000):aA Tryz.prog 260 [.cg c.c,.int .u32 g,.cg x.c] ka (fun r _=>r=.bool (mT (c.f.get k) x.v)):=by refine(mB 16 [.tmp 5] Tryz.func260 ?_);have ay:=qT (f:=c.f) hk;have h:=Io (c.f.get k) x.v h1 h2;obtain⟨C,c1⟩:=kw1 261 ⟨[],fun v=>v=.bool (mT (c.f.get k) x.v),none⟩;repeat' first|((with_reducible refine aJ mixed ?chk C ?_);(case chk=>decide +kernel))|(with_reducible refine aF (c1 _) h ?_)|refine jf @Tryz.f260.eq_1 @hx @Zn @ay ?_|exact ZY @Tryz.f260.eq_1 @hx @Zn @ay|fail
def XC(c:CA)(hc:∀k,(c.f.get k).s.size≤1000000)(g:Nat)(hg:g<4294967296)(x:ND)(hx:gB x=true):aA Tryz.prog (Hf x.op) ([.cg c.c,.int .u32 (g:Int)]++Dq x) ka (fun r _=>r=.bool (cW (qK c) g x)):=by
 have hxs:=DL hx;have ho:x.op=1∨x.op=3∨x.op=4∨x.op=5∨x.op=6∨x.op=7∨x.op=8∨x.op=9∨(¬x.op=1∧¬x.op=3∧¬x.op=4∧¬x.op=5∧¬x.op=6∧¬x.op=7∧¬x.op=8∧¬x.op=9):=oM;have hn:3≤x.op→x.op≤9→0≤x.n∧x.n<16∧(5≤x.op→x.n<8):=fun h1 h2=>by have h:=hx;have e:x.op=3∨x.op=4∨x.op=5∨x.op=6∨x.op=7∨x.op=8∨x.op=9:=oM;rcases e with e|e|e|e|e|e|e<;>simp[gB,e] at h<;>omega
 have ve:3≤x.op→x.op≤9→∃k:Nat,x.n=k∧k<16∧(5≤x.op→k<8):=fun h1 h2=>by obtain⟨q1,q2,q3⟩:=hn h1 h2;exact⟨x.n.toNat,oM,oM,fun h=>by have:=q3 h;omega⟩
 unfold Hf Dq cW;rcases ho with h|h|h|h|h|h|h|h|⟨h1,h3,h4,h5,h6,h7,h8,h9⟩
 ·simp(config:={ decide:=true }) only[h,if_true,if_false];exact Xt c g
 ·obtain⟨k,e,h16,_⟩:=ve oM oM;simp(config:={ decide:=true }) only[h,if_true,if_false];exact Xu c g x e oM
 ·obtain⟨k,e,h16,_⟩:=ve oM oM;simp(config:={ decide:=true }) only[h,if_true,if_false];exact Xv c g hg x e oM
 ·obtain⟨k,e,_,h8⟩:=ve oM oM;simp(config:={ decide:=true }) only[h,if_true,if_false];have:=Xw c g x e (h8 oM);rw[show x.n.toNat=k by omega];exact this
 ·obtain⟨k,e,_,h8⟩:=ve oM oM;simp(config:={ decide:=true }) only[h,if_true,if_false];have:=Xx c g x e (h8 oM);rw[show x.n.toNat=k by omega];exact this
 ·obtain⟨k,e,_,h8⟩:=ve oM oM;simp(config:={ decide:=true }) only[h,if_true,if_false];have:=Xy c g x e (h8 oM);rw[show x.n.toNat=k by omega];exact this
 ·obtain⟨k,e,_,h8⟩:=ve oM oM;simp(config:={ decide:=true }) only[h,if_true,if_false];have:=Xz c g x e (h8 oM);rw[show x.n.toNat=k by omega];exact this
 ·obtain⟨k,e,_,h8⟩:=ve oM oM;simp(config:={ decide:=true }) only[h,if_true,if_false];have:=XA c g x e (h8 oM) (hc k) hxs;rw[show x.n.toNat=k by omega];exact this
 ·rw[if_neg h1,if_neg h3,if_neg h4,if_neg h5,if_neg h6,if_neg h7,if_neg h8,if_neg h9,if_neg oM,if_neg h1,if_neg h3,if_neg h4,if_neg h5,if_neg h6,if_neg h7,if_neg h8,if_neg h9];exact XB c g
section
def s6:Int→List Int→Bool
 |_,[]=>true
 |last,x::l=>decide (last<x∧1≤x∧x<jT)&&s6 x l
def jF:Int→List GR→Bool
 |_,[]=>true
 |last,g::l=>decide (last<g.no∧0≤g.no∧g.no<16)&&s6 0 g.mem&&jF g.no l
def i6(a b:List Int):List Int:=a.filter fun x=>!decide (x∈b)
def se(id:Int)(s:Nat)(g:GR):Nat:=if id∈g.mem then s ||| 2 ^ g.no.toNat else s
def jx(l:List GR)(id:Int):Nat:=l.foldl (se id) 0
def kR(nx:Int):Int→List CA→Bool
 |_,[]=>true
 |last,c::l=>iY c&&decide (last<c.id∧c.id<nx)&&kR nx c.id l
def XJ(nx:Int)(cs:List CA)(pre:List DE)(d:DE):Bool :=
 decide (1≤d.id∧d.id<nx∧1≤d.c9∧d.c9≤yc∧0≤d.sq∧d.sq≤yc)&&decide (d.id∉cs.map CA.id)&&pre.all fun e=>decide (e.id≠d.id∧e.sq≤d.sq)
def AI(nx:Int)(cs:List CA):List DE→List DE→Bool
 |_,[]=>true
 |pre,d::l=>XJ nx cs pre d&&AI nx cs (pre++[d]) l
def W6(nx:Int)(cs:List CA)(ds:List DE):Bool :=
 decide (1≤nx∧nx≤jT∧cs.length≤48∧ds.length≤40)&&(kR nx 0 cs&&AI nx cs [] ds)
def Nl(b:BK):Bool :=
 W6 b.nx b.ae b.dead&&decide (0≤b.sq∧b.sq≤yc)&&jF (-1) b.gr&&(b.dead.all fun d=>decide (d.sq≤b.sq))&&b.gr.all fun g=>decide (i6 g.mem (b.ae.map CA.id)=[])
def lV(f:F8)(m:Nat):Nat→F8
 |0=>f80
 |i+1=>if bit m i=true then(lV f m i).set i (f.get i) else lV f m i
def VZ(f:F8)(m:Nat):F8:=lV f m 8
def fV(c:CA)(m:UInt32):CA:=⟨c.id,c.c9,if bit m.toNat 8=true then c.fp else 0,VZ c.f m.toNat⟩
def gH:List TU→Int→Option Int
 |[],_=>none
 |t::l,id=>match gH l id with
  |some v=>some v
  |none=>if t.id=id then some t.new else none
open Classical in
noncomputable def rX(fl:List ND):T:=if h:∃t:T,Good t∧fl=t.fl then h.choose else .leaf jd
noncomputable def fJ(gr:List GR)(fl:List ND)(c:CA):Bool:=(rX fl).kz (cW (qK c) (jx gr c.id))
noncomputable def shown(b:BK)(fl:List ND)(id:Int):Option CA :=
 match b.ae.find? (fun c=>decide (c.id=id)) with
 |none=>none
 |some c=>if fJ b.gr fl c=true then some c else none
noncomputable def dE(b:BK)(fl:List ND)(id:Int):Int:=((shown b fl id).getD ig).c9
noncomputable def bY(b:BK)(fl:List ND)(m:UInt32)(cur:Int):List CA:=(b.ae.filter fun c=>decide (c.id≤cur)&&fJ b.gr fl c).map fun c=>fV c m
noncomputable def Ux(b:BK)(fl:List ND):List Int:=(b.ae.filter (fJ b.gr fl)).map CA.id
def Au{fl:List ND}(h:bR fl=0):Good (rX fl)∧(rX fl).fl=fl∧fl.length≤31:=by
 obtain⟨h1,h2,h3,h4,h5⟩:=(Ix fl).1 h;have hf:Un fl=true:=by unfold Un;rw[h4,decide_eq_true h3,decide_eq_true ⟨h2,oM⟩];rfl
 obtain⟨t,ok,e,_,hn⟩:=QP hf;have hex:∃t:T,Good t∧fl=t.fl:=⟨t,⟨ok,fun x hx=>hn x (by rw[e];exact hx)⟩,e⟩
 unfold rX;rw[dif_pos hex];exact⟨hex.choose_spec.1,hex.choose_spec.2.symm,h1⟩
theorem Mt{id:Int}:∀(pre:List GR) (g:GR) (r:List GR) (lo:Int) (s:Nat),-1≤lo→s<2 ^ (lo+1).toNat→jF lo (pre++g::r)=true→pre.foldl (se id) s<2 ^ g.no.toNat
 |[],g,r,lo,s,h0,hs,h=>by
  simp only[d0,jF,ag,decide_eq_true_eq] at h;exact hT hs (hM oM oM)
 |x::pre,g,r,lo,s,h0,hs,h=>by
  simp only[cx,jF,ag,decide_eq_true_eq] at h;obtain⟨⟨⟨h1,h2,h3⟩,h4⟩,h5⟩:=h;rw[List.foldl_cons];refine Mt pre g r x.no _ oM ?_ h5;have bh:s<2 ^ x.no.toNat:=hT hs (hM oM oM);have e:(x.no+1).toNat=x.no.toNat+1:=oM;rw[e];have hp:2 ^ x.no.toNat<2 ^ (x.no.toNat+1):=hO oM oM;unfold se;split
  ·exact ip oM hp
  ·omega
theorem GS:∀(pre:List GR) (g:GR) (r:List GR) (lo:Int),jF lo (pre++g::r)=true→0≤g.no∧g.no<16∧s6 0 g.mem=true
 |[],g,r,lo,h=>by
  simp only[d0,jF,ag,decide_eq_true_eq] at h;exact⟨h.1.1.2.1,h.1.1.2.2,h.1.2⟩
 |x::pre,g,r,lo,h=>by simp only[cx,jF,ag,decide_eq_true_eq] at h;exact GS pre g r x.no h.2
def rT{α:Type}(l:List α){i:Nat}{x:α}(h:l[i]?=some x):l=l.take i++x::l.drop (i+1):=by
 have hi:i<l.length:=(cr.1 h).1;have e:=(cr.1 h).2
 conv=>lhs;rw[←gt i l,dl hi,e]
def aW{α:Type}{l:List α}{i:Nat}{x:α}(h:l[i]?=some x):l.take (i+1)=l.take i++[x]:=by rw[ge,h];rfl
def Ek{α:Type}{l:List α}{i:Nat}{x:α}(h:l[i]?=some x):l.drop i=x::l.drop (i+1):=by have hi:i<l.length:=(cr.1 h).1;have e:=(cr.1 h).2;rw[dl hi,e]
def JZ{l:List GR}(h:jF (-1) l=true){i:Nat}{g:GR}(hi:l[i]?=some g)(id:Int):jx (l.take i) id<2 ^ g.no.toNat∧0≤g.no∧g.no<16∧s6 0 g.mem=true:=by rw[rT l hi] at h;exact⟨Mt _ g _ (-1) 0 oM ax h,GS _ g _ _ h⟩
def AW{l:List GR}{i:Nat}{g:GR}(hi:l[i]?=some g)(id:Int):jx (l.take (i+1)) id=se id (jx (l.take i) id) g:=by rw[aW hi,jx,List.foldl_append];rfl
def bJ{α:Type}{l:List α}{f:α→List MV}{i:Nat}{x:α}(h:l[i]?=some x):(l.map f).getD i []=f x:=by rw[ct,du,h];rfl
def bX{α:Type}(l:List α){i:Nat}(h:i<l.length):∃x,l[i]?=some x:=⟨_,cv h⟩
def Wx{l:List Int}{i:Nat}{x:Int}(h:l[i]?=some x)(hn:x∉l.take i):l.idxOf x=i:=by have hi:i<l.length:=(cr.1 h).1;rw[rT l h,List.idxOf_append,if_neg hn,List.idxOf_cons_self,d8];omega
def rJ(l:List Int)(x:Int):Int:=if x∈l then(l.idxOf x:Int) else -1
def Lh{l:List Int}{x:Int}:(rJ l x<0)=(x∉l):=propext (by unfold rJ;split<;>simp[*])
def dJ{α:Type}{l:List α}{i:Nat}{x:α}(h:l[i]?=some x):x∈l:=co h
def Ru{α:Type}{l:List α}{f:α→Int}{i:Nat}{x:α}(h:l[i]?=some x):(l.map f)[i]?=some (f x):=by rw[du,h];rfl
theorem k7{nx:Int}:∀{last:Int} {l:List CA},kR nx last l=true→(∀c,c∈l→iY c=true∧last<c.id∧c.id<nx)∧l.Pairwise (fun a b=>a.id<b.id)
 |_,[],_=>⟨ax,.nil⟩
 |last,x::l,h=>by
  simp only[kR,ag,decide_eq_true_eq] at h;obtain⟨⟨h1,h2,h3⟩,h4⟩:=h;obtain⟨i1,i2⟩:=k7 h4;refine⟨fun c hc=>?_,ft.2 ⟨fun c hc=>(i1 c hc).2.1,i2⟩⟩;rcases dn.1 hc with rfl|hc
  ·exact⟨h1,h2,h3⟩
  ·obtain⟨a,b,c'⟩:=i1 c hc;exact⟨a,oM,c'⟩
structure BkR (b:BK):Prop where
 nx1:1≤b.nx
 nx2:b.nx≤1073741824
 nc:b.ae.length≤48
 nd:b.dead.length≤40
 cok:kR b.nx 0 b.ae=true
 dok:AI b.nx b.ae [] b.dead=true
 tj:0≤b.sq
 sq2:b.sq≤1099511627776
 gok:jF (-1) b.gr=true
def Qu{b:BK}(h:Nl b=true):BkR b:=by unfold Nl W6 yc jT at h;simp only[ag,decide_eq_true_eq] at h;obtain⟨⟨⟨⟨⟨⟨h1,h2,h3,h4⟩,h5,h6⟩,h7,h8⟩,h9⟩,-⟩,-⟩:=h;exact⟨h1,h2,h3,h4,h5,h6,h7,h8,h9⟩
def r7{b:BK}(h:BkR b){c:CA}(hc:c∈b.ae):iY c=true∧0<c.id∧c.id<1073741824:=by obtain⟨h1,h2,h3⟩:=(k7 h.cok).1 c hc;exact⟨h1,h2,by have:=h.nx2;omega⟩
def AB{c:CA}(h:iY c=true):∀v,v∈c.f.l→v.s.size≤1000000:=fun v hv=>by unfold iY at h;rw[ag] at h;exact uS (c8.1 h.2 v hv)
def Mr{gr:List GR}(h:jF (-1) gr=true)(id:Int):jx gr id<65536:=by
 have uy:∀i,i≤gr.length→jx (gr.take i) id<65536:=fun i hi=>by
  cases i with
  |zero=>simp[jx]
  |succ i =>
   obtain⟨g,hg⟩:=bX gr (by omega:i<gr.length);obtain⟨h1,h2,h3,_⟩:=JZ h hg id;rw[AW hg];have e:2 ^ g.no.toNat<2 ^ 16:=hO oM oM;unfold se;split
   ·exact ip (n:=16) (Nat.lt_trans h1 e) e
   ·exact Nat.lt_trans h1 e
 have:=uy gr.length (g9 _)
 rwa [d7] at this
def NL{l:List CA}{id:Int}{i:Nat}(h:∀c,c∈l.take i→c.id≠id){c:CA}(hc:l[i]?=some c)(he:c.id=id):l.find? (fun c=>decide (c.id=id))=some c:=by
 rw[rT l hc,List.find?_append];have:(l.take i).find? (fun c=>decide (c.id=id))=none:=List.find?_eq_none.2 fun x hx=>by simpa using h x hx
 rw[this];simp[he]
end
section
open Go.Conc.Locks
section
variable {P:Program} {L:MuLink}
def WM(n n':Int)(o:Option aY)(l:Nat)(σ:St)(k:MV→St→Prop):Prop:=match o with
 |some (.row t e [.int .i32 a::rest])=>gR (a=n) (cD (.ar []) (σ.set l (.row t e [.int .i32 n'::rest])) k)
 |_=>False
def KE{n n' a:Int}{l:Nat}{σ:St}{k:MV→St→Prop}{t:TypeId}{e:Nat}{rest:List MV}:R (WM n n' (some (.row t e [.int .i32 a::rest])) l σ k)=R (gR (E (a=n)) (cD (.ar []) (σ.set l (.row t e [.int .i32 n'::rest])) k)):=rfl
end
attribute [go_sem] KE
end
abbrev mu:Go.Conc.Locks.MuLink:={ lock:=248,unlock:=249,ilock:=291,iunlock:=292,lockSlow:=314,unlockSlow:=317,disable:=310,enable:=312,acquire:=313,relMerge:=315,cas32:=311,add32:=316,tMutex:=186,tIMutex:=184,tPMutex:=320,tPIMutex:=334,tPI32:=336,tUP:=338,tNoCopy:=179,tU32:=23 }
def Sn:Go.Conc.Locks.MuLib Tryz.prog mu :=
  ⟨Tryz.func248,Tryz.func249,Tryz.func291,Tryz.func292,Tryz.func310,Tryz.func312,Tryz.func313,Tryz.func315,Tryz.func311,Tryz.func316,Tryz.underlying184,Tryz.runUnderlying184,Tryz.sizeOf184,Tryz.isAgg184,Tryz.zeroValue184,Tryz.underlying186,Tryz.runUnderlying186,Tryz.sizeOf186,Tryz.isAgg186,Tryz.zeroValue186,Tryz.underlying320,Tryz.runUnderlying320,Tryz.sizeOf320,Tryz.isAgg320,Tryz.zeroValue320,Tryz.underlying334,Tryz.runUnderlying334,Tryz.sizeOf334,Tryz.isAgg334,Tryz.zeroValue334,Tryz.underlying336,Tryz.runUnderlying336,Tryz.sizeOf336,Tryz.isAgg336,Tryz.zeroValue336,Tryz.underlying338,Tryz.runUnderlying338,Tryz.sizeOf338,Tryz.isAgg338,Tryz.zeroValue338,Tryz.underlying179,Tryz.runUnderlying179,Tryz.sizeOf179,Tryz.isAgg179,Tryz.zeroValue179,Tryz.underlying21,Tryz.runUnderlying21,Tryz.sizeOf21,Tryz.isAgg21,Tryz.zeroValue21,(by kernel_rfl)⟩
abbrev en(l:List Int):Prop:=l.Pairwise (·<·)
theorem F7:∀{last:Int} {l:List Int},s6 last l=true→en l∧∀x,x∈l→last<x∧1≤x∧x<1073741824
 |_,[],_=>⟨.nil,ax⟩
 |last,x::l,h=>by
  rw[s6,ag,decide_eq_true_eq] at h;obtain⟨⟨h1,h2,h3⟩,h4⟩:=h;unfold jT at h3;obtain⟨i1,i2⟩:=F7 h4;refine⟨ft.2 ⟨fun y hy=>(i2 y hy).1,i1⟩,fun y hy=>?_⟩;rcases dn.1 hy with rfl|hy
  ·exact⟨h1,h2,h3⟩
  ·obtain⟨a,b,c⟩:=i2 y hy;exact⟨oM,b,c⟩
def TX{nx last:Int}{cs:List CA}(h:kR nx last cs=true):en (cs.map CA.id):=List.pairwise_map.2 (k7 h).2
section
variable {P:Program} {C:b9} {ops:Array Oper}
def gate(ops:Array Oper)(n1:Nat):Bool:=(ek ops.size).all fun i=>decide (i<n1) || (ek n1).all fun j=>((tA ops.toList []).getD i 0).testBit j
def Mn{n1:Nat}(h:gate ops n1=true){i j:Nat}(hi:i<ops.size)(h1:n1≤i)(hj:j<n1):((tA ops.toList []).getD i 0).testBit j=true:=by
 have:=c8.1 h i (de.2 hi);rw[aI,decide_eq_true_eq] at this;rcases this with q|q
 ·omega
 ·exact c8.1 q j (de.2 hj)
def Dv{listed:Array Bool}{n i:Nat}(hs:n≤listed.size):left (listed.setIfInBounds i true) n=(left listed n).filter fun j=>j != i:=by
 unfold left;rw[List.filter_filter];refine List.filter_congr fun j hj=>?_;have hj:j<n:=by simpa using hj
 by_cases h:j=i
 ·subst h;simp[show j<listed.size by omega]
 ·have:(i:Nat)≠j:=fun e=>h e.symm;simp[h,kv this]
def L0{X:RX}{loc:Nat→Nat→Prop}(hC:oO X loc C)(dj:qE X ops=true){F:Fence}(hF:F=a7∨∃l0,F=a7.inRound l0)(mj:∀o,o∈ops.toList→∀c,o.op≠.defer c){Qx:Exit→Act→World→Prop}{Φ0:bd}{σ0:St}{w0:World}(n1:Nat)(tc:n1≤ops.size)(hg1:gate ops n1=true){K:FR→St→Prop}
 (eu:∀(fuel:Nat) (listed:Array Bool) (f:FR) (σ:St) (Φ:bd) (w:World) (a:Act),left listed n1=[]→listed.size=ops.size→(left listed ops.size).length=fuel→xR ops (fun i=>listed.getD i false=true)→(∀j,n1≤j→j<ops.size→listed.getD j true=false)→Inv Φ w σ→dP Φ a.tmps f→eF Φ w a.defers f.d→vw P X loc f→Step Φ0 σ0 w0 Φ σ w →
   K f σ→wpAnyIn F 0 P .any ops Qx fuel listed a w):∀(fuel:Nat) (listed:Array Bool) (f:FR) (σ:St) (Φ:bd) (w:World) (a:Act),listed.size=ops.size→(left listed ops.size).length=fuel →
  xR ops (fun i=>listed.getD i false=true)→(∀j,n1≤j→j<ops.size→listed.getD j true=false)→Inv Φ w σ→dP Φ a.tmps f→eF Φ w a.defers f.d→vw P X loc f→Step Φ0 σ0 w0 Φ σ w →
  gl P C ops (fun f' _ af=>∃js,qd f' js∧K js af) (opsOf ops (left listed n1)) f (fun l=>Φ.obj l≠none) σ→wpAnyIn F 0 P .any ops Qx fuel listed a w:=by
 have hKok:KOk (fun f' (_:Nat→Prop) af=>∃js,qd f' js∧K js af):=fun f f' U U' σ hf _ ⟨js,h1,h2⟩=>⟨js,hf.symm.trans h1,h2⟩
 have mr:∀(listed:Array Bool) i,i∈j3 .any ops listed→i∈left listed ops.size:=fun listed i hi=>by obtain⟨h0,o,ho,-⟩:=mem_ready.1 hi;exact mem_left.2 ⟨(kr.1 ho).1,h0⟩
 have Zo:∀i oi,ops[i]?=some oi→(∀e,e∈oi.after.toList→Region.binds .any e=true→e.on<i)∧∀j oj,j<i→ops[j]?=some oj→((tA ops.toList []).getD i 0).testBit j=true∨zZ X ops oj oi=true:=by
  intro i oi yk;have bh:=(kr.1 yk).1;have h:=dj;simp only[qE,ag] at h;replace h:=h.2;simp only[c8,de] at h;have h1:=h i bh;rw[yk] at h1;simp only[ag,c8,aI,Bool.not_eq_true',decide_eq_true_eq,de] at h1;refine⟨fun e he hb=>?_,fun j oj hj hoj=>?_⟩
  ·rcases h1.1 e he with q|q
   ·rw[hb] at q;cases q
   ·exact q
  ·have:=h1.2 j hj;rw[hoj] at this;simpa using this
 intro fuel
 induction fuel with
 |zero =>
  intro listed f σ Φ w a dq hl hc wb hi hr hd hD hs h;have hnil0:left listed ops.size=[]:=da hl;have qg:left listed n1=[]:=by rw[d9];intro i hi;obtain⟨h1,h2⟩:=mem_left.1 hi;have:i∈left listed ops.size:=mem_left.2 ⟨oM,h2⟩;rw[hnil0] at this;cases this
  rw[qg] at h;obtain⟨js,h1,h2⟩:=h;exact eu 0 listed js σ Φ w a qg dq hl hc wb hi ⟨hr.1.trans h1.1,fun t=>by rw[←h1.2.2 t];exact hr.2 t⟩ (h1.2.1 ▸ hd) (hD.eq h1.2.2) hs h2
 |succ fuel ih =>
  intro listed f σ Φ w a dq hl hc wb hi hr hd hD hs h;by_cases qg:left listed n1=[]
  ·rw[qg] at h;obtain⟨js,h1,h2⟩:=h;exact eu (fuel+1) listed js σ Φ w a qg dq hl hc wb hi ⟨hr.1.trans h1.1,fun t=>by rw[←h1.2.2 t];exact hr.2 t⟩ (h1.2.1 ▸ hd) (hD.eq h1.2.2) hs h2
  refine⟨fun th=>?_,fun i hrd=>?_⟩
  ·-- the first that is left is ready
   exfalso;cases qx:left listed ops.size with
   |nil=>rw[qx] at hl;cases hl
   |cons i0 r =>
    have h0:i0∈left listed ops.size:=by rw[qx];simp
    obtain⟨bh,h0'⟩:=mem_left.1 h0;have yk:ops[i0]?=some ops[i0]:=la bh;have:i0∈j3 .any ops listed:=mem_ready.2 ⟨h0',_,yk,fun e he hb=>by
     have ot:=(Zo i0 _ yk).1 e (by simpa using he) hb;cases hq:listed.getD e.on false with
     |true=>rfl
     |false =>
      exfalso;have hm:e.on∈left listed ops.size:=mem_left.2 ⟨oM,by
       have me:e.on<listed.size:=oM;simpa[me] using hq⟩
      have hp:(left listed ops.size).Pairwise (·<·):=List.Pairwise.filter _ List.pairwise_lt_range;rw[qx] at hp hm;have:=(ft.1 hp).1;rcases dn.1 hm with q|q
      ·omega
      ·have:=this e.on q;omega⟩
    rw[th] at this;cases this
  ·obtain⟨h0,o,ho,mo⟩:=mem_ready.1 hrd;have hio:i<ops.size:=(kr.1 ho).1;have Z7:∀j,((tA ops.toList []).getD i 0).testBit j=true→listed.getD j false=true:=fun j q =>
    tY (L:=fun i=>listed.getD i false=true) ops.toList [] [] rfl (by simpa using hc) (fun i hi j hj=>by simp at hj) i (.inr ⟨o,by simpa using ho,fun e he hb=>mo e (by simpa using he) hb⟩) j q
   have hin1:i<n1:=by refine aN fun nq=>qg ?_;rw[d9];intro j hj;obtain⟨q1,q2⟩:=mem_left.1 hj;have:=Z7 j (Mn hg1 hio oM q1);have me:j<listed.size:=oM;simp[me] at this q2;rw[this] at q2;cases q2
   have mn:i∈left listed n1:=mem_left.2 ⟨hin1,h0⟩;obtain⟨l1,l2,he,bh,sg⟩:=tV mn;have hsw:∀x,x∈opsOf ops l1→zZ X ops x o=true:=by
    intro x hx;obtain⟨j,hj,hx⟩:=g0.1 hx;rcases (Zo i o ho).2 j x (bh j hj) hx with q|q
    ·exfalso;have:=Z7 j q;have xk:j∈left listed n1:=by rw[he];simp[hj]
     have hj2:=(mem_left.1 xk)
     have me:j<listed.size:=oM;simp[me] at this hj2;simp[this] at hj2
    ·exact q
   have e2:opsOf ops (left listed n1)=opsOf ops l1++o::opsOf ops l2:=by rw[he];simp[opsOf,f0,ho]
   rw[e2] at h;have hdom:wj (fun l=>Φ.obj l≠none) σ:=fun l hl q=>hl (hi.gI q);have hfin':Fin (fun l=>Φ.obj l≠none):=by obtain⟨n,hn⟩:=hi.fresh.1.1;exact⟨n,fun l hl q=>q (hn l hl)⟩
   have zi:∀(j:Nat) x,ops[j]?=some x→yC X x=true:=fun j x hx=>by have h:=dj;simp only[qE,ag,c8] at h;exact h.1 x (by rw[←ld] at hx;exact co hx)
   have hp:=J2 (pull hKok hC (opsOf ops l2) o (opsOf ops l1) f _ σ hdom hfin' hD hsw (fun x hx=>by
    obtain⟨j,hj,hx⟩:=g0.1 hx;exact zi j x hx) h)
   have e3:opsOf ops (left (listed.setIfInBounds i true) n1)=opsOf ops l1++opsOf ops l2:=by rw[Dv oM,sg];simp[opsOf,f0]
   have hlen:(left (listed.setIfInBounds i true) ops.size).length=fuel:=by obtain⟨m1,m2,hm,-,hmf⟩:=tV (mr listed i hrd);rw[AZ dq,hmf];rw[hm] at hl;simp at hl ⊢;omega
   have hup':∀j,n1≤j→j<ops.size→(listed.setIfInBounds i true).getD j true=false:=fun j h1 h2=>by have fg:i≠j:=oM;rw[←wb j h1 h2];simp[kv fg]
   have jv:xR ops (fun k=>(listed.setIfInBounds i true).getD k false=true):=by
    intro k ok hk hlk e hek hb;by_cases hki:k=i
    ·subst hki;rw[ho] at hk;cases hk;exact getD_set_true (mo e (by simpa using hek) hb)
    ·have:listed.getD k false=true:=by rw[←hlk,getD_set_ne _ (jn hki)]
     exact getD_set_true (hc k ok hk this e hek hb)
   have next:∀v mv af Φ' w' ,Rel Φ' v mv→Inv Φ' w' af→Step Φ σ w Φ' af w' →
     (∃U':Nat→Prop,(∀l,U' l→Φ.obj l≠none∨af l≠none)∧GV (ji P C ops f o) mv∧∀pr,(∀l,U' l→pr l)→gl P C ops (fun f' _ af=>∃js,qd f' js∧K js af) (opsOf ops l1++opsOf ops l2) (bI f o.dst mv) pr af) →
     wpAnyIn F 0 P .any ops Qx fuel (listed.setIfInBounds i true) (a.put o.dst v) w':=by
    rintro v mv af Φ' w' r1 i1 s1 ⟨U',hu,ZB,hk⟩;refine ih _ (bI f o.dst mv) af Φ' w' (a.put o.dst v) (by simpa using dq) hlen jv hup' i1 (cT (hr.mono s1.le) o.dst r1) (by rw[bT,eD];exact hd.step hi s1) (hD.put (zi i o ho) ZB) (hs.trans s1) ?_;rw[e3];refine hk _ fun l hl=>?_;rcases hu l hl with q|q
    ·intro hn;cases hp:Φ.obj l with
     |none=>exact q hp
     |some p=>rw[s1.le.obj l p hp] at hn;cases hn
    ·intro hn;exact q (i1.gI hn)
   unfold wpOpIn;rw[ho];simp only;have yd:F=a7∨∃l0,F=a7.inRound l0∧∀c,o.op≠.defer c:=hF.imp id fun⟨l0,e⟩=>⟨l0,e,mj o (by rw[←ld] at ho;exact co ho)⟩
   have mm:∀g,F.fn g:=fun g=>by rcases hF with rfl|⟨l,rfl⟩<;>trivial
   have run:gs (fun l=>Φ.obj l≠none) σ (jt P C f o.op) (fun v U1 σ1=>GV (ji P C ops f o) v∧∀pr,(∀l,U1 l→pr l)→gl P C ops (fun f' _ af=>∃js,qd f' js∧K js af) (opsOf ops l1++opsOf ops l2) (bI f o.dst v) pr σ1) →
     o.wpIn F 0 P a w (wpAnyIn F 0 P .any ops Qx fuel (listed.setIfInBounds i true)) Qx:=by
    intro hg;refine fK yd ?_;refine o7 (VY hg) Φ w a _ _ hi hr fun v mv af Φ' w' r1 i1 s1 hk=>next v mv af Φ' w' r1 i1 s1 (hk fun l h1 h2 q=>?_)
    rcases s1.jc l _ (Option.ne_none_iff_exists'.1 h1).choose_spec with⟨o',ho'⟩|ho'
    ·rw[h2] at ho';cases ho'
    ·exact q ho'
   obtain⟨G,hG⟩:∃G,GV (ji P C ops f o)=G:=⟨_,rfl⟩
   rw[hG] at hp run next
   unfold ji at hp;split at hp
   ·rename_i hg;have hw:j2 o (yielded ops a.tmps)=true:=by unfold j2;rw[hg]
    rw[if_pos hw];exact run hp
   ·rename_i j want hg;split at hp
    ·rename_i t ht;split at hp
     ·rename_i b hb;have hmg:∀{A B:Prop},(b=want→A)∧(b=(!want)→B)→(j2 o (yielded ops a.tmps)=true∧A)∨(j2 o (yielded ops a.tmps)=false∧B):=fun {A B} h =>
       cQ (ops:=ops) (o:=o) (f:=f) (by unfold fH;rw[hg];simp only[ht,hb];exact h) hr
      split at hp
      ·rename_i hbw;rcases hmg (A:=True) (B:=False) ⟨fun _=>trivial,fun e=>by rw[hbw] at e;cases want<;>cases e⟩ with⟨hw,-⟩|⟨-,hw⟩
       ·rw[if_pos hw];exact run hp
       ·exact hw.elim
      ·rename_i hbw;rcases hmg (A:=False) (B:=True) ⟨fun e=>hbw e,fun _=>trivial⟩ with⟨-,hw⟩|⟨hw,-⟩
       ·exact hw.elim
       ·rw[if_neg (by simp[hw])];obtain⟨-,U',hu,ZB,hk⟩:=pV hp;exact⟨fun f _=>mm f,next undef (.ar []) σ Φ w gL hi (.refl _ _ _) ⟨U',hu,ZB,hk⟩⟩
     ·rename_i hb;rcases cQ (ops:=ops) (o:=o) (f:=f) (yes:=False) (no:=True) (by unfold fH;rw[hg];simp only[ht,hb]) hr with⟨-,hw⟩|⟨hw,-⟩
      ·exact hw.elim
      ·rw[if_neg (by simp[hw])];obtain⟨-,U',hu,ZB,hk⟩:=pV hp;exact⟨fun f _=>mm f,next undef (.ar []) σ Φ w gL hi (.refl _ _ _) ⟨U',hu,ZB,hk⟩⟩
     ·exact(gX hp).elim
    ·exact(gX hp).elim
def Du{n m:Nat}(h:m≤n):left (Array.replicate n false) m=ek m:=by
 unfold left;refine gy.2 fun j hj=>?_;have hj:j<m:=by simpa using hj
 simp[show j<n by omega]
def H5:∀(l:List Oper) (n:Nat),n≤l.length→opsOf l.toArray (ek n)=l.take n:=by
 intro l n hn;unfold opsOf
 induction n with
 |zero=>simp
 |succ n ih =>
  rw[List.range_succ,f0,ih oM,ge]
  congr 1
  cases hl:l[n]? with
  |none=>simp[hl]
  |some o=>simp[hl]
def KZ(l:List Oper)(n:Nat):∀m,opsOf l.toArray ((f9 n m))=(l.drop n).take m:=by
 intro m
 induction m generalizing n with
 |zero=>simp[opsOf]
 |succ m ih =>
  have ih:=ih (n+1);unfold opsOf at ih ⊢;simp only[List.getElem?_toArray] at ih ⊢;rw[List.range'_succ,List.filterMap_cons];cases hl:l[n]? with
  |none =>
   have:l.length≤n:=List.getElem?_eq_none_iff.1 hl;simp only[hl];rw[ih,ea oM,ea this];simp
  |some o =>
   have hn:=(cr.1 hl).1;have ho:=(cr.1 hl).2;simp only[hl];rw[ih,dl hn,gx,ho]
def left_at{listed:Array Bool}{n n1:Nat}(hs:listed.size=n)(h1:left listed n1=[])(hn:n1≤n)(wb:∀j,n1≤j→j<n→listed.getD j true=false):left listed n=f9 n1 (n-n1):=by
 have e:ek n=ek n1++f9 n1 (n-n1):=by
  obtain⟨d,rfl⟩:∃d,n=n1+d:=⟨n-n1,oM⟩
  rw[ja,List.range_add,List.range'_eq_map_range]
 unfold left at h1 ⊢;rw[e,List.filter_append,h1,d0];refine gy.2 fun j hj=>?_;have hj':=List.mem_range'_1.1 hj;rw[wb j hj'.1 oM];rfl
def QX{u:jL}(hC:pq u C){MC:FuncId→List MV→St→(MV→St→Prop)→Prop}(hMC:∀U σ,wj U σ→∀g ms k,MC g ms σ k→gs U σ (jE P C g ms) fun v _ af=>k v af){K:FR→St→Prop}{l:List Oper}{f:FR}{σ:St}{Φ:bd}{w:World}(hi:Inv Φ w σ)(h:dX P MC ops K l f σ):gl P C ops (fun f' _ af=>∃js,qd f' js∧K js af) l f (fun l=>Φ.obj l≠none) σ:=by refine VT (C:=C) (MC:=MC) hMC (u:=u) hC l f _ σ (fun l hl q=>hl (hi.gI q)) ?_ h;obtain⟨n,hn⟩:=hi.fresh.1.1;exact⟨n,fun l hl q=>q (hn l hl)⟩
def NOk(P:Program)(MC:FuncId→List MV→St→(MV→St→Prop)→Prop)(ops:Array Oper)(post:List Oper)(Qx:Exit→Act→World→Prop)(N:Act→World→Prop):Prop :=
 ∀(K2:FR→St→Prop) (f2:FR) (eh:St) (kh:bd) (w2:World) (a2:Act),Inv kh w2 eh→dP kh a2.tmps f2→eF kh w2 a2.defers f2.d →
  (∀f3 sx wi w3 a3,Inv wi w3 sx→dP wi a3.tmps f3→eF wi w3 a3.defers f3.d→Step kh eh w2 wi sx w3→K2 f3 sx→Qx .normal a3 w3)→dX P MC ops K2 post f2 eh→N a2 w2
def Ge(F:Fence)(P:Program)(ops:Array Oper)(Qx:Exit→Act→World→Prop)(y:Oper)(a:Act)(w:World)(N:Act→World→Prop):Prop :=
 if j2 y (yielded ops a.tmps) then y.wpIn F 0 P a w N Qx else(∀f,y.about P w a.eval=some f→F.fn f)∧N (a.put y.dst undef) w
def uG(hm:P.follows .mixedOrders=true)(u:jL)(hCu:pq u C){MC:FuncId→List MV→St→(MV→St→Prop)→Prop}(hMC:∀U σ,wj U σ→∀g ms k,MC g ms σ k→gs U σ (jE P C g ms) fun v _ af=>k v af)(pre:List Oper)(y:Oper)(post:List Oper)(ho:ops=(pre++y::post).toArray)(mj:∀o,o∈ops.toList→∀c,o.op≠.defer c)(dj:qE ⟨[],[],none,u,[]⟩ ops=true)(hg1:gate ops pre.length=true)(hg2:gate ops (pre.length+1)=true)
 {F:Fence}(hF:F=a7∨∃l0,F=a7.inRound l0){Qx:Exit→Act→World→Prop}{id:Nat}{f:FR}{σ:St}{Φ:bd}{w:World}{a:Act}{K1:FR→St→Prop}(hi:Inv Φ w σ)(hr:dP Φ a.tmps f)(hd:eF Φ w a.defers f.d)
 (hy:∀f1 σ1 ei w1 a1 N,Inv ei w1 σ1→dP ei a1.tmps f1→eF ei w1 a1.defers f1.d→Step Φ σ w ei σ1 w1→K1 f1 σ1→NOk P MC ops post Qx N→Ge F P ops Qx y a1 w1 N)
 (h:dX P MC ops K1 pre f σ):(Code.region id ops true).wpIn F 0 P Qx a w:=by
 have dq:ops.size=pre.length+1+post.length:=by rw[ho];simp;omega
 have hC:oO ⟨[],[],none,u,[]⟩ (fun _ _=>True) C:=⟨hCu,trivial⟩
 have hD0:∀f,vw P ⟨[],[],none,u,[]⟩ (fun _ _=>True) f:=fun f=>⟨fun t ht=>(by cases ht),fun t t' ht=>(by cases ht),fun p hp=>(by cases hp),fun p hp=>(by cases hp)⟩
 have hi':Inv Φ { w with drawn:=w.drawn+1 } σ:=⟨fun l o hl=>by
  have:=hi.own l o hl;cases o<;>exact this,hi.inj,hi.snap,hi.apart,hi.fresh⟩
 have dg:Step Φ σ w Φ σ { w with drawn:=w.drawn+1 }:=⟨.refl Φ,rfl,rfl,rfl,lO (Nat.le_succ _),g9 _,fun _ _ _=>rfl,fun _ _ h=>.inl h,fun l o h=>.inl ⟨o,h⟩,fun _ h=>.inl h⟩
 have yat:ops[pre.length]?=some y:=by rw[ho];simp
 refine wpIn_region_any hm (L0 (C:=C) (K:=K1) hC dj hF mj (Φ0:=Φ) (σ0:=σ) (w0:=w) pre.length oM hg1 ?_ ops.size _ f σ Φ _ a ax ?_ ?_ (fun j _ hj=>by simp[hj]) hi' hr (hd.step hi dg) (hD0 f) dg ?_)
 ·intro fuel listed f1 σ1 ei w1 a1 qg hls hlen jv wb i1 r1 d1 _ s1 k1;have qx:=left_at hls qg oM wb;have hfuel:fuel=post.length+1:=by rw[←hlen,qx,g5];omega
  subst hfuel;have Zo:∀i oi,ops[i]?=some oi→∀e,e∈oi.after.toList→Region.binds .any e=true→e.on<i:=by
   intro i oi yk e he hb;have bh:=(kr.1 yk).1;have h:=dj;simp only[qE,ag] at h;replace h:=h.2;simp only[c8,de] at h;have h1:=h i bh;rw[yk] at h1;simp only[ag,c8,aI,Bool.not_eq_true',decide_eq_true_eq,de] at h1;rcases h1.1 e he with q|q
   ·rw[hb] at q;cases q
   ·exact q
  have zk:∀j,j<pre.length→listed.getD j false=true:=fun j hj=>by
   refine aN fun hq=>?_;have me:j<listed.size:=oM;have:j∈left listed pre.length:=mem_left.2 ⟨hj,by
    cases hb:listed[j]'me
    ·simp[me,hb]
    ·simp[me,hb] at hq⟩
   rw[qg] at this;cases this
  refine⟨fun th=>?_,fun i hrd=>?_⟩
  ·exfalso;have me:pre.length<listed.size:=oM;have:pre.length∈j3 .any ops listed:=mem_ready.2 ⟨wb _ (g9 _) oM,y,yat,fun e he hb=>zk _ (Zo _ _ yat e (by simpa using he) hb)⟩;rw[th] at this;cases this
  ·obtain⟨h0,o,yk,mo⟩:=mem_ready.1 hrd;have hio:i<ops.size:=(kr.1 yk).1;have Z7:∀j,((tA ops.toList []).getD i 0).testBit j=true→listed.getD j false=true:=fun j q =>
    tY (L:=fun i=>listed.getD i false=true) ops.toList [] [] rfl (by simpa using jv) (fun i hi j hj=>by simp at hj) i (.inr ⟨o,by simpa using yk,fun e he hb=>mo e (by simpa using he) hb⟩) j q
   have nq:pre.length≤i:=by refine aN fun bh=>?_;have:=zk i oM;have me:i<listed.size:=oM;simp[me] at this h0;rw[this] at h0;cases h0
   have hle:i≤pre.length:=by refine aN fun tp=>?_;have:=Z7 pre.length (Mn hg2 hio oM (Nat.lt_succ_self _));have q:=wb pre.length (g9 _) oM;have me:pre.length<listed.size:=oM;simp[me] at this q;rw[this] at q;cases q
   have hii:i=pre.length:=oM;subst hii;rw[yat] at yk;cases yk;unfold wpOpIn;rw[yat];refine hy f1 σ1 ei w1 a1 _ i1 r1 d1 s1 k1 ?_;intro K2 f2 eh kh w2 a2 i2 r2 d2 eu h2;have hup2:∀j,pre.length+1≤j→j<ops.size→(listed.setIfInBounds pre.length true).getD j true=false:=fun j h1 h2=>by have fg:pre.length≠j:=oM;rw[←wb j oM h2];simp[kv fg]
   have uf:left (listed.setIfInBounds pre.length true) ops.size=f9 (pre.length+1) post.length:=by
    rw[left_at (n1:=pre.length+1) (by simpa using hls) ?_ oM hup2,dq]
    ·congr 1;omega
    ·rw[Dv oM];rw[d9];intro j hj;obtain⟨q1,q2⟩:=List.mem_filter.1 hj;obtain⟨q3,q4⟩:=mem_left.1 q1;have hjn:j≠pre.length:=by simpa using q2
     have:j∈left listed pre.length:=mem_left.2 ⟨oM,q4⟩;rw[qg] at this;cases this
   refine L0 (C:=C) (K:=K2) hC dj hF mj (Φ0:=kh) (σ0:=eh) (w0:=w2) ops.size (g9 _) (c8.2 fun i hi=>by simp at hi;simp[hi]) ?_ post.length _ f2 eh kh w2 a2 (by simpa using hls) (by rw[uf,g5]) ?_ (fun j h1 h2=>oM) i2 r2 d2 (hD0 f2) (.refl _ _ _) ?_
   ·intro fuel listed3 f3 sx wi w3 a3 hnil3 hls3 hlen3 _ _ i3 r3 d3 _ s3 k3;rw[hnil3] at hlen3;simp at hlen3;subst hlen3;refine⟨?_,eu f3 sx wi w3 a3 i3 r3 d3 s3 k3⟩;rw[d9];intro i hi;obtain⟨q1,o,q2,-⟩:=mem_ready.1 hi;have:i∈left listed3 ops.size:=mem_left.2 ⟨(kr.1 q2).1,q1⟩;rw[hnil3] at this;cases this
   ·intro k ok hk hlk e hek hb;by_cases hki:k=pre.length
    ·subst hki;rw[yat] at hk;cases hk;exact getD_set_true (mo e (by simpa using hek) hb)
    ·have:listed.getD k false=true:=by rw[←hlk,getD_set_ne _ (jn hki)]
     exact getD_set_true (jv k ok hk this e hek hb)
   ·rw[uf];have e:opsOf ops (f9 (pre.length+1) post.length)=post:=by rw[ho,KZ];simp
    rw[e];exact QX hCu hMC i2 h2
 ·rw[Du (g9 _)];simp
 ·intro i o ho hl;simp only[kt,Array.getElem?_replicate] at hl;split at hl<;>simp at hl
 ·rw[Du oM];have e:opsOf ops (ek pre.length)=pre:=by rw[ho,H5 _ _ ax];simp
  rw[e];exact QX hCu hMC hi h
def O6(hm:P.follows .mixedOrders=true)(C:b9)(pre:List Oper)(y:Oper)(post:List Oper)(ho:ops=(pre++y::post).toArray)(mj:vW (pre++y::post)=true)(dj:(chk ops&&gate ops pre.length&&gate ops (pre.length+1))=true){id:Nat}{f:FR}{σ:St}{Q:MQ}
 (h:kB P C ops (fun f1 σ1=>fH ops f1 y (jY P f1 σ1 y.dst (fun f' af=>kB P C ops (Q .normal) post f' af) y.op) (kB P C ops (Q .normal) post (bI f1 y.dst (.ar [])) σ1)) pre f σ):il P (.region id ops true) f σ Q:=by
 intro F hF Φ w a hi hr hd;simp only[ag] at dj;have ud:F=a7∨∃l0,F=a7.inRound l0:=Or.imp (fun q=>q) (fun⟨l0,e,_⟩=>⟨l0,e⟩) hF;have mm:∀g,F.fn g:=fun g=>by rcases ud with rfl|⟨l,rfl⟩<;>trivial
 have ur:∀o,o∈ops.toList→∀c,o.op≠.defer c:=fun o h=>mZ mj o (by rw[ho] at h;simpa using h);refine uG (C:=C.pl) (MC:=rC P C) hm .no C.Ir.u (fun _ _ hd _ _ _ h=>vK hd h) pre y post ho ur dj.1.1 dj.1.2 dj.2 ud hi hr hd ?_ h;intro f1 σ1 ei w1 a1 N i1 r1 d1 s1 k1 hN;have hyd:∀c,y.op≠.defer c:=ur y (by rw[ho];simp);have yd:F=a7∨∃l0,F=a7.inRound l0∧∀c,y.op≠.defer c:=ud.imp (fun q=>q) fun⟨l0,e⟩=>⟨l0,e,hyd⟩
 unfold Ge;rcases cQ k1 r1 with⟨hw,hk⟩|⟨hw,hk⟩
 ·rw[if_pos hw];refine fK yd (lG hyd hk ei w1 a1 _ _ i1 r1 fun v mv af Φ' w' r2 i2 s2 yu=>?_);exact hN (Q .normal) _ af Φ' w' (a1.put y.dst v) i2 (cT (r1.mono s2.le) y.dst r2) (by rw[bT,eD];exact d1.step i1 s2) (fun f3 sx wi w3 a3 i3 r3 d3 s3 k3=>⟨f3,sx,wi,d3,r3,i3,s1.trans (s2.trans s3),k3⟩) yu
 ·rw[if_neg (by simp[hw])];exact⟨fun f _=>mm f,hN (Q .normal) _ σ1 ei w1 (a1.put y.dst undef) i1 (cT r1 y.dst gL) (by rw[bT,eD];exact d1) (fun f3 sx wi w3 a3 i3 r3 d3 s3 k3=>⟨f3,sx,wi,d3,r3,i3,s1.trans s3,k3⟩) hk⟩
def Qg{C:YC}(hm:P.follows .mixedOrders=true)(L:List FuncId)(D:b9)(hDu:pq (.dz L) D)(pre:List Oper)(y:Oper)(post:List Oper)(ho:ops=(pre++y::post).toArray)(mj:vW (pre++y::post)=true)(dj:(qE ⟨[],[],none,.dz L,[]⟩ ops&&gate ops pre.length&&gate ops (pre.length+1))=true){id:Nat}{f:FR}{σ:St}{t:Option Nat}{Q:YQ}
 {o:Operand}{args:Array Operand}{ts:Array TypeId}(hy:y.op=.call ⟨.value o,args,ts⟩)(jz:qG P C.l C.xs C.Y C.Yx C.Φ0 C.σ0 C.n0)
 (h:dX P (fS P D) ops (fun f1 σ1=>fH ops f1 y (∃i x,t=some i∧C.xs[i]?=some x∧(∀m,m∈x→kA m)∧aH f1 o=.fn (.yield C.l) [] []∧args.toList.map (aH f1)=x ∧
    dX P (fS P D) ops (fun f2 eh=>Q .normal f2 eh (some (i+1))) post (bI f1 y.dst (.bool true)) σ1∧dX P (fS P D) ops (fun f2 eh=>Q .normal f2 eh none) post (bI f1 y.dst (.bool false)) σ1)
   (dX P (fS P D) ops (fun f2 eh=>Q .normal f2 eh t) post (bI f1 y.dst (.ar [])) σ1)) pre f σ):zx P C (.region id ops true) f σ t Q:=by
 intro F hF Φ w a S hi hr hd;simp only[ag] at dj;have ud:F=a7∨∃l0,F=a7.inRound l0:=Or.imp (fun q=>q) (fun⟨l0,e,_⟩=>⟨l0,e⟩) hF;have mm:∀g,F.fn g:=fun g=>by rcases ud with rfl|⟨l,rfl⟩<;>trivial
 have hdep:=hF.depth;have ur:∀o,o∈ops.toList→∀c,o.op≠.defer c:=fun o h=>mZ mj o (by rw[ho] at h;simpa using h);refine uG (C:=D) (MC:=fS P D) hm (.dz L) hDu (fun _ _ hd _ _ _ h=>GW hd h) pre y post ho ur dj.1.1 dj.1.2 dj.2 ud hi.inv hr hd ?_ h;intro f1 σ1 ei w1 a1 N i1 r1 d1 s1 k1 hN;have lk:=hi.go i1 s1;unfold Ge;rcases cQ k1 r1 with⟨hw,hk⟩|⟨hw,hk⟩
 ·rw[if_pos hw];obtain⟨i,x,rfl,hx,lx,hv,lq,ht,iw⟩:=hk;have rv:=aL r1 o;rw[hv] at rv;obtain⟨first,cap,he,h1,h2⟩:=rv.pM;have e1:first=#[]:=k6 (by simpa using h1.1)
  have e2:cap=#[]:=k6 (by simpa using h2.1);subst e1 e2;have ou:=nD r1 args;rw[lq] at ou;obtain⟨Ψ,hΨ⟩:∃Ψ:bd,Ψ=⟨ei.snap,fun _=>none,0⟩:=⟨_,rfl⟩
  have ZJ:iX Ψ (args.map a1.eval) x:=⟨ou.1,fun j m hm=>by
   subst hΨ;exact kA.rel (Φ:=ei) (Φ':=⟨ei.snap,fun _=>none,0⟩) (fun _ _ q=>q) (lx m (co hm)) (ou.2 j m hm)⟩
  obtain⟨fn,tmps,assign,body,di,ZK⟩:=jz i x S w1 Ψ (args.map a1.eval) hx lk.st lk.ic.agree lk.size (fun m=>by subst hΨ;rfl) (fun b v q=>by
   subst hΨ;exact⟨i1.snap b v q,lk.ic.snap b v q,lk.cl b v q⟩) ZJ
  have hsem:(y.semAt F.round a1.eval).run P w1=.ok (.round C.l fn tmps assign body) w1:=by rw[Oper.semAt_eq _ _ _ (by rw[hy];intro c e;cases e)];unfold execOp;simp only[hy,resolve,he,Deferred.ofValue,j5,j4,Result.andThen_ok,invoke,Array.empty_append,Array.append_empty];exact di
  refine⟨fun g _=>mm g,?_⟩;rw[hsem];refine⟨(fun q=>by rw[hdep] at q;cases q),?_⟩;refine(tJ ud ZK).mono ?_;rintro e w2 ⟨b,S',rfl,hS1,Zq,Zr,Zs,Zt,Zu,ye,wm,yf,nw,lf⟩
  -- our own side is as it was
  have ow:∀k,aV ei σ1 k→w2.heap[k]?=w1.heap[k]?:=fun k hk=>by refine wm k ?_ fun q=>lk.ic.own k q hk;obtain⟨l,ob,p,q1,q2,q3⟩:=hk;obtain⟨p',e,bh⟩:=(i1.own l ob q1).place;rw[q2] at e;cases e;exact bh k q3
  have i2:Inv ei w2 σ1:=⟨fun l ob hl=>(i1.own l ob hl).mono (.refl _) fun p R q1 q2=>ow R ⟨l,ob,p,hl,q1,q2⟩,i1.inj,fun c v q=>by
    have hb:=bv w1 c (i1.snap c v q);rw[World.fF (wm c.block hb (lk.ic.snap c v q))];exact i1.snap c v q,i1.apart,i1.fresh⟩
  have apt2:xy ei σ1 S' w2:=by
   have lt1:∀k,aV ei σ1 k→k<w1.heap.size:=fun k ⟨l,ob,p,q1,q2,q3⟩=>by obtain⟨p',e,bh⟩:=(i1.own l ob q1).place;rw[q2] at e;cases e;exact bh k q3
   refine⟨Zq,fun k hk ho=>?_,fun c v q ho=>?_,fun c v q hk=>?_⟩
   ·rcases yf k hk with q|q
    ·exact lk.ic.own k q ho
    ·have:=lt1 k ho;omega
   ·rcases nw c v q with q|q|q|q
    ·exact lk.ic.rf c v q ho
    ·exact lk.ic.own _ q ho
    ·have:=lt1 _ ho;omega
    ·subst hΨ;obtain⟨l,ob,p,q1,q2,q3⟩:=ho;exact i1.apart l ob p c.block c v q1 q2 q3 q rfl
   ·rcases yf _ hk with p|p
    ·exact lk.ic.snap c v q p
    ·have:=bv w1 c (i1.snap c v q);omega
  have kc:eL ei σ1 w1 S ei σ1 w2 S':=⟨.refl _,Zr,Zs,Zt,Zu,ye,fun k hk _ hw=>wm k hk hw,fun c v q=>.inl q,fun R q=>.inl q,yf,fun c v q=>by
   subst hΨ;rcases nw c v q with q|q|q|q
   ·exact .inl q
   ·exact .inr (.inl q)
   ·exact .inr (.inr (.inl q))
   ·exact .inr (.inr (.inr (.inl q)))⟩
  have d2:eF ei w2 a1.defers f1.d:=d1.mono (.refl _) ye fun D hD=>by rw[wm D (kr.1 hD).1 (fun q=>lk.ic.agree.pn D q _ ((lk.ic.agree.same D q).symm.trans hD))];exact hD
  have go:∀(b:Bool) (t':Option Nat),C.st t' S'→dX P (fS P D) ops (fun f2 eh=>Q .normal f2 eh t') post (bI f1 y.dst (.bool b)) σ1→N (a1.put y.dst (.bool b)) w2:=by
   intro b t' dg hm;have hyi:kC C ei σ1 w2 S' t':=⟨i2,apt2,lk.cl,lk.cz,ib lk.size ye,dg⟩
   exact hN (fun f2 eh=>Q .normal f2 eh t') _ σ1 ei w2 (a1.put y.dst (.bool b)) i2 (cT r1 y.dst (.bool b)) (by rw[bT,eD];exact d2)
    (fun f3 sx wi w3 a3 i3 r3 d3 s3 k3=>⟨f3,sx,t',wi,S',hyi.go i3 s3,r3,d3,((eL.of S s1).trans kc).trans (.of S' s3),k3⟩) hm
  cases b with
  |true=>exact go true (some (i+1)) (by rw[if_pos rfl] at lf;exact lf) ht
  |false=>exact go false none (by rw[if_neg br] at lf;exact lf) iw
 ·rw[if_neg (by simp[hw])];exact⟨fun f _=>mm f,hN (fun f2 eh=>Q .normal f2 eh t) _ σ1 ei w1 (a1.put y.dst undef) i1 (cT r1 y.dst gL) (by rw[bT,eD];exact d1) (fun f3 sx wi w3 a3 i3 r3 d3 s3 k3=>⟨f3,sx,t,wi,S,lk.go i3 s3,r3,d3,(eL.of S s1).trans (.of S s3),k3⟩) hk⟩
def bZ{id:Nat}{l:List Oper}{f:FR}{σ:St}{Q:MQ}(hm:P.follows .mixedOrders=true)(C:b9)(pre:List Oper){dst:Option Tmp}{op:Op}{ty:TypeId}{pos:String}{after:Array Edge}(post:List Oper)(ho:l=pre++⟨dst,op,ty,pos,after,none⟩::post)
 (dj:(vW l&&(chk l.toArray&&gate l.toArray pre.length&&gate l.toArray (pre.length+1)))=true)
 (h:R (kB P C (@jp (Array Oper) (nat_lit 0) (@_root_.id (OfNat (Array Oper) (nat_lit 0)) (jr (l.toArray)))) (fun f1 σ1=>jY P f1 σ1 dst (fun f' af=>kB P C (@jp (Array Oper) (nat_lit 0) (@_root_.id (OfNat (Array Oper) (nat_lit 0)) (jr (l.toArray)))) (Q .normal) (@jp (List Oper) (nat_lit 0) (@_root_.id (OfNat (List Oper) (nat_lit 0)) (jr post))) f' af) op)
   (@jp (List Oper) (nat_lit 0) (@_root_.id (OfNat (List Oper) (nat_lit 0)) (jr pre))) f σ)):R (rD P id (@jp (List Oper) (nat_lit 0) (@_root_.id (OfNat (List Oper) (nat_lit 0)) (jr l))) f σ Q):=by
 rw[ag] at dj;exact O6 hm C pre ⟨dst,op,ty,pos,after,none⟩ post (by rw[←ho]) (by rw[←ho];exact dj.1) dj.2 h
end
section
variable {P:Program} {C:YC} {f:FR} {σ:St} {t:Option Nat} {Q:YQ}
def VO(C:YC)(t:Option Nat)(o:MV)(args:List MV)(A:Nat→Prop)(B:Prop):Prop :=
 ∃i x,t=some i∧C.xs[i]?=some x∧(∀m,m∈x→kA m)∧o=.fn (.yield C.l) [] []∧args=x∧A i∧B
def Js{o:MV}{args:List MV}{A:Nat→Prop}{B:Prop}{i:Nat}(ht:t=some i)(hx:C.xs[i]?=some args)(lx:∀m,m∈args→kA m)(ho:o=.fn (.yield C.l) [] [])(hA:R (A i))(hB:R B):R (VO C t o args A B) :=
 ⟨i,args,ht,hx,lx,ho,rfl,hA,hB⟩
def LV{id:Nat}{l:List Oper}(hm:P.follows .mixedOrders=true)(L:List FuncId)(D:b9)(hDu:pq (.dz L) D)(pre:List Oper){dst:Option Tmp}{o:Operand}{args:Array Operand}{ts:Array TypeId}{ty:TypeId}{pos:String}{after:Array Edge}{j:Nat}(post:List Oper)
 (ho:l=pre++⟨dst,.call ⟨.value o,args,ts⟩,ty,pos,after,some (j,true)⟩::post)(dj:(vW l&&(qE ⟨[],[],none,.dz L,[]⟩ l.toArray&&gate l.toArray pre.length&&gate l.toArray (pre.length+1)))=true)(jz:qG P C.l C.xs C.Y C.Yx C.Φ0 C.σ0 C.n0)
 (h:R (dX P (fS P D) (@jp (Array Oper) (nat_lit 0) (@_root_.id (OfNat (Array Oper) (nat_lit 0)) (jr (l.toArray)))) (fun f1 σ1=>cP (E (J4 f1 (pI (@jp (List Oper) (nat_lit 0) (@_root_.id (OfNat (List Oper) (nat_lit 0)) (jr l))) j))) true
    (VO C t (E (aH f1 o)) (E (args.toList.map (aH f1)))
     (fun i=>dX P (fS P D) (@jp (Array Oper) (nat_lit 0) (@_root_.id (OfNat (Array Oper) (nat_lit 0)) (jr (l.toArray)))) (fun f2 eh=>Q .normal f2 eh (some (i+1))) (@jp (List Oper) (nat_lit 0) (@_root_.id (OfNat (List Oper) (nat_lit 0)) (jr post))) (bI f1 dst (.bool true)) σ1)
     (dX P (fS P D) (@jp (Array Oper) (nat_lit 0) (@_root_.id (OfNat (Array Oper) (nat_lit 0)) (jr (l.toArray)))) (fun f2 eh=>Q .normal f2 eh none) (@jp (List Oper) (nat_lit 0) (@_root_.id (OfNat (List Oper) (nat_lit 0)) (jr post))) (bI f1 dst (.bool false)) σ1))
    (dX P (fS P D) (@jp (Array Oper) (nat_lit 0) (@_root_.id (OfNat (Array Oper) (nat_lit 0)) (jr (l.toArray)))) (fun f2 eh=>Q .normal f2 eh t) (@jp (List Oper) (nat_lit 0) (@_root_.id (OfNat (List Oper) (nat_lit 0)) (jr post))) (bI f1 dst (.ar [])) σ1))
   (@jp (List Oper) (nat_lit 0) (@_root_.id (OfNat (List Oper) (nat_lit 0)) (jr pre))) f σ)):R (zx P C (.region id l.toArray true) f σ t Q):=by
 rw[ag] at dj;refine Qg hm L D hDu pre ⟨dst,.call ⟨.value o,args,ts⟩,ty,pos,after,some (j,true)⟩ post (by rw[←ho]) (by rw[←ho];exact dj.1) dj.2 rfl jz ?_;have e:∀(f1:FR) (A B:Prop),fH l.toArray f1 ⟨dst,.call ⟨.value o,args,ts⟩,ty,pos,after,some (j,true)⟩ A B=cP (J4 f1 (pI l j)) true A B:=fun f1 A B=>by simp only[fH,Ew];cases pI l j<;>rfl
 simp only[e];exact h
end
inductive qo (D:Nat→Prop):MV→Prop where
 |flat {m:MV} (h:Flat m):qo D m
 |ptr {l i o:Nat} (h:D l):qo D (.ptr l i o)
 |vec {e l lo n:Nat} (h:D l):qo D (.vec e l lo n)
 |db {l:Nat} (h:D l):qo D (.db l)
 |aj {e:Nat} {xs:List (List MV)} {t:Bool} (h:∀x,x∈xs→∀m,m∈x→qo D m):qo D (.aj e xs t)
 |cg {cs:List MV} (h:∀m,m∈cs→qo D m):qo D (.cg cs)
 |agg {cs:List MV} (h:∀m,m∈cs→qo D m):qo D (.agg cs)
 |fn {f:Fn} {ms ns:List MV} (h1:∀m,m∈ms→qo D m) (h2:∀m,m∈ns→qo D m):qo D (.fn f ms ns)
def qo.of{D:Nat→Prop}{m:MV}(h:kA m):qo D m:=by
 induction h with
 |flat h=>exact .flat h
 |aj _ ih=>exact .aj ih
 |cg _ ih=>exact .cg ih
 |agg _ ih=>exact .agg ih
def qo.rel{D:Nat→Prop}{Φ Φ':bd}(hs:∀a v,Φ.snap a=some v→Φ'.snap a=some v)(ho:∀l p,D l→Φ.obj l=some p→Φ'.obj l=some p){m:MV}(h:qo D m):∀{v:Value},Rel Φ v m→Rel Φ' v m:=by
 induction h with
 |flat h=>intro v r;exact h.rel r
 |ptr h =>
  intro v r;cases r with
  |ptr h1 h2=>exact .ptr (ho _ _ h h1) h2
 |vec h =>
  intro v r;cases r with
  |vec h1 h2 h3 h4=>exact .vec (ho _ _ h h1) h2 h3 h4
  |ZW a h1 h2=>exact .ZW a (ho _ _ h h1) h2
  |ZX h1 h2 h3=>exact .ZX (ho _ _ h h1) h2 h3
 |db h =>
  intro v r;cases r with
  |db h1 h2=>exact .db (ho _ _ h h1) h2
 |aj h ih =>
  intro v r;cases r with
  |nj=>exact .nj _ _
  |qa a _ cap _ ht hm=>exact .qa a _ cap _ ht hm
  |aj hl h0 dv hm ht hx vs hc hr =>
   exact .aj hl h0 dv hm ht hx vs (fun i x j m a b=>⟨(hc i x j m a b).1,hs _ _ (hc i x j m a b).2⟩) fun i x j m a b=>ih x (co a) m (co b) (hr i x j m a b)
 |cg h ih =>
  intro v r;cases r with
  |cg vs hc hr=>exact .cg vs (fun j m hm=>⟨(hc j m hm).1,hs _ _ (hc j m hm).2⟩) fun j m hm=>ih m (co hm) (hr j m hm)
 |agg h ih =>
  intro v r;cases r with
  |agg h1 h2 h3=>exact .agg h1 h2 fun i m hm=>ih m (co hm) (h3 i m hm)
 |fn h1 h2 ih1 ih2 =>
  intro v r;cases r with
  |fn _ k1 k2 r1 r2=>exact .fn _ k1 k2 (fun i m hm=>ih1 m (co hm) (r1 i m hm)) fun i m hm=>ih2 m (co hm) (r2 i m hm)
def InO(D:Nat→Prop):aY→Prop
 |.row _ _ xs=>∀x,x∈xs→∀m,m∈x→qo D m
 |.mp es=>∀z,z∈es→qo D z.1∧qo D z.2
 |.mk es _ _=>∀z,z∈es→qo D z.1∧qo D z.2
 |.it m _ _=>D m
def eT.inD{D:Nat→Prop}{Φ Φ':bd}{w:World}{l:Nat}{o:aY}(h:eT Φ w l o)(hs:∀a v,Φ.snap a=some v→Φ'.snap a=some v)(ho:∀l p,D l→Φ.obj l=some p→Φ'.obj l=some p)(hl:D l)(hio:InO D o):eT Φ' w l o:=by
 cases o with
 |row t e xs =>
  obtain⟨p,h1,h2,h3,h4,h5,h6⟩:=h;refine⟨p,ho _ _ hl h1,h2,h3,h4,h5,?_⟩;cases hb:p.jh with
  |none=>simp only[hb] at h6;exact h6
  |some R =>
   simp only[hb] at h6;obtain⟨c,fz,k1,k2,k3,k4⟩:=h6;exact⟨c,fz,k1,k2,k3,fun i x j m hx hm=>⟨(k4 i x j m hx hm).1,(k4 i x j m hx hm).2.imp fun v q=>⟨q.1,(hio x (co hx) m (co hm)).rel hs ho q.2⟩⟩⟩
 |mp es =>
  obtain⟨p,R,h1,h2,c,ck,h3,h4,h5⟩:=h;exact⟨p,R,ho _ _ hl h1,h2,c,ck,h3,h4,fun i x hx=>⟨(hio x (co hx)).1.rel hs ho (h5 i x hx).1,(hio x (co hx)).2.rel hs ho (h5 i x hx).2⟩⟩
 |mk es st ck =>
  obtain⟨p,R,h1,h2,c,h3,h4,h5⟩:=h;exact⟨p,R,ho _ _ hl h1,h2,c,h3,h4,fun i x hx=>⟨(hio x (co hx)).1.rel hs ho (h5 i x hx).1,(hio x (co hx)).2.rel hs ho (h5 i x hx).2⟩⟩
 |it m ck seen =>
  obtain⟨p,R,pm,Rm,h1,h2,h3,h4,h5,h6⟩:=h;exact⟨p,R,pm,Rm,ho _ _ hl h1,h2,h3,ho _ _ hio h4,h5,h6⟩
def Gj(P:Program)(g:FuncId)(ns:List MV)(σi:St)(xs:List (List MV))(K:St→Prop):Prop :=
 Enters P g∧∀(l:Nat) (Y:Nat→YS→Prop) (Yx:YS→Prop) (Φ:bd) (w:World) (S:YS) (vs:Array Value),qG P l xs Y Yx Φ σi w.heap.size→Inv Φ w σi→xy Φ σi S w→Y 0 S→iX Φ vs ns →
  Calls P g (#[.func (.yield l) #[] #[]]++vs) w fun e w'=>∃v Φ' af S',e=.returned v∧Inv Φ' w' af∧xy Φ' af S' w'∧eL Φ σi w S Φ' af w' S'∧(Y xs.length S'∨Yx S')∧K af
def uO{σ:St}{a k:Nat}{o:aY}:(σ.set a o) k≠none↔(k=a∨σ k≠none):=by
 by_cases h:k=a
 ·subst h;simp[aD]
 ·rw[cn h];simp[h]
def j7{σ:St}{a k:Nat}{o x:aY}(h:(σ.set a o) k=some x):(k=a∧x=o)∨(k≠a∧σ k=some x):=by
 by_cases e:k=a
 ·subst e;rw[aD] at h;exact .inl ⟨rfl,(j1 h).symm⟩
 ·rw[cn e] at h;exact .inr ⟨e,h⟩
def aR.cut{f:FR}{σ:St}{q:Nat}{t:TypeId}{e:Nat}{xs ex:List (List MV)}(h:σ q=some (.row t e (xs++ex))):aR f σ f (σ.set q (.row t e xs)):=by
 have hd:∀l o,(σ.set q (.row t e xs)) l=some o→∃o',σ l=some o':=fun l o hl=>by
  rcases j7 hl with⟨rfl,rfl⟩|⟨_,h1⟩
  ·exact⟨_,h⟩
  ·exact⟨_,h1⟩
 refine⟨rfl,fun Φ w vs hi hr=>⟨Φ,⟨fun l o hl=>?_,fun a b o o' p p' R h1 h2 h3 h4 h5 h6=>?_,hi.snap,fun l o p R a v h1 h2 h3 h4=>?_,hi.fresh⟩,hr,.refl _,rfl,rfl,rfl,g9 _,g9 _,fun _ _ _=>rfl,fun _ _ hv=>.inl hv,fun l o hl=>.inl (hd l o hl),fun R hR=>.inl ?_⟩⟩
 ·rcases j7 hl with⟨rfl,rfl⟩|⟨_,h1⟩
  ·obtain⟨p,h1,h2,h3,h4,h5,h6⟩:=hi.own l _ h;have at_:∀{i:Nat} {x:List MV},xs[i]?=some x→(xs++ex)[i]?=some x:=fun hx=>by rw[List.getElem?_append_left (cr.1 hx).1];exact hx
   refine⟨p,h1,h2,by rw[cy] at h3;omega,h4,fun i x hx=>h5 i x (at_ hx),?_⟩;cases hb:p.jh with
   |none=>simp only[hb] at h6;exact h6
   |some R =>
    simp only[hb] at h6;obtain⟨c,fz,k1,k2,k3,k4⟩:=h6;exact⟨c,fz,k1,k2,k3,fun i x j m hx hm=>k4 i x j m (at_ hx) hm⟩
  ·exact hi.own l o h1
 ·obtain⟨oa,ha⟩:=hd a o h1;obtain⟨ob,hb⟩:=hd b o' h2;exact hi.inj a b oa ob p p' R ha hb h3 h4 h5 h6
 ·obtain⟨oa,ha⟩:=hd l o h1;exact hi.apart l oa p R a v ha h2 h3 h4
 ·obtain⟨l,o,p,h1,h2,h3⟩:=hR;obtain⟨oa,ha⟩:=hd l o h1;exact⟨l,oa,p,ha,h2,h3⟩
def X1(n:Nat)(K:St→Prop):YQ
 |.normal,f,σ,t=>f.d=[]∧(t=some n∨t=none)∧K σ
 |.ret,f,σ,t=>f.d=[]∧(t=some n∨t=none)∧K σ
 |_,_,_,_=>False
def St.lR(σi τ σ:St):St:=fun l=>if (σi l).isSome then τ l else σ l
def MO(Q:MQ)(σi:St)(K:St→Prop):MQ:=fun e f σ=>∀τ,K τ→(∀l o,σ l=some o→σi l=none)→Gh f (σi.lR τ σ) fun f1 σ1=>Q e f1 σ1
def Hg{P:Program}{fn:Func}{tmps:Array Value}{C:YC}{t:Option Nat}(tq:fn.results.toList=[]){Φ0:bd}{σ0:St}{w0:World}{S0:YS}(h0:Φ0.base=w0.heap.size){R:Ending→World→Prop}{K:St→Prop}(hR:∀v Φ' w' af S',kC C Φ' af w' S' t→eL Φ0 σ0 w0 S0 Φ' af w' S'→K af→R (.returned v) w') :
  ∀(ds:List Deferred) (Φ:bd) (w:World) (σ:St) (S:YS),eF Φ w ds []→kC C Φ σ w S t→eL Φ0 σ0 w0 S0 Φ σ w S→K σ→kQ P fn tmps R ds w:=by
 intro ds
 induction ds with
 |nil =>
  intro Φ w σ S _ hi hs hk;refine⟨.tuple #[],?_,hR _ Φ w σ S hi hs hk⟩;rw[pW];have:fn.results=#[]:=Array.toList_eq_nil_iff.1 tq;simp only[this];first|rfl|simp[j5,j4]
 |cons x ds ih =>
  intro Φ w σ S hd hi hs hk;rcases hd with⟨D,h1,h2,h3,h4,h5⟩|⟨g,ms,r,cap,h,_⟩
  ·refine .inl ⟨D,_,h1,run_takeDeferred h3,?_⟩;have hDb:w0.heap.size≤D:=by rw[←h0,←hs.le.base];exact h2
   have i':=hi.inv.putObj (.deferred none) h3 (fun _ _ _ e=>by cases e) (fun _ _ e=>by cases e);have s':eL Φ0 σ0 w0 S0 Φ σ (w.putObj D (.deferred none)) S :=
    ⟨hs.le,hs.os,hs.tape,hs.output,hs.drawn,by rw[b0];exact hs.size,fun k hk hn hw=>(be oM).trans (hs.block k hk hn hw),hs.cl,hs.cz,hs.wr,hs.sn⟩
   refine ih Φ _ σ S ?_ ⟨i',hi.ic.putObj _ h3,hi.cl,hi.cz,by rw[b0];exact hi.size,hi.st⟩ s' hk;have:∀(xs:List Deferred) (d:List (FuncId×List MV)),(∀y,y∈xs→y.target≠.collected D)→eF Φ w xs d→eF Φ (w.putObj D (.deferred none)) xs d:=by
    intro xs
    induction xs with
    |nil=>intro d _ h;exact⟨h.1,by rw[b0];exact h.2⟩
    |cons y xs ihx =>
     intro d hy h;rcases h with⟨D',k1,k2,k3,k4,k5⟩|⟨g,ms,r,cap,k1,k2,k3,k4⟩
     ·refine .inl ⟨D',k1,k2,?_,k4,ihx d (fun z hz=>hy z (by simp[hz])) k5⟩;rw[be]
      ·exact k3
      ·intro e;exact hy y ax (by rw[k1,e])
     ·exact .inr ⟨g,ms,r,cap,k1,k2,k3,ihx r (fun z hz=>hy z (by simp[hz])) k4⟩
   exact this ds [] h4 h5
  ·cases h
def Gj.gY{P:Program}{g:FuncId}{fn:Func}{c:Code}{ns:List MV}{σi:St}{xs:List (List MV)}{K:St→Prop}(n:Nat)(hf:P.funcs[g]?=some fn)(hb:fn.body=some c)(hn:(fn.name == "runtime.NumGoroutine")=false)
 (ZH:max fn.ntmps (ns.length+1)=n)(tq:fn.results.toList=[])
 (h:∀C:YC,C.xs=xs→qG P C.l C.xs C.Y C.Yx C.Φ0 C.σ0 C.n0→zx P C c ⟨n,jD 0 (.fn (.yield C.l) [] []::ns),[]⟩ σi (some 0) (X1 xs.length K)):Gj P g ns σi xs K:=by
 refine⟨⟨fn,hf,by simp[hb],hn⟩,fun l Y Yx Φ w S vs jz hi ha h0 hr=>?_⟩;obtain⟨C,hC⟩:∃C:YC,C=⟨l,xs,Y,Yx,Φ.bA w.heap.size,σi,w.heap.size⟩:=⟨_,rfl⟩
 have lq:iX (Φ.bA w.heap.size) (#[Value.func (.yield l) #[] #[]]++vs) (.fn (.yield l) [] []::ns):=by
  refine⟨by simp[hr.1];omega,fun i m hm=>?_⟩;cases i with
  |zero =>
   simp only[fu,ju] at hm;subst hm;have e:(#[Value.func (.yield l) #[] #[]]++vs).getD 0 undef=Value.func (.yield l) #[] #[]:=by simp[kt,li]
   rw[e];exact wR _ (.func (.yield l) #[] #[])
  |succ i =>
   have:=(hr.2 i m (by simpa using hm)).bA w.heap.size;have e:(#[Value.func (.yield l) #[] #[]]++vs).getD (i+1) undef=vs.getD i undef:=by simp[kt,li]
   rw[e];exact this
 have kj:=x0 (fn:=fn) lq;rw[ci,ZH] at kj;have nz:=h C (by rw[hC]) (by rw[hC];exact jz.bA _);have dg:kC C (Φ.bA w.heap.size) σi w S (some 0):=by subst hC;exact⟨hi.bA _,ha.bA _,fun a v q=>.inl q,fun R q=>.inl q,g9 _,h0⟩
 have hl:C.l=l:=by rw[hC]
 rw[hl] at nz;refine(pF (R:=fun e w'=>∃v Φ' af S',e=.returned v∧(kC C Φ' af w' S' (some xs.length)∨kC C Φ' af w' S' none)∧eL (Φ.bA w.heap.size) σi w S Φ' af w' S'∧K af) hf hb (wp_mono (wpIn_wide.1 (nz _ .wide (Φ.bA w.heap.size) w { tmps:=_,defers:=[] } S dg kj ⟨rfl,g9 _⟩)) ?_)).mono ?_
 ·rintro e a' w' ⟨f',af,t',Φ',S',q1,q2,q3,q4,q5⟩;have fin:(t'=some xs.length∨t'=none)→f'.d=[]→K af→kQ P fn a'.tmps (fun e w'=>∃v Φ' af S',e=.returned v∧(kC C Φ' af w' S' (some xs.length)∨kC C Φ' af w' S' none)∧eL (Φ.bA w.heap.size) σi w S Φ' af w' S'∧K af) a'.defers w':=by
   intro ht hd hk;rw[hd] at q3;rcases ht with rfl|rfl
   ·exact Hg (K:=K) (P:=P) (fn:=fn) (tmps:=a'.tmps) tq (Φ0:=Φ.bA w.heap.size) (w0:=w) rfl (fun v ZZ w'' ub S'' q qs k=>⟨v,ZZ,ub,S'',rfl,.inl q,qs,k⟩) a'.defers Φ' w' af S' q3 q1 q4 hk
   ·exact Hg (K:=K) (P:=P) (fn:=fn) (tmps:=a'.tmps) tq (Φ0:=Φ.bA w.heap.size) (w0:=w) rfl (fun v ZZ w'' ub S'' q qs k=>⟨v,ZZ,ub,S'',rfl,.inr q,qs,k⟩) a'.defers Φ' w' af S' q3 q1 q4 hk
  cases e with
  |normal=>exact⟨.inl rfl,fin q5.2.1 q5.1 q5.2.2⟩
  |ret=>exact⟨.inr rfl,fin q5.2.1 q5.1 q5.2.2⟩
  |_=>exact q5.elim
 ·rintro e w' ⟨v,Φ',af,S',rfl,q,qs,hk⟩;subst hC;rcases q with q|q
  ·exact⟨v,Φ'.bA Φ.base,af,S',rfl,q.inv.bA _,q.ic.bA _,qs.bA,.inl q.st,hk⟩
  ·exact⟨v,Φ'.bA Φ.base,af,S',rfl,q.inv.bA _,q.ic.bA _,qs.bA,.inr q.st,hk⟩
structure tM (A:Nat→Prop) (Φ0:bd) (σ0:St) (n0:Nat) (Φ:bd) (σ:St):Prop where
 le:Φ0.le Φ
 cl:∀a v,Φ.snap a=some v→Φ0.snap a=some v∨n0≤a.block∨aV Φ0 σ0 a.block
 jc:∀l o,σ l=some o→A l∨Φ0.obj l=none
 cz:∀R,aV Φ σ R→aV Φ0 σ0 R∨n0≤R
def tM.step{A:Nat→Prop}{Φ0 Φ Φ':bd}{σ0 σ af:St}{n0:Nat}{w w':World}(h:tM A Φ0 σ0 n0 Φ σ)(hn:n0≤w.heap.size)(k:Step Φ σ w Φ' af w'):tM A Φ0 σ0 n0 Φ' af where
 le:=h.le.trans k.le
 cl:=fun a v hv=>by
  rcases k.cl a v hv with q|q|q
  ·exact h.cl a v q
  ·exact .inr (.inl (ib hn q))
  ·rcases h.cz _ q with q|q
   ·exact .inr (.inr q)
   ·exact .inr (.inl q)
 jc:=fun l o hl=>by
  rcases k.jc l o hl with⟨o',q⟩|q
  ·exact h.jc l o' q
  ·right;cases hl:Φ0.obj l with
   |none=>rfl
   |some p=>have:=h.le.obj l p hl;simp[this] at q
 cz:=fun R hR=>by
  rcases k.cz R hR with q|q
  ·exact h.cz R q
  ·exact .inr (ib hn q)
structure uV (A:Nat→Prop) (Φ0:bd) (σ0:St) (n0:Nat) (tmps:Array Value) (fc:FR) (l:Nat) (st:Loop) (σ:St) (S:YS) (Φ:bd):Prop where
 inv:Inv Φ S.w σ
 frame:dP Φ tmps fc
 step:tM A Φ0 σ0 n0 Φ σ
 wr:∀k,S.wr k↔(aV Φ σ k∨k=l)
 sn:∀a,S.sn a=Φ.snap a
 su:S.w.heap[l]?=some (.loop st)
 size:n0≤S.w.heap.size
 base:Φ.base≤S.w.heap.size
def uV.agree{A:Nat→Prop}{Φ0 Φ:bd}{σ0 σ:St}{n0:Nat}{tmps:Array Value}{fc:FR}{l:Nat}{st:Loop}{S:YS}(h:uV A Φ0 σ0 n0 tmps fc l st σ S Φ):mL S S.w :=
 ⟨fun _ _=>rfl,fun k hk=>by
  rcases (h.wr k).1 hk with q|rfl
  ·obtain⟨l',o,p,h1,h2,h3⟩:=q;obtain⟨p',e,bh⟩:=(h.inv.own l' o h1).place;rw[h2] at e;cases e;exact bh k h3
  ·exact(kr.1 h.su).1,(fun k hk x e=>by
  rcases (h.wr k).1 hk with q|rfl
  ·exact h.inv.mark e q
  ·rw[h.su] at e;cases e),fun a v q=>h.inv.snap a v (by rw[←h.sn a];exact q),g9 _,rfl,rfl,rfl,g9 _⟩
def uV.at{A:Nat→Prop}{Φ0 Φ:bd}{σ0 σ:St}{n0:Nat}{tmps:Array Value}{fc:FR}{l:Nat}{st:Loop}{S:YS}(h:uV A Φ0 σ0 n0 tmps fc l st σ S Φ){w:World}(ha:mL S w){Ψ:bd}(ho:∀m,Ψ.obj m=none)
 (hs:∀a v,Ψ.snap a=some v→w.cell? a=some v∧¬S.wr a.block∧(Φ0.snap a=some v∨n0≤a.block∨aV Φ0 σ0 a.block)) :
  ∃Φ',Inv Φ' w σ∧dP Φ' tmps fc∧tM A Φ0 σ0 n0 Φ' σ∧(∀k,aV Φ' σ k↔aV Φ σ k)∧(∀a v,Φ'.snap a=some v→S.sn a=some v∨Ψ.snap a=some v)∧(∀v m,Rel Ψ v m→Rel Φ' v m)∧w.heap[l]?=some (.loop st)∧Φ'.base≤w.heap.size:=by
 obtain⟨Φ',we⟩:∃Φ':bd,Φ'={ Φ with snap:=fun a=>match Φ.snap a with|some v=>some v|none=>Ψ.snap a }:=⟨_,rfl⟩
 have hle:Φ.le Φ':=by subst we;exact⟨fun a v q=>by simp[q],fun _ _ q=>q,rfl⟩
 have gj:Φ'.obj=Φ.obj:=by subst we;rfl
 have hb:Φ'.base=Φ.base:=by subst we;rfl
 have cc:∀a v,Φ'.snap a=some v→Φ.snap a=some v∨Ψ.snap a=some v:=fun a v q=>by
  subst we;simp only at q;cases e:Φ.snap a with
  |none=>rw[e] at q;exact .inr q
  |some u=>rw[e] at q;exact .inl q
 have ZP:∀k,aV Φ σ k→w.heap[k]?=S.w.heap[k]?:=fun k hk=>ha.same k ((h.wr k).2 (.inl hk));have gp:∀k,aV Φ' σ k↔aV Φ σ k:=fun k=>by unfold aV;rw[gj]
 refine⟨Φ',⟨fun l' o hl=>(h.inv.own l' o hl).mono hle fun p R h1 h2=>ZP R ⟨l',o,p,hl,h1,h2⟩,fun a b o o' p p' R h1 h2 h3 h4=>?_,fun a v q=>?_,fun l' o p R a v h1 h2 h3 q=>?_,?_⟩,h.frame.mono hle,⟨h.step.le.trans hle,fun a v q=>?_,h.step.jc,fun R hR=>h.step.cz R ((gp R).1 hR)⟩,gp,fun a v q=>?_,fun v m r=>?_,?_,?_⟩
 ·rw[gj] at h3 h4;exact h.inv.inj a b o o' p p' R h1 h2 h3 h4
 ·rcases cc a v q with q|q
  ·exact ha.sn a v (by rw[h.sn a];exact q)
  ·exact(hs a v q).1
 ·rw[gj] at h2;rcases cc a v q with q|q
  ·exact h.inv.apart l' o p R a v h1 h2 h3 q
  ·intro e;exact(hs a v q).2.1 ((h.wr _).2 (.inl ⟨l',o,p,h1,h2,e ▸ h3⟩))
 ·obtain⟨n,hn⟩:=h.inv.fresh.1.1;exact⟨⟨⟨n,fun k hk=>by rw[gj];exact hn k hk⟩,fun k p hk=>h.inv.fresh.1.2 k p (by rw[←gj];exact hk)⟩,fun g i v q=>hle.snap _ _ (h.inv.fresh.2.1 g i v q),h.inv.fresh.2.2.mono hle.snap⟩
 ·rcases cc a v q with q|q
  ·exact h.step.cl a v q
  ·exact(hs a v q).2.2
 ·rcases cc a v q with q|q
  ·exact .inl (by rw[h.sn a];exact q)
  ·exact .inr q
 ·refine r.HG (fun a u q=>?_) (fun l' p q=>by rw[ho l'] at q;cases q);have h1:=(hs a u q).1;subst we;simp only;cases e:Φ.snap a with
  |none=>exact q
  |some u' =>
   have h2:=ha.sn a u' (by rw[h.sn a];exact e);rw[h1] at h2;simpa using h2.symm
 ·rw[ha.same l ((h.wr l).2 (.inr rfl))];exact h.su
 ·rw[hb];exact ib h.base ha.size
def PN{P:Program}{A:Nat→Prop}{Φ0:bd}{σ0:St}{n0:Nat}{tmps:Array Value}{fc:FR}{l:Nat}{fn:FuncId}{ps:Array Tmp}{assign body:Code}{Q:MQ}{nxt:St→Prop}{D:Nat}{σ:St}{S:YS}{Φ:bd}{x:List MV}{w:World}{Ψ:bd}{vs:Array Value}
 (rec:LoopState→Option Code→Loop)(jy:rec=fun st pe=>{ state:=st,pending:=pe,fn,tmps,params:=ps,assign,body,defers:=D })
 (nda:gW assign=true)(ndb:gW body=true)(hx:x.length=ps.size)
 (hr:il P assign (o8 ⟨fc.n,fc.l,[]⟩ ps.toList x) σ (H4 fun f1 σ1=>il P body f1 σ1 (uJ Q fc nxt)))
 (h:uV A Φ0 σ0 n0 tmps fc l (rec .ready none) σ S Φ)(ha:mL S w)(Zh:n0≤w.heap.size)(ho:∀m,Ψ.obj m=none)
 (hs:∀a v,Ψ.snap a=some v→w.cell? a=some v∧¬S.wr a.block∧(Φ0.snap a=some v∨n0≤a.block∨aV Φ0 σ0 a.block))(hv:iX Ψ vs x) :
  YieldAt a7 0 P l vs w fun e w'=>∃b S',e=.returned (.bool b)∧S'.w=w'∧mL S' w'∧w'.os=w.os∧w'.tape=w.tape∧w'.output=w.output∧ki w≤ki w'∧w.heap.size≤w'.heap.size ∧
   (∀k,k<w.heap.size→¬S.wr k→w'.heap[k]?=w.heap[k]?)∧(∀k,S'.wr k→S.wr k∨w.heap.size≤k) ∧
   (∀a v,S'.sn a=some v→S.sn a=some v∨S.wr a.block∨w.heap.size≤a.block∨Ψ.snap a=some v) ∧
   (if b=true then ∃σ1 ei,nxt σ1∧uV A Φ0 σ0 n0 tmps fc l (rec .ready none) σ1 S' ei else ∃c σ1 ei,((c=.ret∧Q .ret fc σ1)∨∃id,c=.exit id∧Q (.exit id) fc σ1)∧uV A Φ0 σ0 n0 tmps fc l (rec .done (some c)) σ1 S' ei):=by
 obtain⟨jg,i1,fr1,c1,o1,s1,r1,l1,b1⟩:=h.at ha ho hs;have hl:l<w.heap.size:=(kr.1 l1).1;have hwl:S.wr l:=(h.wr l).2 (.inr rfl);have hy:=run_yield (P:=P) (args:=vs) l1 (by rw[jy];exact hv.1.trans hx);rw[jy] at hy;refine⟨fn,_,assign,body,hy,roundIn_of_wpIn trivial ?_⟩;have kj:dP jg ((ps.zip vs).foldl (fun t (p:Tmp×Value)=>t.setIfInBounds p.1 p.2) tmps) (o8 ⟨fc.n,fc.l,[]⟩ ps.toList x):=by rw[Df];refine x6 ps.toList x vs.toList tmps ⟨fc.n,fc.l,[]⟩ fr1 (by simpa using hv.1) fun i m hm=>?_;have:=r1 _ _ (hv.2 i m hm);simpa[kt,ct] using this
 refine wpIn_mono (hr (a7.inRound l) (.inr ⟨l,rfl,nda⟩) jg w { tmps:=_,defers:=[] } i1 kj (by rw[MK];exact⟨rfl,b1⟩)) ?_;rintro e ix fj ⟨f2,eh,kh,d2,fr2,i2,kc,q⟩;cases e with
 |normal =>
  have ec:¬aV jg σ l:=i1.pO l1;have uf:fj.heap[l]?=some (.loop (rec .ready none)):=(kc.block l hl ec).trans l1;refine⟨_,run_beginRound uf (by rw[jy]),?_⟩;obtain⟨gz,uh⟩:∃gz,fj.putObj l (.loop { rec .ready none with state:=.busy })=gz:=⟨_,rfl⟩
  rw[uh];have i2':Inv kh gz eh:=by rw[←uh];exact i2.putObj _ uf (fun _ _ _ e=>by cases e) (fun _ _ e=>by cases e)
  have sz2:gz.heap.size=fj.heap.size:=by rw[←uh,b0]
  have ll2:gz.heap[l]?=some (.loop { rec .ready none with state:=.busy }):=by rw[←uh];exact b5 (kr.1 uf).1
  have d2':eF kh gz ix.defers f2.d:=d2.mono (.refl _) oM fun D' hD=>by
   rw[←uh,be]
   ·exact hD
   ·rintro rfl;rw[uf] at hD;cases hD
  have q:il P body f2 eh (uJ Q fc nxt):=q;refine wpIn_mono (q (a7.inRound l) (.inr ⟨l,rfl,ndb⟩) kh gz ix i2' fr2 d2') ?_;rintro e a₃ fe ⟨f3,sx,wi,d3,fr3,i3,ri,q3⟩;have hnl2:¬aV kh eh l:=i2'.pO ll2;have hl3:fe.heap[l]?=some (.loop { rec .ready none with state:=.busy }):=(ri.block l (kr.1 ll2).1 hnl2).trans ll2
  -- what a round comes to,whichever way it is left
  have fin:∀(jump:Option Code) (st:Loop) (po:St) (K:FR→St→Prop),st=rec (if jump.isNone then .ready else .done) jump→Gh f3 sx K →
    ∃po f4 nn,K f4 po∧(Instr.endRound l jump).run P fe=.ok (.bool jump.isNone) (fe.putObj l (.loop st)) ∧
     (∃S':YS,S'.w=fe.putObj l (.loop st)∧mL S' (fe.putObj l (.loop st))∧(fe.putObj l (.loop st)).os=w.os∧(fe.putObj l (.loop st)).tape=w.tape∧(fe.putObj l (.loop st)).output=w.output∧ki w≤ki (fe.putObj l (.loop st))∧w.heap.size≤(fe.putObj l (.loop st)).heap.size ∧
      (∀k,k<w.heap.size→¬S.wr k→(fe.putObj l (.loop st)).heap[k]?=w.heap[k]?)∧(∀k,S'.wr k→S.wr k∨w.heap.size≤k) ∧
      (∀a v,S'.sn a=some v→S.sn a=some v∨S.wr a.block∨w.heap.size≤a.block∨Ψ.snap a=some v)∧uV A Φ0 σ0 n0 tmps fc l st po S' nn):=by
   intro jump st _ K dg hg;obtain⟨f4,po,nn,-,k4,i4,fr4,st4⟩:=hg wi fe a₃.tmps i3 fr3;have dy:=run_endRound (P:=P) jump hl3;have xe:({ ({ rec .ready none with state:=.busy }:Loop) with state:=if jump.isNone then .ready else .done,pending:=jump }:Loop)=st:=by rw[dg,jy]
   rw[xe] at dy;refine⟨po,f4,nn,k4,dy,?_⟩;obtain⟨ke,ly⟩:∃ke,fe.putObj l (.loop st)=ke:=⟨_,rfl⟩
   rw[ly];have sz4:ke.heap.size=fe.heap.size:=by rw[←ly,b0]
   have i4':Inv nn ke po:=by rw[←ly];exact i4.putObj _ hl3 (fun _ _ _ e=>by cases e) (fun _ _ e=>by cases e)
   have cs:tM A Φ0 σ0 n0 nn po:=((c1.step Zh kc).step (w:=gz) (by have:=kc.size;omega) ri).step (w:=fe) (by have:=kc.size;have:=ri.size;omega) st4;have dq:w.heap.size≤fe.heap.size:=by have:=kc.size;have:=ri.size;omega
   have oth:∀k,k≠l→ke.heap[k]?=fe.heap[k]?:=fun k hk=>by rw[←ly];exact be hk
   have oth2:∀k,k≠l→gz.heap[k]?=fj.heap[k]?:=fun k hk=>by rw[←uh];exact be hk
   have ow:∀k,aV nn po k→S.wr k∨w.heap.size≤k:=fun k hk=>by
    rcases st4.cz k hk with q|q
    ·rcases ri.cz k q with q|q
     ·rcases kc.cz k q with q|q
      ·exact .inl ((h.wr k).2 (.inl ((o1 k).1 q)))
      ·exact .inr q
     ·have:=kc.size;exact .inr oM
    ·exact .inr oM
   have hcst:uV A Φ0 σ0 n0 tmps fc l st po ⟨ke,fun k=>aV nn po k∨k=l,nn.snap⟩ nn :=
    ⟨i4',fr1.mono ((kc.le.trans ri.le).trans st4.le),cs,fun _=>Iff.rfl,fun _=>rfl,by simp only;rw[←ly];exact b5 (kr.1 hl3).1,by simp only;omega,by
     simp only;rw[st4.le.base,ri.le.base,kc.le.base];omega⟩
   refine⟨⟨ke,fun k=>aV nn po k∨k=l,nn.snap⟩,rfl,hcst.agree,?_,?_,?_,?_,oM,fun k hk hw=>?_,fun k hk=>?_,fun a v hv=>?_,hcst⟩
   ·have e1:ke.os=fe.os:=by rw[←ly];rfl
    have e2:gz.os=fj.os:=by rw[←uh];rfl
    rw[e1,ri.os,e2,kc.os]
   ·have e1:ke.tape=fe.tape:=by rw[←ly];rfl
    have e2:gz.tape=fj.tape:=by rw[←uh];rfl
    rw[e1,ri.tape,e2,kc.tape]
   ·have e1:ke.output=fe.output:=by rw[←ly];rfl
    have e2:gz.output=fj.output:=by rw[←uh];rfl
    rw[e1,ri.output,e2,kc.output]
   ·have e1:ki ke=ki fe:=by rw[←ly];rfl
    have e2:ki gz=ki fj:=by rw[←uh];rfl
    have:=kc.drawn;have:=ri.drawn;omega
   ·have mz:k≠l:=fun e=>hw (e ▸ hwl);have lx:¬aV jg σ k:=fun q=>hw ((h.wr k).2 (.inl ((o1 k).1 q)));have hno2:¬aV kh eh k:=fun q=>(kc.cz k q).elim lx (fun q=>oM);rw[oth k mz,ri.block k (by have:=kc.size;omega) hno2,oth2 k mz,kc.block k hk lx]
   ·rcases hk with q|rfl
    ·exact ow k q
    ·exact .inl hwl
   ·have hv:nn.snap a=some v:=hv;have ow3:∀k,aV wi sx k→S.wr k∨w.heap.size≤k:=fun k hk=>by
     rcases ri.cz k hk with q|q
     ·rcases kc.cz k q with q|q
      ·exact .inl ((h.wr k).2 (.inl ((o1 k).1 q)))
      ·exact .inr q
     ·have:=kc.size;exact .inr oM
    have ow2:∀k,aV kh eh k→S.wr k∨w.heap.size≤k:=fun k hk=>by
     rcases kc.cz k hk with q|q
     ·exact .inl ((h.wr k).2 (.inl ((o1 k).1 q)))
     ·exact .inr q
    have tw:S.wr a.block∨w.heap.size≤a.block→S.sn a=some v∨S.wr a.block∨w.heap.size≤a.block∨Ψ.snap a=some v:=fun q=>q.elim (fun q=>.inr (.inl q)) (fun q=>.inr (.inr (.inl q)));rcases st4.cl a v hv with q|q|q
    ·rcases ri.cl a v q with q|q|q
     ·rcases kc.cl a v q with q|q|q
      ·rcases s1 a v q with q|q
       ·exact .inl q
       ·exact .inr (.inr (.inr q))
      ·exact tw (.inr q)
      ·exact tw (.inl ((h.wr _).2 (.inl ((o1 _).1 q))))
     ·have:=kc.size;exact tw (.inr oM)
     ·exact tw (ow2 _ q)
    ·exact tw (.inr oM)
    ·exact tw (ow3 _ q)
  cases e with
  |normal =>
   obtain⟨po,f4,nn,k4,dy,S',hS1,Zq,Zr,Zs,Zt,Zu,ye,wm,yf,nw,lf⟩:=fin none (rec .ready none) sx _ rfl q3;exact⟨_,_,dy,true,S',rfl,hS1,Zq,Zr,Zs,Zt,Zu,ye,wm,yf,nw,po,nn,k4,lf⟩
  |ret =>
   obtain⟨po,f4,nn,k4,dy,S',hS1,Zq,Zr,Zs,Zt,Zu,ye,wm,yf,nw,lf⟩:=fin (some .ret) (rec .done (some .ret)) sx _ rfl q3;exact⟨_,_,dy,false,S',rfl,hS1,Zq,Zr,Zs,Zt,Zu,ye,wm,yf,nw,.ret,po,nn,.inl ⟨rfl,k4⟩,lf⟩
  |exit id =>
   obtain⟨po,f4,nn,k4,dy,S',hS1,Zq,Zr,Zs,Zt,Zu,ye,wm,yf,nw,lf⟩:=fin (some (.exit id)) (rec .done (some (.exit id))) sx _ rfl q3;exact⟨_,_,dy,false,S',rfl,hS1,Zq,Zr,Zs,Zt,Zu,ye,wm,yf,nw,.exit id,po,nn,.inr ⟨id,rfl,k4⟩,lf⟩
  |goto l=>exact q3.elim
  |panic c=>exact q3.elim
  |outgrown=>exact q3.elim
 |exit id=>exact q.elim
 |goto l=>exact q.elim
 |ret=>exact q.elim
 |panic c=>exact q.elim
 |outgrown=>exact q.elim
def Bh{P:Program}{g:Operand}{ps:Array Tmp}{assign body:Code}{f:FR}{σ:St}{Q:MQ}{gf:FuncId}{ns:List MV}(hg:aH f g=.fn (.func gf) [] ns){σi:St}(hle:σi.le σ){xs:List (List MV)}
 {K:St→Prop}(hK:∀τ,K τ→∀l o,σi l≠none→τ l=some o→InO (fun k=>σi k≠none) o)
 (vj:Gj P gf ns σi xs K)(hx:∀x,x∈xs→x.length=ps.size)(nda:gW assign=true)(ndb:gW body=true){α:Type}(fc:FR)(hd0:fc.d=f.d)(S:Nat→α→St)(p:Nat→α→Prop)
 (h0:Gh f (σ.minus σi) fun f1 σ1=>f1=fc∧∃a,σ1=S 0 a∧p 0 a)
 (round:∀i x a,xs[i]?=some x→p i a→il P assign (o8 ⟨fc.n,fc.l,[]⟩ ps.toList x) (S i a) (H4 fun f1 σ1=>il P body f1 σ1 (uJ (MO Q σi K) fc fun eh=>∃b,eh=S (i+1) b∧p (i+1) b)))
 (done:∀a,p xs.length a→MO Q σi K .normal fc (S xs.length a)):il P (.rangeFunc g ps assign body) f σ Q:=by
 intro F hF Φ w a hi hr hd;have ud:F=a7:=by
  rcases hF with h|⟨l,_,h⟩
  ·exact h
  ·cases h
 subst ud;have si:∀l o,σi l=some o→σ l=some o:=hle;obtain⟨f1,σ1,ei,-,⟨rfl,a0,rfl,p0⟩,i1,r1,st1⟩:=h0 Φ w a.tmps (hi.less (St.lF σ σi)) hr;have hv:=aL hr g;rw[hg] at hv;obtain⟨first,cap,he,ZA,dv⟩:=hv.pM;have hfe:first=#[]:=by have:=ZA.1;exact k6 (by simpa using this)
 subst hfe;obtain⟨fnn,mm,nz,vd⟩:=vj.1;have eg:∀(args:Array Value) (w:World),(callFunc gf args).run P w=.ok (.enter gf args) w:=fun args w=>by simp only[callFunc,j5,run_program,mm,vd,nz,Result.andThen_ok,ap,if_false,j4]
 refine wpIn_rangeFunc fun fn _=>?_;obtain⟨rec,jy⟩:∃rec:LoopState→Option Code→Loop,rec=fun st pe=>{ state:=st,pending:=pe,fn,tmps:=a.tmps,params:=ps,assign,body,defers:=w.heap.size }:=⟨_,rfl⟩
 obtain⟨W1,rp⟩:∃W1,(w.alloc (.deferred (some []))).alloc (.loop (rec .ready none))=W1:=⟨_,rfl⟩
 have sz1:W1.heap.size=w.heap.size+2:=by rw[←rp,b6,b6]
 have old:∀k,k<w.heap.size→W1.heap[k]?=w.heap[k]?:=fun k hk=>by rw[←rp];show((w.heap.push _).push _)[k]?=_;rw[kw,if_neg (by simp;omega),kw,if_neg oM]
 have hL:W1.heap[w.heap.size+1]?=some (.loop (rec .ready none)):=by rw[←rp];have:=World.alloc_heap_new (w.alloc (.deferred (some []))) (.loop (rec .ready none));rwa [b6] at this
 have hD:W1.heap[w.heap.size]?=some (Obj.deferred (some [])):=by rw[←rp];show((w.heap.push _).push _)[w.heap.size]?=_;rw[kw,if_neg ax,kw,if_pos rfl]
 have eos:W1.os=w.os:=by rw[←rp];rfl
 have eta:W1.tape=w.tape:=by rw[←rp];rfl
 have eou:W1.output=w.output:=by rw[←rp];rfl
 have edr:ki W1=ki w:=by rw[←rp];rfl
 have gr:∀{Φ:bd} {σ:St},Inv Φ w σ→Inv Φ W1 σ∧Step Φ σ w Φ σ W1:=fun h=>h.grow eos eta eou oM oM old;have yo:∀k,aV ei (S 0 a0) k→aV Φ (σ.minus σi) k:=fun k hk=>by
  rcases st1.cz k hk with q|q
  ·exact q
  ·exfalso;obtain⟨l,o,p,h1,h2,h3⟩:=hk;obtain⟨p',e,bh⟩:=(i1.own l o h1).place;rw[h2] at e;cases e;have:=bh k h3;omega
 have ma:∀{τ:St},τ.le σ→∀k,aV Φ τ k→aV Φ σ k:=fun hτ k hk=>hk.less hτ;have um:∀k,aV Φ (σ.minus σi) k→¬aV Φ σi k:=fun k ⟨l,o,p,h1,h2,h3⟩ ⟨l',o',p',h4,h5,h6⟩=>by have e:=hi.inj l l' o o' p p' k (cM h1).2 (hle l' o' h4) h2 h5 h3 h6;subst e;have:=(cM h1).1;rw[h4] at this;cases this
 have hb:=hd.base;obtain⟨S0,hS0⟩:∃S0:YS,S0=⟨W1,fun k=>aV ei (S 0 a0) k∨k=w.heap.size+1,ei.snap⟩:=⟨_,rfl⟩
 obtain⟨A,hA⟩:∃A:Nat→Prop,A=fun l=>∃o',(σ.minus σi) l=some o':=⟨_,rfl⟩
 have c0:tM A Φ σ w.heap.size ei (S 0 a0):=⟨st1.le,fun b v q=>(st1.cl b v q).imp_right (fun q=>q.imp_right (ma (St.lF _ _) _)),fun l o q=>by
  rcases st1.jc l o q with⟨o',h⟩|h
  ·rw[hA];exact .inl ⟨o',h⟩
  ·exact .inr h,fun R hR=>.inl (ma (St.lF _ _) _ (yo R hR))⟩
 have cst0:uV A Φ σ w.heap.size a.tmps f1 (w.heap.size+1) (rec .ready none) (S 0 a0) S0 ei:=by subst hS0;exact⟨(gr i1).1,r1,c0,fun _=>Iff.rfl,fun _=>rfl,hL,by simp only;omega,by simp only;rw[st1.le.base];omega⟩
 have apt0:xy Φ σi S0 W1:=by
  have wq:=cst0.agree;subst hS0;refine⟨wq,fun k hk=>?_,fun b v q'=>?_,fun b v q hk=>?_⟩
  ·rcases hk with hk|rfl
   ·exact um k (yo k hk)
   ·exact(gr (hi.less hle)).1.pO hL
  ·rintro⟨l,o,p,h1,h2,h3⟩;rcases st1.cl b v q' with q|q|q
   ·exact hi.apart l o p b.block b v (hle l o h1) h2 h3 q rfl
   ·have bh:=bv w b (i1.snap b v q');omega
   ·exact um _ q ⟨l,o,p,h1,h2,h3⟩
  ·have sc:=bv w b (hi.snap b v q);rcases hk with hk|hk
   ·obtain⟨l,o,p,h1,h2,h3⟩:=yo _ hk;exact hi.apart l o p b.block b v (cM h1).2 h2 h3 q rfl
   ·omega
 refine⟨w.heap.size+1,[{ target:=.collected w.heap.size,args:=#[] }],W1,{ target:=.fn (.func gf) cap,args:=#[.func (.yield (w.heap.size+1)) #[] #[]] },W1,gf,
  #[.func (.yield (w.heap.size+1)) #[] #[]]++cap,W1,?_,?_,fun _ _=>trivial,?_,(fun q=>by cases q),?_⟩
 ·rw[←rp,jy];exact run_enterLoop_outer _ _ _ _ _
 ·simp only[resolve,he];simp[go_sem]
 ·simp[invoke,go_sem,eg]
 ·refine callsIn_wide.2 ((vj.2 (w.heap.size+1)
   (fun i Sx=>∃b jg,p i b∧uV A Φ σ w.heap.size a.tmps f1 (w.heap.size+1) (rec .ready none) (S i b) Sx jg)
   (fun Sx=>∃c px jg,((c=.ret∧MO Q σi K .ret f1 px)∨∃id,c=.exit id∧MO Q σi K (.exit id) f1 px)∧uV A Φ σ w.heap.size a.tmps f1 (w.heap.size+1) (rec .done (some c)) px Sx jg)
   Φ W1 S0 cap ?_ (gr (hi.less hle)).1 apt0 ⟨a0,ei,p0,cst0⟩ dv).mono ?_)
  ·rintro i x Sx W Ψ vs hix ⟨b,jg,pb,cs⟩ wq dq ho hs hvs;have vm:=hx x (co hix);have:=PN (A:=A) (P:=P) rec jy nda ndb vm (round i x b hix pb) cs wq oM ho (fun u v q=>⟨(hs u v q).1,(hs u v q).2.1,(hs u v q).2.2.imp_right fun q=>q.imp (fun q=>oM) (ma hle _)⟩) hvs;obtain⟨fn',t',as',bd',e1,e2⟩:=this;refine⟨fn',t',as',bd',e1,e2.mono ?_⟩;rintro e w' ⟨bb,S',q1,q2,q3,q4,q5,q6,q7,q8,q9,q10,q11,q12⟩;refine⟨bb,S',q1,q2,q3,q4,q5,q6,q7,q8,q9,q10,q11,?_⟩;cases bb with
   |true =>
    obtain⟨eh,kh,⟨b',rfl,pb'⟩,vz⟩:=q12;exact⟨b',kh,pb',vz⟩
   |false=>exact q12
  ·rintro e w3 ⟨v,Φe,σe,S',rfl,ie,ic,yq,hy,hke⟩
   -- the loop's side behind the iterator
   have fin:∀(st:Loop) (px:St) (jg:bd),uV A Φ σ w.heap.size a.tmps f1 (w.heap.size+1) st px S' jg→st.state≠.busy→∃w4 xg,(Instr.endLoop (w.heap.size+1)).run P w3=.ok st.pending w4∧dP xg a.tmps f1 ∧
     Inv xg w4 (σi.lR σe px)∧Step Φ σ w xg (σi.lR σe px) w4∧eF xg w4 ({ target:=.collected w.heap.size,args:=#[] }::a.defers) f1.d:=by
    intro st px jg cs hbusy;have Z6:w3.heap[w.heap.size+1]?=some (.loop st):=(ic.agree.same _ ((cs.wr _).2 (.inr rfl))).trans cs.su;obtain⟨w4,ly⟩:∃w4,w3.putObj (w.heap.size+1) (.loop { st with state:=.exhausted })=w4:=⟨_,rfl⟩
    have dy:=run_endLoop (P:=P) Z6 hbusy;rw[ly] at dy;have sz4:w4.heap.size=w3.heap.size:=by rw[←ly,b0]
    have szz:w.heap.size+2≤w3.heap.size:=by have:=yq.size;omega
    have i3:Inv jg w3 px:=by have ZP:∀k,aV jg px k→w3.heap[k]?=S'.w.heap[k]?:=fun k hk=>ic.agree.same k ((cs.wr k).2 (.inl hk));exact⟨fun l' o hl=>(cs.inv.own l' o hl).mono (.refl _) fun p R h1 h2=>ZP R ⟨l',o,p,hl,h1,h2⟩,cs.inv.inj,fun b u q=>ic.agree.sn b u (by rw[cs.sn b];exact q),cs.inv.apart,cs.inv.fresh⟩
    have i4:Inv jg w4 px:=by rw[←ly];exact i3.putObj _ Z6 (fun _ _ _ e=>by cases e) (fun _ _ e=>by cases e)
    have jh:∀k,k<w.heap.size→¬aV Φ σ k→w4.heap[k]?=w.heap[k]?:=fun k hk hn=>by
     rw[←ly,be oM,yq.block k oM (fun q=>hn (ma hle k q)) (fun q=>?_),old k hk];subst hS0;rcases q with q|q
     ·exact hn (ma (St.lF _ _) k (yo k q))
     ·omega
    have hmark:w4.heap[w.heap.size]?=some (Obj.deferred (some [])):=by
     rw[←ly,be oM,yq.block _ oM ((gr (hi.less hle)).1.mark hD) (fun q=>?_),hD];subst hS0;rcases q with q|q
     ·exact(gr i1).1.mark hD q
     ·omega
    obtain⟨xg,we⟩:∃xg:bd,xg={ jg with snap:=fun a=>match jg.snap a with|some v=>some v|none=>Φe.snap a }:=⟨_,rfl⟩
    have hle:jg.le xg:=by subst we;exact⟨fun a v q=>by simp[q],fun _ _ q=>q,rfl⟩
    have gj:xg.obj=jg.obj:=by subst we;rfl
    have cc:∀a v,xg.snap a=some v→jg.snap a=some v∨Φe.snap a=some v:=fun a v q=>by
     subst we;simp only at q;cases e:jg.snap a with
     |none=>rw[e] at q;exact .inr q
     |some u=>rw[e] at q;exact .inl q
    have hse:∀a v,Φe.snap a=some v→xg.snap a=some v:=fun a v q=>by
     subst we;simp only;cases e:jg.snap a with
     |none=>exact q
     |some u =>
      have h1:=i3.snap a u e;rw[ie.snap a v q] at h1;simpa using h1.symm
    have hoo:∀k p,σi k≠none→Φe.obj k=some p→xg.obj k=some p:=fun k p hk q=>by
     cases e:σi k with
     |none=>exact absurd e hk
     |some o =>
      obtain⟨p',h1,_⟩:=(hi.own k o (si k o e)).place;have h2:=yq.le.obj k p' h1;rw[q] at h2;rw[gj,cs.step.le.obj k p' h1,h2]
    have hoe:∀k p o,σi k=some o→xg.obj k=some p→Φe.obj k=some p:=fun k p o hk q=>by obtain⟨p',h1,_⟩:=(hi.own k o (si k o hk)).place;rw[gj,cs.step.le.obj k p' h1] at q;rw[yq.le.obj k p' h1,q]
    have hov:∀k o,σi.lR σe px k=some o→((∃o',σi k=some o')∧σe k=some o)∨(σi k=none∧px k=some o):=fun k o h=>by
     unfold St.lR at h;cases e:σi k with
     |none=>rw[e] at h;exact .inr ⟨rfl,h⟩
     |some o'=>rw[e] at h;exact .inl ⟨⟨o',rfl⟩,h⟩
    have hlw:w4.heap[w.heap.size+1]?=some (.loop { st with state:=.exhausted }):=by rw[←ly];exact b5 (kr.1 Z6).1
    have oth:∀k,k≠w.heap.size+1→w4.heap[k]?=w3.heap[k]?:=fun k hk=>by rw[←ly];exact be hk
    have owne:∀R,aV Φe σe R→R≠w.heap.size+1:=fun R hR e=>ie.pO Z6 (e ▸ hR);have im:Inv xg w4 (σi.lR σe px):=by
     refine⟨fun l' o hl=>?_,fun a b o o' p p' R h1 h2 h3 h4 h5 h6=>?_,fun a v q=>?_,fun l' o p R a v h1 h2 h3 q=>?_,?_⟩
     ·rcases hov l' o hl with⟨⟨o',q1⟩,q2⟩|⟨q1,q2⟩
      ·have fg:σi l'≠none:=by rw[q1];exact fun e=>by cases e
       exact((ie.own l' o q2).inD hse hoo fg (hK σe hke l' o fg q2)).mono (.refl _) fun p R h1 h2=>oth R (owne R ⟨l',o,p,q2,hoe l' p o' q1 h1,h2⟩)
      ·exact(i4.own l' o q2).mono hle fun _ _ _ _=>rfl
     ·rcases hov a o h1 with⟨⟨oa,q1⟩,q2⟩|⟨q1,q2⟩<;>rcases hov b o' h2 with⟨⟨ob,q3⟩,q4⟩|⟨q3,q4⟩
      ·exact ie.inj a b o o' p p' R q2 q4 (hoe a p oa q1 h3) (hoe b p' ob q3 h4) h5 h6
      ·exact absurd ⟨a,o,p,q2,hoe a p oa q1 h3,h5⟩ (ic.own R ((cs.wr R).2 (.inl ⟨b,o',p',q4,by rw[←gj];exact h4,h6⟩)))
      ·exact absurd ⟨b,o',p',q4,hoe b p' ob q3 h4,h6⟩ (ic.own R ((cs.wr R).2 (.inl ⟨a,o,p,q2,by rw[←gj];exact h3,h5⟩)))
      ·rw[gj] at h3 h4;exact i4.inj a b o o' p p' R q2 q4 h3 h4 h5 h6
     ·rcases cc a v q with q|q
      ·exact i4.snap a v q
      ·rw[World.fF (oth a.block fun e=>ic.snap a v q ((cs.wr _).2 (.inr e)))];exact ie.snap a v q
     ·rcases hov l' o h1 with⟨⟨o',q1⟩,q2⟩|⟨q1,q2⟩
      ·rcases cc a v q with q|q
       ·intro e;exact ic.rf a v (by rw[cs.sn a];exact q) ⟨l',o,p,q2,hoe l' p o' q1 h2,e ▸ h3⟩
       ·exact ie.apart l' o p R a v q2 (hoe l' p o' q1 h2) h3 q
      ·rcases cc a v q with q|q
       ·rw[gj] at h2;exact i4.apart l' o p R a v q2 h2 h3 q
       ·intro e;exact ic.snap a v q ((cs.wr _).2 (.inl ⟨l',o,p,q2,by rw[←gj];exact h2,e ▸ h3⟩))
     ·obtain⟨n,hn⟩:=i4.fresh.1.1;exact⟨⟨⟨n,fun k hk=>by rw[gj];exact hn k hk⟩,fun k p hk=>i4.fresh.1.2 k p (by rw[←gj];exact hk)⟩,fun g i v q=>hle.snap _ _ (i4.fresh.2.1 g i v q),i4.fresh.2.2.mono hle.snap⟩
    have zv:Step Φ σ w xg (σi.lR σe px) w4 :=
     ⟨cs.step.le.trans hle,by rw[←ly];exact yq.os.trans eos,by rw[←ly];exact yq.tape.trans eta,by rw[←ly];exact yq.output.trans eou,by
      have e:ki w4=ki w3:=by rw[←ly];rfl
      have:=yq.drawn;omega,oM,jh,fun a v q=>by
       rcases cc a v q with q|q
       ·exact cs.step.cl a v q
       ·rcases yq.cl a v q with q|q|q
        ·exact .inl q
        ·exact .inr (.inl oM)
        ·exact .inr (.inr (ma si _ q)),fun l' o hl=>by
       rcases hov l' o hl with⟨⟨o',q1⟩,q2⟩|⟨q1,q2⟩
       ·exact .inl ⟨o',si l' o' q1⟩
       ·rcases cs.step.jc l' o q2 with q|q
        ·rw[hA] at q;obtain⟨o',q⟩:=q;exact .inl ⟨o',(cM q).2⟩
        ·exact .inr q,fun R hR=>by
       obtain⟨l',o,p,h1,h2,h3⟩:=hR;rcases hov l' o h1 with⟨⟨o',q1⟩,q2⟩|⟨q1,q2⟩
       ·rcases yq.cz R ⟨l',o,p,q2,hoe l' p o' q1 h2,h3⟩ with q|q
        ·exact .inl (ma si _ q)
        ·exact .inr oM
       ·exact cs.step.cz R ⟨l',o,p,q2,by rw[←gj];exact h2,h3⟩⟩
    refine⟨w4,xg,dy,cs.frame.mono hle,im,zv,.inl ⟨w.heap.size,rfl,by rw[hle.base,cs.step.le.base];exact hb,hmark,fun y hy e=>?_,hd0 ▸ hd.step hi zv⟩⟩
    -- the mark is a new one
    have:∀(ds:List Deferred) (d:List (FuncId×List MV)),eF Φ w ds d→∀y,y∈ds→y.target≠.collected w.heap.size:=by
     intro ds
     induction ds with
     |nil=>intro d _ y hy;cases hy
     |cons z ds ih =>
      intro d h y hy;rcases h with⟨D,k1,k2,k3,k4,k5⟩|⟨g,ms,r,cp,k1,k2,k3,k4⟩
      ·rcases dn.1 hy with rfl|hy
       ·rw[k1];intro e;cases e;have:=(kr.1 k3).1;omega
       ·exact ih d k5 y hy
      ·rcases dn.1 hy with rfl|hy
       ·rw[k2];intro e;cases e
       ·exact ih r k4 y hy
    exact this a.defers f.d hd y hy e
   have lh:∀(st:Loop) (px:St) (jg:bd),uV A Φ σ w.heap.size a.tmps f1 (w.heap.size+1) st px S' jg→∀l o,px l=some o→σi l=none:=fun st px jg cs l' o hl=>by
    rcases cs.step.jc l' o hl with q|q
    ·rw[hA] at q;obtain⟨o',q⟩:=q;exact(cM q).1
    ·cases e:σi l' with
     |none=>rfl
     |some o2 =>
      obtain⟨p',h1,_⟩:=(hi.own l' o2 (si l' o2 e)).place;rw[q] at h1;cases h1
   rcases hy with⟨b,jg,pb,cs⟩|⟨c,px,jg,hc,cs⟩
   ·obtain⟨w4,xg,dy,fr4,i4,s4,d4⟩:=fin _ _ _ cs (by rw[jy];simp);obtain⟨f5,σ5,Φ5,e5,k5,i5,fr5,st5⟩:=done b pb σe hke (lh _ _ _ cs) xg w4 a.tmps i4 fr4;exact⟨none,w4,by rw[dy,jy],f5,_,Φ5,e5 ▸ d4.step i4 st5,fr5,i5,s4.trans st5,k5⟩
   ·obtain⟨w4,xg,dy,fr4,i4,s4,d4⟩:=fin _ _ _ cs (by rw[jy];simp);refine⟨some c,w4,by rw[dy,jy],?_⟩;rcases hc with⟨rfl,q⟩|⟨id,rfl,q⟩
    ·obtain⟨f5,σ5,Φ5,e5,k5,i5,fr5,st5⟩:=q σe hke (lh _ _ _ cs) xg w4 a.tmps i4 fr4;exact wpIn_ret ⟨f5,_,Φ5,e5 ▸ d4.step i4 st5,fr5,i5,s4.trans st5,k5⟩
    ·obtain⟨f5,σ5,Φ5,e5,k5,i5,fr5,st5⟩:=q σe hke (lh _ _ _ cs) xg w4 a.tmps i4 fr4;exact wpIn_exit ⟨f5,_,Φ5,e5 ▸ d4.step i4 st5,fr5,i5,s4.trans st5,k5⟩
