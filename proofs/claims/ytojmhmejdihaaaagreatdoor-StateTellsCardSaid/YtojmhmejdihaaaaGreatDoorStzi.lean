/- Parts of the proof, joined; conditions: those that its theorems name. -/
import Derived.Test.YtojmhmejdihaaaaGreatDoorStzg
import Derived.Test.YtojmhmejdihaaaaGreatDoorCards
import Derived.Test.YtojmhmejdihaaaaGreatDoorTie
set_option linter.unusedVariables false
set_option linter.unusedSimpArgs false
set_option maxHeartbeats 4000000
namespace Go.Proofs.YtojmhmejdihaaaaGreatDoor
section
set_option maxRecDepth 100000
set_option maxHeartbeats 8000000
theorem IX(t:TU):aA Tryz.prog 245 [.agg t.c] St.none (fun r _=>r=.bool (xC t)):=by
 refine aA.bF (aA.body 68 [.tmp 2] Tryz.func245 rfl rfl rfl rfl ?_)
 obtain⟨res,hres⟩:∃b,xC t=b:=⟨_,rfl⟩
 rw[hres]
 unfold xC eD big at hres
 have hc:=qN t.card
 have hm:cC Tryz.prog 52 .eql (.agg t.card.c) (.agg (.int .i64 0::.int .i64 0::.int .u32 0::fc f80))=some (True,.bool (decide (t.card=ca0))):=uY t.card ca0
 have hi:=zV [t.id] false (by simp)
 have hid:fP 0 [t.id]=decide (1≤t.id∧t.id<1073741824):=by
  simp only[fP,Bool.and_true,eD]
  exact decide_eq_decide.mpr (by omega)
 rw[hid] at hi
 clear hid
 obtain⟨io,hio⟩:∃io,decide (1≤t.id∧t.id<1073741824)=io:=⟨_,rfl⟩
 rw[hio] at hi
 have hmin:((if t.new<t.old then t.new else t.old)<0)=(t.old<0∨t.new<0):=propext (by split<;>omega)
 have hmax:(1099511627776<(if t.new > t.old then t.new else t.old))=(1099511627776<t.old∨1099511627776<t.new):=propext (by split<;>omega)
 by_cases hr:1≤t.sq∧t.sq≤1099511627776∧1≤t.id∧t.id<1073741824∧0≤t.old∧t.old≤1099511627776∧0≤t.new∧t.new≤1099511627776∧t.old≠t.new
 ·rw[decide_eq_true hr,Bool.true_and] at hres
  obtain⟨r1,r2,r3,r4,r5,r6,r7,r8,r9⟩:=hr
  have:io=true:=by rw[←hio];exact decide_eq_true ⟨r3,r4⟩
  subst this
  by_cases h0:t.new=0
  ·rw[if_pos h0] at hres
   rw[hres] at hm
   repeat' (first|(refine gY [.lst 1 ([t.id].map aR) false] hi (by constructor) rfl (fK (.vecAll (aM _ _ _) rfl)) ?_)|(with_reducible first|(refine wN fun _ hnl=>?_;revert hnl;(repeat refine wS fun _ _=>?_);intro hnl)|refine wE ?_|(refine wK ?_ ?_<;>intro h)|(refine wB ?_ ?_<;>intro h<;>simp only[h]))|simp(maxSteps:=4000000) (disch:=first|exact ddL|fail) only[go_sem,simprocAttr,Tryz.f245,FXs,hm,hmin,hmax])
   all_goals first|exact⟨_,St.le_refl _,rfl⟩|exact⟨_,St.le_refl _⟩|(exfalso;omega)
  ·rw[if_neg h0] at hres
   obtain⟨ok,hok⟩:∃b,cX t.card=b:=⟨_,rfl⟩
   rw[hok] at hc hres
   have hh:res=(ok&&decide (t.card.id=t.id)&&decide (t.card.ver=t.new)):=by
    rw[←hres,Bool.and_assoc,Bool.decide_and]
   clear hres
   subst hh
   cases ok
   ·repeat' (first|(refine gY [.lst 1 ([t.id].map aR) false] hi (by constructor) rfl (fK (.vecAll (aM _ _ _) rfl)) ?_)|(with_reducible first|refine up hc ?_)|(with_reducible first|(refine wN fun _ hnl=>?_;revert hnl;(repeat refine wS fun _ _=>?_);intro hnl)|refine wE ?_|(refine wK ?_ ?_<;>intro h)|(refine wB ?_ ?_<;>intro h<;>simp only[h]))|simp(maxSteps:=4000000) (disch:=first|exact ddL|fail) only[go_sem,simprocAttr,Tryz.f245,FXs,hmin,hmax])
    all_goals first|exact⟨_,St.le_refl _,rfl⟩|exact⟨_,St.le_refl _⟩|(exfalso;omega)|(refine⟨_,St.le_refl _,?_⟩;simp[*])
   ·repeat' (first|(refine gY [.lst 1 ([t.id].map aR) false] hi (by constructor) rfl (fK (.vecAll (aM _ _ _) rfl)) ?_)|(with_reducible first|refine up hc ?_)|(with_reducible first|(refine wN fun _ hnl=>?_;revert hnl;(repeat refine wS fun _ _=>?_);intro hnl)|refine wE ?_|(refine wK ?_ ?_<;>intro h)|(refine wB ?_ ?_<;>intro h<;>simp only[h]))|simp(maxSteps:=4000000) (disch:=first|exact ddL|fail) only[go_sem,simprocAttr,Tryz.f245,FXs,hmin,hmax])
    all_goals first|exact⟨_,St.le_refl _,rfl⟩|exact⟨_,St.le_refl _⟩|(exfalso;omega)|(refine⟨_,St.le_refl _,?_⟩;simp[*])
 ·rw[decide_eq_false hr,Bool.false_and] at hres
  subst hres
  cases io
  ·have hio:¬(1≤t.id∧t.id<1073741824):=by simpa using hio
   clear hr
   repeat' (first|(refine gY [.lst 1 ([t.id].map aR) false] hi (by constructor) rfl (fK (.vecAll (aM _ _ _) rfl)) ?_)|(with_reducible first|(refine wN fun _ hnl=>?_;revert hnl;(repeat refine wS fun _ _=>?_);intro hnl)|refine wE ?_|(refine wK ?_ ?_<;>intro h)|(refine wB ?_ ?_<;>intro h<;>simp only[h]))|simp(maxSteps:=4000000) (disch:=first|exact ddL|fail) only[go_sem,simprocAttr,Tryz.f245,FXs])
   all_goals first|exact⟨_,St.le_refl _,rfl⟩|exact⟨_,St.le_refl _⟩|(exfalso;omega)
  ·have hio:1≤t.id∧t.id<1073741824:=by simpa using hio
   repeat' (first|(refine gY [.lst 1 ([t.id].map aR) false] hi (by constructor) rfl (fK (.vecAll (aM _ _ _) rfl)) ?_)|(with_reducible first|(refine wN fun _ hnl=>?_;revert hnl;(repeat refine wS fun _ _=>?_);intro hnl)|refine wE ?_|(refine wK ?_ ?_<;>intro h)|(refine wB ?_ ?_<;>intro h<;>simp only[h]))|simp(maxSteps:=4000000) (disch:=first|exact ddL|fail) only[go_sem,simprocAttr,Tryz.f245,FXs,hmin,hmax])
   all_goals first|exact⟨_,St.le_refl _,rfl⟩|exact⟨_,St.le_refl _⟩|(exfalso;omega)
structure JF (l:List TU) (es:List (MV × MV)):Prop where
 k:(es.all fun p=>isK .i64 p.1)=true
 o:DJ es
 g:∀id,cJ id es=(cQ l id).map fun n=>.int .i64 n
 n:es.length≤l.length
theorem CR:JF [] []:=⟨rfl,List.nodup_nil,fun _=>rfl,Nat.le_refl _⟩
theorem zO{l:List TU}{es:List (MV × MV)}(h:JF l es)(t:TU):JF (l++[t]) (dJ .i64 t.id (.int .i64 t.new) es):=by
 refine⟨qD h.k,zQ h.k h.o,fun id=>?_,?_⟩
 ·rw[rM h.k,j0]
  by_cases e:id=t.id
  ·subst e;simp
  ·rw[if_neg e,if_neg (Ne.symm e)];exact h.g id
 ·have:=uS (n:=t.id) (v:=.int .i64 t.new) (es:=es)
  have:=h.n
  rw[List.length_append]
  simp
  omega
theorem IZ(l:List TU)(hl:l.length≤1000000)(tt:Bool):aA Tryz.prog 158 [.lst 31 (l.map TU.c) tt] St.none (fun r _=>r=.bool (eY [] l)):=by
 refine aA.bF (aA.body 47 [.tmp 2] Tryz.func158 rfl rfl rfl rfl ?_)
 obtain⟨res,hres⟩:∃b,eY [] l=b:=⟨_,rfl⟩
 rw[hres]
 repeat' (first|(with_reducible first|(refine wT ?_;(first|((fail_if_success (have:=nl1));refine wN fun nl1 hnl=>?_)|refine wN fun _ hnl=>?_);revert hnl;(repeat refine wS fun _ _=>?_);intro hnl)|refine wE ?_|(refine wK ?_ ?_<;>intro h)|(refine wB ?_ ?_<;>intro h<;>simp only[h]))|simp(maxSteps:=4000000) (disch:=first|exact ddL|fail) only[go_sem,simprocAttr,Tryz.f158])
 refine aD (α:=Nat × List (MV × MV)) (fun z=>⟨47,[(12,.int .i64 (z.1:Int)),(11,.int .i64 (l.length:Int)),(10,.lst 31 (l.map TU.c) tt),(4,.mapv nl1),(3,.int .i64 (oX (l.take z.1)))],[]⟩)
  (fun z=>St.none.set nl1 (.mp z.2)) (fun z=>z.1≤l.length∧JF (l.take z.1) z.2∧res=eY (l.take z.1) (l.drop z.1)) (fun z=>l.length - z.1) (.of (.less ?_ (St.le_refl _)) ⟨(0,[]),rfl,rfl,Nat.zero_le _,CR,hres.symm⟩) ?_
 ·simp(maxSteps:=4000000) (disch:=first|exact ddL|fail) only[go_sem,simprocAttr,aC,aB]
  all_goals first|rfl|(simp;done)
 ·rintro⟨i,es⟩ ⟨hi,hM,hq⟩
  simp only at hi hM hq ⊢
  by_cases hlt:i<l.length
  ·obtain⟨x,hx⟩:=bC l hlt
   rw[cY hx,eY,←aO hx] at hq
   unfold FP at hq
   have hat:=aV (f:=TU.c) hx
   have hc:=IX x
   have hN:=zO hM x
   rw[←aO hx] at hN
   have hg:=hM.g x.id
   have hall:=hM.k
   have hsn:oX (l.take (i+1))=x.sq:=by rw[aO hx,pM]
   obtain⟨s,hs⟩:∃s,oX (l.take i)=s:=⟨_,rfl⟩
   rw[hs] at hq ⊢
   obtain⟨tk,htk⟩:∃b,xC x=b:=⟨_,rfl⟩
   rw[htk] at hc hq
   obtain⟨nw,hnw⟩:∃o,cQ (l.take i) x.id=o:=⟨_,rfl⟩
   rw[hnw] at hq hg
   cases tk
   ·rw[Bool.false_and,Bool.false_and,Bool.false_and] at hq
    subst hq
    repeat' (first|(with_reducible first|refine up hc ?_)|(with_reducible first|(refine wT ?_;(first|((fail_if_success (have:=nl1));refine wN fun nl1 hnl=>?_)|refine wN fun _ hnl=>?_);revert hnl;(repeat refine wS fun _ _=>?_);intro hnl)|refine wE ?_|(refine wK ?_ ?_<;>intro h)|(refine wB ?_ ?_<;>intro h<;>simp only[h]))|simp(maxSteps:=4000000) (disch:=first|exact ddL|fail) only[go_sem,simprocAttr,FXs,hat])
    all_goals first|exact⟨_,St.le_refl _,rfl⟩|exact⟨_,St.le_refl _⟩|(exfalso;omega)
   ·rw[Bool.true_and] at hq
    by_cases hseq:s<x.sq
    ·rw[decide_eq_true hseq,Bool.true_and] at hq
     cases nw with
     | none =>
      rw[Option.getD_none,decide_eq_true rfl,Bool.true_and] at hq
      rw[Option.map_none] at hg
      repeat' (first|(with_reducible first|refine up hc ?_)|(with_reducible first|(refine wT ?_;(first|((fail_if_success (have:=nl1));refine wN fun nl1 hnl=>?_)|refine wN fun _ hnl=>?_);revert hnl;(repeat refine wS fun _ _=>?_);intro hnl)|refine wE ?_|(refine wK ?_ ?_<;>intro h)|(refine wB ?_ ?_<;>intro h<;>simp only[h]))|simp(maxSteps:=4000000) (disch:=first|exact ddL|fail) only[go_sem,simprocAttr,FXs,hat,hg,hall,Option.getD_some,Option.getD_none,Option.isSome_some,Option.isSome_none])
      all_goals (try (exfalso;omega))
      all_goals
       refine .of (.less ?_ (σ1:=St.none.set nl1 (.mp (dJ .i64 x.id (.int .i64 x.new) es))) (St.aL (St.none_le _) (by simp[St.set, *]))) ⟨(i+1,dJ .i64 x.id (.int .i64 x.new) es),rfl,rfl,⟨by simp only;omega,hN,hq⟩,by simp only;omega⟩
       rw[hsn]
       simp(maxSteps:=4000000) (disch:=first|exact ddL|fail) only[go_sem,simprocAttr,aC,aB]
       all_goals first|rfl|(simp;done)
     | some n =>
      rw[Option.getD_some] at hq
      rw[Option.map_some] at hg
      by_cases hn:n=x.old
      ·rw[decide_eq_true hn,Bool.true_and] at hq
       repeat' (first|(with_reducible first|refine up hc ?_)|(with_reducible first|(refine wT ?_;(first|((fail_if_success (have:=nl1));refine wN fun nl1 hnl=>?_)|refine wN fun _ hnl=>?_);revert hnl;(repeat refine wS fun _ _=>?_);intro hnl)|refine wE ?_|(refine wK ?_ ?_<;>intro h)|(refine wB ?_ ?_<;>intro h<;>simp only[h]))|simp(maxSteps:=4000000) (disch:=first|exact ddL|fail) only[go_sem,simprocAttr,FXs,hat,hg,hall,Option.getD_some,Option.getD_none,Option.isSome_some,Option.isSome_none])
       all_goals (try (exfalso;omega))
       all_goals
        refine .of (.less ?_ (σ1:=St.none.set nl1 (.mp (dJ .i64 x.id (.int .i64 x.new) es))) (St.aL (St.none_le _) (by simp[St.set, *]))) ⟨(i+1,dJ .i64 x.id (.int .i64 x.new) es),rfl,rfl,⟨by simp only;omega,hN,hq⟩,by simp only;omega⟩
        rw[hsn]
        simp(maxSteps:=4000000) (disch:=first|exact ddL|fail) only[go_sem,simprocAttr,aC,aB]
        all_goals first|rfl|(simp;done)
      ·rw[decide_eq_false hn,Bool.false_and] at hq
       subst hq
       repeat' (first|(with_reducible first|refine up hc ?_)|(with_reducible first|(refine wT ?_;(first|((fail_if_success (have:=nl1));refine wN fun nl1 hnl=>?_)|refine wN fun _ hnl=>?_);revert hnl;(repeat refine wS fun _ _=>?_);intro hnl)|refine wE ?_|(refine wK ?_ ?_<;>intro h)|(refine wB ?_ ?_<;>intro h<;>simp only[h]))|simp(maxSteps:=4000000) (disch:=first|exact ddL|fail) only[go_sem,simprocAttr,FXs,hat,hg,hall,Option.getD_some,Option.getD_none,Option.isSome_some,Option.isSome_none])
       all_goals first|exact⟨_,St.le_refl _,rfl⟩|exact⟨_,St.le_refl _⟩|(exfalso;omega)
    ·rw[decide_eq_false hseq,Bool.false_and,Bool.false_and] at hq
     subst hq
     repeat' (first|(with_reducible first|refine up hc ?_)|(with_reducible first|(refine wT ?_;(first|((fail_if_success (have:=nl1));refine wN fun nl1 hnl=>?_)|refine wN fun _ hnl=>?_);revert hnl;(repeat refine wS fun _ _=>?_);intro hnl)|refine wE ?_|(refine wK ?_ ?_<;>intro h)|(refine wB ?_ ?_<;>intro h<;>simp only[h]))|simp(maxSteps:=4000000) (disch:=first|exact ddL|fail) only[go_sem,simprocAttr,FXs,hat])
     all_goals first|exact⟨_,St.le_refl _,rfl⟩|exact⟨_,St.le_refl _⟩|(exfalso;omega)
  ·have:i=l.length:=by omega
   subst this
   rw[List.drop_length,eY] at hq
   subst hq
   repeat' (first|(with_reducible first|(refine wT ?_;(first|((fail_if_success (have:=nl1));refine wN fun nl1 hnl=>?_)|refine wN fun _ hnl=>?_);revert hnl;(repeat refine wS fun _ _=>?_);intro hnl)|refine wE ?_|(refine wK ?_ ?_<;>intro h)|(refine wB ?_ ?_<;>intro h<;>simp only[h]))|simp(maxSteps:=4000000) (disch:=first|exact ddL|fail) only[go_sem,simprocAttr])
   all_goals first|exact⟨_,St.le_refl _,rfl⟩|exact⟨_,St.le_refl _⟩
end

section
set_option maxRecDepth 100000
set_option maxHeartbeats 4000000
theorem QP:JG oW:=Dt
theorem QX{L:List RW}{j:Nat}{c:List MV}(x:RW)(h:x.c=c):(L.map RW.c).set j c=(L.set j x).map RW.c:=by rw[List.map_set,h]
theorem ON:oW.length=6:=List.length_replicate
theorem QM{j:Nat}(h:j<6):(oW.map RW.c).getD j []=rwZ.c:=by
 have h':j<oW.length:=by rw[ON];exact h
 rw[aU rwZ h']
 congr 1
 exact List.eq_of_mem_replicate (bK rwZ h')
theorem DP:aA Tryz.prog 15 [] St.none (fun r _=>r=.bool true) :=
 JL (L:=oW) (L':=LN) (R0:=rwZ.c) QP ON (QM (by omega)) rfl (QX ⟨0,0,{ re0 with sq:=1 }⟩ rfl) (by rw[LN,List.length_set,ON]) okZ okS flZ (PT rfl)
end

section
open Go.ChangeShapes Go.WideShapes Go.RowKit
set_option maxRecDepth 100000
theorem Oe{n:Nat}{x:List MV}(h:CT Tryz.prog (n+2) 56 x):∃l:List Int,x=[.lst 1 (l.map aR) false]:=by
 obtain⟨xs,hm,_,hx⟩:=iS (by rw[NY]) h
 obtain⟨l,rfl⟩:=iU (f:=aR) fun x hx'=>(gU (hx x hx')).imp fun _ h=>h.1
 rw[td3] at hm
 exact⟨l,hm⟩
theorem OW{n:Nat}{x:List MV}(h:CT Tryz.prog (n+5) 22 x):∃l:List CA,x=[.lst 27 (l.map CA.c) false]:=by
 obtain⟨xs,hm,_,hx⟩:=iS (by rw[Pc]) h
 obtain⟨l,rfl⟩:=iU fun x hx'=>Od (hx x hx')
 rw[FL] at hm
 exact⟨l,hm⟩
theorem P2{n:Nat}{x:List MV}(h:CT Tryz.prog (n+2) 166 x):∃d:DE,x=d.c:=by
 obtain⟨hl,hf⟩:=dZ (congrArg TD.k Dv) h
 rw[Dv] at hl
 obtain⟨a,ha,_⟩:=gU (hf (0,3) (by simp))
 obtain⟨b,hb,_⟩:=gU (hf (1,3) (by simp))
 obtain⟨c,hc,_⟩:=gU (hf (2,3) (by simp))
 simp only[td3] at ha hb hc
 refine⟨⟨a,b,c⟩,?_⟩
 rw[fV hl [(0,1),(1,1),(2,1)] rfl]
 simp only[nG,ha,hb,hc]
 rfl
theorem OX{n:Nat}{x:List MV}(h:CT Tryz.prog (n+3) 23 x):∃l:List DE,x=[.lst 3 (l.map DE.c) false]:=by
 obtain⟨xs,hm,_,hx⟩:=iS (by rw[Pd]) h
 obtain⟨l,rfl⟩:=iU fun x hx'=>P2 (hx x hx')
 rw[Dv] at hm
 exact⟨l,hm⟩
theorem OY{n:Nat}{x:List MV}(h:CT Tryz.prog (n+3) 170 x):∃g:GR,x=g.c:=by
 obtain⟨hl,hf⟩:=dZ (congrArg TD.k GU) h
 rw[GU] at hl
 obtain⟨a,ha,_⟩:=gU (hf (0,3) (by simp))
 obtain⟨b,hb⟩:=Oe (hf (1,56) (by simp))
 simp only[td3,NY] at ha hb
 refine⟨⟨a,b⟩,?_⟩
 rw[fV hl [(0,1),(1,1)] rfl]
 simp only[nG,ha,hb]
 rfl
theorem NG{n:Nat}{x:List MV}(h:CT Tryz.prog (n+4) 24 x):∃l:List GR,x=[.lst 2 (l.map GR.c) false]:=by
 obtain⟨xs,hm,_,hx⟩:=iS (by rw[Pe]) h
 obtain⟨l,rfl⟩:=iU fun x hx'=>OY (hx x hx')
 rw[GU] at hm
 exact⟨l,hm⟩
theorem P1{n:Nat}{x:List MV}(h:CT Tryz.prog (n+6) 26 x):∃b:BK,x=b.c:=by
 obtain⟨hl,hf⟩:=dZ (congrArg TD.k NV) h
 rw[NV] at hl
 obtain⟨a,ha,_⟩:=gU (hf (0,3) (by simp))
 obtain⟨b,hb,_⟩:=gU (hf (1,3) (by simp))
 obtain⟨c,hc⟩:=OW (hf (2,22) (by simp))
 obtain⟨d,hd⟩:=OX (hf (3,23) (by simp))
 obtain⟨g,hg⟩:=NG (hf (4,24) (by simp))
 simp only[td3,Pc,Pd,Pe] at ha hb hc hd hg
 refine⟨⟨a,b,c,d,g⟩,?_⟩
 rw[fV hl [(0,1),(1,1),(2,1),(3,1),(4,1)] rfl]
 simp only[nG,ha,hb,hc,hd,hg]
 rfl
theorem P7{n:Nat}{x:List MV}(h:CT Tryz.prog (n+5) 212 x):∃t:TU,x=t.c:=by
 obtain⟨hl,hf⟩:=dZ (congrArg TD.k Dw) h
 rw[Dw] at hl
 obtain⟨a,ha,_⟩:=gU (hf (0,3) (by simp))
 obtain⟨b,hb,_⟩:=gU (hf (1,3) (by simp))
 obtain⟨c,hc,_⟩:=gU (hf (2,3) (by simp))
 obtain⟨d,hd,_⟩:=gU (hf (3,3) (by simp))
 obtain⟨e,he⟩:=Od (hf (4,52) (by simp))
 simp only[td3,FL] at ha hb hc hd he
 refine⟨⟨a,b,c,d,e⟩,?_⟩
 rw[fV hl [(0,1),(1,1),(2,1),(3,1),(4,27)] rfl]
 simp only[nG,ha,hb,hc,hd,he,List.append_nil]
 rfl
theorem O1{n:Nat}{x:List MV}(h:CT Tryz.prog (n+6) 117 x):∃l:List TU,x=[.lst 31 (l.map TU.c) false]:=by
 obtain⟨xs,hm,_,hx⟩:=iS (by rw[Ma]) h
 obtain⟨l,rfl⟩:=iU fun x hx'=>P7 (hx x hx')
 rw[Dw] at hm
 exact⟨l,hm⟩
theorem QV{n:Nat}{x:List MV}(h:CT Tryz.prog (n+7) 139 x):∃s:SU,x=s.c:=by
 obtain⟨hl,hf⟩:=dZ (congrArg TD.k GO) h
 rw[GO] at hl
 obtain⟨a,ha,_⟩:=gU (hf (0,3) (by simp))
 obtain⟨b,hb,_⟩:=gU (hf (1,3) (by simp))
 obtain⟨c,hc⟩:=Lq (hf (2,38) (by simp))
 obtain⟨d,hd⟩:=O2 (hf (3,39) (by simp))
 obtain⟨e,he,_⟩:=gU (hf (4,3) (by simp))
 obtain⟨f,hff⟩:=Oe (hf (5,56) (by simp))
 obtain⟨g,hg⟩:=O1 (hf (6,117) (by simp))
 simp only[td3,NX,FK,NY,Ma] at ha hb hc hd he hff hg
 refine⟨⟨a,b,c,d,e,f,g⟩,?_⟩
 rw[fV hl [(0,1),(1,1),(2,1),(3,1),(4,1),(5,1),(6,1)] rfl]
 simp only[nG,ha,hb,hc,hd,he,hff,hg]
 rfl
theorem P6{n:Nat}{x:List MV}(h:CT Tryz.prog (n+8) 27 x):∃l:List SU,x=[.lst 7 (l.map SU.c) false]:=by
 obtain⟨xs,hm,_,hx⟩:=iS (by rw[Pf]) h
 obtain⟨l,rfl⟩:=iU fun x hx'=>QV (hx x hx')
 rw[GO] at hm
 exact⟨l,hm⟩
theorem QU{n:Nat}{x:List MV}(h:CT Tryz.prog (n+6) 143 x):∃r:RW,x=r.c:=by
 obtain⟨hl,hf⟩:=dZ (congrArg TD.k GQ) h
 rw[GQ] at hl
 obtain⟨a,ha,_⟩:=gU (hf (0,3) (by simp))
 obtain⟨b,hb,_⟩:=gU (hf (1,3) (by simp))
 obtain⟨c,hc⟩:=OZ (hf (2,141) (by simp))
 simp only[td3,GP] at ha hb hc
 refine⟨⟨a,b,c⟩,?_⟩
 rw[fV hl [(0,1),(1,1),(2,10)] rfl]
 simp only[nG,ha,hb,hc,List.append_nil]
 rfl
theorem P5{n:Nat}{x:List MV}(h:CT Tryz.prog (n+7) 28 x):∃l:List RW,x=[.lst 12 (l.map RW.c) false]:=by
 obtain⟨xs,hm,_,hx⟩:=iS (by rw[Pg]) h
 obtain⟨l,rfl⟩:=iU fun x hx'=>QU (hx x hx')
 rw[GQ] at hm
 exact⟨l,hm⟩
theorem O0{n:Nat}{x:List MV}(h:CT Tryz.prog (n+9) 30 x):∃s:SA,x=s.c:=by
 obtain⟨hl,hf⟩:=dZ (congrArg TD.k NW) h
 rw[NW] at hl
 obtain⟨b,hb⟩:=P1 (hf (0,26) (by simp))
 obtain⟨s,hs⟩:=P6 (hf (5,27) (by simp))
 obtain⟨r,hr⟩:=P5 (hf (6,28) (by simp))
 simp only[NV,Pf,Pg] at hb hs hr
 refine⟨⟨b,s,r⟩,?_⟩
 rw[fV hl [(0,5),(5,1),(6,1)] rfl]
 simp only[nG,hb,hs,hr]
 rfl
theorem JK{m:MV}(h:AT Tryz.prog 10 30 m):∃s:SA,m=.agg s.c:=by
 obtain⟨cs,rfl,h1⟩:=Ou (by rw[NW];rfl) h
 obtain⟨x,rfl⟩:=O0 (n:=1) h1
 exact⟨x,rfl⟩
end

section
open Go.ChangeShapes Go.WideShapes Go.RowKit
set_option maxRecDepth 100000
theorem AD{P:Program}{f:FuncId}{fn:Func}{s:ChangeSpec}{c:OpenClaim}(h1:c.wf (OpenSpec.ofChange s)=true)(h2:laidOutB P=true)(h3:mapsRowed P=true)(h4:fn.params.all (P.readableRec ·)=true)(h5:namedTie P c.named s.vars=true)
 (h6:(c.stops==[])=true)(h7:(P.stops==[])=true)(h8:(c.knobs==[])=true)(h9:(P.stopKnobs==[])=true)(h10:(c.inPlace==P.inPlace f)=true)(h11:(c.unfollowed==P.unfollowed f)=true)(h12:(c.recurses==P.recurses f)=true)(h13:(c.named==P.varsNamed f)=true)
 (h14:(c.maps==(fn.params.toList++s.plain.varTypes P).any (P.mapsRec ·))=true)(h15:(c.ifaces==(fn.params.toList++s.plain.varTypes P).any (P.ifacesRec ·))=true)(h16:(c.mapsOut==P.mapsAmong fn.resultTypes.toList)=true)
 (h17:(c.loops==(fn.params.toList++s.plain.varTypes P).any (P.loopsFrom ·))=true)(h18:(c.wideKeys==(fn.params.toList++s.plain.varTypes P++fn.resultTypes.toList).any (P.wideKeysFrom ·))=true)
 (h19:s.vars.all (P.varReadable ·)=true)(h20:fn.resultTypes.all (fun t=>P.readableRec t&&decide (t<P.types.size))=true)(h21:(c.ifacesOut==fn.resultTypes.toList.any (P.ifacesRec ·))=true)(h22:(c.loopsOut==fn.resultTypes.toList.any (P.loopsFrom ·))=true)
 (h23:(c.plainKeys==P.plainKeys)=true)(h24:c.shortTexts.isNone=true)(h25:P.stopsHeard=true)(h26:P.mayEnter=true)(h27:(c.lifted==P.liftsFinal)=true)(h28:(P.make==some c.make)=true)
 (hd:c.domain.isEmpty=true)(h29:(c.kinds==[])=true)(h30:(c.pinned==c.pinnedBy)=true)
 (h31:(c.veiled==(fn.params.toList++s.plain.varTypes P++fn.resultTypes.toList).any (P.veiledRec ·))=true)(h32:c.veiledFits P fn.params.toList (fn.params.toList++s.plain.varTypes P++fn.resultTypes.toList)=true):joinedFacts P f fn s c=true:=by
 unfold joinedFacts
 rw[h1,h2,h3,h4,h5,h6,h7,h8,h9,h10,h11,h12,h13,h14,h15,h16,h17,h18,h19,h20,h21,h22,h23,h24,h25,h26,h27,h28,h30,h31,h32]
 simp only[hd,if_true,h29,Bool.and_true,Bool.and_self]
noncomputable abbrev PC:Program:=Tryz.pinned.checked.prog
theorem M4:laidOutB PC=true:=by kernel_rfl
theorem M7:mapsRowed PC=true:=by kernel_rfl
theorem Kn:(PC.stops==[])=true:=by kernel_rfl
theorem Kk:(PC.stopKnobs==[])=true:=by kernel_rfl
theorem M3:(Rows.stateTellsRow.plainKeys==PC.plainKeys)=true:=by kernel_rfl
theorem Kl:(Rows.stateTellsRow.lifted==PC.liftsFinal)=true:=by kernel_rfl
theorem M6:(PC.make==some Rows.stateTellsRow.make)=true:=by kernel_rfl
theorem Kj:PC.stopsHeard=true:=by kernel_rfl
end
end Go.Proofs.YtojmhmejdihaaaaGreatDoor
