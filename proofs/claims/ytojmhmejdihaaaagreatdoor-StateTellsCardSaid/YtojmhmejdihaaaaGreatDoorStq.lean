/- Parts of the proof, joined; conditions: those that its theorems name. -/
import Derived.Test.YtojmhmejdihaaaaGreatDoorSto
import Derived.Lib.IndexMore
set_option linter.unusedVariables false
set_option linter.unusedSimpArgs false
set_option maxHeartbeats 4000000
namespace Go.Proofs.YtojmhmejdihaaaaGreatDoor
section
set_option maxRecDepth 100000
def jE(l:List T):Nat:=l.foldl (fun d t=>max d t.depth) 0
theorem T.Ec(t:T):t.depth=jE t.kids+1:=by
 cases t<;>simp only[T.depth,T.kids,jE,List.foldl_nil,List.foldl_cons]<;>omega
theorem Al(l:List T)(t:T):jE (l++[t])=max (jE l) t.depth:=by simp[jE]
theorem T.mJ:∀t:T,t.depth≤t.fl.length
 | .leaf _=>by simp[T.depth,T.fl]
 | .one _ a=>by have:=T.mJ a;simp only[T.depth,T.fl,List.length_cons];omega
 | .two _ a b=>by have:=T.mJ a;have:=T.mJ b;simp only[T.depth,T.fl,List.length_cons,List.length_append];omega
theorem HG{t k:T}(h:k∈t.kids):k.fl.length<t.fl.length:=by
 cases t<;>simp only[T.kids,List.mem_cons,List.not_mem_nil,or_false] at h
 ·subst h;simp only[T.fl,List.length_cons];omega
 ·rcases h with rfl|rfl<;>simp only[T.fl,List.length_cons,List.length_append]<;>omega
theorem OM{t k:T}(ht:t.ok)(h:k∈t.kids):k.ok:=by
 cases t<;>simp only[T.kids,List.mem_cons,List.not_mem_nil,or_false] at h
 ·subst h;exact ht.2
 ·rcases h with rfl|rfl
  ·exact ht.2.1
  ·exact ht.2.2
theorem C6:∀(n:Nat) (t:T),t.ok→gK t.fl 0=(t.fl.length:Int)→t.fl.length≤n→n≤1000→∀tt:Bool,aA Tryz.prog 117 [.lst 5 (t.fl.map ND.c) tt] St.none (fun r _=>r=.int .i64 (t.depth:Int)):=by
 intro n
 induction n with
 | zero=>intro t h _ hl;have:=t.Aq;omega
 | succ n ih =>
  intro t h he hl hn tt
  refine(aA.body 33 [.tmp 2] Tryz.func117 rfl rfl rfl rfl ?_)
  have hend:=oA t.fl (by omega) tt 0
  rw[he] at hend
  have hk:=l3 t h (by omega) tt
  have hpos:=t.Aq
  have hkl:t.kids.length≤2:=by cases t<;>simp[T.kids]
  repeat' (first|(with_reducible first|refine up hend ?_|refine up hk ?_)|(with_reducible first|(refine wN fun _ hnl=>?_;revert hnl;(repeat refine wS fun _ _=>?_);intro hnl)|refine wE ?_|(refine wK ?_ ?_<;>intro h)|(refine wB ?_ ?_<;>intro h<;>simp only[h]))|simp(maxSteps:=4000000) (disch:=first|decide|assumption|omega|(simp only[wL];omega)) only[go_sem,simprocAttr,Tryz.f117])
  refine aD (α:=Nat) (fun i=>⟨33,[(5,.int .i64 (i:Int)),(4,.int .i64 (jE (t.kids.take i):Int)),(3,.lst 1 t.kl false)],[]⟩) (fun _=>St.none) (fun i=>i≤t.kids.length) (fun i=>t.kids.length - i) (.of (.less ?_ (St.le_refl _)) ⟨0,rfl,rfl,Nat.zero_le _⟩) ?_
  ·simp(maxSteps:=4000000) (disch:=first|decide|assumption|omega|(simp only[wL];omega)) only[go_sem,simprocAttr,aC,aB]
   all_goals rfl
  ·intro i hi
   have hi:i≤t.kids.length:=hi
   by_cases hlt:i<t.kids.length
   ·have hm:=bK (T.leaf nd0) hlt
    have hko:=OM h hm
    have hks:=HG hm
    have hke:gK (t.kids.getD i (.leaf nd0)).fl 0=((t.kids.getD i (.leaf nd0)).fl.length:Int):=by
     have:=Ga hko [] []
     simpa using this
    have hd:=ih _ hko hke (by omega) (by omega) false
    have hdl:=T.mJ (t.kids.getD i (.leaf nd0))
    have hsn:jE (t.kids.take (i+1))=max (jE (t.kids.take i)) (t.kids.getD i (.leaf nd0)).depth:=by
     rw[List.take_succ_eq_append_getElem hlt,←aZ (.leaf nd0) hlt,Al]
    repeat' (first|(with_reducible first|refine up hd ?_)|(with_reducible first|(refine wN fun _ hnl=>?_;revert hnl;(repeat refine wS fun _ _=>?_);intro hnl)|refine wE ?_|(refine wK ?_ ?_<;>intro h)|(refine wB ?_ ?_<;>intro h<;>simp only[h]))|simp(maxSteps:=4000000) (disch:=first|decide|assumption|omega|(simp only[wL];omega)) only[go_sem,simprocAttr,aU (T.leaf nd0)])
    refine .of (.less (l1:=[(5,.int .i64 ((i+1:Nat):Int)),(4,.int .i64 (jE (t.kids.take (i+1)):Int)),(3,.lst 1 t.kl false)]) ?_ (St.le_refl _)) ⟨i+1,rfl,rfl,by omega,by omega⟩
    rw[hsn]
    simp(maxSteps:=4000000) (disch:=first|decide|assumption|omega|(simp only[wL];omega)) only[go_sem,simprocAttr,aC,aB]
    all_goals omega
   ·have:i=t.kids.length:=by omega
    subst this
    have hdk:=t.Ec
    have hdl:=t.mJ
    rw[List.take_length]
    repeat' (first|(with_reducible first|(refine wN fun _ hnl=>?_;revert hnl;(repeat refine wS fun _ _=>?_);intro hnl)|refine wE ?_|(refine wK ?_ ?_<;>intro h)|(refine wB ?_ ?_<;>intro h<;>simp only[h]))|simp(maxSteps:=4000000) (disch:=first|decide|assumption|omega|(simp only[wL];omega)) only[go_sem,simprocAttr])
    all_goals (first|rfl|(congr 1;omega)|omega)
theorem C5(l:List ND)(hl:l.length≤1000)(tt:Bool):aA Tryz.prog 117 [.lst 5 (l.map ND.c) tt] St.none (fun r _=>r=.int .i64 (gN l:Int)):=by
 by_cases h:l=[]∨gK l 0≠l.length
 ·have e:gN l=0:=by unfold gN;rw[if_pos h]
  rw[e]
  refine(aA.body 33 [.tmp 2] Tryz.func117 rfl rfl rfl rfl ?_)
  have hend:=oA l (by omega) tt 0
  rcases h with rfl|h
  ·repeat' (first|(with_reducible first|refine up hend ?_)|(with_reducible first|(refine wN fun _ hnl=>?_;revert hnl;(repeat refine wS fun _ _=>?_);intro hnl)|refine wE ?_|(refine wK ?_ ?_<;>intro h)|(refine wB ?_ ?_<;>intro h<;>simp only[h]))|simp(maxSteps:=4000000) (disch:=first|decide|assumption|omega|(simp only[wL];omega)) only[go_sem,simprocAttr,Tryz.f117])
   all_goals rfl
  ·repeat' (first|(with_reducible first|refine up hend ?_)|(with_reducible first|(refine wN fun _ hnl=>?_;revert hnl;(repeat refine wS fun _ _=>?_);intro hnl)|refine wE ?_|(refine wK ?_ ?_<;>intro h)|(refine wB ?_ ?_<;>intro h<;>simp only[h]))|simp(maxSteps:=4000000) (disch:=first|decide|assumption|omega|(simp only[wL];omega)) only[go_sem,simprocAttr,Tryz.f117])
   all_goals rfl
 ·have h2:gK l 0=l.length:=Classical.not_not.1 fun h3=>h (.inr h3)
  obtain⟨t,ht,rfl⟩:=parse h2
  rw[Ed ht h2]
  exact C6 _ t ht h2 hl (Nat.le_refl _) tt
theorem qV(l:List ND)(tt:Bool):aA Tryz.prog 38 [.lst 5 (l.map ND.c) tt] St.none (fun r _=>r=.int .i64 (bM l)):=by
 refine(aA.body 32 [.tmp 2] Tryz.func38 rfl rfl rfl rfl ?_)
 unfold bM
 by_cases h31:31<l.length
 ·rw[if_pos h31]
  repeat' (first|(with_reducible first|(refine wN fun _ hnl=>?_;revert hnl;(repeat refine wS fun _ _=>?_);intro hnl)|refine wE ?_|(refine wK ?_ ?_<;>intro h)|(refine wB ?_ ?_<;>intro h<;>simp only[h]))|simp(maxSteps:=4000000) (disch:=first|decide|assumption|omega|(simp only[wL];omega)) only[go_sem,simprocAttr,Tryz.f38])
  all_goals rfl
 ·rw[if_neg h31]
  have hend:=oA l (by omega) tt 0
  have hd:=C5 l (by omega) tt
  repeat' (first|(with_reducible first|(refine wN fun _ hnl=>?_;revert hnl;(repeat refine wS fun _ _=>?_);intro hnl)|refine wE ?_|(refine wK ?_ ?_<;>intro h)|(refine wB ?_ ?_<;>intro h<;>simp only[h]))|simp(maxSteps:=4000000) (disch:=first|decide|assumption|omega|(simp only[wL];omega)) only[go_sem,simprocAttr,Tryz.f38])
  refine aD (α:=Nat) (fun i=>⟨32,[(3,.int .i64 (i:Int)),(0,.lst 5 (l.map ND.c) tt)],[]⟩) (fun _=>St.none) (fun i=>i≤l.length∧(l.take i).all eN=true) (fun i=>l.length - i) (.of (.less ?_ (St.le_refl _)) ⟨0,rfl,rfl,Nat.zero_le _,rfl⟩) ?_
  ·simp(maxSteps:=4000000) (disch:=first|decide|assumption|omega|(simp only[wL];omega)) only[go_sem,simprocAttr,aC,aB]
   all_goals rfl
  ·rintro i ⟨hi,hq⟩
   by_cases hlt:i<l.length
   ·have hn:=FA (l.getD i nd0)
    cases hok:eN (l.getD i nd0)<;>rw[hok] at hn
    ·repeat' (first|(with_reducible first|refine up hn ?_)|(with_reducible first|(refine wN fun _ hnl=>?_;revert hnl;(repeat refine wS fun _ _=>?_);intro hnl)|refine wE ?_|(refine wK ?_ ?_<;>intro h)|(refine wB ?_ ?_<;>intro h<;>simp only[h]))|simp(maxSteps:=4000000) (disch:=first|decide|assumption|omega|(simp only[wL];omega)) only[go_sem,simprocAttr,aU nd0])
     rw[if_pos]
     refine .inr (.inr ?_)
     cases hb:l.all eN
     ·rfl
     ·have:=List.all_eq_true.1 hb _ (bK nd0 hlt)
      rw[hok] at this;cases this
    ·repeat' (first|(with_reducible first|refine up hn ?_)|(with_reducible first|(refine wN fun _ hnl=>?_;revert hnl;(repeat refine wS fun _ _=>?_);intro hnl)|refine wE ?_|(refine wK ?_ ?_<;>intro h)|(refine wB ?_ ?_<;>intro h<;>simp only[h]))|simp(maxSteps:=4000000) (disch:=first|decide|assumption|omega|(simp only[wL];omega)) only[go_sem,simprocAttr,aU nd0])
     refine .of (.less ?_ (St.le_refl _)) ⟨i+1,rfl,rfl,⟨by omega,by rw[xH hlt,hq,←aZ nd0 hlt,hok];rfl⟩,by omega⟩
     simp(maxSteps:=4000000) (disch:=first|decide|assumption|omega|(simp only[wL];omega)) only[go_sem,simprocAttr,aC,aB]
     all_goals rfl
   ·have:i=l.length:=by omega
    subst this
    rw[List.take_length] at hq
    rw[hq]
    by_cases he:l=[]∨gK l 0≠l.length
    ·rw[if_pos (by rcases he with h|h;exact .inl h;exact .inr (.inl h))]
     rcases he with rfl|he
     ·repeat' (first|(with_reducible first|refine up hend ?_)|(with_reducible first|(refine wN fun _ hnl=>?_;revert hnl;(repeat refine wS fun _ _=>?_);intro hnl)|refine wE ?_|(refine wK ?_ ?_<;>intro h)|(refine wB ?_ ?_<;>intro h<;>simp only[h]))|simp(maxSteps:=4000000) (disch:=first|decide|assumption|omega|(simp only[wL];omega)) only[go_sem,simprocAttr])
      all_goals rfl
     ·repeat' (first|(with_reducible first|refine up hend ?_)|(with_reducible first|(refine wN fun _ hnl=>?_;revert hnl;(repeat refine wS fun _ _=>?_);intro hnl)|refine wE ?_|(refine wK ?_ ?_<;>intro h)|(refine wB ?_ ?_<;>intro h<;>simp only[h]))|simp(maxSteps:=4000000) (disch:=first|decide|assumption|omega|(simp only[wL];omega)) only[go_sem,simprocAttr])
      all_goals rfl
    ·have he1:0<l.length:=by
      cases l with
      | nil=>exact absurd (.inl rfl) he
      | cons x l=>simp
     have he2:gK l 0=l.length:=Classical.not_not.1 fun h3=>he (.inr h3)
     rw[he2] at hend
     rw[if_neg (by rintro(h|h|h);exact he (.inl h);exact he (.inr h);cases h)]
     repeat' (first|(with_reducible first|refine up hend ?_|refine up hd ?_)|(with_reducible first|(refine wN fun _ hnl=>?_;revert hnl;(repeat refine wS fun _ _=>?_);intro hnl)|refine wE ?_|(refine wK ?_ ?_<;>intro h)|(refine wB ?_ ?_<;>intro h<;>simp only[h]))|simp(maxSteps:=4000000) (disch:=first|decide|assumption|omega|(simp only[wL];omega)) only[go_sem,simprocAttr])
     all_goals (try simp only[Classical.not_not] at *)
     all_goals (first|(simp[*];done)|(simp only[];(repeat' split)<;>(first|(simp_all;done)|omega|(exfalso;omega)))|skip)
     all_goals (first|(rw[if_pos (by omega)];done)|(rw[if_neg (by omega)];done))
end

section
set_option maxRecDepth 100000
set_option maxHeartbeats 4000000
theorem Bf(a:RE):aA Tryz.prog 170 [.agg a.c] St.none (fun r _=>r=.bool (nC a)):=by
 refine aA.bF (aA.body 145 [.tmp 2] Tryz.func170 rfl rfl rfl rfl ?_)
 have hp:=qV a.fl false
 have hm:=qT a.mask
 have hmt:=a.mask.toNat_lt
 obtain⟨res,hres⟩:∃b,nC a=b:=⟨_,rfl⟩
 have e:Unit→nC a=res:=fun _=>hres
 simp only[nC,big,eD,Dy,←List.length_eq_zero_iff,Gs] at e
 rw[hres]
 clear hres
 repeat' (first|(with_reducible first|refine up hp ?_|refine up hm ?_)|(with_reducible first|(refine wN fun _ hnl=>?_;revert hnl;(repeat refine wS fun _ _=>?_);intro hnl)|refine wE ?_|(refine wK ?_ ?_<;>intro h)|(refine wB ?_ ?_<;>intro h<;>simp only[h]))|simp(maxSteps:=4000000) (disch:=first|decide|assumption|omega|(simp only[wL];omega)) only[go_sem,simprocAttr,Tryz.f170])
 all_goals (first|refine⟨_,St.le_refl _,?_⟩|skip)
 all_goals rw[←e ()]
 all_goals clear e hp hm
 all_goals (first|(exact(decide_eq_false (by omega)).symm)|(exact decide_eq_decide.mpr (by omega))|(exact(decide_eq_true (by omega)).symm)|skip)
end

section
set_option maxRecDepth 100000
set_option maxHeartbeats 4000000
def fnG:List (FuncId × (List MV→MV))→bP
 | []=>fun _ _=>none
 | p::r=>fun g ms=>if p.1=g then some ⟨[],fun v=>v=p.2 ms,none⟩ else fnG r g ms
theorem Gk{g:FuncId}{u:List MV→MV}{r:List (FuncId × (List MV→MV))}{ms:List MV}{x:MV}(h:u ms=x):fnG ((g,u)::r) g ms=some ⟨[],fun v=>v=x,none⟩:=by
 subst h
 simp[fnG]
theorem J2{g g':FuncId}{u:List MV→MV}{r:List (FuncId × (List MV→MV))}{ms:List MV}{F:Fact}(hne:(g'==g)=false)(h:fnG r g ms=some F):fnG ((g',u)::r) g ms=some F:=by
 have:g'≠g:=by simpa using hne
 simp[fnG,this,h]
theorem extract_eq(A B:ByteArray)(i:Nat):A.extract i (i+B.size)=B↔(A.data.toList.drop i).take B.size=B.data.toList:=by
 have e:(A.extract i (i+B.size)).data.toList=(A.data.toList.drop i).take B.size:=by
  simp[ByteArray.data_extract,Array.toList_extract,List.extract_eq_take_drop]
 constructor
 ·intro h
  rw[←e,h]
 ·intro h
  rw[←e] at h
  exact ByteArray.ext (Array.toList_inj.1 h)
theorem vN(A B:ByteArray):oS A B=Go.Lib.contains A.data.toList B.data.toList:=by
 have hla:A.data.toList.length=A.size:=by rw[Array.length_toList];rfl
 have hlb:B.data.toList.length=B.size:=by rw[Array.length_toList];rfl
 have hocc:∀i,Go.Lib.occAt A.data.toList B.data.toList i=true↔(A.data.toList.drop i).take B.size=B.data.toList:=fun i=>by
  unfold Go.Lib.occAt
  rw[List.isPrefixOf_iff_prefix,List.prefix_iff_eq_take,hlb]
  exact eq_comm
 rw[Bool.eq_iff_iff]
 unfold oS Go.Lib.contains
 rw[List.any_eq_true,decide_eq_true_iff]
 constructor
 ·rintro⟨i,hi,h⟩
  have hi:=List.mem_range.1 hi
  have h:=(extract_eq A B i).1 (of_decide_eq_true h)
  rcases Go.Lib.index_spec A.data.toList B.data.toList with⟨_,h2⟩|⟨j,h1,_⟩
  ·have:=h2 i (by omega)
   rw[(hocc i).2 h] at this
   cases this
  ·omega
 ·intro h
  rcases Go.Lib.index_spec A.data.toList B.data.toList with⟨h1,_⟩|⟨j,h1,h2,h3,_⟩
  ·omega
  ·have h4:=(hocc j).1 h3
   have h5:=congrArg List.length h4
   rw[List.length_take,List.length_drop,hla,hlb] at h5
   refine⟨j,List.mem_range.2 (by omega),decide_eq_true ((extract_eq A B j).2 h4)⟩
theorem CZ(a b:VA)(ha:a.s.size≤1000000)(hb:b.s.size≤1000000):aA Tryz.prog 325 [.agg a.c,.agg b.c] St.none (fun r _=>r=.bool (jA a b)):=by
 refine aA.bF (aA.body 22 [.tmp 4] Tryz.func325 rfl rfl rfl rfl ?_)
 have f1:=vP a.s ha
 have f2:=vP b.s hb
 have hc:=sB (eC a.s) (eC b.s) (by rw[o5];exact ha)
 rw[←vN] at hc
 have hd:jA a b=(decide (a.kd=2)&&decide (b.kd=2)&&oS (eC a.s) (eC b.s)):=rfl
 obtain⟨C,c1,c2⟩:∃C:bP,(∀s,C 356 [.str s]=some ⟨[],fun v=>v=.str (eC s),none⟩)∧(∀ms,C 355 ms=some ⟨[],fun v=>v=.bool (oS (eC a.s) (eC b.s)),none⟩) :=
  ⟨fnG [(356,fun ms=>match ms with|[.str s]=>.str (eC s)|_=>.junk),(355,fun _=>.bool (oS (eC a.s) (eC b.s)))],fun s=>Gk rfl,fun _=>J2 rfl (Gk rfl)⟩
 have c1a:=c1 a.s
 have c1b:=c1 b.s
 clear c1
 generalize oS (eC a.s) (eC b.s)=p at hc hd c2
 generalize jA a b=out at hd ⊢
 by_cases e1:a.kd=2
 ·by_cases e2:b.kd=2
  ·rw[decide_eq_true e1,decide_eq_true e2,Bool.true_and,Bool.true_and] at hd
   subst hd
   repeat' (first|((with_reducible refine aJ mixed ?chk C ?_);(case chk=>decide +kernel))|(with_reducible refine aF c1a f1 ?_)|(with_reducible refine aF c1b f2 ?_)|(with_reducible refine aF (c2 _) hc ?_)|(with_reducible first|(refine wN fun _ hnl=>?_;revert hnl;(repeat refine wS fun _ _=>?_);intro hnl)|refine wE ?_|(refine wK ?_ ?_<;>intro h)|(refine wB ?_ ?_<;>intro h<;>simp only[h]))|simp(maxSteps:=4000000) (disch:=first|exact ddL|fail) only[go_sem,simprocAttr,Tryz.f325,e1,e2])
   all_goals first|exact⟨_,St.le_refl _,rfl⟩|exact⟨_,St.le_refl _⟩
  ·rw[decide_eq_false e2,Bool.and_false,Bool.false_and] at hd
   subst hd
   repeat' (first|((with_reducible refine aJ mixed ?chk C ?_);(case chk=>decide +kernel))|(with_reducible refine aF c1a f1 ?_)|(with_reducible refine aF c1b f2 ?_)|(with_reducible refine aF (c2 _) hc ?_)|(with_reducible first|(refine wN fun _ hnl=>?_;revert hnl;(repeat refine wS fun _ _=>?_);intro hnl)|refine wE ?_|(refine wK ?_ ?_<;>intro h)|(refine wB ?_ ?_<;>intro h<;>simp only[h]))|simp(maxSteps:=4000000) (disch:=first|exact ddL|fail) only[go_sem,simprocAttr,Tryz.f325,e1,e2])
   all_goals first|exact⟨_,St.le_refl _,rfl⟩|exact⟨_,St.le_refl _⟩
 ·rw[decide_eq_false e1,Bool.false_and,Bool.false_and] at hd
  subst hd
  repeat' (first|((with_reducible refine aJ mixed ?chk C ?_);(case chk=>decide +kernel))|(with_reducible refine aF c1a f1 ?_)|(with_reducible refine aF c1b f2 ?_)|(with_reducible refine aF (c2 _) hc ?_)|(with_reducible first|(refine wN fun _ hnl=>?_;revert hnl;(repeat refine wS fun _ _=>?_);intro hnl)|refine wE ?_|(refine wK ?_ ?_<;>intro h)|(refine wB ?_ ?_<;>intro h<;>simp only[h]))|simp(maxSteps:=4000000) (disch:=first|exact ddL|fail) only[go_sem,simprocAttr,Tryz.f325,e1])
  all_goals first|exact⟨_,St.le_refl _,rfl⟩|exact⟨_,St.le_refl _⟩
end

section
theorem half(i j:Nat):Int.fdiv ((i:Int)+j) (2 ^ (min 1 64:Nat))=(((i+j) / 2:Nat):Int):=by
 rw[show((2:Int) ^ (min 1 64:Nat))=2 by decide,Int.fdiv_eq_ediv_of_nonneg _ (by omega)]
 omega
end

section
theorem pR{v:VA}(h:gZ v=true):v.s.size≤1000000:=by
 unfold gZ at h
 split at h
 ·simp only[decide_eq_true_eq] at h
  rw[h];decide
 ·split at h
  ·simp only[decide_eq_true_eq] at h
   rw[h.2.2];decide
  ·split at h
   ·simp only[decide_eq_true_eq] at h
    omega
   ·cases h
theorem zN{x:ND}(h:eN x=true):x.v.s.size≤1000000:=by
 have h0:va0.s.size≤1000000:=by decide
 unfold eN at h
 split at h
 ·simp only[decide_eq_true_eq] at h;rw[h.2];exact h0
 ·split at h
  ·simp only[decide_eq_true_eq] at h;rw[h.2.2];exact h0
  ·split at h
   ·simp only[decide_eq_true_eq] at h;rw[h.2.2];exact h0
   ·split at h
    ·simp only[decide_eq_true_eq] at h;exact pR h.2.2.1
    ·split at h
     ·simp only[decide_eq_true_eq] at h;exact pR h.2.2.1
     ·cases h
end

section
theorem NA{x y:ND}(h:x.c=y.c):x=y:=by
 obtain⟨a,b,c,d,e⟩:=x
 obtain⟨a',b',c',d',e'⟩:=y
 simp only[ND.c,List.cons.injEq,MV.int.injEq,MV.str.injEq,true_and,and_true] at h
 obtain⟨rfl,rfl,rfl,rfl,rfl⟩:=h
 rfl
theorem CQ:∀{l m:List ND},l.map ND.c=m.map ND.c→l=m
 | [],[],_=>rfl
 | [],_::_,h=>by simp at h
 | _::_,[],h=>by simp at h
 | x::l,y::m,h=>by
  rw[List.map_cons,List.map_cons,List.cons.injEq] at h
  rw[NA h.1,CQ h.2]
end

section
structure CD where
 id:Int
 ver:Int
 lab:Nat
 f:List VA
abbrev fcs(f:List VA):List MV:=(f.map VA.c).flatten
abbrev CD.c(c:CD):List MV:=.int .i64 c.id::.int .i64 c.ver::.int .u32 (c.lab:Int)::fcs c.f
theorem Ao:∀f:List VA,(fcs f).length=3 * f.length
 | []=>rfl
 | v::f=>by have:=Ao f;simp only[fcs,List.map_cons,List.flatten_cons,List.length_append,List.length_cons,List.length_nil] at this ⊢;omega
theorem BQ:∀(f:List VA) (i:Nat),(fcs f).drop (3 * i)=fcs (f.drop i)
 | f,0=>by simp
 | [],i+1=>by simp[fcs]
 | v::f,i+1=>by
  have:=BQ f i
  rw[show 3 * (i+1)=3 * i+1+1+1 by omega]
  simp only[fcs,List.map_cons,List.flatten_cons,List.cons_append,List.nil_append,List.drop_succ_cons] at this ⊢
  exact this
theorem OG{f:List VA}{i:Nat}(h:i<f.length):(fcs f).drop (3 * i)=.int .i64 (f.getD i va0).kd::.int .i64 (f.getD i va0).n::.str (f.getD i va0).s::fcs (f.drop (i+1)):=by
 rw[BQ,List.drop_eq_getElem_cons h,aZ va0 h];rfl
theorem yT(c:CD){i:Nat}(h:i<c.f.length):c.c.drop (3+i * 3)=.int .i64 (c.f.getD i va0).kd::.int .i64 (c.f.getD i va0).n::.str (c.f.getD i va0).s::fcs (c.f.drop (i+1)):=by
 rw[show 3+i * 3=3 * i+1+1+1 by omega]
 simp only[CD.c,List.drop_succ_cons]
 exact OG h
theorem JP(c:CD){i:Nat}(h:i<c.f.length){d:MV}:c.c.getD (3+i * 3) d=.int .i64 (c.f.getD i va0).kd:=by
 have:=yT c h
 rw[List.getD_eq_getElem?_getD,←List.head?_drop,this];rfl
theorem G9(c:CD){i:Nat}(h:i<c.f.length):(c.c.drop (3+i * 3)).take 3=(c.f.getD i va0).c:=by
 rw[yT c h];rfl
theorem uK:∀f:List VA,(fcs f).all MV.aP=true
 | []=>rfl
 | v::f=>by
  have:=uK f
  simp only[fcs,List.map_cons,List.flatten_cons,List.cons_append,List.nil_append,List.all_cons] at this ⊢
  rw[this];rfl
theorem nS(c:CD):c.c.all MV.aP=true:=by
 simp only[CD.c,List.all_cons,uK];rfl
theorem p7(c:CD):c.c.length=3+3 * c.f.length:=by simp only[CD.c,List.length_cons,Ao];omega
theorem z7{v w:VA}:decide (v.kd=w.kd∧v.n=w.n∧v.s=w.s)=decide (v=w) :=
 decide_eq_decide.2 ⟨fun⟨h1,h2,h3⟩=>by cases v;cases w;simp only at h1 h2 h3;rw[h1,h2,h3],fun h=>by rw[h];exact⟨rfl,rfl,rfl⟩⟩
def cB(c:CD)(g:Nat)(n:ND):Bool :=
 if n.op=1 then true else if n.op=3 then hasB c.lab n.n else if n.op=4 then hasB g n.n
 else if n.op=5 then !decide ((c.f.getD n.n.toNat va0).kd=0)
 else if n.op=6 then decide (c.f.getD n.n.toNat va0=n.v)
 else if n.op=7 then hY (c.f.getD n.n.toNat va0) n.v
 else if n.op=8 then hY n.v (c.f.getD n.n.toNat va0)
 else if n.op=9 then jA (c.f.getD n.n.toNat va0) n.v
 else false
structure CF (c:CD):Prop where
 len:c.f.length=8
 size:∀v,v∈c.f→v.s.size≤1000000
 lab:c.lab<4294967296
set_option maxHeartbeats 4000000 in
theorem Fy (x:ND) (hx:eN x=true) (c:CD) (hc:CF c) (g:Nat) (hg:g<4294967296):aA Tryz.prog 195 [.agg x.c,.agg c.c,.int .u32 (g:Int)] St.none (fun r _=>r=.bool (cB c g x)):=by
 refine(aA.body 73 [.tmp 6] Tryz.func195 rfl rfl rfl rfl ?_)
 have hlen:=p7 c
 rw[hc.len] at hlen
 have hlab:=oB c.lab x.n hc.lab
 have hgrp:=oB g x.n hg
 have hcell:=nS c
 obtain⟨cells,hcells⟩:∃cells,c.c=cells:=⟨_,rfl⟩
 by_cases h5:5≤x.op∧x.op≤9
 ·have hn:0≤x.n∧x.n<8:=by
   have h:=hx
   have e:x.op=5∨x.op=6∨x.op=7∨x.op=8∨x.op=9:=by omega
   rcases e with e|e|e|e|e<;>simp[eN,e] at h<;>omega
  obtain⟨k,hk⟩:∃k:Nat,x.n=k:=⟨x.n.toNat,by omega⟩
  have hk8:k<8:=by omega
  have hkl:k<c.f.length:=by rw[hc.len];omega
  have hget:=JP c hkl (d:=.junk)
  have htake:=G9 c hkl
  have hvm:=bK va0 hkl
  have hvs:=hc.size _ hvm
  have hxs:=zN hx
  have hle1:=s6 (c.f.getD k va0) x.v hvs hxs
  have hle2:=s6 x.v (c.f.getD k va0) hxs hvs
  have hho:=Bh (c.f.getD k va0) x.v hvs hxs
  have hlb:cB c g x=(if x.op=5 then !decide ((c.f.getD k va0).kd=0)
   else if x.op=6 then decide (c.f.getD k va0=x.v)
   else if x.op=7 then hY (c.f.getD k va0) x.v
   else if x.op=8 then hY x.v (c.f.getD k va0)
   else jA (c.f.getD k va0) x.v):=by
   unfold cB
   rw[if_neg (by omega),if_neg (by omega),if_neg (by omega),hk]
   simp only[Int.toNat_natCast]
   by_cases e5:x.op=5
   ·rw[if_pos e5,if_pos e5]
   ·rw[if_neg e5,if_neg e5]
    by_cases e6:x.op=6
    ·rw[if_pos e6,if_pos e6]
    ·rw[if_neg e6,if_neg e6]
     by_cases e7:x.op=7
     ·rw[if_pos e7,if_pos e7]
     ·rw[if_neg e7,if_neg e7]
      by_cases e8:x.op=8
      ·rw[if_pos e8,if_pos e8]
      ·rw[if_neg e8,if_neg e8,if_pos (by omega)]
  rw[hlb]
  rw[hcells] at hget htake hlen hcell ⊢
  clear hlab hgrp hlb
  generalize c.f.getD k va0=v at hget htake hvs hle1 hle2 hho ⊢
  have hop:x.op=5∨x.op=6∨x.op=7∨x.op=8∨x.op=9:=by omega
  rcases hop with h|h|h|h|h
  all_goals
   simp(config:={ decide:=true }) only[h,if_true,if_false]
   repeat' (first|(with_reducible first|refine up hle1 ?_|refine up hle2 ?_|refine up hho ?_)|(with_reducible first|(refine wT ?_;refine wN fun _ hnl=>?_;revert hnl;(repeat refine wS fun _ _=>?_);intro hnl)|refine wD (by decide +kernel) ?_|refine wI (fun h=>?_) fun h=>?_|refine wF (fun h=>?_) fun h=>?_|refine wG (fun h=>?_) fun h=>?_|refine wH (fun h=>?_) fun h=>?_|((first|refine aG (fun h=>?_) fun h=>?_|refine aE (fun h=>?_) fun h=>?_)<;>simp only[h]))|simp(maxSteps:=4000000) (disch:=first|decide|assumption|omega|(simp only[wL];omega)) only[go_sem,simprocAttr,Tryz.f195,h,hk,hget,htake,hlen,hcell])
  ·exact z7
  ·refine aJ mixed (by decide +kernel) (fun _ _=>some ⟨[],fun r=>r=.bool (hY v x.v),none⟩) ?_
   repeat' (first|(with_reducible refine aF rfl hle1 ?_)|(with_reducible first|(refine wT ?_;refine wN fun _ hnl=>?_;revert hnl;(repeat refine wS fun _ _=>?_);intro hnl)|refine wD (by decide +kernel) ?_|refine wI (fun h=>?_) fun h=>?_|refine wF (fun h=>?_) fun h=>?_|refine wG (fun h=>?_) fun h=>?_|refine wH (fun h=>?_) fun h=>?_|((first|refine aG (fun h=>?_) fun h=>?_|refine aE (fun h=>?_) fun h=>?_)<;>simp only[h]))|simp(maxSteps:=4000000) (disch:=first|decide|assumption|omega|(simp only[wL];omega)) only[go_sem,simprocAttr,h,hk,hget,htake,hlen,hcell])
  ·refine aJ mixed (by decide +kernel) (fun _ _=>some ⟨[],fun r=>r=.bool (hY x.v v),none⟩) ?_
   repeat' (first|(with_reducible refine aF rfl hle2 ?_)|(with_reducible first|(refine wT ?_;refine wN fun _ hnl=>?_;revert hnl;(repeat refine wS fun _ _=>?_);intro hnl)|refine wD (by decide +kernel) ?_|refine wI (fun h=>?_) fun h=>?_|refine wF (fun h=>?_) fun h=>?_|refine wG (fun h=>?_) fun h=>?_|refine wH (fun h=>?_) fun h=>?_|((first|refine aG (fun h=>?_) fun h=>?_|refine aE (fun h=>?_) fun h=>?_)<;>simp only[h]))|simp(maxSteps:=4000000) (disch:=first|decide|assumption|omega|(simp only[wL];omega)) only[go_sem,simprocAttr,h,hk,hget,htake,hlen,hcell])
  ·refine aJ mixed (by decide +kernel) (fun _ _=>some ⟨[],fun r=>r=.bool (jA v x.v),none⟩) ?_
   repeat' (first|(with_reducible refine aF rfl hho ?_)|(with_reducible first|(refine wT ?_;refine wN fun _ hnl=>?_;revert hnl;(repeat refine wS fun _ _=>?_);intro hnl)|refine wD (by decide +kernel) ?_|refine wI (fun h=>?_) fun h=>?_|refine wF (fun h=>?_) fun h=>?_|refine wG (fun h=>?_) fun h=>?_|refine wH (fun h=>?_) fun h=>?_|((first|refine aG (fun h=>?_) fun h=>?_|refine aE (fun h=>?_) fun h=>?_)<;>simp only[h]))|simp(maxSteps:=4000000) (disch:=first|decide|assumption|omega|(simp only[wL];omega)) only[go_sem,simprocAttr,h,hk,hget,htake,hlen,hcell])
 ·have hlb:cB c g x=(if x.op=1 then true else if x.op=3 then hasB c.lab x.n else if x.op=4 then hasB g x.n else false):=by
   unfold cB
   rw[if_neg (show ¬x.op=5 by omega),if_neg (show ¬x.op=6 by omega),if_neg (show ¬x.op=7 by omega),if_neg (show ¬x.op=8 by omega),if_neg (show ¬x.op=9 by omega)]
  rw[hlb]
  have hff:=uK c.f
  have hfl:=Ao c.f
  rw[hc.len] at hfl
  simp only[CD.c]
  generalize fcs c.f=ff at hff hfl ⊢
  have n5:x.op≠5:=by omega
  have n6:x.op≠6:=by omega
  have n7:x.op≠7:=by omega
  have n8:x.op≠8:=by omega
  have n9:x.op≠9:=by omega
  clear hlb hcell hcells hlen h5
  by_cases e1:x.op=1
  ·rw[if_pos e1]
   repeat' (first|(with_reducible first|refine up hlab ?_|refine up hgrp ?_)|(with_reducible first|(refine wT ?_;refine wN fun _ hnl=>?_;revert hnl;(repeat refine wS fun _ _=>?_);intro hnl)|refine wD (by decide +kernel) ?_|refine wI (fun h=>?_) fun h=>?_|refine wF (fun h=>?_) fun h=>?_|refine wG (fun h=>?_) fun h=>?_|refine wH (fun h=>?_) fun h=>?_|((first|refine aG (fun h=>?_) fun h=>?_|refine aE (fun h=>?_) fun h=>?_)<;>simp only[h]))|simp(maxSteps:=4000000) (disch:=first|decide|assumption|omega|(simp only[wL];omega)) only[go_sem,simprocAttr,Tryz.f195,hff,hfl])
  ·rw[if_neg e1]
   by_cases e3:x.op=3
   ·rw[if_pos e3]
    repeat' (first|(with_reducible first|refine up hlab ?_|refine up hgrp ?_)|(with_reducible first|(refine wT ?_;refine wN fun _ hnl=>?_;revert hnl;(repeat refine wS fun _ _=>?_);intro hnl)|refine wD (by decide +kernel) ?_|refine wI (fun h=>?_) fun h=>?_|refine wF (fun h=>?_) fun h=>?_|refine wG (fun h=>?_) fun h=>?_|refine wH (fun h=>?_) fun h=>?_|((first|refine aG (fun h=>?_) fun h=>?_|refine aE (fun h=>?_) fun h=>?_)<;>simp only[h]))|simp(maxSteps:=4000000) (disch:=first|decide|assumption|omega|(simp only[wL];omega)) only[go_sem,simprocAttr,Tryz.f195,hff,hfl])
   ·rw[if_neg e3]
    by_cases e4:x.op=4
    ·rw[if_pos e4]
     repeat' (first|(with_reducible first|refine up hlab ?_|refine up hgrp ?_)|(with_reducible first|(refine wT ?_;refine wN fun _ hnl=>?_;revert hnl;(repeat refine wS fun _ _=>?_);intro hnl)|refine wD (by decide +kernel) ?_|refine wI (fun h=>?_) fun h=>?_|refine wF (fun h=>?_) fun h=>?_|refine wG (fun h=>?_) fun h=>?_|refine wH (fun h=>?_) fun h=>?_|((first|refine aG (fun h=>?_) fun h=>?_|refine aE (fun h=>?_) fun h=>?_)<;>simp only[h]))|simp(maxSteps:=4000000) (disch:=first|decide|assumption|omega|(simp only[wL];omega)) only[go_sem,simprocAttr,Tryz.f195,hff,hfl])
    ·rw[if_neg e4]
     repeat' (first|(with_reducible first|refine up hlab ?_|refine up hgrp ?_)|(with_reducible first|(refine wT ?_;refine wN fun _ hnl=>?_;revert hnl;(repeat refine wS fun _ _=>?_);intro hnl)|refine wD (by decide +kernel) ?_|refine wI (fun h=>?_) fun h=>?_|refine wF (fun h=>?_) fun h=>?_|refine wG (fun h=>?_) fun h=>?_|refine wH (fun h=>?_) fun h=>?_|((first|refine aG (fun h=>?_) fun h=>?_|refine aE (fun h=>?_) fun h=>?_)<;>simp only[h]))|simp(maxSteps:=4000000) (disch:=first|decide|assumption|omega|(simp only[wL];omega)) only[go_sem,simprocAttr,Tryz.f195,hff,hfl])
set_option maxHeartbeats 8000000 in
theorem kN (c:CD) (hc:CF c) (g:Nat) (hg:g<4294967296):∀(t:T),Good t→t.fl.length≤1000→∀(tt:Bool),
  aA Tryz.prog 105 [.lst 5 (t.fl.map ND.c) tt,.agg c.c,.int .u32 (g:Int)] St.none (fun r _=>r=.bool (t.sem (cB c g)))
 | .leaf x,h,hl,tt=>by
  refine(aA.body 61 [.tmp 6] Tryz.func105 rfl rfl rfl rfl ?_)
  have hk:=l3 (.leaf x) h.1 hl tt
  have hp:x.op≠10∧x.op≠11∧x.op≠12:=by
   refine⟨fun e=>?_,fun e=>?_,fun e=>?_⟩<;>(have h:=h.1;simp only[T.ok,e] at h;revert h;decide)
  obtain⟨p1,p2,p3⟩:=hp
  have hlf:=Fy x (h.2 x (by simp[T.fl])) c hc g hg
  have hcell:=nS c
  have hlen:=p7 c
  rw[hc.len] at hlen
  have ht27:List.take 27 c.c=c.c:=List.take_of_length_le (by omega)
  have e:(T.leaf x).sem (cB c g)=cB c g x:=by
   by_cases h1:x.op=1
   ·simp[T.sem,cB,h1]
   ·by_cases h2:x.op=2
    ·simp[T.sem,cB,h2]
    ·simp[T.sem,h1,h2]
  rw[e]
  generalize c.c=cells at hcell hlen ht27 hlf ⊢
  simp only[T.fl,T.kl,T.kids,List.map_cons,List.map_nil] at hk ⊢
  repeat' (first|(with_reducible first|refine up hk ?_|refine up hlf ?_)|(with_reducible first|(refine wT ?_;refine wN fun _ hnl=>?_;revert hnl;(repeat refine wS fun _ _=>?_);intro hnl)|refine wD (by decide +kernel) ?_|refine wI (fun h=>?_) fun h=>?_|refine wF (fun h=>?_) fun h=>?_|refine wG (fun h=>?_) fun h=>?_|refine wH (fun h=>?_) fun h=>?_|((first|refine aG (fun h=>?_) fun h=>?_|refine aE (fun h=>?_) fun h=>?_)<;>simp only[h]))|simp(maxSteps:=4000000) (disch:=first|decide|assumption|omega|(simp only[wL];omega)) only[go_sem,simprocAttr,Tryz.f105,hcell,hlen])
  refine aJ mixed (by decide +kernel) (fun _ _=>some ⟨[],fun r=>r=.bool (cB c g x),none⟩) ?_
  repeat' (first|(with_reducible refine aF rfl hlf ?_)|(with_reducible first|(refine wT ?_;refine wN fun _ hnl=>?_;revert hnl;(repeat refine wS fun _ _=>?_);intro hnl)|refine wD (by decide +kernel) ?_|refine wI (fun h=>?_) fun h=>?_|refine wF (fun h=>?_) fun h=>?_|refine wG (fun h=>?_) fun h=>?_|refine wH (fun h=>?_) fun h=>?_|((first|refine aG (fun h=>?_) fun h=>?_|refine aE (fun h=>?_) fun h=>?_)<;>simp only[h]))|simp(maxSteps:=4000000) (disch:=first|decide|assumption|omega|(simp only[wL];omega)) only[go_sem,simprocAttr,hcell,hlen,ht27])
 | .one x a,h,hl,tt=>by
  refine(aA.body 61 [.tmp 6] Tryz.func105 rfl rfl rfl rfl ?_)
  have hk:=l3 (.one x a) h.1 hl tt
  have h1:=zR h.1.1
  have hla:a.fl.length≤1000:=by simp only[T.fl,List.length_cons] at hl;omega
  have ih:=kN c hc g hg a (uP.1 h).2.2 hla false
  have hcell:=nS c
  have hlen:=p7 c
  rw[hc.len] at hlen
  have ht27:List.take 27 c.c=c.c:=List.take_of_length_le (by omega)
  generalize c.c=cells at hcell hlen ht27 ih ⊢
  simp only[T.fl,T.kl,T.kids,List.map_cons,List.map_nil] at hk ⊢
  repeat' (first|(with_reducible first|refine up hk ?_|refine up ih ?_)|(with_reducible first|(refine wT ?_;refine wN fun _ hnl=>?_;revert hnl;(repeat refine wS fun _ _=>?_);intro hnl)|refine wD (by decide +kernel) ?_|refine wI (fun h=>?_) fun h=>?_|refine wF (fun h=>?_) fun h=>?_|refine wG (fun h=>?_) fun h=>?_|refine wH (fun h=>?_) fun h=>?_|((first|refine aG (fun h=>?_) fun h=>?_|refine aE (fun h=>?_) fun h=>?_)<;>simp only[h]))|simp(maxSteps:=4000000) (disch:=first|decide|assumption|omega|(simp only[wL];omega)) only[go_sem,simprocAttr,Tryz.f105,h1,hcell,hlen])
  refine aJ mixed (by decide +kernel) (fun _ _=>some ⟨[],fun r=>r=.bool (a.sem (cB c g)),none⟩) ?_
  repeat' (first|(with_reducible refine aF rfl ih ?_)|(with_reducible first|(refine wT ?_;refine wN fun _ hnl=>?_;revert hnl;(repeat refine wS fun _ _=>?_);intro hnl)|refine wD (by decide +kernel) ?_|refine wI (fun h=>?_) fun h=>?_|refine wF (fun h=>?_) fun h=>?_|refine wG (fun h=>?_) fun h=>?_|refine wH (fun h=>?_) fun h=>?_|((first|refine aG (fun h=>?_) fun h=>?_|refine aE (fun h=>?_) fun h=>?_)<;>simp only[h]))|simp(maxSteps:=4000000) (disch:=first|decide|assumption|omega|(simp only[wL];omega)) only[go_sem,simprocAttr,hcell,hlen,ht27])
  simp[T.sem]
 | .two x a b,h,hl,tt=>by
  refine(aA.body 61 [.tmp 6] Tryz.func105 rfl rfl rfl rfl ?_)
  have hk:=l3 (.two x a b) h.1 hl tt
  obtain⟨q1,_,ga,gb⟩:=uQ.1 h
  have hla:a.fl.length≤1000∧b.fl.length≤1000:=by simp only[T.fl,List.length_cons,List.length_append] at hl;omega
  have iha:=kN c hc g hg a ga hla.1 false
  have ihb:=kN c hc g hg b gb hla.2 false
  have hs:(T.two x a b).sem (cB c g)=if x.op=11 then a.sem (cB c g)&&b.sem (cB c g) else a.sem (cB c g) || b.sem (cB c g):=by
   by_cases e:x.op=11<;>simp[T.sem,e]
  rw[hs]
  have hcell:=nS c
  have hlen:=p7 c
  rw[hc.len] at hlen
  have ht27:List.take 27 c.c=c.c:=List.take_of_length_le (by omega)
  generalize c.c=cells at hcell hlen ht27 iha ihb ⊢
  obtain⟨C,hC⟩:∃C,C=kn [(105,[.lst 5 (a.fl.map ND.c) false,.agg cells,.int .u32 (g:Int)],⟨[],fun v=>v=.bool (a.sem (cB c g)),none⟩),(105,[.lst 5 (b.fl.map ND.c) false,.agg cells,.int .u32 (g:Int)],⟨[],fun v=>v=.bool (b.sem (cB c g)),none⟩)]:=⟨_,rfl⟩
  have fa:C 105 [.lst 5 (a.fl.map ND.c) false,.agg cells,.int .u32 (g:Int)]=some ⟨[],fun v=>v=.bool (a.sem (cB c g)),none⟩:=by rw[hC];exact jW
  have fb:C 105 [.lst 5 (b.fl.map ND.c) false,.agg cells,.int .u32 (g:Int)]=some ⟨[],fun v=>v=.bool (b.sem (cB c g)),none⟩:=by
   rw[hC]
   refine fS (fun h=>?_) jW
   have h:=h.2
   simp only[List.cons.injEq,MV.lst.injEq,true_and,and_true] at h
   rw[PS ga.1 gb.1 (CQ h)]
  clear hC hs
  generalize a.sem (cB c g)=sa at iha fa ⊢
  generalize b.sem (cB c g)=sb at ihb fb ⊢
  simp only[T.fl,T.kl,T.kids,List.map_cons,List.map_nil] at hk ⊢
  rcases zS q1 with h1|h1<;>rw[h1]
  ·rw[if_pos rfl]
   cases sa
   all_goals
    repeat' (first|(with_reducible first|refine up hk ?_|refine up iha ?_|refine up ihb ?_)|(with_reducible first|(refine wT ?_;refine wN fun _ hnl=>?_;revert hnl;(repeat refine wS fun _ _=>?_);intro hnl)|refine wD (by decide +kernel) ?_|refine wI (fun h=>?_) fun h=>?_|refine wF (fun h=>?_) fun h=>?_|refine wG (fun h=>?_) fun h=>?_|refine wH (fun h=>?_) fun h=>?_|((first|refine aG (fun h=>?_) fun h=>?_|refine aE (fun h=>?_) fun h=>?_)<;>simp only[h]))|simp(maxSteps:=4000000) (disch:=first|decide|assumption|omega|(simp only[wL];omega)) only[go_sem,simprocAttr,Tryz.f105,h1,hcell,hlen])
    refine aJ mixed (by decide +kernel) C ?_
    repeat' (first|(with_reducible refine aF fa iha ?_)|(with_reducible refine aF fb ihb ?_)|(with_reducible first|(refine wT ?_;refine wN fun _ hnl=>?_;revert hnl;(repeat refine wS fun _ _=>?_);intro hnl)|refine wD (by decide +kernel) ?_|refine wI (fun h=>?_) fun h=>?_|refine wF (fun h=>?_) fun h=>?_|refine wG (fun h=>?_) fun h=>?_|refine wH (fun h=>?_) fun h=>?_|((first|refine aG (fun h=>?_) fun h=>?_|refine aE (fun h=>?_) fun h=>?_)<;>simp only[h]))|simp(maxSteps:=4000000) (disch:=first|decide|assumption|omega|(simp only[wL];omega)) only[go_sem,simprocAttr,hcell,hlen,ht27])
    all_goals (first|rfl|(cases sb<;>rfl))
  ·rw[if_neg (by decide)]
   cases sa
   all_goals
    repeat' (first|(with_reducible first|refine up hk ?_|refine up iha ?_|refine up ihb ?_)|(with_reducible first|(refine wT ?_;refine wN fun _ hnl=>?_;revert hnl;(repeat refine wS fun _ _=>?_);intro hnl)|refine wD (by decide +kernel) ?_|refine wI (fun h=>?_) fun h=>?_|refine wF (fun h=>?_) fun h=>?_|refine wG (fun h=>?_) fun h=>?_|refine wH (fun h=>?_) fun h=>?_|((first|refine aG (fun h=>?_) fun h=>?_|refine aE (fun h=>?_) fun h=>?_)<;>simp only[h]))|simp(maxSteps:=4000000) (disch:=first|decide|assumption|omega|(simp only[wL];omega)) only[go_sem,simprocAttr,Tryz.f105,h1,hcell,hlen])
    refine aJ mixed (by decide +kernel) C ?_
    repeat' (first|(with_reducible refine aF fa iha ?_)|(with_reducible refine aF fb ihb ?_)|(with_reducible first|(refine wT ?_;refine wN fun _ hnl=>?_;revert hnl;(repeat refine wS fun _ _=>?_);intro hnl)|refine wD (by decide +kernel) ?_|refine wI (fun h=>?_) fun h=>?_|refine wF (fun h=>?_) fun h=>?_|refine wG (fun h=>?_) fun h=>?_|refine wH (fun h=>?_) fun h=>?_|((first|refine aG (fun h=>?_) fun h=>?_|refine aE (fun h=>?_) fun h=>?_)<;>simp only[h]))|simp(maxSteps:=4000000) (disch:=first|decide|assumption|omega|(simp only[wL];omega)) only[go_sem,simprocAttr,hcell,hlen,ht27])
    all_goals (first|rfl|(cases sb<;>rfl))
end
end Go.Proofs.YtojmhmejdihaaaaGreatDoor
