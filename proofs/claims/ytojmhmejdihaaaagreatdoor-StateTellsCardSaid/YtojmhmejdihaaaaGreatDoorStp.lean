/- Parts of the proof, joined; conditions: those that its theorems name. -/
import Derived.Test.YtojmhmejdihaaaaGreatDoorStl
import Derived.Test.YtojmhmejdihaaaaGreatDoorSto
import Derived.Laws.LoneSync
set_option linter.unusedVariables false
set_option linter.unusedSimpArgs false
set_option maxHeartbeats 4000000
namespace Go.Proofs.YtojmhmejdihaaaaGreatDoor
section
set_option maxRecDepth 100000
set_option maxHeartbeats 4000000
theorem yC(x:ND):aA Tryz.prog 187 [.agg x.c] St.none (fun r _=>r=.bool (!eN x)):=by
 refine aA.bF (aA.body 6 [.tmp 2] Tryz.func187 rfl rfl rfl rfl ?_)
 have h:=Fp x
 repeat' (first|(with_reducible first|refine up h ?_)|(with_reducible first|(refine wN fun _ hnl=>?_;revert hnl;(repeat refine wS fun _ _=>?_);intro hnl)|refine wE ?_|(refine wK ?_ ?_<;>intro h)|(refine wB ?_ ?_<;>intro h<;>simp only[h]))|simp(maxSteps:=4000000) (disch:=first|exact ddL|fail) only[go_sem,simprocAttr,Tryz.f187])
 all_goals first|exact⟨_,St.le_refl _,rfl⟩|exact⟨_,St.le_refl _⟩
theorem lY(l:List ND)(hl:l.length≤1000000)(t:Bool):aA Tryz.prog 99 [.lst 5 (l.map ND.c) t] St.none (fun r _=>r=.int .i64 (bM l)):=by
 refine(aA.body 25 [.tmp 2] Tryz.func99 rfl rfl rfl rfl ?_)
 have hc:=xO (fun x=>!eN x) 187 l hl t (fun x _=>yC x)
 have hd:=CY l hl t
 have he:=zU l hl t 0
 have hall:(l.any fun x=>!eN x)=!l.all eN:=by
  rw[Bool.eq_iff_iff]
  simp
 rw[hall] at hc
 have hlen:l.length=0↔l=[]:=List.length_eq_zero_iff
 obtain⟨al,hal⟩:∃b,l.all eN=b:=⟨_,rfl⟩
 obtain⟨dd,hdd⟩:∃d,gN l=d:=⟨_,rfl⟩
 obtain⟨ee,hee⟩:∃d,gK l 0=d:=⟨_,rfl⟩
 have e:bM l=if 31<l.length then 4 else if l.length=0∨ee≠l.length∨al=false then 1 else if 8<dd then 5 else 0:=by
  unfold bM;rw[hal,hdd,hee];simp only[hlen]
 rw[e]
 rw[hal] at hc
 rw[hdd] at hd
 rw[hee] at he
 clear e hlen hall hal hdd hee
 by_cases h31:31<l.length
 ·rw[if_pos h31]
  repeat' (first|(with_reducible first|(refine wN fun _ hnl=>?_;revert hnl;(repeat refine wS fun _ _=>?_);intro hnl)|refine wE ?_|(refine wK ?_ ?_<;>intro h)|(refine wB ?_ ?_<;>intro h<;>simp only[h]))|simp(maxSteps:=4000000) (disch:=first|exact ddL|fail) only[go_sem,simprocAttr,Tryz.f99])
 ·rw[if_neg h31]
  by_cases h0:l.length=0
  ·rw[if_pos (.inl h0)]
   repeat' (first|(with_reducible first|refine up he ?_)|(with_reducible first|(refine wN fun _ hnl=>?_;revert hnl;(repeat refine wS fun _ _=>?_);intro hnl)|refine wE ?_|(refine wK ?_ ?_<;>intro h)|(refine wB ?_ ?_<;>intro h<;>simp only[h]))|simp(maxSteps:=4000000) (disch:=first|exact ddL|fail) only[go_sem,simprocAttr,Tryz.f99])
  ·by_cases h1:ee=l.length
   ·subst h1
    cases al
    ·rw[if_pos (.inr (.inr rfl))]
     repeat' (first|(with_reducible first|refine up he ?_|refine up hc ?_)|(with_reducible first|(refine wN fun _ hnl=>?_;revert hnl;(repeat refine wS fun _ _=>?_);intro hnl)|refine wE ?_|(refine wK ?_ ?_<;>intro h)|(refine wB ?_ ?_<;>intro h<;>simp only[h]))|simp(maxSteps:=4000000) (disch:=first|exact ddL|fail) only[go_sem,simprocAttr,Tryz.f99])
    ·rw[if_neg (by simp[h0])]
     by_cases h8:8<dd
     ·rw[if_pos h8]
      repeat' (first|(with_reducible first|refine up he ?_|refine up hc ?_|refine up hd ?_)|(with_reducible first|(refine wN fun _ hnl=>?_;revert hnl;(repeat refine wS fun _ _=>?_);intro hnl)|refine wE ?_|(refine wK ?_ ?_<;>intro h)|(refine wB ?_ ?_<;>intro h<;>simp only[h]))|simp(maxSteps:=4000000) (disch:=first|exact ddL|fail) only[go_sem,simprocAttr,Tryz.f99])
     ·rw[if_neg h8]
      repeat' (first|(with_reducible first|refine up he ?_|refine up hc ?_|refine up hd ?_)|(with_reducible first|(refine wN fun _ hnl=>?_;revert hnl;(repeat refine wS fun _ _=>?_);intro hnl)|refine wE ?_|(refine wK ?_ ?_<;>intro h)|(refine wB ?_ ?_<;>intro h<;>simp only[h]))|simp(maxSteps:=4000000) (disch:=first|exact ddL|fail) only[go_sem,simprocAttr,Tryz.f99])
   ·rw[if_pos (.inr (.inl h1))]
    repeat' (first|(with_reducible first|refine up he ?_)|(with_reducible first|(refine wN fun _ hnl=>?_;revert hnl;(repeat refine wS fun _ _=>?_);intro hnl)|refine wE ?_|(refine wK ?_ ?_<;>intro h)|(refine wB ?_ ?_<;>intro h<;>simp only[h]))|simp(maxSteps:=4000000) (disch:=first|exact ddL|fail) only[go_sem,simprocAttr,Tryz.f99])
end

section
set_option maxRecDepth 100000
set_option maxHeartbeats 4000000
def wi(n from_ to:Int)(must:Bool):Bool:=if must=true then decide (from_≤n∧n≤to) else decide (n=0)
theorem bJ(n a b:Int)(must:Bool):aA Tryz.prog 250 [.int .i64 n,.int .i64 a,.int .i64 b,.bool must] St.none (fun r _=>r=.bool (wi n a b must)):=by
 refine(aA.body 21 [.tmp 8] Tryz.func250 rfl rfl rfl rfl ?_)
 unfold wi
 cases must
 ·repeat' (first|(with_reducible first|(refine wN fun _ hnl=>?_;revert hnl;(repeat refine wS fun _ _=>?_);intro hnl)|refine wE ?_|(refine wK ?_ ?_<;>intro h)|(refine wB ?_ ?_<;>intro h<;>simp only[h]))|simp(maxSteps:=4000000) (disch:=first|decide|assumption|omega|(simp only[wL];omega)) only[go_sem,simprocAttr,Tryz.f250])
  all_goals simp
 ·repeat' (first|(with_reducible first|(refine wN fun _ hnl=>?_;revert hnl;(repeat refine wS fun _ _=>?_);intro hnl)|refine wE ?_|(refine wK ?_ ?_<;>intro h)|(refine wB ?_ ?_<;>intro h<;>simp only[h]))|simp(maxSteps:=4000000) (disch:=first|decide|assumption|omega|(simp only[wL];omega)) only[go_sem,simprocAttr,Tryz.f250])
  all_goals first|(exact(decide_eq_false (by omega)).symm)|(exact decide_eq_decide.mpr (by omega))|(exact(decide_eq_true (by omega)).symm)|(simp;omega)
theorem Ba(a:RE)(hl:a.fl.length≤1000000):aA Tryz.prog 166 [.agg a.c] St.none (fun r _=>r=.bool (nC a)):=by
 refine aA.bF (aA.body 104 [.tmp 2] Tryz.func166 rfl rfl rfl rfl ?_)
 have hp:=lY a.fl hl
 have hm:=lX a.mask
 have hmt:=a.mask.toNat_lt
 obtain⟨res,hres⟩:∃b,nC a=b:=⟨_,rfl⟩
 have e:Unit→nC a=res:=fun _=>hres
 simp only[nC,big,eD,Dy,←List.length_eq_zero_iff,Gs] at e
 rw[hres]
 clear hres
 have h4:(a.code=0∧a.kd=2)∨(a.code=0∧a.kd=3)∨(a.code=0∧¬a.kd=2∧¬a.kd=3)∨¬a.code=0:=by omega
 rcases h4 with⟨h0,h2⟩|⟨h0,h3⟩|⟨h0,h2,h3⟩|h0
 ·have d0:decide (a.code=0)=true:=decide_eq_true h0
  have d2:decide (a.kd=2)=true:=decide_eq_true h2
  have d3:decide (a.kd=3)=false:=decide_eq_false (by omega)
  have w1:=bJ a.sq 0 1099511627776 true
  have w2:=bJ a.id 1 1073741823 true
  have w3:=bJ a.ver 1 1099511627776 true
  have w4:=bJ a.ep 1 1099511627776 false
  simp only[wi,Bool.false_eq_true,if_true,if_false] at w1 w2 w3 w4
  repeat' (first|(with_reducible first|refine up w1 ?_|refine up w2 ?_|refine up w3 ?_|refine up w4 ?_)|(with_reducible first|(refine wN fun _ hnl=>?_;revert hnl;(repeat refine wS fun _ _=>?_);intro hnl)|refine wE ?_|(refine wK ?_ ?_<;>intro h)|(refine wB ?_ ?_<;>intro h<;>simp only[h]))|simp(maxSteps:=4000000) (disch:=first|decide|assumption|omega|(simp only[wL];omega)) only[go_sem,simprocAttr,Tryz.f166,d0,d2,d3])
  all_goals (first|refine⟨_,St.le_refl _,?_⟩|skip)
  all_goals rw[←e ()]
  all_goals clear e hp hm w1 w2 w3 w4
  all_goals (first|(exact(decide_eq_false (by omega)).symm)|(exact decide_eq_decide.mpr (by omega))|(exact(decide_eq_true (by omega)).symm)|skip)
 ·have d0:decide (a.code=0)=true:=decide_eq_true h0
  have d2:decide (a.kd=2)=false:=decide_eq_false (by omega)
  have d3:decide (a.kd=3)=true:=decide_eq_true h3
  have w1:=bJ a.sq 0 1099511627776 true
  have w2:=bJ a.id 1 1073741823 false
  have w3:=bJ a.ver 1 1099511627776 false
  have w4:=bJ a.ep 1 1099511627776 true
  simp only[wi,Bool.false_eq_true,if_true,if_false] at w1 w2 w3 w4
  have hp:=hp false
  repeat' (first|(with_reducible first|refine up hm ?_|refine up hp ?_|refine up w1 ?_|refine up w2 ?_|refine up w3 ?_|refine up w4 ?_)|(with_reducible first|(refine wN fun _ hnl=>?_;revert hnl;(repeat refine wS fun _ _=>?_);intro hnl)|refine wE ?_|(refine wK ?_ ?_<;>intro h)|(refine wB ?_ ?_<;>intro h<;>simp only[h]))|simp(maxSteps:=4000000) (disch:=first|decide|assumption|omega|(simp only[wL];omega)) only[go_sem,simprocAttr,Tryz.f166,d0,d2,d3])
  all_goals (first|refine⟨_,St.le_refl _,?_⟩|skip)
  all_goals rw[←e ()]
  all_goals clear e hp hm w1 w2 w3 w4
  all_goals (first|(exact(decide_eq_false (by omega)).symm)|(exact decide_eq_decide.mpr (by omega))|(exact(decide_eq_true (by omega)).symm)|skip)
 ·have d0:decide (a.code=0)=true:=decide_eq_true h0
  have d2:decide (a.kd=2)=false:=decide_eq_false h2
  have d3:decide (a.kd=3)=false:=decide_eq_false h3
  have w1:=bJ a.sq 0 1099511627776 true
  have w2:=bJ a.id 1 1073741823 false
  have w3:=bJ a.ver 1 1099511627776 false
  have w4:=bJ a.ep 1 1099511627776 false
  simp only[wi,Bool.false_eq_true,if_true,if_false] at w1 w2 w3 w4
  repeat' (first|(with_reducible first|refine up w1 ?_|refine up w2 ?_|refine up w3 ?_|refine up w4 ?_)|(with_reducible first|(refine wN fun _ hnl=>?_;revert hnl;(repeat refine wS fun _ _=>?_);intro hnl)|refine wE ?_|(refine wK ?_ ?_<;>intro h)|(refine wB ?_ ?_<;>intro h<;>simp only[h]))|simp(maxSteps:=4000000) (disch:=first|decide|assumption|omega|(simp only[wL];omega)) only[go_sem,simprocAttr,Tryz.f166,d0,d2,d3])
  all_goals (first|refine⟨_,St.le_refl _,?_⟩|skip)
  all_goals rw[←e ()]
  all_goals clear e hp hm w1 w2 w3 w4
  all_goals (first|(exact(decide_eq_false (by omega)).symm)|(exact decide_eq_decide.mpr (by omega))|(exact(decide_eq_true (by omega)).symm)|skip)
 ·have d0:decide (a.code=0)=false:=decide_eq_false h0
  have w1:=bJ a.sq 0 1099511627776 false
  have w2:=bJ a.id 1 1073741823 false
  have w3:=bJ a.ver 1 1099511627776 false
  have w4:=bJ a.ep 1 1099511627776 false
  simp only[wi,Bool.false_eq_true,if_true,if_false] at w1 w2 w3 w4
  repeat' (first|(with_reducible first|refine up w1 ?_|refine up w2 ?_|refine up w3 ?_|refine up w4 ?_)|(with_reducible first|(refine wN fun _ hnl=>?_;revert hnl;(repeat refine wS fun _ _=>?_);intro hnl)|refine wE ?_|(refine wK ?_ ?_<;>intro h)|(refine wB ?_ ?_<;>intro h<;>simp only[h]))|simp(maxSteps:=4000000) (disch:=first|decide|assumption|omega|(simp only[wL];omega)) only[go_sem,simprocAttr,Tryz.f166,d0])
  all_goals (first|refine⟨_,St.le_refl _,?_⟩|skip)
  all_goals rw[←e ()]
  all_goals clear e hp hm w1 w2 w3 w4
  all_goals (first|(exact(decide_eq_false (by omega)).symm)|(exact decide_eq_decide.mpr (by omega))|(exact(decide_eq_true (by omega)).symm)|skip)
theorem sQ(a b:RE)(ha:a.fl.length≤1000000)(hb:b.fl.length≤1000000):aA Tryz.prog 90 [.agg a.c,.agg b.c] St.none (fun r _=>r=.bool (decide (a=b))):=by
 refine aA.bF (aA.body 72 [.tmp 4] Tryz.func90 rfl rfl rfl rfl ?_)
 have hs:=oU a.fl b.fl ha hb false false
 have hu:=Bs (a:=a.mask) (b:=b.mask)
 have hz:dK (mH a.fl b.fl)=0↔a.fl=b.fl:=by rw[←tM];cases mH a.fl b.fl<;>simp[dK]
 obtain⟨z,hzz⟩:∃z,dK (mH a.fl b.fl)=z:=⟨_,rfl⟩
 rw[hzz] at hs hz
 obtain⟨res,hres⟩:∃r,decide (a=b)=r:=⟨_,rfl⟩
 have e:Unit→decide (a.kd=b.kd∧a.dev=b.dev∧a.req=b.req∧a.code=b.code∧a.id=b.id∧a.ver=b.ver∧a.sq=b.sq∧a.ep=b.ep∧z=0∧(a.mask.toNat:Int)=(b.mask.toNat:Int))=res:=fun _=>by
  rw[←hres]
  refine decide_eq_decide.mpr ?_
  rw[LF,hu,hz]
 rw[hres]
 clear hres hu hz hzz
 repeat' (first|(with_reducible first|refine up hs ?_)|(with_reducible first|(refine wN fun _ hnl=>?_;revert hnl;(repeat refine wS fun _ _=>?_);intro hnl)|refine wE ?_|(refine wK ?_ ?_<;>intro h)|(refine wB ?_ ?_<;>intro h<;>simp only[h]))|simp(maxSteps:=4000000) (disch:=first|decide|assumption|omega|(simp only[wL];omega)) only[go_sem,simprocAttr,Tryz.f90])
 all_goals first|refine⟨_,St.le_refl _,?_⟩|skip
 all_goals rw[←e ()]
 all_goals clear e
 all_goals first|(simp[*];done)|exact decide_eq_decide.mpr (by omega)
end

section
set_option maxRecDepth 100000
set_option maxHeartbeats 4000000
theorem j9{P:Program}{g:FuncId}{ms:List MV}{σ:St}{om:bE}{ol:Nat→bE}{u:Nat→Nat→MV}{k:MV→St→Prop}(h:aA P g ms St.none fun v σ'=>∃m l,l≠m∧v=u l m∧σ'=(St.none.set m om).set l (ol m))
 (hk:∀m l,σ m=none→σ l=none→l≠m→R (cD (u l m) ((σ.set m om).set l (ol m)) k)):R (dN P g ms σ k) :=
 cR h (St.none_le σ) fun v σ' hv hf=>by
  obtain⟨m,l,hne,rfl,rfl⟩:=hv
  rw[gC,cN,cN,iE]
  refine hk m l ?_ ?_ hne
  ·rcases hf m om ((aH _ _ _ _ (Ne.symm hne)).trans (aM _ _ _)) with h|⟨o',h⟩
   ·exact h
   ·simp[St.none] at h
  ·rcases hf l _ (aM _ _ _) with h|⟨o',h⟩
   ·exact h
   ·simp[St.none] at h
theorem DA{P:Program}{g:FuncId}{ms:List MV}{σ:St}{om:bE}{ol:Nat→bE}{ob:Nat→bE}{u:Nat→MV}{k:MV→St→Prop}(h:aA P g ms St.none fun v σ'=>∃m l b,l≠m∧b≠m∧b≠l∧v=u b∧σ'=((St.none.set m om).set l (ol m)).set b (ob l))
 (hk:∀m l b,σ m=none→σ l=none→σ b=none→l≠m→b≠m→b≠l→R (cD (u b) (((σ.set m om).set l (ol m)).set b (ob l)) k)):R (dN P g ms σ k) :=
 cR h (St.none_le σ) fun v σ' hv hf=>by
  obtain⟨m,l,b,h1,h2,h3,rfl,rfl⟩:=hv
  rw[gC,cN,cN,cN,iE]
  refine hk m l b ?_ ?_ ?_ h1 h2 h3
  ·rcases hf m om ((aH _ _ _ _ (Ne.symm h2)).trans ((aH _ _ _ _ (Ne.symm h1)).trans (aM _ _ _))) with h|⟨o',h⟩
   ·exact h
   ·simp[St.none] at h
  ·rcases hf l _ ((aH _ _ _ _ (Ne.symm h3)).trans (aM _ _ _)) with h|⟨o',h⟩
   ·exact h
   ·simp[St.none] at h
  ·rcases hf b _ (aM _ _ _) with h|⟨o',h⟩
   ·exact h
   ·simp[St.none] at h
theorem aA.Oi{P:Program}{g:FuncId}{ms:List MV}{σ τ:St}{X:MV}(h:aA P g ms σ fun v σ'=>∃σv:St,σv.le σ'∧τ.le σ'∧(∀k o,τ k=some o→σv k=none)∧View σv v X):aA P g ms σ fun v σ'=>v=X∧σ'=τ :=
 aA.ghost (h.mono fun v σ' ⟨σv,h1,h2,h3,h4⟩=>⟨X,τ,bV.freeze σv h1 h2 h3 (fun p hp=>by
  simp at hp
  subst hp
  simpa[cH] using h4),rfl,rfl⟩)
theorem LS{τ:St}{q:Nat}{t:TypeId}{e n:Nat}{xs ex:List (List MV)}(hq:τ q=none)(hn:n=xs.length):∃σv:St,σv.le (τ.set q (.row t e (xs++ex)))∧τ.le (τ.set q (.row t e (xs++ex)))∧(∀k o,τ k=some o→σv k=none)∧View σv (.vec e q 0 n) (.lst e xs false) :=
 ⟨St.none.set q (.row t e (xs++ex)),St.aL (St.none_le _) (aM _ _ _),fun j o h=>(aH _ _ _ _ (fun h1=>by subst h1;rw[hq] at h;cases h)).trans h,fun j o h=>aH _ _ _ _ (fun h1=>by subst h1;rw[hq] at h;cases h),by
  have:=View.vec (σ:=St.none.set q (.row t e (xs++ex))) (lo:=0) (n:=n) (aM _ _ _) (by rw[List.length_append];omega)
  rwa [List.drop_zero,hn,List.take_append_of_le_length (Nat.le_refl _),List.take_length,←hn] at this⟩
theorem kJ{A:St}{a b:Nat}{x y:bE}(ha:A a=none):(A.set b y).le ((A.set a x).set b y):=fun j o h=>by
 simp only[St.set] at h ⊢
 split
 ·rename_i e;rw[if_pos e] at h;exact h
 ·rename_i e
  rw[if_neg e] at h
  rw[if_neg (fun e=>by subst e;rw[ha] at h;cases h)]
  exact h
theorem mQ{σ:St}{a:Nat}{x:bE}(ha:σ a=none):σ.le (σ.set a x):=fun j o h=>(aH _ _ _ _ (fun e=>by subst e;rw[ha] at h;cases h)).trans h
theorem M1{σ:St}{a b:Nat}{x y:bE}(ha:σ a=none)(hb:σ b=none):σ.le ((σ.set a x).set b y):=fun j o h=>(aH _ _ _ _ (fun e=>by subst e;rw[hb] at h;cases h)).trans (mQ ha j o h)
theorem Mj{P:Program}{g:FuncId}{ms:List MV}{σ τ:St}{o:bE}{u:Nat→MV}{k:MV→St→Prop}(h:aA P g ms τ fun v σ'=>∃q,τ q=none∧v=u q∧σ'=τ.set q o)(hle:τ.le σ)(hk:∀q,σ q=none→R (cD (u q) (σ.set q o) k)):R (dN P g ms σ k) :=
 cR h hle fun v σ' hv hf=>by
  obtain⟨q,hq,rfl,rfl⟩:=hv
  have e:(τ.set q o).over (σ.minus τ)=σ.set q o:=by
   funext j
   by_cases h:j=q
   ·subst h;simp[St.over,St.set]
   ·cases ht:τ j with
    | none=>simp[St.over,St.set,St.minus,h,ht]
    | some o'=>simp[St.over,St.set,St.minus,h,ht,hle j o' ht]
  rw[e]
  refine hk q ?_
  rcases hf q o (aM _ _ _) with h|⟨o',h⟩
  ·exact h
  ·rw[hq] at h;cases h
theorem bL{σ:St}{l k:Nat}{o:bE}(h:(σ.set l o) k=none):k≠l∧σ k=none:=by
 have e:k≠l:=fun e=>by subst e;simp[St.set] at h
 exact⟨e,by simpa[St.set,e] using h⟩
abbrev shO(next:Int)(m:Nat)(dead:MV):bE:=.row 273 3 [[.int .i64 next,.mapv m,dead]]
abbrev eW(seq:Int)(l:Nat)(groups:MV):bE:=.row 168 3 [[.int .i64 seq,.ptr l 0 0,groups]]
theorem pN:aA Tryz.prog 180 [] St.none (fun v σ'=>∃m l,l≠m∧v=.ptr l 0 0∧σ'=(St.none.set m (.mp [])).set l (shO 1 m .aT)):=by
 refine(aA.body 4 [.tmp 0] Tryz.func180 rfl rfl rfl rfl ?_)
 repeat' (first|(with_reducible first|(refine wN fun _ hnl=>?_;revert hnl;(repeat refine wS fun _ _=>?_);intro hnl)|refine wE ?_|(refine wK ?_ ?_<;>intro h)|(refine wB ?_ ?_<;>intro h<;>simp only[h]))|simp(maxSteps:=4000000) (disch:=first|exact ddL|fail) only[go_sem,simprocAttr,Tryz.f180])
 all_goals exact⟨_,_,by assumption,rfl,rfl⟩
theorem DS:aA Tryz.prog 94 [] St.none (fun v σ'=>∃m l b,l≠m∧b≠m∧b≠l∧v=.ptr b 0 0∧σ'=((St.none.set m (.mp [])).set l (shO 1 m .aT)).set b (eW 0 l .aT)):=by
 refine(aA.body 4 [.tmp 0] Tryz.func94 rfl rfl rfl rfl ?_)
 repeat' (first|(refine j9 pN ?_;intro m l hm hl hlm)|(with_reducible first|(refine wN fun _ hnl=>?_;revert hnl;(repeat refine wS fun _ _=>?_);intro hnl)|refine wE ?_|(refine wK ?_ ?_<;>intro h)|(refine wB ?_ ?_<;>intro h<;>simp only[h]))|simp(maxSteps:=4000000) (disch:=first|exact ddL|fail) only[go_sem,simprocAttr,Tryz.f94])
 all_goals exact⟨_,_,_,by assumption,by assumption,by assumption,rfl,rfl⟩
theorem Dn(next:Int)(l m:Nat)(dead:MV):aA Tryz.prog 247 [.ptr l 0 0] (St.none.set l (shO next m dead)) (fun v σ'=>v=.int .i64 next∧σ'=St.none.set l (shO next m dead)):=by
 refine(aA.body 9 [.tmp 2] Tryz.func247 rfl rfl rfl rfl ?_)
 repeat' (first|(with_reducible first|(refine wN fun _ hnl=>?_;revert hnl;(repeat refine wS fun _ _=>?_);intro hnl)|refine wE ?_|(refine wK ?_ ?_<;>intro h)|(refine wB ?_ ?_<;>intro h<;>simp only[h]))|simp(maxSteps:=4000000) (disch:=first|exact ddL|fail) only[go_sem,simprocAttr,Tryz.f247])
 all_goals exact⟨rfl,rfl⟩
theorem Et(m:Nat):aA Tryz.prog 283 [.mapv m] St.none (fun v σ'=>∃l,v=.fn (.func 332) [] [.ptr l 0 0]∧σ'=St.none.set l (.row 271 1 [[.mapv m]])):=by
 refine(aA.body 4 [.tmp 2] Tryz.func283 rfl rfl rfl rfl ?_)
 repeat' (first|(with_reducible first|(refine wN fun _ hnl=>?_;revert hnl;(repeat refine wS fun _ _=>?_);intro hnl)|refine wE ?_|(refine wK ?_ ?_<;>intro h)|(refine wB ?_ ?_<;>intro h<;>simp only[h]))|simp(maxSteps:=4000000) (disch:=first|exact ddL|fail) only[go_sem,simprocAttr,Tryz.f283])
 all_goals exact⟨_,rfl,rfl⟩
theorem Eu(m:Nat):aA Tryz.prog 148 [.mapv m] St.none (fun v σ'=>∃l,v=.fn (.func 240) [] [.ptr l 0 0]∧σ'=St.none.set l (.row 214 1 [[.mapv m]])):=by
 refine(aA.body 4 [.tmp 2] Tryz.func148 rfl rfl rfl rfl ?_)
 repeat' (first|(with_reducible first|(refine wN fun _ hnl=>?_;revert hnl;(repeat refine wS fun _ _=>?_);intro hnl)|refine wE ?_|(refine wK ?_ ?_<;>intro h)|(refine wB ?_ ?_<;>intro h<;>simp only[h]))|simp(maxSteps:=4000000) (disch:=first|exact ddL|fail) only[go_sem,simprocAttr,Tryz.f148])
 all_goals exact⟨_,rfl,rfl⟩
end

section
set_option maxRecDepth 100000
set_option maxHeartbeats 4000000
def cEs(cs:List CA):List (MV × MV):=cs.map fun c=>(.int .i64 c.id,.agg c.c)
def G1(cs:List CA):Prop:=cs.Pairwise (fun a b=>a.id<b.id)∧(∀c,c∈cs→0≤c.id∧c.id≤1073741824)∧cs.length≤1000000
theorem zB(cs:List CA):dG (cEs cs)=cs.map CA.id:=by
 simp[dG,cEs,MZ]
theorem tS(cs:List CA):((cEs cs).all fun p=>isK .i64 p.1)=true:=by
 simp[cEs,isK]
theorem DD{n:Int}(h:0≤n∧n≤1099511627776):(Lit.int .i64 n).wf=true:=by
 simp[Lit.wf,IntKind.min,IntKind.signed,IntKind.bits]
 omega
theorem tA{cs:List CA}(h:cs.Pairwise (fun a b=>a.id<b.id)){ns:List Int}(hp:ns.Perm (cs.map CA.id))(hs:ns.Pairwise (fun a b=>a≤b)):ns=cs.map CA.id :=
 List.Perm.eq_of_pairwise (le:=fun a b:Int=>a≤b) (fun a b _ _ h1 h2=>Int.le_antisymm h1 h2) hs ((List.pairwise_map.2 (h.imp fun h=>Int.le_of_lt h))) hp
theorem Bo{l m:Nat}{cs:List CA}(hne:l≠m)(hc:G1 cs) :
  aA Tryz.prog 147 [.fn (.func 332) [] [.ptr l 0 0]] ((St.none.set l (.row 271 1 [[.mapv m]])).set m (.mp (cEs cs))) fun r σ' =>
   r=.lst 1 (cs.map fun c=>[.int .i64 c.id]) false∧σ'=(St.none.set l (.row 271 1 [[.mapv m]])).set m (.mp (cEs cs)):=by
 refine(Bn hne (tS cs) (fun n hn=>?_) (by simp[cEs];exact hc.2.2)).mono fun r σ' h=>?_
 ·rw[zB] at hn
  obtain⟨c,h1,rfl⟩:=List.mem_map.1 hn
  have:=hc.2.1 c h1
  exact DD (by omega)
 ·obtain⟨⟨ns,h1,h2,rfl⟩,rfl⟩:=h
  rw[zB] at h1
  rw[tA hc.1 h1 h2]
  simp
theorem Kb{cs:List CA}(h:cs.Pairwise (fun a b=>a.id<b.id)){i:Nat}{c:CA}(hi:cs[i]?=some c):cJ c.id (cEs cs)=some (.agg c.c):=by
 induction cs generalizing i with
 | nil=>simp at hi
 | cons d r ih =>
  obtain⟨h1,h2⟩:=List.pairwise_cons.1 h
  cases i with
  | zero =>
   simp at hi
   subst hi
   simp[cEs,cJ]
  | succ i =>
   have hi:r[i]?=some c:=by simpa using hi
   have:=h1 c (List.mem_of_getElem? hi)
   have h3:cJ c.id (cEs (d::r))=cJ c.id (cEs r):=by
    simp only[cEs,List.map_cons,cJ]
    rw[if_neg (by omega)]
   rw[h3]
   exact ih h2 hi
theorem qZ(next:Int)(l m:Nat)(dead:MV)(cs:List CA)(hlm:l≠m)(hc:G1 cs):aA Tryz.prog 206 [.ptr l 0 0] ((St.none.set m (.mp (cEs cs))).set l (shO next m dead)) (fun v σ'=>v=.lst 27 (cs.map CA.c) false∧σ'=(St.none.set m (.mp (cEs cs))).set l (shO next m dead)):=by
 refine aA.Oi (aA.body 30 [.tmp 2] Tryz.func206 rfl rfl rfl rfl ?_)
 have hk:=Et m
 obtain⟨K,hK⟩:∃K:List (List MV),(cs.map fun c=>[MV.int .i64 c.id])=K:=⟨_,rfl⟩
 have hkl:K.length=cs.length:=by rw[←hK];simp
 have hnone:∀{b:Nat},(St.none.set m (.mp (cEs cs))).set l (shO next m dead) b=none→b≠m∧b≠l:=fun {b} hb =>
  ⟨fun e=>by subst e;simp[St.set,Ne.symm hlm] at hb,fun e=>by subst e;simp[St.set] at hb⟩
 have hs:∀{b:Nat},(St.none.set m (.mp (cEs cs))).set l (shO next m dead) b=none→aA Tryz.prog 147 [.fn (.func 332) [] [.ptr b 0 0]] ((St.none.set b (.row 271 1 [[.mapv m]])).set m (.mp (cEs cs))) fun r σ' =>
   r=.lst 1 K false∧σ'=(St.none.set b (.row 271 1 [[.mapv m]])).set m (.mp (cEs cs)):=fun {b} hb=>by rw[←hK];exact Bo (hnone hb).1 hc
 have hle:∀{b:Nat},(St.none.set m (.mp (cEs cs))).set l (shO next m dead) b=none→((St.none.set b (.row 271 1 [[.mapv m]])).set m (.mp (cEs cs))).le (((St.none.set m (.mp (cEs cs))).set l (shO next m dead)).set b (.row 271 1 [[.mapv m]])):=fun {b} hb =>
  le2 (aM _ _ _) ((aH _ _ _ _ (Ne.symm (hnone hb).1)).trans ((aH _ _ _ _ (Ne.symm hlm)).trans (aM _ _ _)))
 have hlen:=hc.2.2
 repeat' (first|(refine kP hk ?_;intro b hb)|((refine bS (hs (by assumption)) (hle (by assumption)) ?_))|(with_reducible first|(refine wT ?_;(first|((fail_if_success (have:=nl1));refine wN fun nl1 hnl=>?_)|((fail_if_success (have:=nl2));refine wN fun nl2 hnl=>?_)|refine wN fun _ hnl=>?_);revert hnl;(repeat refine wS fun _ _=>?_);intro hnl)|refine wE ?_|(refine wK ?_ ?_<;>intro h)|(refine wB ?_ ?_<;>intro h<;>simp only[h]))|simp(maxSteps:=4000000) (disch:=first|exact ddL|fail) only[go_sem,simprocAttr,Tryz.f206,hkl])
 refine aD (α:=Nat × Nat × List (List MV)) (fun a=>⟨30,[(15,.int .i64 (a.1:Int)),(14,.int .i64 (cs.length:Int)),(13,.lst 1 K false),(3,.vec 27 a.2.1 0 a.1),(0,.ptr l 0 0)],[]⟩)
  (fun a=>((St.none.set m (.mp (cEs cs))).set l (shO next m dead)).set a.2.1 (.row 52 27 ((cs.take a.1).map CA.c++a.2.2))) (fun a=>a.1≤cs.length∧a.2.1≠m∧a.2.1≠l) (fun a=>cs.length - a.1) ?_ ?_
 ·refine Gh.step (.drop (σ1:=(St.none.set m (.mp (cEs cs))).set l (shO next m dead)) fun j o h=>?_) (Gh.Bd 52 27 (fun q=>[(15,.int .i64 0),(14,.int .i64 (cs.length:Int)),(13,.lst 1 K false),(3,.vec 27 q 0 0),(0,.ptr l 0 0)]) (fun k=>by(repeat' (refine And.intro ?_ ?_))<;>first|exact trivial|exact .inl rfl|exact .inr ⟨rfl,.inl rfl⟩|exact .inr ⟨rfl,.inr rfl⟩) fun q hq=>?_)
  ·exact(aH _ _ _ _ (fun e=>by subst e;rw[hb] at h;cases h)).trans h
  ·obtain⟨q2,hq⟩:=bL hq
   obtain⟨q1,-⟩:=bL hq
   exact .done ⟨(0,q,[]),rfl,rfl,Nat.zero_le _,q1,q2⟩
 ·rintro⟨k,q,ex⟩ ⟨hk,q1,q2⟩
  simp only at hk q1 q2 ⊢
  have q1':=Ne.symm q1
  have q2':=Ne.symm q2
  have hml:=Ne.symm hlm
  by_cases h8:k<cs.length
  ·obtain⟨c,hck⟩:∃c,cs[k]?=some c:=⟨_,List.getElem?_eq_getElem h8⟩
   have hkk:K.getD k []=[.int .i64 c.id]:=by rw[←hK,List.getD_eq_getElem?_getD,List.getElem?_map,hck];rfl
   have hg:=Kb hc.1 hck
   have htake:cs.take (k+1)=cs.take k++[c]:=by rw[List.take_add_one,hck];rfl
   have hall:=tS cs
   have htl:(cs.take k).length=k:=by rw[List.length_take];omega
   obtain⟨L,hL⟩:∃L,cs.take k=L:=⟨_,rfl⟩
   rw[hL] at htl htake ⊢
   have htk:(L.map CA.c++ex).take k=L.map CA.c:=by rw[←htl];exact j8
   have hdr:(L.map CA.c++ex).drop (k+1)=ex.drop 1:=by rw[←htl];exact kS
   repeat' (first|(with_reducible first|(refine wT ?_;(first|((fail_if_success (have:=nl1));refine wN fun nl1 hnl=>?_)|((fail_if_success (have:=nl2));refine wN fun nl2 hnl=>?_)|refine wN fun _ hnl=>?_);revert hnl;(repeat refine wS fun _ _=>?_);intro hnl)|refine wE ?_|(refine wK ?_ ?_<;>intro h)|(refine wB ?_ ?_<;>intro h<;>simp only[h]))|simp(maxSteps:=4000000) (disch:=first|exact ddL|fail) only[go_sem,simprocAttr,Option.getD_some,FYs,hkk,hg,hall,htk,hdr,htl,hkl])
   ·have hex:ex=[]:=List.eq_nil_of_length_eq_zero (by omega)
    subst hex
    refine .of (.less ?_ (σ1:=((St.none.set m (.mp (cEs cs))).set l (shO next m dead)).set nl2 (.row 52 27 (L.map CA.c++[]++[c.c]))) (kJ (by simp[St.set,St.none, *]))) ⟨(k+1,nl2,[]),rfl,by simp[htake],⟨by simp only;omega,by assumption,by assumption⟩,by simp only;omega⟩
    simp(maxSteps:=4000000) (disch:=first|exact ddL|fail) only[go_sem,simprocAttr,aC,aB]
    all_goals first|rfl|(simp;done)
   ·refine .of (.less ?_ (σ1:=((St.none.set m (.mp (cEs cs))).set l (shO next m dead)).set nl2 (.row 52 27 (L.map CA.c++[c.c]++ex.drop 1))) (kJ (by simp[St.set,St.none, *]))) ⟨(k+1,nl2,ex.drop 1),rfl,by simp[htake],⟨by simp only;omega,by assumption,by assumption⟩,by simp only;omega⟩
    simp(maxSteps:=4000000) (disch:=first|exact ddL|fail) only[go_sem,simprocAttr,aC,aB]
    all_goals first|rfl|(simp;done)
  ·have:k=cs.length:=by omega
   subst this
   rw[List.take_length]
   repeat' (first|(with_reducible first|(refine wT ?_;(first|((fail_if_success (have:=nl1));refine wN fun nl1 hnl=>?_)|((fail_if_success (have:=nl2));refine wN fun nl2 hnl=>?_)|refine wN fun _ hnl=>?_);revert hnl;(repeat refine wS fun _ _=>?_);intro hnl)|refine wE ?_|(refine wK ?_ ?_<;>intro h)|(refine wB ?_ ?_<;>intro h<;>simp only[h]))|simp(maxSteps:=4000000) (disch:=first|exact ddL|fail) only[go_sem,simprocAttr,hkl])
   exact LS ((aH _ _ _ _ q2).trans (aH _ _ _ _ q1)) (by rw[List.length_map])
end

section
set_option maxRecDepth 100000
set_option maxHeartbeats 4000000
def fnF:List (FuncId × Fact)→bP
 | []=>fun _ _=>none
 | (g',F)::r=>fun g ms=>if g=g' then some F else fnF r g ms
theorem bN{g:FuncId}{F:Fact}{r:List (FuncId × Fact)}{ms:List MV}:fnF ((g,F)::r) g ms=some F:=by simp[fnF]
theorem dF{g g':FuncId}{F F':Fact}{r:List (FuncId × Fact)}{ms:List MV}(h:fnF r g ms=some F)(hne:(g==g')=false:=by rfl):fnF ((g',F')::r) g ms=some F:=by
 have:g≠g':=by simpa using hne
 simp[fnF,this,h]
theorem fF{P:Program}{C:bP}{g:FuncId}{ms:List MV}{σ:St}{k:MV→St→Prop}(rd:List Nat)(os:List bE){r:MV}(hC:C g ms=some ⟨rd,fun v=>v=r,none⟩)(hos:rd.map σ=os.map some)
 (h:aA P g ms (St.ofList rd os) fun v σ'=>v=r∧σ'=St.ofList rd os)(hk:R (cD r σ k)):R (pB P C g ms σ k) :=
 Gt rd os hC hos h ⟨r,rfl⟩ fun v hv=>by subst hv;exact hk
theorem xM:aA Tryz.prog 286 [.aT] St.none (fun r _=>r=.aT):=by
 refine(aA.body 8 [.tmp 2] Tryz.func286 rfl rfl rfl rfl ?_)
 repeat' (first|(with_reducible first|(refine wN fun _ hnl=>?_;revert hnl;(repeat refine wS fun _ _=>?_);intro hnl)|refine wE ?_|(refine wK ?_ ?_<;>intro h)|(refine wB ?_ ?_<;>intro h<;>simp only[h]))|simp(maxSteps:=4000000) (disch:=first|exact ddL|fail) only[go_sem,simprocAttr,Tryz.f286])
theorem Bk(next:Int)(l m:Nat):aA Tryz.prog 248 [.ptr l 0 0] (St.none.set l (shO next m .aT)) (fun v σ'=>v=.aT∧σ'=St.none.set l (shO next m .aT)):=by
 refine(aA.body 10 [.tmp 2] Tryz.func248 rfl rfl rfl rfl ?_)
 have h:=xM
 repeat' (first|(with_reducible first|refine up h ?_)|(with_reducible first|(refine wN fun _ hnl=>?_;revert hnl;(repeat refine wS fun _ _=>?_);intro hnl)|refine wE ?_|(refine wK ?_ ?_<;>intro h)|(refine wB ?_ ?_<;>intro h<;>simp only[h]))|simp(maxSteps:=4000000) (disch:=first|exact ddL|fail) only[go_sem,simprocAttr,Tryz.f248])
 all_goals exact⟨rfl,rfl⟩
abbrev bk0(m l b:Nat):St:=((St.none.set m (.mp [])).set l (shO 1 m .aT)).set b (eW 0 l .aT)
abbrev Ow:List MV:=[.int .i64 0,.int .i64 1,.lst 27 [] false,.aT,.aT]
theorem Af(m l b:Nat)(h1:l≠m)(h2:b≠m)(h3:b≠l):aA Tryz.prog 161 [.ptr b 0 0] (bk0 m l b) (fun v σ'=>v=.agg Ow∧σ'=bk0 m l b):=by
 refine aA.less (Q':=fun v σ'=>v=.agg Ow∧(bk0 m l b).le σ') (aA.body 51 [.cell 2 26] Tryz.func161 rfl rfl rfl rfl ?_) fun v σ' h=>⟨_,h.2,h.1,rfl⟩
 have d1:aA Tryz.prog 247 [.ptr l 0 0] (St.ofList [l] [shO 1 m .aT]) (fun v σ'=>v=.int .i64 1∧σ'=St.ofList [l] [shO 1 m .aT]):=Dn 1 l m .aT
 have d2:aA Tryz.prog 206 [.ptr l 0 0] (St.ofList [l,m] [shO 1 m .aT,.mp []]) (fun v σ'=>v=.lst 27 [] false∧σ'=St.ofList [l,m] [shO 1 m .aT,.mp []]):=qZ 1 l m .aT [] h1 ⟨List.Pairwise.nil,by simp,by simp⟩
 have d3:aA Tryz.prog 248 [.ptr l 0 0] (St.ofList [l] [shO 1 m .aT]) (fun v σ'=>v=.aT∧σ'=St.ofList [l] [shO 1 m .aT]):=Bk 1 l m
 have h1':=Ne.symm h1
 have h2':=Ne.symm h2
 have h3':=Ne.symm h3
 obtain⟨C,c1,c2,c3⟩:∃C:bP,(∀ms,C 247 ms=some ⟨[l],fun v=>v=.int .i64 1,none⟩)∧(∀ms,C 206 ms=some ⟨[l,m],fun v=>v=.lst 27 [] false,none⟩)∧(∀ms,C 248 ms=some ⟨[l],fun v=>v=.aT,none⟩) :=
  ⟨fnF [(247,⟨[l],fun v=>v=.int .i64 1,none⟩),(206,⟨[l,m],fun v=>v=.lst 27 [] false,none⟩),(248,⟨[l],fun v=>v=.aT,none⟩)],fun _=>bN,fun _=>dF bN,fun _=>dF (dF bN)⟩
 repeat' (first|((with_reducible refine aJ mixed ?chk C ?_);(case chk=>decide +kernel))|(with_reducible refine fF [l] [shO 1 m .aT] (c1 _) (by simp[St.set, *]) d1 ?_)|(with_reducible refine fF [l,m] [shO 1 m .aT,.mp []] (c2 _) (by simp[St.set, *]) d2 ?_)|(with_reducible refine fF [l] [shO 1 m .aT] (c3 _) (by simp[St.set, *]) d3 ?_)|(with_reducible first|(refine wT ?_;(first|((fail_if_success (have:=nl1));refine wN fun nl1 hnl=>?_)|((fail_if_success (have:=nl2));refine wN fun nl2 hnl=>?_)|refine wN fun _ hnl=>?_);revert hnl;(repeat refine wS fun _ _=>?_);intro hnl)|refine wE ?_|(refine wK ?_ ?_<;>intro h)|(refine wB ?_ ?_<;>intro h<;>simp only[h]))|simp(maxSteps:=4000000) (disch:=first|exact ddL|fail) only[go_sem,simprocAttr,Tryz.f161])
 refine aD (α:=Unit) (fun _=>⟨51,[(34,.int .i64 0),(33,.int .i64 0),(3,.ptr nl2 0 0),(2,.ptr nl1 0 0)],[]⟩)
  (fun _=>((bk0 m l b).set nl1 (.row 26 5 [[.int .i64 0,.int .i64 0,.aT,.aT,.aT]])).set nl2 (.row 26 5 [Ow])) (fun _=>True) (fun _=>0) ?_ ?_
 ·refine .of (.less ?_ (St.le_refl _)) ⟨(),rfl,rfl,trivial⟩
  simp(maxSteps:=4000000) (disch:=first|exact ddL|fail) only[go_sem,simprocAttr,aC,aB]
  all_goals first|rfl|(simp;done)
 ·rintro⟨⟩ -
  repeat' (first|(with_reducible first|(refine wT ?_;(first|((fail_if_success (have:=nl1));refine wN fun nl1 hnl=>?_)|((fail_if_success (have:=nl2));refine wN fun nl2 hnl=>?_)|refine wN fun _ hnl=>?_);revert hnl;(repeat refine wS fun _ _=>?_);intro hnl)|refine wE ?_|(refine wK ?_ ?_<;>intro h)|(refine wB ?_ ?_<;>intro h<;>simp only[h]))|simp(maxSteps:=4000000) (disch:=first|exact ddL|fail) only[go_sem,simprocAttr,Tryz.f161])
  exact M1 (by simp[St.set,St.none, *]) (by simp[St.set,St.none, *])
end

section
set_option maxRecDepth 100000
set_option maxHeartbeats 4000000
theorem B0(a:Addr)(n:Int)(w:World)(hc:w.cell? a=some (.int .i64 n))(hs:a.spot=none):Calls Tryz.prog 249 #[.pointer (some a)] w fun e w'=>e=.returned (.int .i64 n)∧w'=w:=by
 obtain⟨b,off,sub⟩:=a
 simp only at hs
 subst hs
 have hl:=run_call_load (P:=Tryz.prog) Tryz.func306 (by kernel_rfl) (by kernel_rfl) (by kernel_rfl) .i64 (by kernel_rfl) hc
 go_enter Tryz.func249,Tryz.ntmps249
 go_wp2
 go_ret
 exact⟨rfl,rfl⟩
theorem Ay(a:Addr)(n x:Int)(w:World)(hc:w.cell? a=some (.int .i64 x))(hz:w.frozen? a=false)(hs:a.spot=none):Calls Tryz.prog 168 #[.pointer (some a),.int .i64 n] w fun e w'=>e=.returned (.tuple #[])∧w'=w.setCell a (.int .i64 n):=by
 obtain⟨b,off,sub⟩:=a
 simp only at hs
 subst hs
 have hl:=run_call_store (P:=Tryz.prog) Tryz.func251 (by kernel_rfl) (by kernel_rfl) (by kernel_rfl) (by kernel_rfl) (k:=.i64) (y:=n) hc hz
 go_enter Tryz.func168,Tryz.ntmps168
 go_wp2
 go_end0
 exact⟨rfl,rfl⟩
theorem hZ{Φ:Phi}{w:World}{σ:St}(hi:Inv Φ w σ){l:Nat}{t:TypeId}{e o:Nat}{c0 m:MV}{x:List MV}(hs:σ l=some (.row t e [x]))(hx0:x[o]?=some c0)(hm:m.aP=true){v:Value}(hv:Rel Φ v m) :
  ∃p R v0,Φ.obj l=some p∧p.blk=some R∧w.cell? ⟨R,p.bo+o,none⟩=some v0∧Rel Φ v0 c0∧w.frozen? ⟨R,p.bo+o,none⟩=false ∧
   Inv Φ (w.setCell ⟨R,p.bo+o,none⟩ v) (σ.set l (.row t e [x.set o m]))∧Step Φ σ w Φ (σ.set l (.row t e [x.set o m])) (w.setCell ⟨R,p.bo+o,none⟩ v):=by
 obtain⟨p,hp,hpe,q1,q2,q3,q4⟩:=hi.own l _ hs
 have he:x.length=e:=q3 0 _ rfl
 have hol:o<x.length:=(List.getElem?_eq_some_iff.1 hx0).1
 simp only[List.length_cons,List.length_nil] at q1
 cases hb:p.blk with
 | none=>rw[hb] at q4;simp only at q4;omega
 | some R =>
  rw[hb] at q4
  obtain⟨c,fz,k1,k2,k3,k4⟩:=q4
  have hlt:R<w.heap.size:=(Array.getElem?_eq_some_iff.1 k1).1
  obtain⟨hc0,v0,hv0,hr0⟩:=k4 0 _ o c0 rfl hx0
  simp only[Nat.zero_mul,Nat.zero_add] at hv0
  have hbo:p.bo+o<c.size:=(Array.getElem?_eq_some_iff.1 hv0).1
  refine⟨p,R,v0,hp,hb,by simpa[World.cell?,k1] using hv0,hr0,?_,?_⟩
  ·obtain⟨f1,f2⟩:=fz
   simp only[World.frozen?,k1,Bool.and_eq_false_iff,decide_eq_false_iff_not]
   simp only at k2
   rcases k2 with k2|k2
   ·by_cases h:f1≤p.bo+o
    ·right;omega
    ·left;exact h
   ·left;omega
  ·rw[qY k1]
   refine hi.FO l hs _ hp hb jP (fun k hk=>fE hk) rfl rfl rfl (Nat.le_refl _) ⟨p,hp,hpe,by simpa using q1,q2,fun i y hy=>?_,?_⟩
   ·match i with
    | 0=>simp only[List.getElem?_cons_zero,Option.some.injEq] at hy;subst hy;simpa using he
    | i+1=>simp at hy
   ·rw[hb]
    refine⟨_,fz,iH hlt,by simpa[Ab] using k2,by simpa using k3,fun i y j m' hy hm'=>?_⟩
    match i with
    | 0 =>
     simp only[List.getElem?_cons_zero,Option.some.injEq] at hy
     subst hy
     simp only[Nat.zero_mul,Nat.zero_add]
     rw[List.getElem?_set] at hm'
     by_cases hj:o=j
     ·subst hj
      rw[if_pos rfl,if_pos hol] at hm'
      cases hm'
      exact⟨hm,v,by simp[hbo],hv⟩
     ·rw[if_neg hj] at hm'
      have:=k4 0 _ j m' rfl hm'
      simp only[Nat.zero_mul,Nat.zero_add] at this
      rwa [Array.getElem?_setIfInBounds_ne (by omega)]
    | i+1=>simp at hy
theorem nX{Φ:Phi}{vs:Array Value}{l i o:Nat}{r:List MV}(hr:hO Φ vs (.ptr l i o::r)):∃p R,Φ.obj l=some p∧p.blk=some R∧vs.getD 0 undef=.pointer (some ⟨R,p.bo+i * p.e+o,none⟩):=(hr.2 0 _ rfl).gQ
theorem Ax{l o e:Nat}{t:TypeId}{x:List MV}{n:Int}(hx:x[o]?=some (.int .i64 n)):aA Tryz.prog 249 [.ptr l 0 o] (St.none.set l (.row t e [x])) (fun v σ'=>v=.int .i64 n∧σ'=St.none.set l (.row t e [x])):=by
 refine⟨⟨_,Tryz.func249,rfl,rfl⟩,fun Φ w vs hi hr=>?_⟩
 obtain⟨p,R,v0,hp,hb,hc,hr0,hz,i1,s1⟩:=hZ hi (aM _ _ _) hx (m:=.int .i64 n) rfl (.int .i64 n)
 have e0:=hr0.aX
 subst e0
 obtain⟨p',R',hp',hb',he⟩:=nX hr
 rw[hp] at hp';cases hp'
 rw[hb] at hb';cases hb'
 have hv:vs=#[.pointer (some ⟨R,p.bo+o,none⟩)]:=by
  have h1:=hr.1
  apply Array.ext
  ·simpa using h1
  ·intro i h3 h4
   have:i=0:=by simp at h4;omega
   subst this
   simpa[Array.getD_eq_getD_getElem?,Array.getElem?_eq_getElem h3] using he
 subst hv
 refine(B0 ⟨R,p.bo+o,none⟩ n w hc rfl).mono ?_
 rintro e' w' ⟨rfl,rfl⟩
 exact⟨_,_,_,Φ,rfl,.int _ _,hi,.refl _ _ _,rfl,rfl⟩
theorem xQ{l o e:Nat}{t:TypeId}{x:List MV}{n k:Int}(hx:x[o]?=some (.int .i64 k)):aA Tryz.prog 168 [.ptr l 0 o,.int .i64 n] (St.none.set l (.row t e [x])) (fun v σ'=>v=.tup []∧σ'=St.none.set l (.row t e [x.set o (.int .i64 n)])):=by
 refine⟨⟨_,Tryz.func168,rfl,rfl⟩,fun Φ w vs hi hr=>?_⟩
 obtain⟨p,R,v0,hp,hb,hc,hr0,hz,i1,s1⟩:=hZ hi (aM _ _ _) hx (m:=.int .i64 n) rfl (.int .i64 n)
 have e0:=hr0.aX
 subst e0
 obtain⟨p',R',hp',hb',he⟩:=nX hr
 rw[hp] at hp';cases hp'
 rw[hb] at hb';cases hb'
 have he2:=(hr.2 1 _ rfl).aX
 have hv:vs=#[.pointer (some ⟨R,p.bo+o,none⟩),.int .i64 n]:=by
  have h1:=hr.1
  apply Array.ext
  ·simpa using h1
  ·intro i h3 h4
   match i,h3 with
   | 0,h3=>simpa[Array.getD_eq_getD_getElem?,Array.getElem?_eq_getElem h3] using he
   | 1,h3=>simpa[Array.getD_eq_getD_getElem?,Array.getElem?_eq_getElem h3] using he2
   | i+2,_=>simp at h4;omega
 subst hv
 refine(Ay ⟨R,p.bo+o,none⟩ n k w hc hz rfl).mono ?_
 rintro e' w' ⟨rfl,rfl⟩
 refine⟨_,.tup [],_,Φ,rfl,.tup rfl (by simp),i1,s1,rfl,?_⟩
 rw[set_set]
end
end Go.Proofs.YtojmhmejdihaaaaGreatDoor
