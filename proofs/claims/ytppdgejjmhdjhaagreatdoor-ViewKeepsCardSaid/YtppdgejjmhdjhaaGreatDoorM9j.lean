/- Parts of the proof; conditions: as its theorems name them. -/
import Derived.Test.YtppdgejjmhdjhaaGreatDoorM9h
import Derived.Test.YtppdgejjmhdjhaaGreatDoorM9i
import Derived.Laws.LoneSync
import Derived.Lib.SliceRun
import Derived.OwnWalk
set_option linter.unusedVariables false
set_option linter.unusedSimpArgs false
set_option maxHeartbeats 8000000
set_option maxRecDepth 100000
namespace Go.Proofs.YtppdgejjmhdjhaaGreatDoor
section
theorem BQ(x:ND):aA Tryz.prog 198 [.agg x.c] St.none (fun r _=>r=.bool (!fP x)):=by
 refine aA.bR (mB 6 [.tmp 2] Tryz.func198 ?_)
 have h:=J4 x
 repeat' first|(with_reducible first|refine up h ?_)|(refine wO ?_;intros)|refine wZ1 @Tryz.f198.eq_1 ?_|fail
 all_goals exact lE
theorem uK(l:List ND)(hl:l.length≤1000000)(t:Bool):aA Tryz.prog 133 [.lst 5 (l.map ND.c) t] St.none (fun r _=>r=.int .i64 (bS l)):=by
 refine(mB 25 [.tmp 2] Tryz.func133 ?_)
 have hc:=Bl (fun x=>!fP x) 198 l hl t (fun x _=>BQ x)
 have hd:=GQ l hl t
 have he:=CL l hl t 0
 have hall:(l.any fun x=>!fP x)=!l.all fP:=by
  rw[Bool.eq_iff_iff]
  simp
 rw[hall] at hc
 have hlen:l.length=0↔l=[]:=List.length_eq_zero_iff
 obtain⟨al,hal⟩:∃b,l.all fP=b:=⟨_,rfl⟩
 obtain⟨dd,hdd⟩:∃d,iW l=d:=⟨_,rfl⟩
 obtain⟨ee,hee⟩:∃d,iT l 0=d:=⟨_,rfl⟩
 have e:bS l=if 31<l.length then 4 else if l.length=0∨ee≠l.length∨al=false then 1 else if 8<dd then 5 else 0:=by
  unfold bS;rw[hal,hdd,hee];simp only[hlen]
 rw[e]
 rw[hal] at hc
 rw[hdd] at hd
 rw[hee] at he
 clear e hlen hall hal hdd hee
 by_cases h31:31<l.length
 ·rw[if_pos h31]
  repeat' first|refine wZ1 @Tryz.f133.eq_1 ?_|exact wC1 @Tryz.f133.eq_1|fail
 ·rw[if_neg h31]
  by_cases h0:l.length=0
  ·rw[if_pos (.inl h0)]
   repeat' first|(with_reducible first|refine up he ?_)|refine wZ1 @Tryz.f133.eq_1 ?_|exact wC1 @Tryz.f133.eq_1|fail
  ·by_cases h1:ee=l.length
   ·subst h1
    cases al
    ·rw[if_pos (.inr (.inr rfl))]
     repeat' first|(with_reducible first|refine up he ?_|refine up hc ?_)|refine wZ1 @Tryz.f133.eq_1 ?_|exact wC1 @Tryz.f133.eq_1|fail
    ·rw[if_neg (by simp[h0])]
     by_cases h8:8<dd
     ·rw[if_pos h8]
      repeat' first|(with_reducible first|refine up he ?_|refine up hc ?_|refine up hd ?_)|refine wZ1 @Tryz.f133.eq_1 ?_|exact wC1 @Tryz.f133.eq_1|fail
     ·rw[if_neg h8]
      repeat' first|(with_reducible first|refine up he ?_|refine up hc ?_|refine up hd ?_)|refine wZ1 @Tryz.f133.eq_1 ?_|exact wC1 @Tryz.f133.eq_1|fail
   ·rw[if_pos (.inr (.inl h1))]
    repeat' first|(with_reducible first|refine up he ?_)|refine wZ1 @Tryz.f133.eq_1 ?_|exact wC1 @Tryz.f133.eq_1|fail
end

section
theorem Sq{P:Program}{g:FuncId}{ms:List MV}{σ:St}{om:aW}{ol:Nat→aW}{u:Nat→Nat→MV}{k:MV→St→Prop}(h:aA P g ms St.none fun v σ'=>∃m l,l≠m∧v=u l m∧σ'=(St.none.set m om).set l (ol m))
 (hk:∀m l,σ m=none→σ l=none→l≠m→R (bY (u l m) ((σ.set m om).set l (ol m)) k)):R (cU P g ms σ k) :=
 bJ h (St.none_le σ) fun v σ' hv hf=>by
  obtain⟨m,l,hne,rfl,rfl⟩:=hv
  rw[lV,bE,bE,dC]
  refine hk m l ?_ ?_ hne
  ·rcases hf m om ((aF _ _ _ _ (Ne.symm hne)).trans (aD _ _ _)) with h|⟨o',h⟩
   ·exact h
   ·simp[St.none] at h
  ·rcases hf l _ (aD _ _ _) with h|⟨o',h⟩
   ·exact h
   ·simp[St.none] at h
theorem aA.CR{P:Program}{g:FuncId}{ms:List MV}{σ τ:St}{X:MV}(h:aA P g ms σ fun v σ'=>∃σv:St,σv.le σ'∧τ.le σ'∧(∀k o,τ k=some o→σv k=none)∧View σv v X):aA P g ms σ fun v σ'=>v=X∧σ'=τ :=
 aA.ghost (h.mono fun v σ' ⟨σv,h1,h2,h3,h4⟩=>⟨X,τ,aV.freeze σv h1 h2 h3 (fun p hp=>by
  simp at hp
  subst hp
  simpa[cT] using h4),rfl,rfl⟩)
theorem RM{τ:St}{q:Nat}{t:TypeId}{e n:Nat}{xs ex:List (List MV)}(hq:τ q=none)(hn:n=xs.length):∃σv:St,σv.le (τ.set q (.row t e (xs++ex)))∧τ.le (τ.set q (.row t e (xs++ex)))∧(∀k o,τ k=some o→σv k=none)∧View σv (.vec e q 0 n) (.lst e xs false) :=
 ⟨St.none.set q (.row t e (xs++ex)),St.aB (St.none_le _) (aD _ _ _),fun j o h=>(aF _ _ _ _ (fun h1=>by subst h1;rw[hq] at h;cases h)).trans h,fun j o h=>aF _ _ _ _ (fun h1=>by subst h1;rw[hq] at h;cases h),by
  have:=View.vec (σ:=St.none.set q (.row t e (xs++ex))) (lo:=0) (n:=n) (aD _ _ _) (by rw[List.length_append];omega)
  rwa [List.drop_zero,hn,List.take_append_of_le_length (Nat.le_refl _),List.take_length,←hn] at this⟩
theorem Ld{A:St}{a b:Nat}{x y:aW}(ha:A a=none):(A.set b y).le ((A.set a x).set b y):=fun j o h=>by
 simp only[St.set] at h ⊢
 split
 ·rename_i e;rw[if_pos e] at h;exact h
 ·rename_i e
  rw[if_neg e] at h
  rw[if_neg (fun e=>by subst e;rw[ha] at h;cases h)]
  exact h
theorem iG{σ:St}{a:Nat}{x:aW}(ha:σ a=none):σ.le (σ.set a x):=fun j o h=>(aF _ _ _ _ (fun e=>by subst e;rw[ha] at h;cases h)).trans h
theorem yX{σ:St}{l k:Nat}{o:aW}(h:(σ.set l o) k=none):k≠l∧σ k=none:=by
 have e:k≠l:=fun e=>by subst e;simp[St.set] at h
 exact⟨e,by simpa[St.set,e] using h⟩
abbrev shO(next:Int)(m:Nat)(dead:MV):aW:=.row 251 3 [[.int .i64 next,.mapv m,dead]]
abbrev bG(seq:Int)(l:Nat)(groups:MV):aW:=.row 140 3 [[.int .i64 seq,.ptr l 0 0,groups]]
theorem Km:aA Tryz.prog 132 [] St.none (fun v σ'=>∃m l,l≠m∧v=.ptr l 0 0∧σ'=(St.none.set m (.mp [])).set l (shO 1 m .aN)):=by
 refine(mB 4 [.tmp 0] Tryz.func132 ?_)
 repeat' first|(refine wO ?_;intros)|refine wZ1 @Tryz.f132.eq_1 ?_|fail
 all_goals exact⟨_,_,by assumption,rfl,rfl⟩
theorem H8:aA Tryz.prog 60 [] St.none (fun v σ'=>∃m l b,l≠m∧b≠m∧b≠l∧v=.ptr b 0 0∧σ'=((St.none.set m (.mp [])).set l (shO 1 m .aN)).set b (bG 0 l .aN)):=by
 refine(mB 4 [.tmp 0] Tryz.func60 ?_)
 repeat' first|(refine Sq Km ?_;intro m l hm hl hlm)|(refine wO ?_;intros)|refine wZ1 @Tryz.f60.eq_1 ?_|fail
 all_goals exact⟨_,_,_,by assumption,by assumption,by assumption,rfl,rfl⟩
theorem IS(m:Nat):aA Tryz.prog 201 [.mapv m] St.none (fun v σ'=>∃l,v=.fn (.func 246) [] [.ptr l 0 0]∧σ'=St.none.set l (.row 249 1 [[.mapv m]])):=by
 refine(mB 4 [.tmp 2] Tryz.func201 ?_)
 repeat' first|(refine wO ?_;intros)|refine wZ1 @Tryz.f201.eq_1 ?_|fail
 all_goals exact⟨_,rfl,rfl⟩
theorem z6(m:Nat):aA Tryz.prog 97 [.mapv m] St.none (fun v σ'=>∃l,v=.fn (.func 182) [] [.ptr l 0 0]∧σ'=St.none.set l (.row 131 1 [[.mapv m]])):=by
 refine(mB 4 [.tmp 2] Tryz.func97 ?_)
 repeat' first|(refine wO ?_;intros)|refine wZ1 @Tryz.f97.eq_1 ?_|fail
 all_goals exact⟨_,rfl,rfl⟩
end

section
def cEs(cs:List CA):List (MV × MV):=cs.map fun c=>(.int .i64 c.id,.agg c.c)
def SG(cs:List CA):Prop:=cs.Pairwise (fun a b=>a.id<b.id)∧(∀c,c∈cs→0≤c.id∧c.id≤1073741824)∧cs.length≤1000000
theorem Cm(cs:List CA):eF (cEs cs)=cs.map CA.id:=by
 simp[eF,cEs,Vb]
theorem qW(cs:List CA):((cEs cs).all fun p=>isK .i64 p.1)=true:=by
 simp[cEs,isK]
theorem Bd{n:Int}(h:0≤n∧n≤1099511627776):(Lit.int .i64 n).wf=true:=by
 simp[Lit.wf,IntKind.min,IntKind.signed,IntKind.bits]
 omega
theorem HN{cs:List CA}(h:cs.Pairwise (fun a b=>a.id<b.id)){ns:List Int}(hp:ns.Perm (cs.map CA.id))(hs:ns.Pairwise (fun a b=>a≤b)):ns=cs.map CA.id :=
 List.Perm.eq_of_pairwise (le:=fun a b:Int=>a≤b) (fun a b _ _ h1 h2=>Int.le_antisymm h1 h2) hs ((List.pairwise_map.2 (h.imp fun h=>Int.le_of_lt h))) hp
theorem Ex{l m:Nat}{cs:List CA}(hne:l≠m)(hc:SG cs) :
  aA Tryz.prog 96 [.fn (.func 246) [] [.ptr l 0 0]] ((St.none.set l (.row 249 1 [[.mapv m]])).set m (.mp (cEs cs))) fun r σ' =>
   r=.lst 1 (cs.map fun c=>[.int .i64 c.id]) false∧σ'=(St.none.set l (.row 249 1 [[.mapv m]])).set m (.mp (cEs cs)):=by
 refine(Ew hne (qW cs) (fun n hn=>?_) (by simp[cEs];exact hc.2.2)).mono fun r σ' h=>?_
 ·rw[Cm] at hn
  obtain⟨c,h1,rfl⟩:=List.mem_map.1 hn
  have:=hc.2.1 c h1
  exact Bd oM
 ·obtain⟨⟨ns,h1,h2,rfl⟩,rfl⟩:=h
  rw[Cm] at h1
  rw[HN hc.1 h1 h2]
  simp
theorem PJ{cs:List CA}(h:cs.Pairwise (fun a b=>a.id<b.id)){i:Nat}{c:CA}(hi:cs[i]?=some c):dT c.id (cEs cs)=some (.agg c.c):=by
 induction cs generalizing i with
 | nil=>simp at hi
 | cons d r ih =>
  obtain⟨h1,h2⟩:=List.pairwise_cons.1 h
  cases i with
  | zero =>
   simp at hi
   subst hi
   simp[cEs,dT]
  | succ i =>
   have hi:r[i]?=some c:=by simpa using hi
   have:=h1 c (List.mem_of_getElem? hi)
   have h3:dT c.id (cEs (d::r))=dT c.id (cEs r):=by
    simp only[cEs,List.map_cons,dT]
    rw[if_neg oM]
   rw[h3]
   exact ih h2 hi
theorem Et(next:Int)(l m:Nat)(dead:MV)(cs:List CA)(hlm:l≠m)(hc:SG cs):aA Tryz.prog 135 [.ptr l 0 0] ((St.none.set m (.mp (cEs cs))).set l (shO next m dead)) (fun v σ'=>v=.lst 27 (cs.map CA.c) false∧σ'=(St.none.set m (.mp (cEs cs))).set l (shO next m dead)):=by
 refine aA.CR (mB 30 [.tmp 2] Tryz.func135 ?_)
 have hk:=IS m
 obtain⟨K,hK⟩:∃K:List (List MV),(cs.map fun c=>[MV.int .i64 c.id])=K:=⟨_,rfl⟩
 have hkl:K.length=cs.length:=by rw[←hK];simp
 have hnone:∀{b:Nat},(St.none.set m (.mp (cEs cs))).set l (shO next m dead) b=none→b≠m∧b≠l:=fun {b} hb =>
  ⟨fun e=>by subst e;simp[St.set,Ne.symm hlm] at hb,fun e=>by subst e;simp[St.set] at hb⟩
 have hs:∀{b:Nat},(St.none.set m (.mp (cEs cs))).set l (shO next m dead) b=none→aA Tryz.prog 96 [.fn (.func 246) [] [.ptr b 0 0]] ((St.none.set b (.row 249 1 [[.mapv m]])).set m (.mp (cEs cs))) fun r σ' =>
   r=.lst 1 K false∧σ'=(St.none.set b (.row 249 1 [[.mapv m]])).set m (.mp (cEs cs)):=fun {b} hb=>by rw[←hK];exact Ex (hnone hb).1 hc
 have hle:∀{b:Nat},(St.none.set m (.mp (cEs cs))).set l (shO next m dead) b=none→((St.none.set b (.row 249 1 [[.mapv m]])).set m (.mp (cEs cs))).le (((St.none.set m (.mp (cEs cs))).set l (shO next m dead)).set b (.row 249 1 [[.mapv m]])):=fun {b} hb =>
  le2 (aD _ _ _) ((aF _ _ _ _ (Ne.symm (hnone hb).1)).trans ((aF _ _ _ _ (Ne.symm hlm)).trans (aD _ _ _)))
 have hlen:=hc.2.2
 repeat' first|(refine fQ hk ?_;intro b hb)|((refine cQ (hs (by assumption)) (hle (by assumption)) ?_))|refine wZ2 @Tryz.f135.eq_1 @hkl ?_|fail
 refine aE (α:=Nat × Nat × List (List MV)) (fun a=>⟨30,[(15,.int .i64 (a.1:Int)),(14,.int .i64 (cs.length:Int)),(13,.lst 1 K false),(3,.vec 27 a.2.1 0 a.1),(0,.ptr l 0 0)],[]⟩)
  (fun a=>((St.none.set m (.mp (cEs cs))).set l (shO next m dead)).set a.2.1 (.row 126 27 ((cs.take a.1).map CA.c++a.2.2))) (fun a=>a.1≤cs.length∧a.2.1≠m∧a.2.1≠l) (fun a=>cs.length - a.1) ?_ ?_
 ·refine Gh.step (.drop (σ1:=(St.none.set m (.mp (cEs cs))).set l (shO next m dead)) fun j o h=>?_) (Gh.AO 126 27 (fun q=>[(15,.int .i64 0),(14,.int .i64 (cs.length:Int)),(13,.lst 1 K false),(3,.vec 27 q 0 0),(0,.ptr l 0 0)]) (fun k=>by(repeat' (refine And.intro ?_ ?_))<;>first|exact trivial|exact .inl rfl|exact .inr ⟨rfl,.inl rfl⟩|exact .inr ⟨rfl,.inr rfl⟩) fun q hq=>?_)
  ·exact(aF _ _ _ _ (fun e=>by subst e;rw[hb] at h;cases h)).trans h
  ·obtain⟨q2,hq⟩:=yX hq
   obtain⟨q1,-⟩:=yX hq
   exact .done ⟨(0,q,[]),rfl,rfl,Nat.zero_le _,q1,q2⟩
 ·rintro⟨k,q,ex⟩ ⟨hk,q1,q2⟩
  simp only at hk q1 q2 ⊢
  have q1':=Ne.symm q1
  have q2':=Ne.symm q2
  have hml:=Ne.symm hlm
  by_cases h8:k<cs.length
  ·obtain⟨c,hck⟩:∃c,cs[k]?=some c:=⟨_,List.getElem?_eq_getElem h8⟩
   have hkk:K.getD k []=[.int .i64 c.id]:=by rw[←hK,List.getD_eq_getElem?_getD,List.getElem?_map,hck];rfl
   have hg:=PJ hc.1 hck
   have htake:cs.take (k+1)=cs.take k++[c]:=by rw[List.take_add_one,hck];rfl
   have hall:=qW cs
   have htl:(cs.take k).length=k:=by rw[List.length_take];omega
   obtain⟨L,hL⟩:∃L,cs.take k=L:=⟨_,rfl⟩
   rw[hL] at htl htake ⊢
   have htk:(L.map CA.c++ex).take k=L.map CA.c:=by rw[←htl];exact mZ
   have hdr:(L.map CA.c++ex).drop (k+1)=ex.drop 1:=by rw[←htl];exact nZ
   repeat' first|(refine wM ?_;(first|(have _:=nl2)|(have _:=nl1;intro nl2)|(intro nl1));intros)|(refine wY ?_ ?_<;>intro h)|refine wZ9 @Option.getD_some.{0} @FYs @hkk @hg @hall @htk @hdr @htl @hkl ?_|fail
   ·have hex:ex=[]:=List.eq_nil_of_length_eq_zero oM
    subst hex
    refine .of (.less ?_ (σ1:=((St.none.set m (.mp (cEs cs))).set l (shO next m dead)).set nl2 (.row 126 27 (L.map CA.c++[]++[c.c]))) (Ld (by simp[St.set,St.none, *]))) ⟨(k+1,nl2,[]),rfl,by simp[htake],⟨by simp only;omega,by assumption,by assumption⟩,by simp only;omega⟩
    exact wW
   ·refine .of (.less ?_ (σ1:=((St.none.set m (.mp (cEs cs))).set l (shO next m dead)).set nl2 (.row 126 27 (L.map CA.c++[c.c]++ex.drop 1))) (Ld (by simp[St.set,St.none, *]))) ⟨(k+1,nl2,ex.drop 1),rfl,by simp[htake],⟨by simp only;omega,by assumption,by assumption⟩,by simp only;omega⟩
    exact wW
  ·have:k=cs.length:=by omega
   subst this
   rw[List.take_length]
   repeat' first|refine wZ1 @hkl ?_|fail
   exact RM ((aF _ _ _ _ q2).trans (aF _ _ _ _ q1)) (by rw[List.length_map])
end

section
def fnF:List (FuncId × Fact)→cC
 | []=>fun _ _=>none
 | (g',F)::r=>fun g ms=>if g=g' then some F else fnF r g ms
theorem bV{g:FuncId}{F:Fact}{r:List (FuncId × Fact)}{ms:List MV}:fnF ((g,F)::r) g ms=some F:=by simp[fnF]
theorem aX{g g':FuncId}{F F':Fact}{r:List (FuncId × Fact)}{ms:List MV}(h:fnF r g ms=some F)(hne:(g==g')=false:=by rfl):fnF ((g',F')::r) g ms=some F:=by
 have:g≠g':=by simpa using hne
 simp[fnF,this,h]
theorem kw1(g:FuncId)(F:Fact):∃C:cC,∀ms,C g ms=some F:=⟨fnF ([(g,F)]),fun _=>bV⟩
theorem kw2(g1:FuncId)(F1:Fact)(g2:FuncId)(F2:Fact)(h12:(g2==g1)=false:=by rfl):∃C:cC,(∀ms,C g1 ms=some F1)∧(∀ms,C g2 ms=some F2):=⟨fnF ([(g1,F1),(g2,F2)]),fun _=>bV,fun _=>aX (bV) h12⟩
theorem kw4(g1:FuncId)(F1:Fact)(g2:FuncId)(F2:Fact)(g3:FuncId)(F3:Fact)(g4:FuncId)(F4:Fact)(h12:(g2==g1)=false:=by rfl)(h13:(g3==g1)=false:=by rfl)(h23:(g3==g2)=false:=by rfl)(h14:(g4==g1)=false:=by rfl)(h24:(g4==g2)=false:=by rfl)(h34:(g4==g3)=false:=by rfl):∃C:cC,(∀ms,C g1 ms=some F1)∧(∀ms,C g2 ms=some F2)∧(∀ms,C g3 ms=some F3)∧(∀ms,C g4 ms=some F4):=⟨fnF ([(g1,F1),(g2,F2),(g3,F3),(g4,F4)]),fun _=>bV,fun _=>aX (bV) h12,fun _=>aX (aX (bV) h23) h13,fun _=>aX (aX (aX (bV) h34) h24) h14⟩
theorem kw5(g1:FuncId)(F1:Fact)(g2:FuncId)(F2:Fact)(g3:FuncId)(F3:Fact)(g4:FuncId)(F4:Fact)(g5:FuncId)(F5:Fact)(h12:(g2==g1)=false:=by rfl)(h13:(g3==g1)=false:=by rfl)(h23:(g3==g2)=false:=by rfl)(h14:(g4==g1)=false:=by rfl)(h24:(g4==g2)=false:=by rfl)(h34:(g4==g3)=false:=by rfl)(h15:(g5==g1)=false:=by rfl)(h25:(g5==g2)=false:=by rfl)(h35:(g5==g3)=false:=by rfl)(h45:(g5==g4)=false:=by rfl):∃C:cC,(∀ms,C g1 ms=some F1)∧(∀ms,C g2 ms=some F2)∧(∀ms,C g3 ms=some F3)∧(∀ms,C g4 ms=some F4)∧(∀ms,C g5 ms=some F5):=⟨fnF ([(g1,F1),(g2,F2),(g3,F3),(g4,F4),(g5,F5)]),fun _=>bV,fun _=>aX (bV) h12,fun _=>aX (aX (bV) h23) h13,fun _=>aX (aX (aX (bV) h34) h24) h14,fun _=>aX (aX (aX (aX (bV) h45) h35) h25) h15⟩
theorem kw8(g1:FuncId)(F1:Fact)(g2:FuncId)(F2:Fact)(g3:FuncId)(F3:Fact)(g4:FuncId)(F4:Fact)(g5:FuncId)(F5:Fact)(g6:FuncId)(F6:Fact)(g7:FuncId)(F7:Fact)(g8:FuncId)(F8:Fact)(h12:(g2==g1)=false:=by rfl)(h13:(g3==g1)=false:=by rfl)(h23:(g3==g2)=false:=by rfl)(h14:(g4==g1)=false:=by rfl)(h24:(g4==g2)=false:=by rfl)(h34:(g4==g3)=false:=by rfl)(h15:(g5==g1)=false:=by rfl)(h25:(g5==g2)=false:=by rfl)(h35:(g5==g3)=false:=by rfl)(h45:(g5==g4)=false:=by rfl)(h16:(g6==g1)=false:=by rfl)(h26:(g6==g2)=false:=by rfl)(h36:(g6==g3)=false:=by rfl)(h46:(g6==g4)=false:=by rfl)(h56:(g6==g5)=false:=by rfl)(h17:(g7==g1)=false:=by rfl)(h27:(g7==g2)=false:=by rfl)(h37:(g7==g3)=false:=by rfl)(h47:(g7==g4)=false:=by rfl)(h57:(g7==g5)=false:=by rfl)(h67:(g7==g6)=false:=by rfl)(h18:(g8==g1)=false:=by rfl)(h28:(g8==g2)=false:=by rfl)(h38:(g8==g3)=false:=by rfl)(h48:(g8==g4)=false:=by rfl)(h58:(g8==g5)=false:=by rfl)(h68:(g8==g6)=false:=by rfl)(h78:(g8==g7)=false:=by rfl):∃C:cC,(∀ms,C g1 ms=some F1)∧(∀ms,C g2 ms=some F2)∧(∀ms,C g3 ms=some F3)∧(∀ms,C g4 ms=some F4)∧(∀ms,C g5 ms=some F5)∧(∀ms,C g6 ms=some F6)∧(∀ms,C g7 ms=some F7)∧(∀ms,C g8 ms=some F8):=⟨fnF ([(g1,F1),(g2,F2),(g3,F3),(g4,F4),(g5,F5),(g6,F6),(g7,F7),(g8,F8)]),fun _=>bV,fun _=>aX (bV) h12,fun _=>aX (aX (bV) h23) h13,fun _=>aX (aX (aX (bV) h34) h24) h14,fun _=>aX (aX (aX (aX (bV) h45) h35) h25) h15,fun _=>aX (aX (aX (aX (aX (bV) h56) h46) h36) h26) h16,fun _=>aX (aX (aX (aX (aX (aX (bV) h67) h57) h47) h37) h27) h17,fun _=>aX (aX (aX (aX (aX (aX (aX (bV) h78) h68) h58) h48) h38) h28) h18⟩
theorem eK{P:Program}{C:cC}{g:FuncId}{ms:List MV}{σ:St}{k:MV→St→Prop}(rd:List Nat)(os:List aW){r:MV}(hC:C g ms=some ⟨rd,fun v=>v=r,none⟩)(hos:rd.map σ=os.map some)
 (h:aA P g ms (St.ofList rd os) fun v σ'=>v=r∧σ'=St.ofList rd os)(hk:R (bY r σ k)):R (pU P C g ms σ k) :=
 Tg rd os hC hos h ⟨r,rfl⟩ fun v hv=>by subst hv;exact hk
end

section
theorem nX{Φ:Phi}{w:World}{σ:St}(hi:Inv Φ w σ){l:Nat}{t:TypeId}{e o:Nat}{c0 m:MV}{x:List MV}(hs:σ l=some (.row t e [x]))(hx0:x[o]?=some c0)(hm:m.aL=true){v:Value}(hv:Rel Φ v m) :
  ∃p R v0,Φ.obj l=some p∧p.blk=some R∧w.cell? ⟨R,p.bo+o,none⟩=some v0∧Rel Φ v0 c0∧w.frozen? ⟨R,p.bo+o,none⟩=false ∧
   Inv Φ (w.setCell ⟨R,p.bo+o,none⟩ v) (σ.set l (.row t e [x.set o m]))∧Step Φ σ w Φ (σ.set l (.row t e [x.set o m])) (w.setCell ⟨R,p.bo+o,none⟩ v):=by
 obtain⟨p,hp,hpe,q1,q2,q3,q4⟩:=hi.own l _ hs
 have he:x.length=e:=q3 0 _ rfl
 have hol:o<x.length:=(List.getElem?_eq_some_iff.1 hx0).1
 simp only[List.length_cons,List.length_nil] at q1
 cases hb:p.blk with
 | none=>rw[hb] at q4;simp only at q4;omega
 | some R =>
  rw[hb] at q4
  obtain⟨c,fz,k1,k2,k3,k4⟩:=q4
  have hlt:R<w.heap.size:=(Array.getElem?_eq_some_iff.1 k1).1
  obtain⟨hc0,v0,hv0,hr0⟩:=k4 0 _ o c0 rfl hx0
  simp only[Nat.zero_mul,Nat.zero_add] at hv0
  have hbo:p.bo+o<c.size:=(Array.getElem?_eq_some_iff.1 hv0).1
  refine⟨p,R,v0,hp,hb,by simpa[World.cell?,k1] using hv0,hr0,?_,?_⟩
  ·obtain⟨f1,f2⟩:=fz
   simp only[World.frozen?,k1,Bool.and_eq_false_iff,decide_eq_false_iff_not]
   simp only at k2
   rcases k2 with k2|k2
   ·by_cases h:f1≤p.bo+o
    ·right;omega
    ·left;exact h
   ·left;omega
  ·rw[uR k1]
   refine hi.EC l hs _ hp hb iS (fun k hk=>eU hk) rfl rfl rfl (Nat.le_refl _) ⟨p,hp,hpe,by simpa using q1,q2,fun i y hy=>?_,?_⟩
   ·match i with
    | 0=>simp only[List.getElem?_cons_zero,Option.some.injEq] at hy;subst hy;simpa using he
    | i+1=>simp at hy
   ·rw[hb]
    refine⟨_,fz,gX hlt,by simpa[zC] using k2,by simpa using k3,fun i y j m' hy hm'=>?_⟩
    match i with
    | 0 =>
     simp only[List.getElem?_cons_zero,Option.some.injEq] at hy
     subst hy
     simp only[Nat.zero_mul,Nat.zero_add]
     rw[List.getElem?_set] at hm'
     by_cases hj:o=j
     ·subst hj
      rw[if_pos rfl,if_pos hol] at hm'
      cases hm'
      exact⟨hm,v,by simp[hbo],hv⟩
     ·rw[if_neg hj] at hm'
      have:=k4 0 _ j m' rfl hm'
      simp only[Nat.zero_mul,Nat.zero_add] at this
      rwa [Array.getElem?_setIfInBounds_ne oM]
    | i+1=>simp at hy
theorem yY{Φ:Phi}{vs:Array Value}{l i o:Nat}{r:List MV}(hr:iU Φ vs (.ptr l i o::r)):∃p R,Φ.obj l=some p∧p.blk=some R∧vs.getD 0 undef=.pointer (some ⟨R,p.bo+i * p.e+o,none⟩):=(hr.2 0 _ rfl).i6
end

section
abbrev SA.v(s:SA)(q:Nat):List MV:=s.bk.c++[.lst 7 (s.subs.map SU.c) false,.vec 12 q 0 s.rows.length]
end

section
open Go.Shelf Go.RowKit Go.Lib
theorem kA{P:Program}{K e:Nat}{el:TypeId}{t tr:Bool}(hn:aA P K [.aN] St.none fun r _=>r=.aN)
 (hr:∀(a:Addr) (c:Nat) (w:World),Calls P K #[.slice (some a) 0 c] w fun e w'=>e=.returned (.slice (some ⟨w.heap.size,0,none⟩) 0 0)∧w'=w.alloc (.cells #[] el)):aA P K [.lst e [] t] St.none fun r _=>r=.lst e [] tr:=by
 refine⟨hn.1,fun Φ w vs hi hv=>?_⟩
 have h0:=hv.2 0 _ rfl
 have h1:vs=#[vs.getD 0 undef]:=by
  have hz:=hv.1
  refine Array.ext (by simpa using hz) fun i q1 q2=>?_
  have:i=0:=by simp at q2;omega
  subst this
  simp[Array.getD,q1]
 generalize vs.getD 0 undef=v at h0 h1
 subst h1
 cases h0 with
 | lstn =>
  refine(hn.2 Φ w _ hi ⟨rfl,fun i m hm=>?_⟩).mono ?_
  ·match i with
   | 0=>simp at hm;subst hm;exact .aN
   | i+1=>simp at hm
  ·rintro x w' ⟨v,mv,σ',Φ',rfl,r1,i1,s1,rfl⟩
   refine⟨v,_,σ',Φ',rfl,?_,i1,s1,rfl⟩
   cases r1
   exact .lstn _ _
 | lst0 a e c t ht hm =>
  refine(hr a c w).mono ?_
  rintro x w' ⟨rfl,rfl⟩
  obtain⟨i1,s1⟩:=hi.grow (w':=w.alloc (.cells #[] el)) rfl rfl rfl (Nat.le_refl _) (by simp) (fun k hk=>by
   show(w.heap.push _)[k]?=_
   rw[Array.getElem?_push,if_neg oM])
  exact⟨_,_,_,Φ,rfl,.lst0 _ _ 0 _ (fun h=>rfl) (Nat.zero_le _),i1,s1,rfl⟩
 | lst hl h0=>simp at hl;omega
theorem Iq(a:Addr)(c:Nat)(w:World):Calls Tryz.prog 104 #[.slice (some a) 0 c] w fun e w'=>e=.returned (.slice (some ⟨w.heap.size,0,none⟩) 0 0)∧w'=w.alloc (.cells #[] 121):=by
 have q22:∀(w:World) (a:Option Addr) (n c n' c':Nat),(binOp .eql 22 (.slice a n c) (.slice none n' c')).run Tryz.prog w=.ok (.bool a.isNone) w:=fun w a n c n' c'=>Lib.run_eql_slice_nil w _ _ a n c n' c' Tryz.underlying22
 have u22:∀w,Sem.run Tryz.prog (underlying 22) w=.ok (TypeDesc.slice 121) w:=run_underlying Tryz.underlying22
 go_enter Tryz.func104,Tryz.ntmps104
 go_wp2
 go_ret
 exact⟨rfl,rfl⟩
theorem EY:aA Tryz.prog 104 [.aN] St.none (fun r _=>r=.aN):=by
 refine(mB 8 [.tmp 2] Tryz.func104 ?_)
 repeat' first|refine wZ1 @Tryz.f104.eq_1 ?_|exact wC1 @Tryz.f104.eq_1|fail
theorem C8(e:Nat)(t:Bool):aA Tryz.prog 104 [.lst e [] t] St.none (fun r _=>r=.lst e [] false):=kA EY Iq
theorem zJ(a:Addr)(c:Nat)(w:World):Calls Tryz.prog 114 #[.slice (some a) 0 c] w fun e w'=>e=.returned (.slice (some ⟨w.heap.size,0,none⟩) 0 0)∧w'=w.alloc (.cells #[] 3):=by
 have q22:∀(w:World) (a:Option Addr) (n c n' c':Nat),(binOp .eql 75 (.slice a n c) (.slice none n' c')).run Tryz.prog w=.ok (.bool a.isNone) w:=fun w a n c n' c'=>Lib.run_eql_slice_nil w _ _ a n c n' c' Tryz.underlying75
 have u22:∀w,Sem.run Tryz.prog (underlying 75) w=.ok (TypeDesc.slice 3) w:=run_underlying Tryz.underlying75
 go_enter Tryz.func114,Tryz.ntmps114
 go_wp2
 go_ret
 exact⟨rfl,rfl⟩
theorem xF:aA Tryz.prog 114 [.aN] St.none (fun r _=>r=.aN):=by
 refine(mB 8 [.tmp 2] Tryz.func114 ?_)
 repeat' first|refine wZ1 @Tryz.f114.eq_1 ?_|exact wC1 @Tryz.f114.eq_1|fail
theorem C7(e:Nat)(t:Bool):aA Tryz.prog 114 [.lst e [] t] St.none (fun r _=>r=.lst e [] false):=kA xF zJ
end

section
theorem EX(l:List ND)(hl:l.length≤1000000)(t:Bool):aA Tryz.prog 104 [.lst 5 (l.map ND.c) t] St.none (fun r _=>r=.lst 5 (l.map ND.c) false):=by
 cases l with
 | nil=>exact C8 5 t
 | cons x m =>
  refine aA.seen (mB 8 [.tmp 2] Tryz.func104 ?_)
  simp only[List.length_cons] at hl
  repeat' first|(refine wO ?_;intros)|refine wZ1 @Tryz.f104.eq_1 ?_|fail
  exact .vecAll (aD _ _ _) (by simp only[List.length_map,List.length_cons])
theorem pF(l:List Int)(hl:l.length≤1000000)(t:Bool):aA Tryz.prog 114 [.lst 1 (l.map aM) t] St.none (fun r _=>r=.lst 1 (l.map aM) false):=by
 cases l with
 | nil=>exact C7 1 t
 | cons x m =>
  refine aA.seen (mB 8 [.tmp 2] Tryz.func114 ?_)
  simp only[List.length_cons] at hl
  repeat' first|(refine wO ?_;intros)|refine wZ1 @Tryz.f114.eq_1 ?_|fail
  exact .vecAll (aD _ _ _) (by simp only[List.length_map,List.length_cons])
end
end Go.Proofs.YtppdgejjmhdjhaaGreatDoor
