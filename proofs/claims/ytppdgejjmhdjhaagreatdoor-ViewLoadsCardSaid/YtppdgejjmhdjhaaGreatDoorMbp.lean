/- Parts of the proof, joined; conditions: those that its theorems name. -/
import Derived.Test.YtppdgejjmhdjhaaGreatDoorMbi
import Derived.Test.YtppdgejjmhdjhaaGreatDoorMbl
import Derived.Test.YtppdgejjmhdjhaaGreatDoorMbo
import Derived.Laws.LoneSync
set_option linter.unusedVariables false
set_option linter.unusedSimpArgs false
set_option maxHeartbeats 4000000
namespace Go.Proofs.YtppdgejjmhdjhaaGreatDoor
section
set_option maxRecDepth 100000
set_option maxHeartbeats 4000000
theorem x8(x:ND):aA Tryz.prog 198 [.agg x.c] St.none (fun r _=>r=.bool (!eG x)):=by
 refine aA.bZ (aA.body 6 [.tmp 2] Tryz.func198 rfl rfl rfl rfl ?_)
 have h:=Fj x
 repeat' (first|(with_reducible first|refine up h ?_)|(with_reducible first|(refine wN fun _ hnl=>?_;revert hnl;(repeat refine wS fun _ _=>?_);intro hnl)|refine wE ?_|(refine wK ?_ ?_<;>intro h)|(refine wB ?_ ?_<;>intro h<;>simp only[h]))|simp(maxSteps:=4000000) (disch:=first|exact ddL|fail) only[go_sem,simprocAttr,Tryz.f198])
 all_goals first|exact⟨_,St.le_refl _,rfl⟩|exact⟨_,St.le_refl _⟩
theorem qA(l:List ND)(hl:l.length≤1000000)(t:Bool):aA Tryz.prog 133 [.lst 5 (l.map ND.c) t] St.none (fun r _=>r=.int .i64 (bF l)):=by
 refine(aA.body 25 [.tmp 2] Tryz.func133 rfl rfl rfl rfl ?_)
 have hc:=xI (fun x=>!eG x) 198 l hl t (fun x _=>x8 x)
 have hd:=C0 l hl t
 have he:=zM l hl t 0
 have hall:(l.any fun x=>!eG x)=!l.all eG:=by
  rw[Bool.eq_iff_iff]
  simp
 rw[hall] at hc
 have hlen:l.length=0↔l=[]:=List.length_eq_zero_iff
 obtain⟨al,hal⟩:∃b,l.all eG=b:=⟨_,rfl⟩
 obtain⟨dd,hdd⟩:∃d,gH l=d:=⟨_,rfl⟩
 obtain⟨ee,hee⟩:∃d,gD l 0=d:=⟨_,rfl⟩
 have e:bF l=if 31<l.length then 4 else if l.length=0∨ee≠l.length∨al=false then 1 else if 8<dd then 5 else 0:=by
  unfold bF;rw[hal,hdd,hee];simp only[hlen]
 rw[e]
 rw[hal] at hc
 rw[hdd] at hd
 rw[hee] at he
 clear e hlen hall hal hdd hee
 by_cases h31:31<l.length
 ·rw[if_pos h31]
  repeat' (first|(with_reducible first|(refine wN fun _ hnl=>?_;revert hnl;(repeat refine wS fun _ _=>?_);intro hnl)|refine wE ?_|(refine wK ?_ ?_<;>intro h)|(refine wB ?_ ?_<;>intro h<;>simp only[h]))|simp(maxSteps:=4000000) (disch:=first|exact ddL|fail) only[go_sem,simprocAttr,Tryz.f133])
 ·rw[if_neg h31]
  by_cases h0:l.length=0
  ·rw[if_pos (.inl h0)]
   repeat' (first|(with_reducible first|refine up he ?_)|(with_reducible first|(refine wN fun _ hnl=>?_;revert hnl;(repeat refine wS fun _ _=>?_);intro hnl)|refine wE ?_|(refine wK ?_ ?_<;>intro h)|(refine wB ?_ ?_<;>intro h<;>simp only[h]))|simp(maxSteps:=4000000) (disch:=first|exact ddL|fail) only[go_sem,simprocAttr,Tryz.f133])
  ·by_cases h1:ee=l.length
   ·subst h1
    cases al
    ·rw[if_pos (.inr (.inr rfl))]
     repeat' (first|(with_reducible first|refine up he ?_|refine up hc ?_)|(with_reducible first|(refine wN fun _ hnl=>?_;revert hnl;(repeat refine wS fun _ _=>?_);intro hnl)|refine wE ?_|(refine wK ?_ ?_<;>intro h)|(refine wB ?_ ?_<;>intro h<;>simp only[h]))|simp(maxSteps:=4000000) (disch:=first|exact ddL|fail) only[go_sem,simprocAttr,Tryz.f133])
    ·rw[if_neg (by simp[h0])]
     by_cases h8:8<dd
     ·rw[if_pos h8]
      repeat' (first|(with_reducible first|refine up he ?_|refine up hc ?_|refine up hd ?_)|(with_reducible first|(refine wN fun _ hnl=>?_;revert hnl;(repeat refine wS fun _ _=>?_);intro hnl)|refine wE ?_|(refine wK ?_ ?_<;>intro h)|(refine wB ?_ ?_<;>intro h<;>simp only[h]))|simp(maxSteps:=4000000) (disch:=first|exact ddL|fail) only[go_sem,simprocAttr,Tryz.f133])
     ·rw[if_neg h8]
      repeat' (first|(with_reducible first|refine up he ?_|refine up hc ?_|refine up hd ?_)|(with_reducible first|(refine wN fun _ hnl=>?_;revert hnl;(repeat refine wS fun _ _=>?_);intro hnl)|refine wE ?_|(refine wK ?_ ?_<;>intro h)|(refine wB ?_ ?_<;>intro h<;>simp only[h]))|simp(maxSteps:=4000000) (disch:=first|exact ddL|fail) only[go_sem,simprocAttr,Tryz.f133])
   ·rw[if_pos (.inr (.inl h1))]
    repeat' (first|(with_reducible first|refine up he ?_)|(with_reducible first|(refine wN fun _ hnl=>?_;revert hnl;(repeat refine wS fun _ _=>?_);intro hnl)|refine wE ?_|(refine wK ?_ ?_<;>intro h)|(refine wB ?_ ?_<;>intro h<;>simp only[h]))|simp(maxSteps:=4000000) (disch:=first|exact ddL|fail) only[go_sem,simprocAttr,Tryz.f133])
end

section
set_option maxRecDepth 100000
set_option maxHeartbeats 4000000
theorem DI{P:Program}{g:FuncId}{ms:List MV}{σ:St}{om:aW}{ol:Nat→aW}{u:Nat→Nat→MV}{k:MV→St→Prop}(h:aA P g ms St.none fun v σ'=>∃m l,l≠m∧v=u l m∧σ'=(St.none.set m om).set l (ol m))
 (hk:∀m l,σ m=none→σ l=none→l≠m→R (bQ (u l m) ((σ.set m om).set l (ol m)) k)):R (cQ P g ms σ k) :=
 bX h (St.none_le σ) fun v σ' hv hf=>by
  obtain⟨m,l,hne,rfl,rfl⟩:=hv
  rw[hE,a8,a8,cT]
  refine hk m l ?_ ?_ hne
  ·rcases hf m om ((aM _ _ _ _ (Ne.symm hne)).trans (aJ _ _ _)) with h|⟨o',h⟩
   ·exact h
   ·simp[St.none] at h
  ·rcases hf l _ (aJ _ _ _) with h|⟨o',h⟩
   ·exact h
   ·simp[St.none] at h
theorem aA.LC{P:Program}{g:FuncId}{ms:List MV}{σ τ:St}{X:MV}(h:aA P g ms σ fun v σ'=>∃σv:St,σv.le σ'∧τ.le σ'∧(∀k o,τ k=some o→σv k=none)∧View σv v X):aA P g ms σ fun v σ'=>v=X∧σ'=τ :=
 aA.ghost (h.mono fun v σ' ⟨σv,h1,h2,h3,h4⟩=>⟨X,τ,bM.freeze σv h1 h2 h3 (fun p hp=>by
  simp at hp
  subst hp
  simpa[cA] using h4),rfl,rfl⟩)
theorem LD{τ:St}{q:Nat}{t:TypeId}{e n:Nat}{xs ex:List (List MV)}(hq:τ q=none)(hn:n=xs.length):∃σv:St,σv.le (τ.set q (.row t e (xs++ex)))∧τ.le (τ.set q (.row t e (xs++ex)))∧(∀k o,τ k=some o→σv k=none)∧View σv (.vec e q 0 n) (.lst e xs false) :=
 ⟨St.none.set q (.row t e (xs++ex)),St.aD (St.none_le _) (aJ _ _ _),fun j o h=>(aM _ _ _ _ (fun h1=>by subst h1;rw[hq] at h;cases h)).trans h,fun j o h=>aM _ _ _ _ (fun h1=>by subst h1;rw[hq] at h;cases h),by
  have:=View.vec (σ:=St.none.set q (.row t e (xs++ex))) (lo:=0) (n:=n) (aJ _ _ _) (by rw[List.length_append];omega)
  rwa [List.drop_zero,hn,List.take_append_of_le_length (Nat.le_refl _),List.take_length,←hn] at this⟩
theorem Gm{A:St}{a b:Nat}{x y:aW}(ha:A a=none):(A.set b y).le ((A.set a x).set b y):=fun j o h=>by
 simp only[St.set] at h ⊢
 split
 ·rename_i e;rw[if_pos e] at h;exact h
 ·rename_i e
  rw[if_neg e] at h
  rw[if_neg (fun e=>by subst e;rw[ha] at h;cases h)]
  exact h
theorem fI{σ:St}{a:Nat}{x:aW}(ha:σ a=none):σ.le (σ.set a x):=fun j o h=>(aM _ _ _ _ (fun e=>by subst e;rw[ha] at h;cases h)).trans h
theorem fD{σ:St}{l k:Nat}{o:aW}(h:(σ.set l o) k=none):k≠l∧σ k=none:=by
 have e:k≠l:=fun e=>by subst e;simp[St.set] at h
 exact⟨e,by simpa[St.set,e] using h⟩
abbrev shO(next:Int)(m:Nat)(dead:MV):aW:=.row 251 3 [[.int .i64 next,.mapv m,dead]]
abbrev bL(seq:Int)(l:Nat)(groups:MV):aW:=.row 140 3 [[.int .i64 seq,.ptr l 0 0,groups]]
theorem wC:aA Tryz.prog 132 [] St.none (fun v σ'=>∃m l,l≠m∧v=.ptr l 0 0∧σ'=(St.none.set m (.mp [])).set l (shO 1 m .aZ)):=by
 refine(aA.body 4 [.tmp 0] Tryz.func132 rfl rfl rfl rfl ?_)
 repeat' (first|(with_reducible first|(refine wN fun _ hnl=>?_;revert hnl;(repeat refine wS fun _ _=>?_);intro hnl)|refine wE ?_|(refine wK ?_ ?_<;>intro h)|(refine wB ?_ ?_<;>intro h<;>simp only[h]))|simp(maxSteps:=4000000) (disch:=first|exact ddL|fail) only[go_sem,simprocAttr,Tryz.f132])
 all_goals exact⟨_,_,by assumption,rfl,rfl⟩
theorem DX:aA Tryz.prog 60 [] St.none (fun v σ'=>∃m l b,l≠m∧b≠m∧b≠l∧v=.ptr b 0 0∧σ'=((St.none.set m (.mp [])).set l (shO 1 m .aZ)).set b (bL 0 l .aZ)):=by
 refine(aA.body 4 [.tmp 0] Tryz.func60 rfl rfl rfl rfl ?_)
 repeat' (first|(refine DI wC ?_;intro m l hm hl hlm)|(with_reducible first|(refine wN fun _ hnl=>?_;revert hnl;(repeat refine wS fun _ _=>?_);intro hnl)|refine wE ?_|(refine wK ?_ ?_<;>intro h)|(refine wB ?_ ?_<;>intro h<;>simp only[h]))|simp(maxSteps:=4000000) (disch:=first|exact ddL|fail) only[go_sem,simprocAttr,Tryz.f60])
 all_goals exact⟨_,_,_,by assumption,by assumption,by assumption,rfl,rfl⟩
theorem Ew(m:Nat):aA Tryz.prog 201 [.mapv m] St.none (fun v σ'=>∃l,v=.fn (.func 246) [] [.ptr l 0 0]∧σ'=St.none.set l (.row 249 1 [[.mapv m]])):=by
 refine(aA.body 4 [.tmp 2] Tryz.func201 rfl rfl rfl rfl ?_)
 repeat' (first|(with_reducible first|(refine wN fun _ hnl=>?_;revert hnl;(repeat refine wS fun _ _=>?_);intro hnl)|refine wE ?_|(refine wK ?_ ?_<;>intro h)|(refine wB ?_ ?_<;>intro h<;>simp only[h]))|simp(maxSteps:=4000000) (disch:=first|exact ddL|fail) only[go_sem,simprocAttr,Tryz.f201])
 all_goals exact⟨_,rfl,rfl⟩
theorem Ex(m:Nat):aA Tryz.prog 97 [.mapv m] St.none (fun v σ'=>∃l,v=.fn (.func 182) [] [.ptr l 0 0]∧σ'=St.none.set l (.row 131 1 [[.mapv m]])):=by
 refine(aA.body 4 [.tmp 2] Tryz.func97 rfl rfl rfl rfl ?_)
 repeat' (first|(with_reducible first|(refine wN fun _ hnl=>?_;revert hnl;(repeat refine wS fun _ _=>?_);intro hnl)|refine wE ?_|(refine wK ?_ ?_<;>intro h)|(refine wB ?_ ?_<;>intro h<;>simp only[h]))|simp(maxSteps:=4000000) (disch:=first|exact ddL|fail) only[go_sem,simprocAttr,Tryz.f97])
 all_goals exact⟨_,rfl,rfl⟩
end

section
set_option maxRecDepth 100000
set_option maxHeartbeats 4000000
def cEs(cs:List CA):List (MV × MV):=cs.map fun c=>(.int .i64 c.id,.agg c.c)
def GU(cs:List CA):Prop:=cs.Pairwise (fun a b=>a.id<b.id)∧(∀c,c∈cs→0≤c.id∧c.id≤1073741824)∧cs.length≤1000000
theorem yY(cs:List CA):cY (cEs cs)=cs.map CA.id:=by
 simp[cY,cEs,MN]
theorem nL(cs:List CA):((cEs cs).all fun p=>isK .i64 p.1)=true:=by
 simp[cEs,isK]
theorem DN{n:Int}(h:0≤n∧n≤1099511627776):(Lit.int .i64 n).wf=true:=by
 simp[Lit.wf,IntKind.min,IntKind.signed,IntKind.bits]
 omega
theorem sM{cs:List CA}(h:cs.Pairwise (fun a b=>a.id<b.id)){ns:List Int}(hp:ns.Perm (cs.map CA.id))(hs:ns.Pairwise (fun a b=>a≤b)):ns=cs.map CA.id :=
 List.Perm.eq_of_pairwise (le:=fun a b:Int=>a≤b) (fun a b _ _ h1 h2=>Int.le_antisymm h1 h2) hs ((List.pairwise_map.2 (h.imp fun h=>Int.le_of_lt h))) hp
theorem Bc{l m:Nat}{cs:List CA}(hne:l≠m)(hc:GU cs) :
  aA Tryz.prog 96 [.fn (.func 246) [] [.ptr l 0 0]] ((St.none.set l (.row 249 1 [[.mapv m]])).set m (.mp (cEs cs))) fun r σ' =>
   r=.lst 1 (cs.map fun c=>[.int .i64 c.id]) false∧σ'=(St.none.set l (.row 249 1 [[.mapv m]])).set m (.mp (cEs cs)):=by
 refine(Bb hne (nL cs) (fun n hn=>?_) (by simp[cEs];exact hc.2.2)).mono fun r σ' h=>?_
 ·rw[yY] at hn
  obtain⟨c,h1,rfl⟩:=List.mem_map.1 hn
  have:=hc.2.1 c h1
  exact DN (by omega)
 ·obtain⟨⟨ns,h1,h2,rfl⟩,rfl⟩:=h
  rw[yY] at h1
  rw[sM hc.1 h1 h2]
  simp
theorem J9{cs:List CA}(h:cs.Pairwise (fun a b=>a.id<b.id)){i:Nat}{c:CA}(hi:cs[i]?=some c):cB c.id (cEs cs)=some (.agg c.c):=by
 induction cs generalizing i with
 | nil=>simp at hi
 | cons d r ih =>
  obtain⟨h1,h2⟩:=List.pairwise_cons.1 h
  cases i with
  | zero =>
   simp at hi
   subst hi
   simp[cEs,cB]
  | succ i =>
   have hi:r[i]?=some c:=by simpa using hi
   have:=h1 c (List.mem_of_getElem? hi)
   have h3:cB c.id (cEs (d::r))=cB c.id (cEs r):=by
    simp only[cEs,List.map_cons,cB]
    rw[if_neg (by omega)]
   rw[h3]
   exact ih h2 hi
theorem A8(next:Int)(l m:Nat)(dead:MV)(cs:List CA)(hlm:l≠m)(hc:GU cs):aA Tryz.prog 135 [.ptr l 0 0] ((St.none.set m (.mp (cEs cs))).set l (shO next m dead)) (fun v σ'=>v=.lst 27 (cs.map CA.c) false∧σ'=(St.none.set m (.mp (cEs cs))).set l (shO next m dead)):=by
 refine aA.LC (aA.body 30 [.tmp 2] Tryz.func135 rfl rfl rfl rfl ?_)
 have hk:=Ew m
 obtain⟨K,hK⟩:∃K:List (List MV),(cs.map fun c=>[MV.int .i64 c.id])=K:=⟨_,rfl⟩
 have hkl:K.length=cs.length:=by rw[←hK];simp
 have hnone:∀{b:Nat},(St.none.set m (.mp (cEs cs))).set l (shO next m dead) b=none→b≠m∧b≠l:=fun {b} hb =>
  ⟨fun e=>by subst e;simp[St.set,Ne.symm hlm] at hb,fun e=>by subst e;simp[St.set] at hb⟩
 have hs:∀{b:Nat},(St.none.set m (.mp (cEs cs))).set l (shO next m dead) b=none→aA Tryz.prog 96 [.fn (.func 246) [] [.ptr b 0 0]] ((St.none.set b (.row 249 1 [[.mapv m]])).set m (.mp (cEs cs))) fun r σ' =>
   r=.lst 1 K false∧σ'=(St.none.set b (.row 249 1 [[.mapv m]])).set m (.mp (cEs cs)):=fun {b} hb=>by rw[←hK];exact Bc (hnone hb).1 hc
 have hle:∀{b:Nat},(St.none.set m (.mp (cEs cs))).set l (shO next m dead) b=none→((St.none.set b (.row 249 1 [[.mapv m]])).set m (.mp (cEs cs))).le (((St.none.set m (.mp (cEs cs))).set l (shO next m dead)).set b (.row 249 1 [[.mapv m]])):=fun {b} hb =>
  le2 (aJ _ _ _) ((aM _ _ _ _ (Ne.symm (hnone hb).1)).trans ((aM _ _ _ _ (Ne.symm hlm)).trans (aJ _ _ _)))
 have hlen:=hc.2.2
 repeat' (first|(refine qK hk ?_;intro b hb)|((refine dB (hs (by assumption)) (hle (by assumption)) ?_))|(with_reducible first|(refine wT ?_;(first|((fail_if_success (have:=nl1));refine wN fun nl1 hnl=>?_)|((fail_if_success (have:=nl2));refine wN fun nl2 hnl=>?_)|refine wN fun _ hnl=>?_);revert hnl;(repeat refine wS fun _ _=>?_);intro hnl)|refine wE ?_|(refine wK ?_ ?_<;>intro h)|(refine wB ?_ ?_<;>intro h<;>simp only[h]))|simp(maxSteps:=4000000) (disch:=first|exact ddL|fail) only[go_sem,simprocAttr,Tryz.f135,hkl])
 refine aF (α:=Nat × Nat × List (List MV)) (fun a=>⟨30,[(15,.int .i64 (a.1:Int)),(14,.int .i64 (cs.length:Int)),(13,.lst 1 K false),(3,.vec 27 a.2.1 0 a.1),(0,.ptr l 0 0)],[]⟩)
  (fun a=>((St.none.set m (.mp (cEs cs))).set l (shO next m dead)).set a.2.1 (.row 126 27 ((cs.take a.1).map CA.c++a.2.2))) (fun a=>a.1≤cs.length∧a.2.1≠m∧a.2.1≠l) (fun a=>cs.length - a.1) ?_ ?_
 ·refine Gh.step (.drop (σ1:=(St.none.set m (.mp (cEs cs))).set l (shO next m dead)) fun j o h=>?_) (Gh.A4 126 27 (fun q=>[(15,.int .i64 0),(14,.int .i64 (cs.length:Int)),(13,.lst 1 K false),(3,.vec 27 q 0 0),(0,.ptr l 0 0)]) (fun k=>by(repeat' (refine And.intro ?_ ?_))<;>first|exact trivial|exact .inl rfl|exact .inr ⟨rfl,.inl rfl⟩|exact .inr ⟨rfl,.inr rfl⟩) fun q hq=>?_)
  ·exact(aM _ _ _ _ (fun e=>by subst e;rw[hb] at h;cases h)).trans h
  ·obtain⟨q2,hq⟩:=fD hq
   obtain⟨q1,-⟩:=fD hq
   exact .done ⟨(0,q,[]),rfl,rfl,Nat.zero_le _,q1,q2⟩
 ·rintro⟨k,q,ex⟩ ⟨hk,q1,q2⟩
  simp only at hk q1 q2 ⊢
  have q1':=Ne.symm q1
  have q2':=Ne.symm q2
  have hml:=Ne.symm hlm
  by_cases h8:k<cs.length
  ·obtain⟨c,hck⟩:∃c,cs[k]?=some c:=⟨_,List.getElem?_eq_getElem h8⟩
   have hkk:K.getD k []=[.int .i64 c.id]:=by rw[←hK,List.getD_eq_getElem?_getD,List.getElem?_map,hck];rfl
   have hg:=J9 hc.1 hck
   have htake:cs.take (k+1)=cs.take k++[c]:=by rw[List.take_add_one,hck];rfl
   have hall:=nL cs
   have htl:(cs.take k).length=k:=by rw[List.length_take];omega
   obtain⟨L,hL⟩:∃L,cs.take k=L:=⟨_,rfl⟩
   rw[hL] at htl htake ⊢
   have htk:(L.map CA.c++ex).take k=L.map CA.c:=by rw[←htl];exact jV
   have hdr:(L.map CA.c++ex).drop (k+1)=ex.drop 1:=by rw[←htl];exact kI
   repeat' (first|(with_reducible first|(refine wT ?_;(first|((fail_if_success (have:=nl1));refine wN fun nl1 hnl=>?_)|((fail_if_success (have:=nl2));refine wN fun nl2 hnl=>?_)|refine wN fun _ hnl=>?_);revert hnl;(repeat refine wS fun _ _=>?_);intro hnl)|refine wE ?_|(refine wK ?_ ?_<;>intro h)|(refine wB ?_ ?_<;>intro h<;>simp only[h]))|simp(maxSteps:=4000000) (disch:=first|exact ddL|fail) only[go_sem,simprocAttr,Option.getD_some,FYs,hkk,hg,hall,htk,hdr,htl,hkl])
   ·have hex:ex=[]:=List.eq_nil_of_length_eq_zero (by omega)
    subst hex
    refine .of (.less ?_ (σ1:=((St.none.set m (.mp (cEs cs))).set l (shO next m dead)).set nl2 (.row 126 27 (L.map CA.c++[]++[c.c]))) (Gm (by simp[St.set,St.none, *]))) ⟨(k+1,nl2,[]),rfl,by simp[htake],⟨by simp only;omega,by assumption,by assumption⟩,by simp only;omega⟩
    simp(maxSteps:=4000000) (disch:=first|exact ddL|fail) only[go_sem,simprocAttr,aC,aB]
    all_goals first|rfl|(simp;done)
   ·refine .of (.less ?_ (σ1:=((St.none.set m (.mp (cEs cs))).set l (shO next m dead)).set nl2 (.row 126 27 (L.map CA.c++[c.c]++ex.drop 1))) (Gm (by simp[St.set,St.none, *]))) ⟨(k+1,nl2,ex.drop 1),rfl,by simp[htake],⟨by simp only;omega,by assumption,by assumption⟩,by simp only;omega⟩
    simp(maxSteps:=4000000) (disch:=first|exact ddL|fail) only[go_sem,simprocAttr,aC,aB]
    all_goals first|rfl|(simp;done)
  ·have:k=cs.length:=by omega
   subst this
   rw[List.take_length]
   repeat' (first|(with_reducible first|(refine wT ?_;(first|((fail_if_success (have:=nl1));refine wN fun nl1 hnl=>?_)|((fail_if_success (have:=nl2));refine wN fun nl2 hnl=>?_)|refine wN fun _ hnl=>?_);revert hnl;(repeat refine wS fun _ _=>?_);intro hnl)|refine wE ?_|(refine wK ?_ ?_<;>intro h)|(refine wB ?_ ?_<;>intro h<;>simp only[h]))|simp(maxSteps:=4000000) (disch:=first|exact ddL|fail) only[go_sem,simprocAttr,hkl])
   exact LD ((aM _ _ _ _ q2).trans (aM _ _ _ _ q1)) (by rw[List.length_map])
end

section
set_option maxRecDepth 100000
set_option maxHeartbeats 4000000
def fnF:List (FuncId × Fact)→bR
 | []=>fun _ _=>none
 | (g',F)::r=>fun g ms=>if g=g' then some F else fnF r g ms
theorem bO{g:FuncId}{F:Fact}{r:List (FuncId × Fact)}{ms:List MV}:fnF ((g,F)::r) g ms=some F:=by simp[fnF]
theorem bC{g g':FuncId}{F F':Fact}{r:List (FuncId × Fact)}{ms:List MV}(h:fnF r g ms=some F)(hne:(g==g')=false:=by rfl):fnF ((g',F')::r) g ms=some F:=by
 have:g≠g':=by simpa using hne
 simp[fnF,this,h]
theorem lI{P:Program}{C:bR}{g:FuncId}{ms:List MV}{σ:St}{k:MV→St→Prop}(rd:List Nat)(os:List aW){r:MV}(hC:C g ms=some ⟨rd,fun v=>v=r,none⟩)(hos:rd.map σ=os.map some)
 (h:aA P g ms (St.ofList rd os) fun v σ'=>v=r∧σ'=St.ofList rd os)(hk:R (bQ r σ k)):R (o3 P C g ms σ k) :=
 MP rd os hC hos h ⟨r,rfl⟩ fun v hv=>by subst hv;exact hk
end

section
set_option maxRecDepth 100000
set_option maxHeartbeats 4000000
theorem lA{Φ:Phi}{w:World}{σ:St}(hi:Inv Φ w σ){l:Nat}{t:TypeId}{e o:Nat}{c0 m:MV}{x:List MV}(hs:σ l=some (.row t e [x]))(hx0:x[o]?=some c0)(hm:m.aN=true){v:Value}(hv:Rel Φ v m) :
  ∃p R v0,Φ.obj l=some p∧p.blk=some R∧w.cell? ⟨R,p.bo+o,none⟩=some v0∧Rel Φ v0 c0∧w.frozen? ⟨R,p.bo+o,none⟩=false ∧
   Inv Φ (w.setCell ⟨R,p.bo+o,none⟩ v) (σ.set l (.row t e [x.set o m]))∧Step Φ σ w Φ (σ.set l (.row t e [x.set o m])) (w.setCell ⟨R,p.bo+o,none⟩ v):=by
 obtain⟨p,hp,hpe,q1,q2,q3,q4⟩:=hi.own l _ hs
 have he:x.length=e:=q3 0 _ rfl
 have hol:o<x.length:=(List.getElem?_eq_some_iff.1 hx0).1
 simp only[List.length_cons,List.length_nil] at q1
 cases hb:p.blk with
 | none=>rw[hb] at q4;simp only at q4;omega
 | some R =>
  rw[hb] at q4
  obtain⟨c,fz,k1,k2,k3,k4⟩:=q4
  have hlt:R<w.heap.size:=(Array.getElem?_eq_some_iff.1 k1).1
  obtain⟨hc0,v0,hv0,hr0⟩:=k4 0 _ o c0 rfl hx0
  simp only[Nat.zero_mul,Nat.zero_add] at hv0
  have hbo:p.bo+o<c.size:=(Array.getElem?_eq_some_iff.1 hv0).1
  refine⟨p,R,v0,hp,hb,by simpa[World.cell?,k1] using hv0,hr0,?_,?_⟩
  ·obtain⟨f1,f2⟩:=fz
   simp only[World.frozen?,k1,Bool.and_eq_false_iff,decide_eq_false_iff_not]
   simp only at k2
   rcases k2 with k2|k2
   ·by_cases h:f1≤p.bo+o
    ·right;omega
    ·left;exact h
   ·left;omega
  ·rw[qG k1]
   refine hi.DC l hs _ hp hb hY (fun k hk=>eI hk) rfl rfl rfl (Nat.le_refl _) ⟨p,hp,hpe,by simpa using q1,q2,fun i y hy=>?_,?_⟩
   ·match i with
    | 0=>simp only[List.getElem?_cons_zero,Option.some.injEq] at hy;subst hy;simpa using he
    | i+1=>simp at hy
   ·rw[hb]
    refine⟨_,fz,gC hlt,by simpa[zV] using k2,by simpa using k3,fun i y j m' hy hm'=>?_⟩
    match i with
    | 0 =>
     simp only[List.getElem?_cons_zero,Option.some.injEq] at hy
     subst hy
     simp only[Nat.zero_mul,Nat.zero_add]
     rw[List.getElem?_set] at hm'
     by_cases hj:o=j
     ·subst hj
      rw[if_pos rfl,if_pos hol] at hm'
      cases hm'
      exact⟨hm,v,by simp[hbo],hv⟩
     ·rw[if_neg hj] at hm'
      have:=k4 0 _ j m' rfl hm'
      simp only[Nat.zero_mul,Nat.zero_add] at this
      rwa [Array.getElem?_setIfInBounds_ne (by omega)]
    | i+1=>simp at hy
theorem s7{Φ:Phi}{vs:Array Value}{l i o:Nat}{r:List MV}(hr:gE Φ vs (.ptr l i o::r)):∃p R,Φ.obj l=some p∧p.blk=some R∧vs.getD 0 undef=.pointer (some ⟨R,p.bo+i * p.e+o,none⟩):=(hr.2 0 _ rfl).gL
end
end Go.Proofs.YtppdgejjmhdjhaaGreatDoor
