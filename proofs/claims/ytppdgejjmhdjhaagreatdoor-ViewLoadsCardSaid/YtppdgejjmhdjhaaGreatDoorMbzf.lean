/- Parts of the proof, joined; conditions: those that its theorems name. -/
import Derived.Test.YtppdgejjmhdjhaaGreatDoorMbze
set_option linter.unusedVariables false
set_option linter.unusedSimpArgs false
set_option maxHeartbeats 4000000
namespace Go.Proofs.YtppdgejjmhdjhaaGreatDoor
section
set_option maxRecDepth 100000
set_option maxHeartbeats 8000000
theorem Jz{P:Program}{t kt et:TypeId}{l:Nat}{es:List (MV × MV)}{σ:St}{k:MV→St→Prop}(ht:(td P t).k=.map kt et)
 (hk:∀q st ck,σ q=none→st.length=es.length→st.Nodup→R (k (.ptr q 0 0) ((σ.set l (.mk es st ck)).set q (.it l ck [])))):R (rE P t (.mapv l) (some (.mp es)) σ k):=by
 unfold R rE
 rw[ht]
 exact fun q st ck h1 h2 h3 _=>hk q st ck h1 h2 h3
theorem L4{q l ck:Nat}{seen st:List Nat}{es:List (MV × MV)}{σ:St}{k:MV→St→Prop}(hq:σ q=some (.it l ck seen))(hl:σ l=some (.mk es st ck))(h0:(∀s,s∈st→s∈seen)→R (k (.tup [.bool false]) σ))
 (h1:∀(i:Nat) (z:MV × MV) (s:Nat),es[i]?=some z→st[i]?=some s→s∉seen→R (k (.tup [.bool true,z.1,z.2]) (σ.set q (.it l ck (seen++[s]))))):R (zD (.ptr q 0 0) σ k):=⟨l,ck,seen,es,st,hq,hl,h0,h1⟩
theorem Jw{q l ck i s:Nat}{seen st:List Nat}{es:List (MV × MV)}{z:MV × MV}{σ:St}{k:MV→St→Prop}(hq:σ q=some (.it l ck (seen++[s])))(hl:σ l=some (.mk es st ck))(hz:es[i]?=some z)(hs:st[i]?=some s)(hk:R (k (.tup [z.1,z.2]) σ)):R (uP (.ptr q 0 0) σ k) :=
 ⟨l,ck,seen,es,st,i,z,s,hq,hl,hz,hs,hk⟩
def GN(st seen:List Nat):Nat:=(st.filter fun s=>!decide (s∈seen)).length
theorem LW{st seen:List Nat}{i s:Nat}(h:st[i]?=some s)(hn:s∉seen):GN st (seen++[s])<GN st seen:=by
 unfold GN
 have e:st.filter (fun x=>!decide (x∈seen++[s]))=(st.filter fun x=>!decide (x∈seen)).filter fun x=>!decide (x=s):=by
  rw[List.filter_filter]
  refine List.filter_congr fun x _=>?_
  by_cases h1:x∈seen
  ·simp[h1]
  ·simp[h1]
 rw[e,List.length_filter_lt_length_iff_exists]
 exact⟨s,List.mem_filter.2 ⟨List.mem_of_getElem? h,by simpa using hn⟩,by simp⟩
theorem o4:∀{l:List TU} {id n:Int},cJ l id=some n↔∃(i:Nat) (t:TU),l[i]?=some t∧t.id=id∧t.new=n∧cJ (l.drop (i+1)) id=none
 | [],id,n=>by simp[cJ]
 | t::l,id,n=>by
  have ih:=o4 (l:=l) (id:=id) (n:=n)
  rw[cJ]
  cases hl:cJ l id with
  | some v =>
   simp only[Option.some.injEq]
   rw[hl,Option.some.injEq] at ih
   rw[ih]
   constructor
   ·rintro⟨i,x,h1,h2⟩
    exact⟨i+1,x,by simpa using h1,by simpa using h2⟩
   ·rintro⟨i,x,h1,h2,h3,h4⟩
    cases i with
    | zero =>
     simp only[Nat.zero_add,List.drop_succ_cons,List.drop_zero] at h4
     rw[hl] at h4;cases h4
    | succ i=>exact⟨i,x,by simpa using h1,h2,h3,by simpa using h4⟩
  | none =>
   simp only
   rw[hl] at ih
   have ih':¬∃(i:Nat) (t:TU),l[i]?=some t∧t.id=id∧t.new=n∧cJ (l.drop (i+1)) id=none:=fun h=>by cases ih.2 h
   by_cases he:t.id=id
   ·rw[if_pos he,Option.some.injEq]
    constructor
    ·intro hn
     exact⟨0,t,rfl,he,hn,by simpa using hl⟩
    ·rintro⟨i,x,h1,h2,h3,h4⟩
     cases i with
     | zero=>simp at h1;subst h1;exact h3
     | succ i=>exact absurd ⟨i,x,by simpa using h1,h2,h3,by simpa using h4⟩ ih'
   ·rw[if_neg he]
    constructor
    ·intro h;cases h
    ·rintro⟨i,x,h1,h2,h3,h4⟩
     cases i with
     | zero=>simp at h1;subst h1;exact absurd h2 he
     | succ i=>exact absurd ⟨i,x,by simpa using h1,h2,h3,by simpa using h4⟩ ih'
theorem rB(B:BK)(fl:List ND)(mk:UInt32)(log:List TU):zB B fl mk log=true↔(∀t,t∈log→cC t.card mk=t.card)∧∀id n,cJ log id=some n→nE B fl id=n:=by
 rw[Ca,List.all_eq_true]
 have hget:∀{i:Nat} {t:TU},log[i]?=some t→log.getD i tuZ=t:=fun h=>nK h
 constructor
 ·intro h
  refine⟨fun t ht=>?_,fun id n hn=>?_⟩
  ·obtain⟨i,hi⟩:=List.mem_iff_getElem?.1 ht
   have:=h i (List.mem_range.2 (List.getElem?_eq_some_iff.1 hi).1)
   unfold uJ at this
   rw[hget hi,Bool.and_eq_true,decide_eq_true_eq] at this
   exact this.1
  ·obtain⟨i,t,h1,h2,h3,h4⟩:=o4.1 hn
   have:=h i (List.mem_range.2 (List.getElem?_eq_some_iff.1 h1).1)
   unfold uJ at this
   rw[hget h1,Bool.and_eq_true,Bool.or_eq_true,decide_eq_true_eq,decide_eq_true_eq,decide_eq_true_eq,h2,h4,h3] at this
   exact this.2.resolve_left fun e=>e rfl
 ·rintro⟨h1,h2⟩ i hi
  have hi:=List.mem_range.1 hi
  obtain⟨t,ht⟩:=bI log hi
  unfold uJ
  rw[hget ht,Bool.and_eq_true,Bool.or_eq_true,decide_eq_true_eq,decide_eq_true_eq,decide_eq_true_eq]
  refine⟨h1 t (cZ ht),?_⟩
  by_cases hn:cJ (log.drop (i+1)) t.id=none
  ·exact .inr (h2 _ _ (o4.2 ⟨i,t,ht,rfl,rfl,hn⟩))
  ·exact .inl hn
theorem BI{cs:List CA}(h:cs.Pairwise (fun a b=>a.id<b.id))(p:CA→Bool)(id:Int):(cs.filter p).find? (fun c=>decide (c.id=id))=(match cs.find? (fun c=>decide (c.id=id)) with|none=>none|some c=>if p c=true then some c else none):=by
 induction cs with
 | nil=>rfl
 | cons d cs ih =>
  obtain⟨h1,h2⟩:=List.pairwise_cons.1 h
  have ih:=ih h2
  by_cases hd:d.id=id
  ·rw[List.find?_cons_of_pos (by simpa using hd)]
   simp only
   by_cases hp:p d=true
   ·rw[List.filter_cons_of_pos hp,List.find?_cons_of_pos (by simpa using hd),if_pos hp]
   ·rw[List.filter_cons_of_neg hp,if_neg hp]
    refine List.find?_eq_none.2 fun c hc=>?_
    have:=h1 c (List.mem_filter.1 hc).1
    simp;omega
  ·rw[List.find?_cons_of_neg (by simpa using hd)]
   by_cases hp:p d=true
   ·rw[List.filter_cons_of_pos hp,List.find?_cons_of_neg (by simpa using hd)];exact ih
   ·rw[List.filter_cons_of_neg hp];exact ih
theorem Kb{B:BK}(hb:BkR B)(fl:List ND)(id:Int):(cB id (vEs (shC B fl))).getD (.int .i64 0)=.int .i64 (nE B fl id):=by
 rw[BW,shC,BI (iK hb.cok).2]
 unfold nE shown
 cases B.cards.find? (fun c=>decide (c.id=id)) with
 | none=>rfl
 | some c =>
  simp only
  split<;>rfl
theorem tO(a:Addr)(c:Nat)(w:World):Calls Tryz.prog 98 #[.slice (some a) 0 c] w fun e w'=>e=.returned (.slice (some ⟨w.heap.size,0,none⟩) 0 0)∧w'=w.alloc (.cells #[] 128):=by
 have q22:∀(w:World) (a:Option Addr) (n c n' c':Nat),(binOp .eql 77 (.slice a n c) (.slice none n' c')).run Tryz.prog w=.ok (.bool a.isNone) w:=fun w a n c n' c'=>Lib.run_eql_slice_nil w _ _ a n c n' c' Tryz.underlying77
 have u22:∀w,Sem.run Tryz.prog (underlying 77) w=.ok (TypeDesc.slice 128) w:=run_underlying Tryz.underlying77
 go_enter Tryz.func98,Tryz.ntmps98
 go_wp2
 go_ret
 exact⟨rfl,rfl⟩
theorem rU:aA Tryz.prog 98 [.aZ] St.none (fun r _=>r=.aZ):=by
 refine(aA.body 8 [.tmp 2] Tryz.func98 rfl rfl rfl rfl ?_)
 repeat' (first|(with_reducible first|(refine wN fun _ hnl=>?_;revert hnl;(repeat refine wS fun _ _=>?_);intro hnl)|refine wE ?_|(refine wK ?_ ?_<;>intro h)|(refine wB ?_ ?_<;>intro h<;>simp only[h]))|simp(maxSteps:=4000000) (disch:=first|exact ddL|fail) only[go_sem,simprocAttr,Tryz.f98])
theorem Aa(e:Nat)(t:Bool):aA Tryz.prog 98 [.lst e [] t] St.none (fun r _=>r=.lst e [] false):=j6 rU tO
theorem rT(l:List TU)(hl:l.length≤1000000)(t:Bool):aA Tryz.prog 98 [.lst 31 (l.map TU.c) t] St.none (fun r _=>r=.lst 31 (l.map TU.c) false):=by
 cases l with
 | nil=>exact Aa 31 t
 | cons x m =>
  refine aA.seen (aA.body 8 [.tmp 2] Tryz.func98 rfl rfl rfl rfl ?_)
  simp only[List.length_cons] at hl
  repeat' (first|(with_reducible first|(refine wN fun _ hnl=>?_;revert hnl;(repeat refine wS fun _ _=>?_);intro hnl)|refine wE ?_|(refine wK ?_ ?_<;>intro h)|(refine wB ?_ ?_<;>intro h<;>simp only[h]))|simp(maxSteps:=4000000) (disch:=first|exact ddL|fail) only[go_sem,simprocAttr,Tryz.f98])
  exact .vecAll (aJ _ _ _) (by simp only[List.length_map,List.length_cons])
end

section
set_option maxRecDepth 100000
set_option maxHeartbeats 8000000
theorem La{l:List Nat}(h:l.Nodup){i j x:Nat}(hi:l[i]?=some x)(hj:l[j]?=some x):i=j:=by
 obtain⟨h1,h2⟩:=List.getElem?_eq_some_iff.1 hi
 obtain⟨h3,h4⟩:=List.getElem?_eq_some_iff.1 hj
 rcases Nat.lt_trichotomy i j with q|q|q
 ·exact absurd (h2.trans h4.symm) (List.pairwise_iff_getElem.1 h i j h1 h3 q)
 ·exact q
 ·exact absurd (h4.trans h2.symm) (List.pairwise_iff_getElem.1 h j i h3 h1 q)
theorem BT{n:Int}{v:MV}:∀{es:List (MV × MV)},(es.all fun p=>isK .i64 p.1)=true→cB n es=some v→∃i,i<es.length∧es[i]?=some (.int .i64 n,v)
 | [],_,h=>by simp[cB] at h
 | (x,u)::es,hk,h=>by
  simp only[List.all_cons,Bool.and_eq_true] at hk
  obtain⟨m,rfl⟩:=iE hk.1
  by_cases hm:m=n
  ·subst hm
   simp[cB] at h
   subst h
   exact⟨0,by simp,rfl⟩
  ·rw[cB,if_neg hm] at h
   obtain⟨i,h1,h2⟩:=BT hk.2 h
   exact⟨i+1,by simpa using h1,by simpa using h2⟩
theorem Jy{q l ck:Nat}{seen st:List Nat}{es:List (MV × MV)}{σ:St}{k:MV→St→Prop}{p:Int→Int→Prop}(hq:σ q=some (.it l ck seen))(hl:σ l=some (.mk es st ck))(hent:∀{i:Nat} {z:MV × MV},es[i]?=some z→∃id n,z=(.int .i64 id,.int .i64 n)∧p id n)
 (h0:(∀s,s∈st→s∈seen)→R (k (.tup [.bool false]) σ))(h1:∀(i:Nat) (id n:Int) (s:Nat),es[i]?=some (.int .i64 id,.int .i64 n)→p id n→st[i]?=some s→s∉seen→R (k (.tup [.bool true,.int .i64 id,.int .i64 n]) (σ.set q (.it l ck (seen++[s]))))):R (zD (.ptr q 0 0) σ k) :=
 L4 hq hl h0 fun i z s hz hs hn=>by
  obtain⟨id,n,rfl,hp⟩:=hent hz
  exact h1 i id n s hz hp hs hn
theorem I5{B:BK}(b:Nat){fl:List ND}(hl:fl.length≤1000000)(tt:Bool){mk:UInt32}(h:¬(bF fl=0∧mk.toNat≤511)) :
  aA Tryz.prog 15 [.ptr b 0 0,.lst 5 (fl.map ND.c) tt,.int .u32 (mk.toNat:Int)] St.none (fun r _=>r=.nilp):=by
 refine aA.bZ (aA.body 60 [.tmp 6] Tryz.func15 rfl rfl rfl rfl ?_)
 have hmc:=lP mk
 by_cases hp:bF fl=0
 ·have hpn:=vH fl hl tt hp
  rw[decide_eq_false fun hm=>h ⟨hp,hm⟩] at hmc
  repeat' (first|(refine qK hpn ?_;intro f hf)|(with_reducible first|refine up hmc ?_)|(with_reducible first|(refine wN fun _ hnl=>?_;revert hnl;(repeat refine wS fun _ _=>?_);intro hnl)|refine wE ?_|(refine wK ?_ ?_<;>intro h)|(refine wB ?_ ?_<;>intro h<;>simp only[h]))|simp(maxSteps:=4000000) (disch:=first|exact ddL|fail) only[go_sem,simprocAttr,Tryz.f15])
  all_goals first|exact⟨_,St.le_refl _,rfl⟩|exact⟨_,St.le_refl _⟩
 ·have hpn:=IZ fl hl tt hp
  repeat' (first|(with_reducible first|refine up hpn ?_)|(with_reducible first|(refine wN fun _ hnl=>?_;revert hnl;(repeat refine wS fun _ _=>?_);intro hnl)|refine wE ?_|(refine wK ?_ ?_<;>intro h)|(refine wB ?_ ?_<;>intro h<;>simp only[h]))|simp(maxSteps:=4000000) (disch:=first|exact ddL|fail) only[go_sem,simprocAttr,Tryz.f15])
  all_goals first|exact⟨_,St.le_refl _,rfl⟩|exact⟨_,St.le_refl _⟩
theorem nC{P:Program}{g:FuncId}{ms:List MV}{σ τ:St}{fl:List ND}{mk:UInt32}{floor now:Int}{log:MV}{cs:List CA}{u:Nat→MV}{k:MV→St→Prop}
 (h:aA P g ms τ fun r σ'=>∃ρ:St,(∀j o,ρ j=some o→τ j=none)∧σ'=ρ.over τ∧∃f sm v d,GS f sm v∧r=u v∧ρ=vwR fl d f sm v mk floor now log cs)(hle:τ.le σ)
 (hk:∀f sm v d,σ f=none→σ sm=none→σ v=none→sm≠f→v≠f→v≠sm→R (bQ (u v) (((σ.set f (flD fl d)).set sm (.mp (vEs cs))).set v (vwO f mk sm floor now log)) k)):R (cQ P g ms σ k) :=
 Jx h hle fun r ρ hfr hq=>by
  obtain⟨f,sm,v,d,⟨h1,h2,h3⟩,rfl,rfl⟩:=hq
  have ff:=hfr f (flD fl d) (by simp[St.set,Ne.symm h1,Ne.symm h2])
  have fs:=hfr sm (.mp (vEs cs)) (by simp[St.set,Ne.symm h3])
  have fv:=hfr v _ (aJ _ _ _)
  rw[a8,a8,a8,cT]
  exact hk f sm v d ff fs fv h1 h2 h3
def Pe(B:BK)(fl:List ND)(mk:UInt32)(floor:Int)(log:List TU)(τ:St)(r:MV)(σ':St):Prop :=
 (eA B fl mk floor log=true∧∃f sm v d,GS f sm v∧r=.tup [.ptr v 0 0,.bool true]∧(∀j,(j=f∨j=sm∨j=v)→τ j=none)∧τ.le σ'∧(vwR fl d f sm v mk floor B.sq (.lst 31 (log.map TU.c) false) (shC B fl)).le σ') ∨
  (eA B fl mk floor log=false∧r=.tup [.nilp,.bool false]∧τ.le σ')
theorem sC{B:BK}(hb:BkR B)(h3:B.gr.length≤1000000)(h4:∀g,g∈B.gr→g.mem.length≤1000000){m l q b:Nat}(D:kE m l q b)(ex:List (List MV)){fl:List ND}(hfl:fl.length≤1000000)(tt:Bool){mk:UInt32}(floor:Int)(log:List TU)(hlog:log.length≤1000000) :
  aA Tryz.prog 45 [.ptr b 0 0,.lst 5 (fl.map ND.c) tt,.int .u32 (mk.toNat:Int),.int .i64 floor,.lst 31 (log.map TU.c) false] (bkS m l q b B ex) (fun r σ'=>Pe B fl mk floor log (bkS m l q b B ex) r σ'):=by
 refine(aA.body 117 [.tmp 10,.tmp 11] Tryz.func45 rfl rfl rfl rfl ?_)
 obtain⟨res,hres⟩:∃z,eA B fl mk floor log=z:=⟨_,rfl⟩
 have hres0:=hres
 unfold eA at hres
 by_cases hpm:bF fl=0∧mk.toNat≤511
 rotate_left
 ·have hf:eA B fl mk floor log=false:=by
   unfold eA
   by_cases h1:bF fl=0
   ·rw[decide_eq_false fun h=>hpm ⟨h1,h⟩];simp
   ·rw[decide_eq_false h1];simp
  have hvn:=I5 (B:=B) b hfl tt hpm
  repeat' (first|(with_reducible first|refine up hvn ?_)|(with_reducible first|(refine wT ?_;(first|((fail_if_success (have:=nl1));refine wN fun nl1 hnl=>?_)|refine wN fun _ hnl=>?_);revert hnl;(repeat refine wS fun _ _=>?_);intro hnl)|refine wE ?_|(refine wK ?_ ?_<;>intro h)|(refine wB ?_ ?_<;>intro h<;>simp only[h]))|simp(maxSteps:=4000000) (disch:=first|exact ddL|fail) only[go_sem,simprocAttr,Tryz.f45])
  all_goals exact .inr ⟨hf,rfl,St.le_refl _⟩
 ·obtain⟨hp,hm⟩:=hpm
  rw[decide_eq_true hp,decide_eq_true hm,Bool.true_and,Bool.true_and] at hres
  have hvn:=vO hb h3 h4 D ex hp tt hm
  have hct:=I2 log hlog false
  have hcl:=rT log hlog false
  obtain⟨d1,d2,d3,d4,d5,d6⟩:=D
  have e1:=Ne.symm d1
  have e2:=Ne.symm d2
  have e3:=Ne.symm d3
  have e4:=Ne.symm d4
  have e5:=Ne.symm d5
  have e6:=Ne.symm d6
  obtain⟨to,hto⟩:∃z,eR [] log=z:=⟨_,rfl⟩
  rw[hto] at hct hres
  by_cases h0:(0≤floor∧floor≤B.sq∧log.length≤40)∧to=true
  rotate_left
  ·have hf:eA B fl mk floor log=false:=by
    rw[hres0,←hres]
    by_cases h1:0≤floor∧floor≤B.sq∧log.length≤40
    ·cases to
     ·simp
     ·exact absurd ⟨h1,rfl⟩ h0
    ·rw[decide_eq_false h1];simp
   clear hres hres0
   cases to
   all_goals
    repeat' (first|((refine nC hvn (St.le_refl _) ?_;intro f sm v d hf0 hs0 hv0 sf vf vs;(have hle:=St.b6 (o:=flD fl d) (St.le_refl (bkS m l q b B ex)) hf0;have hle:=St.b6 (o:=.mp (vEs (shC B fl))) hle hs0;have hle:=St.b6 (o:=vwO f mk sm B.sq B.sq .aZ) hle hv0)))|(with_reducible first|refine up hct ?_)|(with_reducible first|(refine wT ?_;(first|((fail_if_success (have:=nl1));refine wN fun nl1 hnl=>?_)|refine wN fun _ hnl=>?_);revert hnl;(repeat refine wS fun _ _=>?_);intro hnl)|refine wE ?_|(refine wK ?_ ?_<;>intro h)|(refine wB ?_ ?_<;>intro h<;>simp only[h]))|simp(maxSteps:=4000000) (disch:=first|exact ddL|fail) only[go_sem,simprocAttr,Tryz.f45])
    all_goals first|exact .inr ⟨hf,rfl,hle⟩|(exfalso;simp at h0;omega)
  ·obtain⟨⟨g1,g2,g3⟩,rfl⟩:=h0
   rw[decide_eq_true ⟨g1,g2,g3⟩,Bool.true_and,Bool.true_and] at hres
   have hto1:((log.length:Int) - 1).toNat=log.length - 1:=by omega
   have hx0:∃x0 xn:TU,0<log.length→(log.map TU.c).getD 0 []=x0.c∧(log.map TU.c).getD (log.length - 1) []=xn.c∧log.getD 0 tuZ=x0∧log.getD (log.length - 1) tuZ=xn:=by
    rcases Nat.eq_zero_or_pos log.length with h|h
    ·exact⟨tuZ,tuZ,fun h'=>by omega⟩
    ·obtain⟨x,hx⟩:=bI log h
     obtain⟨y,hy⟩:=bI log (show log.length - 1<log.length by omega)
     exact⟨x,y,fun _=>⟨bB hx,bB hy,nK hx,nK hy⟩⟩
   obtain⟨x0,xn,hx⟩:=hx0
   have hxa:0<log.length→(log.map TU.c).getD 0 []=x0.c:=fun h=>(hx h).1
   have hxb:0<log.length→(log.map TU.c).getD (log.length - 1) []=xn.c:=fun h=>(hx h).2.1
   have hcond:(log≠[]→floor<(log.getD 0 tuZ).sq∧(log.getD (log.length - 1) tuZ).sq≤B.sq)↔(0<log.length→floor<x0.sq∧xn.sq≤B.sq):=by
    constructor
    ·intro h h'
     have:=h (List.length_pos_iff.1 h')
     rwa [(hx h').2.2.1,(hx h').2.2.2] at this
    ·intro h h'
     have h':=List.length_pos_iff.2 h'
     rw[(hx h').2.2.1,(hx h').2.2.2]
     exact h h'
   by_cases hc0:0<log.length→floor<x0.sq∧xn.sq≤B.sq
   rotate_left
   ·have hf:eA B fl mk floor log=false:=by
     rw[hres0,←hres,decide_eq_false fun h=>hc0 (hcond.1 h),Bool.false_and]
    obtain⟨hc1,hc2⟩:=Classical.not_imp.1 hc0
    clear hres hres0 hcond hx hc0
    repeat' (first|((refine nC hvn (St.le_refl _) ?_;intro f sm v d hf0 hs0 hv0 sf vf vs;(have hle:=St.b6 (o:=flD fl d) (St.le_refl (bkS m l q b B ex)) hf0;have hle:=St.b6 (o:=.mp (vEs (shC B fl))) hle hs0;have hle:=St.b6 (o:=vwO f mk sm B.sq B.sq .aZ) hle hv0;have hf1:=hf0;have hs1:=hs0;have hv1:=hv0;simp only[aX] at hf1 hs1 hv1;obtain⟨f1,f2,f3,f4,-⟩:=hf1;obtain⟨s1,s2,s3,s4,-⟩:=hs1;obtain⟨v1,v2,v3,v4,-⟩:=hv1;have fs:=Ne.symm sf;have fv:=Ne.symm vf;have sv:=Ne.symm vs)))|(with_reducible first|refine up hct ?_)|(with_reducible first|(refine wT ?_;(first|((fail_if_success (have:=nl1));refine wN fun nl1 hnl=>?_)|refine wN fun _ hnl=>?_);revert hnl;(repeat refine wS fun _ _=>?_);intro hnl)|refine wE ?_|(refine wK ?_ ?_<;>intro h)|(refine wB ?_ ?_<;>intro h<;>simp only[h]))|simp(maxSteps:=4000000) (disch:=first|exact ddL|fail) only[go_sem,simprocAttr,Tryz.f45,hxa,hxb,hto1])
    all_goals first|exact .inr ⟨hf,rfl,hle⟩|(exfalso;omega)
   ·rw[decide_eq_true (hcond.2 hc0),Bool.true_and] at hres
    clear hcond hx
    have hbad:zB B fl mk log=false→eA B fl mk floor log=false:=fun h=>by rw[hres0,←hres,h]
    have hgood:zB B fl mk log=true→eA B fl mk floor log=true:=fun h=>by rw[hres0,←hres,h]
    clear hres hres0
    have hw:log.length=0∨(0<log.length∧floor<x0.sq∧xn.sq≤B.sq):=by
     rcases Nat.eq_zero_or_pos log.length with h|h
     ·exact .inl h
     ·exact .inr ⟨h,hc0 h⟩
    rcases hw with hz|⟨hz,hc1,hc2⟩
    case' inl =>
     clear hc0 hxa hxb
     repeat' (first|((refine nC hvn (St.le_refl _) ?_;intro f sm v d hf0 hs0 hv0 sf vf vs;(have hle:=St.b6 (o:=flD fl d) (St.le_refl (bkS m l q b B ex)) hf0;have hle:=St.b6 (o:=.mp (vEs (shC B fl))) hle hs0;have hle:=St.b6 (o:=vwO f mk sm B.sq B.sq .aZ) hle hv0;have hf1:=hf0;have hs1:=hs0;have hv1:=hv0;simp only[aX] at hf1 hs1 hv1;obtain⟨f1,f2,f3,f4,-⟩:=hf1;obtain⟨s1,s2,s3,s4,-⟩:=hs1;obtain⟨v1,v2,v3,v4,-⟩:=hv1;have fs:=Ne.symm sf;have fv:=Ne.symm vf;have sv:=Ne.symm vs)))|(with_reducible first|refine up hct ?_)|(with_reducible first|(refine wT ?_;(first|((fail_if_success (have:=nl1));refine wN fun nl1 hnl=>?_)|refine wN fun _ hnl=>?_);revert hnl;(repeat refine wS fun _ _=>?_);intro hnl)|refine wE ?_|(refine wK ?_ ?_<;>intro h)|(refine wB ?_ ?_<;>intro h<;>simp only[h]))|simp(maxSteps:=4000000) (disch:=first|exact ddL|fail) only[go_sem,simprocAttr,Tryz.f45,hto1])
    case' inr =>
     have hxa:=hxa hz
     have hxb:=hxb hz
     clear hc0
     repeat' (first|((refine nC hvn (St.le_refl _) ?_;intro f sm v d hf0 hs0 hv0 sf vf vs;(have hle:=St.b6 (o:=flD fl d) (St.le_refl (bkS m l q b B ex)) hf0;have hle:=St.b6 (o:=.mp (vEs (shC B fl))) hle hs0;have hle:=St.b6 (o:=vwO f mk sm B.sq B.sq .aZ) hle hv0;have hf1:=hf0;have hs1:=hs0;have hv1:=hv0;simp only[aX] at hf1 hs1 hv1;obtain⟨f1,f2,f3,f4,-⟩:=hf1;obtain⟨s1,s2,s3,s4,-⟩:=hs1;obtain⟨v1,v2,v3,v4,-⟩:=hv1;have fs:=Ne.symm sf;have fv:=Ne.symm vf;have sv:=Ne.symm vs)))|(with_reducible first|refine up hct ?_)|(with_reducible first|(refine wT ?_;(first|((fail_if_success (have:=nl1));refine wN fun nl1 hnl=>?_)|refine wN fun _ hnl=>?_);revert hnl;(repeat refine wS fun _ _=>?_);intro hnl)|refine wE ?_|(refine wK ?_ ?_<;>intro h)|(refine wB ?_ ?_<;>intro h<;>simp only[h]))|simp(maxSteps:=4000000) (disch:=first|exact ddL|fail) only[go_sem,simprocAttr,Tryz.f45,hxa,hxb,hto1])
     clear hxa hxb
    all_goals (try (exfalso;omega))
    all_goals
     have n1:nl1≠b:=by assumption
     have n2:nl1≠q:=by assumption
     have n3:nl1≠l:=by assumption
     have n4:nl1≠m:=by assumption
     have n5:nl1≠f:=by assumption
     have n6:nl1≠sm:=by assumption
     have n7:nl1≠v:=by assumption
     have hn0:bkS m l q b B ex nl1=none:=by simp only[aX];exact⟨n1,n2,n3,n4,rfl⟩
    all_goals
     refine aF (α:=Nat × List (MV × MV)) (fun z=>⟨117,[(75,.int .i64 (z.1:Int)),(74,.int .i64 (log.length:Int)),(73,.lst 31 (log.map TU.c) false),(14,.mapv nl1),(12,.ptr v 0 0),(4,.lst 31 (log.map TU.c) false),(3,.int .i64 floor),(2,.int .u32 (mk.toNat:Int))],[]⟩)
      (fun z=>((((bkS m l q b B ex).set f (flD fl d)).set sm (.mp (vEs (shC B fl)))).set v (vwO f mk sm B.sq B.sq .aZ)).set nl1 (.mp z.2)) (fun z=>z.1≤log.length∧JE (log.take z.1) z.2∧∀t,t∈log.take z.1→cC t.card mk=t.card) (fun z=>log.length - z.1) (.of (.less ?_ (St.le_refl _)) ⟨(0,[]),rfl,rfl,Nat.zero_le _,CQ,by simp⟩) ?_
     ·simp(maxSteps:=4000000) (disch:=first|exact ddL|fail) only[go_sem,simprocAttr,aC,aB]
      all_goals first|rfl|(simp;done)
     ·rintro⟨i,es⟩ ⟨hi,hM,hpr⟩
      simp only at hi hM hpr ⊢
      by_cases hlt:i<log.length
      ·obtain⟨x,hx⟩:=bI log hlt
       have hat:=bB (f:=TU.c) hx
       have hpj:=vL x.card mk
       have hN:=zG hM x
       rw[←aV hx] at hN
       have hall:=hM.k
       have hnb:cC x.card mk≠x.card→eA B fl mk floor log=false:=fun h=>hbad (by
        rw[←Bool.not_eq_true,rB]
        exact fun h'=>h (h'.1 x (cZ hx)))
       obtain⟨C,c1⟩:∃C:bR,∀ms,C 78 ms=some ⟨[],fun v=>v=.agg (cC x.card mk).c,none⟩:=⟨tV 78 (.agg (cC x.card mk).c),fun _=>gJ⟩
       have hne:=Cg (cC x.card mk) x.card
       by_cases hpe:cC x.card mk=x.card
       ·have hpr':∀t,t∈log.take (i+1)→cC t.card mk=t.card:=fun t ht=>by
         rw[aV hx,List.mem_append,List.mem_singleton] at ht
         rcases ht with ht|rfl
         ·exact hpr t ht
         ·exact hpe
        rw[decide_eq_true hpe,Bool.not_true] at hne
        obtain⟨pc,hpc⟩:∃pc,cC x.card mk=pc:=⟨_,rfl⟩
        rw[hpc] at hne hpj c1
        repeat' (first|((with_reducible refine aK mixed ?chk C ?_);(case chk=>decide +kernel))|(with_reducible refine aI (c1 _) hpj ?_)|(with_reducible first|(refine wT ?_;(first|((fail_if_success (have:=nl1));refine wN fun nl1 hnl=>?_)|refine wN fun _ hnl=>?_);revert hnl;(repeat refine wS fun _ _=>?_);intro hnl)|refine wE ?_|(refine wK ?_ ?_<;>intro h)|(refine wB ?_ ?_<;>intro h<;>simp only[h]))|simp(maxSteps:=4000000) (disch:=first|exact ddL|fail) only[go_sem,simprocAttr,FXs,hat,hall,hne])
        all_goals (try (exfalso;omega))
        all_goals
         refine .of (.less ?_ (σ1:=((((bkS m l q b B ex).set f (flD fl d)).set sm (.mp (vEs (shC B fl)))).set v (vwO f mk sm B.sq B.sq .aZ)).set nl1 (.mp (cM .i64 x.id (.int .i64 x.new) es))) ?_) ⟨(i+1,cM .i64 x.id (.int .i64 x.new) es),rfl,rfl,⟨by simp only;omega,hN,hpr'⟩,by simp only;omega⟩
         ·simp(maxSteps:=4000000) (disch:=first|exact ddL|fail) only[go_sem,simprocAttr,aC,aB]
          all_goals first|rfl|(simp;done)
         ·clear hM hpr hN hpr' hall hat hpj hne c1 hbad hgood hct hcl hnb hle
          refine fI ?_
          simp only[aX]
          exact⟨by assumption,by assumption,by assumption,by assumption,by assumption,by assumption,by assumption,by assumption,rfl⟩
       ·rw[decide_eq_false hpe,Bool.not_false] at hne
        have hf:=hnb hpe
        obtain⟨pc,hpc⟩:∃pc,cC x.card mk=pc:=⟨_,rfl⟩
        rw[hpc] at hne hpj c1
        repeat' (first|((with_reducible refine aK mixed ?chk C ?_);(case chk=>decide +kernel))|(with_reducible refine aI (c1 _) hpj ?_)|(with_reducible first|(refine wT ?_;(first|((fail_if_success (have:=nl1));refine wN fun nl1 hnl=>?_)|refine wN fun _ hnl=>?_);revert hnl;(repeat refine wS fun _ _=>?_);intro hnl)|refine wE ?_|(refine wK ?_ ?_<;>intro h)|(refine wB ?_ ?_<;>intro h<;>simp only[h]))|simp(maxSteps:=4000000) (disch:=first|exact ddL|fail) only[go_sem,simprocAttr,FXs,hat,hne])
        all_goals first|exact .inr ⟨hf,rfl,St.b6 (St.b6 hle hn0) (by simp only[aX];exact⟨by assumption,by assumption,by assumption,by assumption,rfl⟩)⟩|(exfalso;omega)
      ·have:i=log.length:=by omega
       subst this
       rw[List.take_length] at hM hpr
       repeat' (first|((refine Jz (by rw[GK]) ?_;intro it st ck hit0 hst1 hst2;have hit1:=hit0;simp only[aX] at hit1;obtain⟨i1,i2,i3,i4,i5,i6,i7,i8,-⟩:=hit1;have i1':=Ne.symm i1;have i2':=Ne.symm i2;have i3':=Ne.symm i3;have i4':=Ne.symm i4))|(with_reducible first|(refine wT ?_;(first|((fail_if_success (have:=nl1));refine wN fun nl1 hnl=>?_)|refine wN fun _ hnl=>?_);revert hnl;(repeat refine wS fun _ _=>?_);intro hnl)|refine wE ?_|(refine wK ?_ ?_<;>intro h)|(refine wB ?_ ?_<;>intro h<;>simp only[h]))|simp(maxSteps:=4000000) (disch:=first|exact ddL|fail) only[go_sem,simprocAttr])
       refine aF (α:=List Nat) (fun seen=>⟨117,[(93,.ptr it 0 0),(12,.ptr v 0 0),(4,.lst 31 (log.map TU.c) false),(3,.int .i64 floor)],[]⟩)
        (fun seen=>(((((bkS m l q b B ex).set f (flD fl d)).set sm (.mp (vEs (shC B fl)))).set v (vwO f mk sm B.sq B.sq .aZ)).set nl1 (.mk es st ck)).set it (.it nl1 ck seen)) (fun seen=>∀(i:Nat) (z:MV × MV) (s:Nat),es[i]?=some z→st[i]?=some s→s∈seen→∃id n,z=(.int .i64 id,.int .i64 n)∧nE B fl id=n) (fun seen=>GN st seen) (.of (.less ?_ ?_) ⟨[],rfl,rfl,by simp⟩) ?_
       ·simp(maxSteps:=4000000) (disch:=first|exact ddL|fail) only[go_sem,simprocAttr,aC,aB]
        all_goals first|rfl|(simp;done)
       ·exact St.le_refl _
       ·intro seen hseen
        have hent:∀{i:Nat} {z:MV × MV},es[i]?=some z→∃id n,z=(.int .i64 id,.int .i64 n)∧cJ log id=some n:=fun {i z} hz=>by
         obtain⟨id,h1,h2⟩:=MJ hM.k hM.o hz
         rw[hM.g id] at h2
         cases hnw:cJ log id with
         | none=>rw[hnw] at h2;cases h2
         | some n =>
          rw[hnw] at h2
          have h2:=Option.some.inj h2
          exact⟨id,n,Prod.ext h1 h2.symm,hnw⟩
        have hlk:=Kb hb fl
        have hkV:=Ao (shC B fl)
        obtain⟨V,hV⟩:∃V,vEs (shC B fl)=V:=⟨_,rfl⟩
        rw[hV] at hlk hkV ⊢
        have hnb:∀id n,cJ log id=some n→nE B fl id≠n→eA B fl mk floor log=false:=fun id n h1 h2=>hbad (by
         rw[←Bool.not_eq_true,rB]
         exact fun h'=>h2 (h'.2 id n h1))
        repeat' (first|(refine Jy (aJ _ _ _) ((aM _ _ _ _ i1').trans (aJ _ _ _)) hent (fun hsee=>?_) (fun i id n s hz hnw hs hns=>?_))|(refine Jw (aJ _ _ _) ((aM _ _ _ _ i1').trans (aJ _ _ _)) hz hs ?_)|(with_reducible first|refine up hcl ?_)|(with_reducible first|(refine wT ?_;(first|((fail_if_success (have:=nl1));refine wN fun nl1 hnl=>?_)|refine wN fun _ hnl=>?_);revert hnl;(repeat refine wS fun _ _=>?_);intro hnl)|refine wE ?_|(refine wK ?_ ?_<;>intro h)|(refine wB ?_ ?_<;>intro h<;>simp only[h]))|simp(maxSteps:=4000000) (disch:=first|exact ddL|fail) only[go_sem,simprocAttr,FXs,List.headD_cons,hlk,hkV])
        ·refine .inl ⟨hgood ((rB B fl mk log).2 ⟨hpr,fun id n hnw=>?_⟩),f,sm,v,d,⟨sf,vf,vs⟩,rfl,fun j hj=>?_,?_,?_⟩
         ·have hg:=hM.g id
          rw[hnw] at hg
          obtain⟨i,hi,hz⟩:=BT hM.k hg
          obtain⟨s,hs⟩:=bI st (by rw[hst1];exact hi)
          obtain⟨id',n',e1,e2⟩:=hseen i _ s hz hs (hsee s (cZ hs))
          cases e1
          exact e2
         ·rcases hj with rfl|rfl|rfl<;>assumption
         ·clear hseen hent hlk hnb hbad hgood
          exact St.b6 (St.b6 (St.b6 (St.b6 (St.b6 (St.le_refl _) hf0) hs0) hv0) hn0) (by simp only[aX];exact⟨i5,i6,i7,i8,rfl⟩)
         ·clear hseen hent hlk hnb hbad hgood
          subst hV
          exact St.aD (St.aD (St.aD (St.none_le _) (by simp[St.set, *])) (by simp[St.set, *])) (by simp[St.set, *])
        ·have hf:=hnb id n hnw (by assumption)
         exact .inr ⟨hf,rfl,St.b6 (St.b6 (St.b6 (St.b6 (St.b6 (St.le_refl _) hf0) hs0) hv0) hn0) (by simp only[aX];exact⟨i5,i6,i7,i8,rfl⟩)⟩
        ·refine .of (.less ?_ (St.le_refl _)) ⟨seen++[s],rfl,rfl,fun i' z' s' h1 h2 h3=>?_,LW hs hns⟩
         ·simp(maxSteps:=4000000) (disch:=first|exact ddL|fail) only[go_sem,simprocAttr,aC,aB]
          all_goals first|rfl|(simp;done)
         ·rw[List.mem_append,List.mem_singleton] at h3
          rcases h3 with h3|rfl
          ·exact hseen i' z' s' h1 h2 h3
          ·have e:i'=i:=La hst2 h2 hs
           subst e
           rw[hz] at h1
           cases h1
           exact⟨id,n,rfl,by omega⟩
end

section
set_option maxRecDepth 100000
set_option maxHeartbeats 8000000
theorem vN{f sm v:Nat}(hvs:v≠sm)(mk:UInt32)(floor now:Int)(log:MV){cs:List CA}(hc:GU cs):aA Tryz.prog 28 [.ptr v 0 0] ((St.none.set sm (.mp (vEs cs))).set v (vwO f mk sm floor now log)) (fun r σ'=>r=.lst 1 ((cs.map CA.id).map aP) false∧σ'=(St.none.set sm (.mp (vEs cs))).set v (vwO f mk sm floor now log)):=by
 refine aA.less (Q':=fun r σ'=>r=.lst 1 ((cs.map CA.id).map aP) false∧((St.none.set sm (.mp (vEs cs))).set v (vwO f mk sm floor now log)).le σ') (aA.body 11 [.tmp 2] Tryz.func28 rfl rfl rfl rfl ?_) fun r σ' h=>⟨_,h.2,h.1,rfl⟩
 have hsv:=Ne.symm hvs
 have hk:=Ex sm
 have hs:∀{b:Nat},b≠sm→aA Tryz.prog 96 [.fn (.func 182) [] [.ptr b 0 0]] ((St.none.set b (.row 131 1 [[.mapv sm]])).set sm (.mp (vEs cs))) fun r σ' =>
   r=.lst 1 ((cs.map CA.id).map aP) false∧σ'=(St.none.set b (.row 131 1 [[.mapv sm]])).set sm (.mp (vEs cs)):=fun {b} hb=>by
  refine(yH hb (Ao cs) (fun n hn=>?_) (by simp[vEs];exact hc.2.2)).mono fun r σ' h=>?_
  ·rw[yZ] at hn
   obtain⟨c,h1,rfl⟩:=List.mem_map.1 hn
   have:=hc.2.1 c h1
   exact DN (by omega)
  ·obtain⟨⟨ns,h1,h2,rfl⟩,rfl⟩:=h
   rw[yZ] at h1
   rw[sM hc.1 h1 h2]
   exact⟨rfl,rfl⟩
 repeat' (first|(refine qK hk ?_;(intro b hb;simp only[aX] at hb;obtain⟨b1,b2,-⟩:=hb;have b1':=Ne.symm b1;have b2':=Ne.symm b2))|((refine dB (hs (by assumption)) (le2 (by simp[St.set, *]) (by simp[St.set, *])) ?_))|(with_reducible first|(refine wN fun _ hnl=>?_;revert hnl;(repeat refine wS fun _ _=>?_);intro hnl)|refine wE ?_|(refine wK ?_ ?_<;>intro h)|(refine wB ?_ ?_<;>intro h<;>simp only[h]))|simp(maxSteps:=4000000) (disch:=first|exact ddL|fail) only[go_sem,simprocAttr,Tryz.f28])
 all_goals first|exact⟨rfl,le2 (by simp[St.set, *]) (by simp[St.set, *])⟩|exact le2 (by simp[St.set, *]) (by simp[St.set, *])
end

section
set_option maxRecDepth 100000
set_option maxHeartbeats 8000000
theorem I4{B:BK}(hb:BkR B)(h3:B.gr.length≤1000000)(h4:∀g,g∈B.gr→g.mem.length≤1000000){m l q b:Nat}(D:kE m l q b)(ex:List (List MV)){fl:List ND}(hfl:fl.length≤1000000)(tt:Bool){mk:UInt32}(floor:Int)(log:List TU)(hlog:log.length≤1000000)(hv:eA B fl mk floor log=true) :
  aA Tryz.prog 45 [.ptr b 0 0,.lst 5 (fl.map ND.c) tt,.int .u32 (mk.toNat:Int),.int .i64 floor,.lst 31 (log.map TU.c) false] (bkS m l q b B ex) (fun r σ'=>∃ρ:St,(∀j o,ρ j=some o→bkS m l q b B ex j=none)∧σ'=ρ.over (bkS m l q b B ex)∧∃f sm v d,GS f sm v∧r=.tup [.ptr v 0 0,.bool true]∧ρ=vwR fl d f sm v mk floor B.sq (.lst 31 (log.map TU.c) false) (shC B fl)) :=
 (sC hb h3 h4 D ex hfl tt floor log hlog).less fun r σ' h=>by
  rcases h with⟨-,f,sm,v,d,hd,rfl,hn,h1,h2⟩|⟨h,-⟩
  ·have hfr:∀j o,vwR fl d f sm v mk floor B.sq (.lst 31 (log.map TU.c) false) (shC B fl) j=some o→bkS m l q b B ex j=none:=fun j o hj=>hn j (by
    by_cases j1:j=v
    ·exact .inr (.inr j1)
    ·by_cases j2:j=sm
     ·exact .inr (.inl j2)
     ·by_cases j3:j=f
      ·exact .inl j3
      ·simp[St.set,St.none,j1,j2,j3] at hj)
   refine⟨(vwR fl d f sm v mk floor B.sq (.lst 31 (log.map TU.c) false) (shC B fl)).over (bkS m l q b B ex),fun j o hj=>?_,_,hfr,rfl,f,sm,v,d,hd,rfl,rfl⟩
   rcases fZ hj with hj|⟨_,hj⟩
   ·exact h2 j o hj
   ·exact h1 j o hj
  ·rw[hv] at h;cases h
theorem I3{B:BK}(hb:BkR B)(h3:B.gr.length≤1000000)(h4:∀g,g∈B.gr→g.mem.length≤1000000){m l q b:Nat}(D:kE m l q b)(ex:List (List MV)){fl:List ND}(hfl:fl.length≤1000000)(tt:Bool){mk:UInt32}(floor:Int)(log:List TU)(hlog:log.length≤1000000)(hv:eA B fl mk floor log=false) :
  aA Tryz.prog 45 [.ptr b 0 0,.lst 5 (fl.map ND.c) tt,.int .u32 (mk.toNat:Int),.int .i64 floor,.lst 31 (log.map TU.c) false] (bkS m l q b B ex) (fun r σ'=>r=.tup [.nilp,.bool false]∧σ'=bkS m l q b B ex) :=
 (sC hb h3 h4 D ex hfl tt floor log hlog).less fun r σ' h=>by
  rcases h with⟨h,-⟩|⟨-,rfl,h⟩
  ·rw[hv] at h;cases h
  ·exact⟨_,h,rfl,rfl⟩
theorem BS(B:BK)(fl:List ND):Es B fl=(shC B fl).map CA.id:=rfl
theorem Dl{B:BK}(hb:BkR B)(fl:List ND):GU (shC B fl):=by
 have h:=vU hb.cok hb.nx2 (by have:=hb.nc;omega)
 refine⟨h.1.filter _,fun c hc=>h.2.1 c (List.mem_filter.1 hc).1,Nat.le_trans (List.length_filter_le _ _) h.2.2⟩
end

section
set_option maxRecDepth 100000
set_option maxHeartbeats 8000000
structure QF (m l q b f pb pf:Nat):Prop where
 h1:f≠m∧f≠l∧f≠q∧f≠b
 h2:pb≠m∧pb≠l∧pb≠q∧pb≠b∧pb≠f
 h3:pf≠m∧pf≠l∧pf≠q∧pf≠b∧pf≠f∧pf≠pb
theorem GB{g1 g2:FuncId}{r1 r2:List Nat}{q1 q2:MV→Prop}{x2:List aW × (Nat→MV)}:PlU (.these [g2]) (fnF [(g1,⟨r1,q1,none⟩),(g2,⟨r2,q2,some x2⟩)]):=by
 intro g' ms rd q' x' h
 simp only[fnF] at h
 split at h
 ·cases h
 ·split at h
  ·rename_i e
   subst e
   exact .inr (List.mem_singleton.2 rfl)
  ·cases h
end

section
set_option maxRecDepth 100000
set_option maxHeartbeats 8000000
noncomputable abbrev bfS(m l q b:Nat)(B:BK)(f:Nat)(fl:List ND)(d:Bool):St:=(bkS m l q b B []).set f (flD fl d)
end
end Go.Proofs.YtppdgejjmhdjhaaGreatDoor
