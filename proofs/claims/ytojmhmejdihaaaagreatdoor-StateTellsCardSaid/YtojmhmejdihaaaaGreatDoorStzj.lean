/- Parts of the proof, joined; conditions: those that its theorems name. -/
import Derived.Test.YtojmhmejdihaaaaGreatDoorStzh
import Derived.Test.YtojmhmejdihaaaaGreatDoorStzi
set_option linter.unusedVariables false
set_option linter.unusedSimpArgs false
set_option maxHeartbeats 4000000
namespace Go.Proofs.YtojmhmejdihaaaaGreatDoor
section
set_option maxRecDepth 100000
set_option maxHeartbeats 8000000
theorem Jz{P:Program}{t kt et:TypeId}{l:Nat}{es:List (MV × MV)}{σ:St}{k:MV→St→Prop}(ht:(td P t).k=.map kt et)
 (hk:∀q st ck,σ q=none→st.length=es.length→st.Nodup→R (k (.ptr q 0 0) ((σ.set l (.mk es st ck)).set q (.it l ck [])))):R (rU P t (.mapv l) (some (.mp es)) σ k):=by
 unfold R rU
 rw[ht]
 exact fun q st ck h1 h2 h3 _=>hk q st ck h1 h2 h3
theorem Mk{q l ck:Nat}{seen st:List Nat}{es:List (MV × MV)}{σ:St}{k:MV→St→Prop}(hq:σ q=some (.it l ck seen))(hl:σ l=some (.mk es st ck))(h0:(∀s,s∈st→s∈seen)→R (k (.tup [.bool false]) σ))
 (h1:∀(i:Nat) (z:MV × MV) (s:Nat),es[i]?=some z→st[i]?=some s→s∉seen→R (k (.tup [.bool true,z.1,z.2]) (σ.set q (.it l ck (seen++[s]))))):R (zK (.ptr q 0 0) σ k):=⟨l,ck,seen,es,st,hq,hl,h0,h1⟩
theorem Jw{q l ck i s:Nat}{seen st:List Nat}{es:List (MV × MV)}{z:MV × MV}{σ:St}{k:MV→St→Prop}(hq:σ q=some (.it l ck (seen++[s])))(hl:σ l=some (.mk es st ck))(hz:es[i]?=some z)(hs:st[i]?=some s)(hk:R (k (.tup [z.1,z.2]) σ)):R (u7 (.ptr q 0 0) σ k) :=
 ⟨l,ck,seen,es,st,i,z,s,hq,hl,hz,hs,hk⟩
def GW(st seen:List Nat):Nat:=(st.filter fun s=>!decide (s∈seen)).length
theorem Mc{st seen:List Nat}{i s:Nat}(h:st[i]?=some s)(hn:s∉seen):GW st (seen++[s])<GW st seen:=by
 unfold GW
 have e:st.filter (fun x=>!decide (x∈seen++[s]))=(st.filter fun x=>!decide (x∈seen)).filter fun x=>!decide (x=s):=by
  rw[List.filter_filter]
  refine List.filter_congr fun x _=>?_
  by_cases h1:x∈seen
  ·simp[h1]
  ·simp[h1]
 rw[e,List.length_filter_lt_length_iff_exists]
 exact⟨s,List.mem_filter.2 ⟨List.mem_of_getElem? h,by simpa using hn⟩,by simp⟩
theorem pC:∀{l:List TU} {id n:Int},cQ l id=some n↔∃(i:Nat) (t:TU),l[i]?=some t∧t.id=id∧t.new=n∧cQ (l.drop (i+1)) id=none
 | [],id,n=>by simp[cQ]
 | t::l,id,n=>by
  have ih:=pC (l:=l) (id:=id) (n:=n)
  rw[cQ]
  cases hl:cQ l id with
  | some v =>
   simp only[Option.some.injEq]
   rw[hl,Option.some.injEq] at ih
   rw[ih]
   constructor
   ·rintro⟨i,x,h1,h2⟩
    exact⟨i+1,x,by simpa using h1,by simpa using h2⟩
   ·rintro⟨i,x,h1,h2,h3,h4⟩
    cases i with
    | zero =>
     simp only[Nat.zero_add,List.drop_succ_cons,List.drop_zero] at h4
     rw[hl] at h4;cases h4
    | succ i=>exact⟨i,x,by simpa using h1,h2,h3,by simpa using h4⟩
  | none =>
   simp only
   rw[hl] at ih
   have ih':¬∃(i:Nat) (t:TU),l[i]?=some t∧t.id=id∧t.new=n∧cQ (l.drop (i+1)) id=none:=fun h=>by cases ih.2 h
   by_cases he:t.id=id
   ·rw[if_pos he,Option.some.injEq]
    constructor
    ·intro hn
     exact⟨0,t,rfl,he,hn,by simpa using hl⟩
    ·rintro⟨i,x,h1,h2,h3,h4⟩
     cases i with
     | zero=>simp at h1;subst h1;exact h3
     | succ i=>exact absurd ⟨i,x,by simpa using h1,h2,h3,by simpa using h4⟩ ih'
   ·rw[if_neg he]
    constructor
    ·intro h;cases h
    ·rintro⟨i,x,h1,h2,h3,h4⟩
     cases i with
     | zero=>simp at h1;subst h1;exact absurd h2 he
     | succ i=>exact absurd ⟨i,x,by simpa using h1,h2,h3,by simpa using h4⟩ ih'
theorem rR(B:BK)(fl:List ND)(mk:UInt32)(log:List TU):zI B fl mk log=true↔(∀t,t∈log→cW t.card mk=t.card)∧∀id n,cQ log id=some n→nL B fl id=n:=by
 rw[Cf,List.all_eq_true]
 have hget:∀{i:Nat} {t:TU},log[i]?=some t→log.getD i tuZ=t:=fun h=>nV h
 constructor
 ·intro h
  refine⟨fun t ht=>?_,fun id n hn=>?_⟩
  ·obtain⟨i,hi⟩:=List.mem_iff_getElem?.1 ht
   have:=h i (List.mem_range.2 (List.getElem?_eq_some_iff.1 hi).1)
   unfold uW at this
   rw[hget hi,Bool.and_eq_true,decide_eq_true_eq] at this
   exact this.1
  ·obtain⟨i,t,h1,h2,h3,h4⟩:=pC.1 hn
   have:=h i (List.mem_range.2 (List.getElem?_eq_some_iff.1 h1).1)
   unfold uW at this
   rw[hget h1,Bool.and_eq_true,Bool.or_eq_true,decide_eq_true_eq,decide_eq_true_eq,decide_eq_true_eq,h2,h4,h3] at this
   exact this.2.resolve_left fun e=>e rfl
 ·rintro⟨h1,h2⟩ i hi
  have hi:=List.mem_range.1 hi
  obtain⟨t,ht⟩:=bC log hi
  unfold uW
  rw[hget ht,Bool.and_eq_true,Bool.or_eq_true,decide_eq_true_eq,decide_eq_true_eq,decide_eq_true_eq]
  refine⟨h1 t (bR ht),?_⟩
  by_cases hn:cQ (log.drop (i+1)) t.id=none
  ·exact .inr (h2 _ _ (pC.2 ⟨i,t,ht,rfl,rfl,hn⟩))
  ·exact .inl hn
theorem BT{cs:List CA}(h:cs.Pairwise (fun a b=>a.id<b.id))(p:CA→Bool)(id:Int):(cs.filter p).find? (fun c=>decide (c.id=id))=(match cs.find? (fun c=>decide (c.id=id)) with|none=>none|some c=>if p c=true then some c else none):=by
 induction cs with
 | nil=>rfl
 | cons d cs ih =>
  obtain⟨h1,h2⟩:=List.pairwise_cons.1 h
  have ih:=ih h2
  by_cases hd:d.id=id
  ·rw[List.find?_cons_of_pos (by simpa using hd)]
   simp only
   by_cases hp:p d=true
   ·rw[List.filter_cons_of_pos hp,List.find?_cons_of_pos (by simpa using hd),if_pos hp]
   ·rw[List.filter_cons_of_neg hp,if_neg hp]
    refine List.find?_eq_none.2 fun c hc=>?_
    have:=h1 c (List.mem_filter.1 hc).1
    simp;omega
  ·rw[List.find?_cons_of_neg (by simpa using hd)]
   by_cases hp:p d=true
   ·rw[List.filter_cons_of_pos hp,List.find?_cons_of_neg (by simpa using hd)];exact ih
   ·rw[List.filter_cons_of_neg hp];exact ih
theorem Kd{B:BK}(hb:BkR B)(fl:List ND)(id:Int):(cJ id (vEs (shC B fl))).getD (.int .i64 0)=.int .i64 (nL B fl id):=by
 rw[B3,shC,BT (iR hb.cok).2]
 unfold nL shown
 cases B.cards.find? (fun c=>decide (c.id=id)) with
 | none=>rfl
 | some c =>
  simp only
  split<;>rfl
theorem D9(a:Addr)(c:Nat)(w:World):Calls Tryz.prog 149 #[.slice (some a) 0 c] w fun e w'=>e=.returned (.slice (some ⟨w.heap.size,0,none⟩) 0 0)∧w'=w.alloc (.cells #[] 212):=by
 have q22:∀(w:World) (a:Option Addr) (n c n' c':Nat),(binOp .eql 117 (.slice a n c) (.slice none n' c')).run Tryz.prog w=.ok (.bool a.isNone) w:=fun w a n c n' c'=>Lib.run_eql_slice_nil w _ _ a n c n' c' Tryz.underlying117
 have u22:∀w,Sem.run Tryz.prog (underlying 117) w=.ok (TypeDesc.slice 212) w:=run_underlying Tryz.underlying117
 go_enter Tryz.func149,Tryz.ntmps149
 go_wp2
 go_ret
 exact⟨rfl,rfl⟩
theorem BG:aA Tryz.prog 149 [.aT] St.none (fun r _=>r=.aT):=by
 refine(aA.body 8 [.tmp 2] Tryz.func149 rfl rfl rfl rfl ?_)
 repeat' (first|(with_reducible first|(refine wN fun _ hnl=>?_;revert hnl;(repeat refine wS fun _ _=>?_);intro hnl)|refine wE ?_|(refine wK ?_ ?_<;>intro h)|(refine wB ?_ ?_<;>intro h<;>simp only[h]))|simp(maxSteps:=4000000) (disch:=first|exact ddL|fail) only[go_sem,simprocAttr,Tryz.f149])
theorem Aj(e:Nat)(t:Bool):aA Tryz.prog 149 [.lst e [] t] St.none (fun r _=>r=.lst e [] false):=mG BG D9
theorem BF(l:List TU)(hl:l.length≤1000000)(t:Bool):aA Tryz.prog 149 [.lst 31 (l.map TU.c) t] St.none (fun r _=>r=.lst 31 (l.map TU.c) false):=by
 cases l with
 | nil=>exact Aj 31 t
 | cons x m =>
  refine aA.seen (aA.body 8 [.tmp 2] Tryz.func149 rfl rfl rfl rfl ?_)
  simp only[List.length_cons] at hl
  repeat' (first|(with_reducible first|(refine wN fun _ hnl=>?_;revert hnl;(repeat refine wS fun _ _=>?_);intro hnl)|refine wE ?_|(refine wK ?_ ?_<;>intro h)|(refine wB ?_ ?_<;>intro h<;>simp only[h]))|simp(maxSteps:=4000000) (disch:=first|exact ddL|fail) only[go_sem,simprocAttr,Tryz.f149])
  exact .vecAll (aM _ _ _) (by simp only[List.length_map,List.length_cons])
end

section
set_option maxRecDepth 100000
set_option maxHeartbeats 8000000
theorem Li{l:List Nat}(h:l.Nodup){i j x:Nat}(hi:l[i]?=some x)(hj:l[j]?=some x):i=j:=by
 obtain⟨h1,h2⟩:=List.getElem?_eq_some_iff.1 hi
 obtain⟨h3,h4⟩:=List.getElem?_eq_some_iff.1 hj
 rcases Nat.lt_trichotomy i j with q|q|q
 ·exact absurd (h2.trans h4.symm) (List.pairwise_iff_getElem.1 h i j h1 h3 q)
 ·exact q
 ·exact absurd (h4.trans h2.symm) (List.pairwise_iff_getElem.1 h j i h3 h1 q)
theorem B1{n:Int}{v:MV}:∀{es:List (MV × MV)},(es.all fun p=>isK .i64 p.1)=true→cJ n es=some v→∃i,i<es.length∧es[i]?=some (.int .i64 n,v)
 | [],_,h=>by simp[cJ] at h
 | (x,u)::es,hk,h=>by
  simp only[List.all_cons,Bool.and_eq_true] at hk
  obtain⟨m,rfl⟩:=jH hk.1
  by_cases hm:m=n
  ·subst hm
   simp[cJ] at h
   subst h
   exact⟨0,by simp,rfl⟩
  ·rw[cJ,if_neg hm] at h
   obtain⟨i,h1,h2⟩:=B1 hk.2 h
   exact⟨i+1,by simpa using h1,by simpa using h2⟩
theorem Jy{q l ck:Nat}{seen st:List Nat}{es:List (MV × MV)}{σ:St}{k:MV→St→Prop}{p:Int→Int→Prop}(hq:σ q=some (.it l ck seen))(hl:σ l=some (.mk es st ck))(hent:∀{i:Nat} {z:MV × MV},es[i]?=some z→∃id n,z=(.int .i64 id,.int .i64 n)∧p id n)
 (h0:(∀s,s∈st→s∈seen)→R (k (.tup [.bool false]) σ))(h1:∀(i:Nat) (id n:Int) (s:Nat),es[i]?=some (.int .i64 id,.int .i64 n)→p id n→st[i]?=some s→s∉seen→R (k (.tup [.bool true,.int .i64 id,.int .i64 n]) (σ.set q (.it l ck (seen++[s]))))):R (zK (.ptr q 0 0) σ k) :=
 Mk hq hl h0 fun i z s hz hs hn=>by
  obtain⟨id,n,rfl,hp⟩:=hent hz
  exact h1 i id n s hz hp hs hn
theorem I2{B:BK}(b:Nat){fl:List ND}(hl:fl.length≤1000000)(tt:Bool){mk:UInt32}(h:¬(bM fl=0∧mk.toNat≤511)) :
  aA Tryz.prog 52 [.ptr b 0 0,.lst 5 (fl.map ND.c) tt,.int .u32 (mk.toNat:Int)] St.none (fun r _=>r=.nilp):=by
 refine aA.bF (aA.body 60 [.tmp 6] Tryz.func52 rfl rfl rfl rfl ?_)
 have hmc:=lX mk
 by_cases hp:bM fl=0
 ·have hpn:=pD fl hl tt hp
  rw[decide_eq_false fun hm=>h ⟨hp,hm⟩] at hmc
  repeat' (first|(refine kP hpn ?_;intro f hf)|(with_reducible first|refine up hmc ?_)|(with_reducible first|(refine wN fun _ hnl=>?_;revert hnl;(repeat refine wS fun _ _=>?_);intro hnl)|refine wE ?_|(refine wK ?_ ?_<;>intro h)|(refine wB ?_ ?_<;>intro h<;>simp only[h]))|simp(maxSteps:=4000000) (disch:=first|exact ddL|fail) only[go_sem,simprocAttr,Tryz.f52])
  all_goals first|exact⟨_,St.le_refl _,rfl⟩|exact⟨_,St.le_refl _⟩
 ·have hpn:=IU fl hl tt hp
  repeat' (first|(with_reducible first|refine up hpn ?_)|(with_reducible first|(refine wN fun _ hnl=>?_;revert hnl;(repeat refine wS fun _ _=>?_);intro hnl)|refine wE ?_|(refine wK ?_ ?_<;>intro h)|(refine wB ?_ ?_<;>intro h<;>simp only[h]))|simp(maxSteps:=4000000) (disch:=first|exact ddL|fail) only[go_sem,simprocAttr,Tryz.f52])
  all_goals first|exact⟨_,St.le_refl _,rfl⟩|exact⟨_,St.le_refl _⟩
theorem lG{P:Program}{g:FuncId}{ms:List MV}{σ τ:St}{fl:List ND}{mk:UInt32}{floor now:Int}{log:MV}{cs:List CA}{u:Nat→MV}{k:MV→St→Prop}
 (h:aA P g ms τ fun r σ'=>∃ρ:St,(∀j o,ρ j=some o→τ j=none)∧σ'=ρ.over τ∧∃f sm v d,G0 f sm v∧r=u v∧ρ=vwR fl d f sm v mk floor now log cs)(hle:τ.le σ)
 (hk:∀f sm v d,σ f=none→σ sm=none→σ v=none→sm≠f→v≠f→v≠sm→R (cD (u v) (((σ.set f (flD fl d)).set sm (.mp (vEs cs))).set v (vwO f mk sm floor now log)) k)):R (dN P g ms σ k) :=
 Jx h hle fun r ρ hfr hq=>by
  obtain⟨f,sm,v,d,⟨h1,h2,h3⟩,rfl,rfl⟩:=hq
  have ff:=hfr f (flD fl d) (by simp[St.set,Ne.symm h1,Ne.symm h2])
  have fs:=hfr sm (.mp (vEs cs)) (by simp[St.set,Ne.symm h3])
  have fv:=hfr v _ (aM _ _ _)
  rw[cN,cN,cN,iE]
  exact hk f sm v d ff fs fv h1 h2 h3
def Py(B:BK)(fl:List ND)(mk:UInt32)(floor:Int)(log:List TU)(τ:St)(r:MV)(σ':St):Prop :=
 (dI B fl mk floor log=true∧∃f sm v d,G0 f sm v∧r=.tup [.ptr v 0 0,.bool true]∧(∀j,(j=f∨j=sm∨j=v)→τ j=none)∧τ.le σ'∧(vwR fl d f sm v mk floor B.sq (.lst 31 (log.map TU.c) false) (shC B fl)).le σ') ∨
  (dI B fl mk floor log=false∧r=.tup [.nilp,.bool false]∧τ.le σ')
theorem sS{B:BK}(hb:BkR B)(h3:B.gr.length≤1000000)(h4:∀g,g∈B.gr→g.mem.length≤1000000){m l q b:Nat}(D:pU m l q b)(ex:List (List MV)){fl:List ND}(hfl:fl.length≤1000000)(tt:Bool){mk:UInt32}(floor:Int)(log:List TU)(hlog:log.length≤1000000) :
  aA Tryz.prog 77 [.ptr b 0 0,.lst 5 (fl.map ND.c) tt,.int .u32 (mk.toNat:Int),.int .i64 floor,.lst 31 (log.map TU.c) false] (bkS m l q b B ex) (fun r σ'=>Py B fl mk floor log (bkS m l q b B ex) r σ'):=by
 refine(aA.body 117 [.tmp 10,.tmp 11] Tryz.func77 rfl rfl rfl rfl ?_)
 obtain⟨res,hres⟩:∃z,dI B fl mk floor log=z:=⟨_,rfl⟩
 have hres0:=hres
 unfold dI at hres
 by_cases hpm:bM fl=0∧mk.toNat≤511
 rotate_left
 ·have hf:dI B fl mk floor log=false:=by
   unfold dI
   by_cases h1:bM fl=0
   ·rw[decide_eq_false fun h=>hpm ⟨h1,h⟩];simp
   ·rw[decide_eq_false h1];simp
  have hvn:=I2 (B:=B) b hfl tt hpm
  repeat' (first|(with_reducible first|refine up hvn ?_)|(with_reducible first|(refine wT ?_;(first|((fail_if_success (have:=nl1));refine wN fun nl1 hnl=>?_)|refine wN fun _ hnl=>?_);revert hnl;(repeat refine wS fun _ _=>?_);intro hnl)|refine wE ?_|(refine wK ?_ ?_<;>intro h)|(refine wB ?_ ?_<;>intro h<;>simp only[h]))|simp(maxSteps:=4000000) (disch:=first|exact ddL|fail) only[go_sem,simprocAttr,Tryz.f77])
  all_goals exact .inr ⟨hf,rfl,St.le_refl _⟩
 ·obtain⟨hp,hm⟩:=hpm
  rw[decide_eq_true hp,decide_eq_true hm,Bool.true_and,Bool.true_and] at hres
  have hvn:=Ft hb h3 h4 D ex hp tt hm
  have hct:=IZ log hlog false
  have hcl:=BF log hlog false
  obtain⟨d1,d2,d3,d4,d5,d6⟩:=D
  have e1:=Ne.symm d1
  have e2:=Ne.symm d2
  have e3:=Ne.symm d3
  have e4:=Ne.symm d4
  have e5:=Ne.symm d5
  have e6:=Ne.symm d6
  obtain⟨to,hto⟩:∃z,eY [] log=z:=⟨_,rfl⟩
  rw[hto] at hct hres
  by_cases h0:(0≤floor∧floor≤B.sq∧log.length≤40)∧to=true
  rotate_left
  ·have hf:dI B fl mk floor log=false:=by
    rw[hres0,←hres]
    by_cases h1:0≤floor∧floor≤B.sq∧log.length≤40
    ·cases to
     ·simp
     ·exact absurd ⟨h1,rfl⟩ h0
    ·rw[decide_eq_false h1];simp
   clear hres hres0
   cases to
   all_goals
    repeat' (first|((refine lG hvn (St.le_refl _) ?_;intro f sm v d hf0 hs0 hv0 sf vf vs;(have hle:=St.bQ (o:=flD fl d) (St.le_refl (bkS m l q b B ex)) hf0;have hle:=St.bQ (o:=.mp (vEs (shC B fl))) hle hs0;have hle:=St.bQ (o:=vwO f mk sm B.sq B.sq .aT) hle hv0)))|(with_reducible first|refine up hct ?_)|(with_reducible first|(refine wT ?_;(first|((fail_if_success (have:=nl1));refine wN fun nl1 hnl=>?_)|refine wN fun _ hnl=>?_);revert hnl;(repeat refine wS fun _ _=>?_);intro hnl)|refine wE ?_|(refine wK ?_ ?_<;>intro h)|(refine wB ?_ ?_<;>intro h<;>simp only[h]))|simp(maxSteps:=4000000) (disch:=first|exact ddL|fail) only[go_sem,simprocAttr,Tryz.f77])
    all_goals first|exact .inr ⟨hf,rfl,hle⟩|(exfalso;simp at h0;omega)
  ·obtain⟨⟨g1,g2,g3⟩,rfl⟩:=h0
   rw[decide_eq_true ⟨g1,g2,g3⟩,Bool.true_and,Bool.true_and] at hres
   have hto1:((log.length:Int) - 1).toNat=log.length - 1:=by omega
   have hx0:∃x0 xn:TU,0<log.length→(log.map TU.c).getD 0 []=x0.c∧(log.map TU.c).getD (log.length - 1) []=xn.c∧log.getD 0 tuZ=x0∧log.getD (log.length - 1) tuZ=xn:=by
    rcases Nat.eq_zero_or_pos log.length with h|h
    ·exact⟨tuZ,tuZ,fun h'=>by omega⟩
    ·obtain⟨x,hx⟩:=bC log h
     obtain⟨y,hy⟩:=bC log (show log.length - 1<log.length by omega)
     exact⟨x,y,fun _=>⟨aV hx,aV hy,nV hx,nV hy⟩⟩
   obtain⟨x0,xn,hx⟩:=hx0
   have hxa:0<log.length→(log.map TU.c).getD 0 []=x0.c:=fun h=>(hx h).1
   have hxb:0<log.length→(log.map TU.c).getD (log.length - 1) []=xn.c:=fun h=>(hx h).2.1
   have hcond:(log≠[]→floor<(log.getD 0 tuZ).sq∧(log.getD (log.length - 1) tuZ).sq≤B.sq)↔(0<log.length→floor<x0.sq∧xn.sq≤B.sq):=by
    constructor
    ·intro h h'
     have:=h (List.length_pos_iff.1 h')
     rwa [(hx h').2.2.1,(hx h').2.2.2] at this
    ·intro h h'
     have h':=List.length_pos_iff.2 h'
     rw[(hx h').2.2.1,(hx h').2.2.2]
     exact h h'
   by_cases hc0:0<log.length→floor<x0.sq∧xn.sq≤B.sq
   rotate_left
   ·have hf:dI B fl mk floor log=false:=by
     rw[hres0,←hres,decide_eq_false fun h=>hc0 (hcond.1 h),Bool.false_and]
    obtain⟨hc1,hc2⟩:=Classical.not_imp.1 hc0
    clear hres hres0 hcond hx hc0
    repeat' (first|((refine lG hvn (St.le_refl _) ?_;intro f sm v d hf0 hs0 hv0 sf vf vs;(have hle:=St.bQ (o:=flD fl d) (St.le_refl (bkS m l q b B ex)) hf0;have hle:=St.bQ (o:=.mp (vEs (shC B fl))) hle hs0;have hle:=St.bQ (o:=vwO f mk sm B.sq B.sq .aT) hle hv0;have hf1:=hf0;have hs1:=hs0;have hv1:=hv0;simp only[aY] at hf1 hs1 hv1;obtain⟨f1,f2,f3,f4,-⟩:=hf1;obtain⟨s1,s2,s3,s4,-⟩:=hs1;obtain⟨v1,v2,v3,v4,-⟩:=hv1;have fs:=Ne.symm sf;have fv:=Ne.symm vf;have sv:=Ne.symm vs)))|(with_reducible first|refine up hct ?_)|(with_reducible first|(refine wT ?_;(first|((fail_if_success (have:=nl1));refine wN fun nl1 hnl=>?_)|refine wN fun _ hnl=>?_);revert hnl;(repeat refine wS fun _ _=>?_);intro hnl)|refine wE ?_|(refine wK ?_ ?_<;>intro h)|(refine wB ?_ ?_<;>intro h<;>simp only[h]))|simp(maxSteps:=4000000) (disch:=first|exact ddL|fail) only[go_sem,simprocAttr,Tryz.f77,hxa,hxb,hto1])
    all_goals first|exact .inr ⟨hf,rfl,hle⟩|(exfalso;omega)
   ·rw[decide_eq_true (hcond.2 hc0),Bool.true_and] at hres
    clear hcond hx
    have hbad:zI B fl mk log=false→dI B fl mk floor log=false:=fun h=>by rw[hres0,←hres,h]
    have hgood:zI B fl mk log=true→dI B fl mk floor log=true:=fun h=>by rw[hres0,←hres,h]
    clear hres hres0
    have hw:log.length=0∨(0<log.length∧floor<x0.sq∧xn.sq≤B.sq):=by
     rcases Nat.eq_zero_or_pos log.length with h|h
     ·exact .inl h
     ·exact .inr ⟨h,hc0 h⟩
    rcases hw with hz|⟨hz,hc1,hc2⟩
    case' inl =>
     clear hc0 hxa hxb
     repeat' (first|((refine lG hvn (St.le_refl _) ?_;intro f sm v d hf0 hs0 hv0 sf vf vs;(have hle:=St.bQ (o:=flD fl d) (St.le_refl (bkS m l q b B ex)) hf0;have hle:=St.bQ (o:=.mp (vEs (shC B fl))) hle hs0;have hle:=St.bQ (o:=vwO f mk sm B.sq B.sq .aT) hle hv0;have hf1:=hf0;have hs1:=hs0;have hv1:=hv0;simp only[aY] at hf1 hs1 hv1;obtain⟨f1,f2,f3,f4,-⟩:=hf1;obtain⟨s1,s2,s3,s4,-⟩:=hs1;obtain⟨v1,v2,v3,v4,-⟩:=hv1;have fs:=Ne.symm sf;have fv:=Ne.symm vf;have sv:=Ne.symm vs)))|(with_reducible first|refine up hct ?_)|(with_reducible first|(refine wT ?_;(first|((fail_if_success (have:=nl1));refine wN fun nl1 hnl=>?_)|refine wN fun _ hnl=>?_);revert hnl;(repeat refine wS fun _ _=>?_);intro hnl)|refine wE ?_|(refine wK ?_ ?_<;>intro h)|(refine wB ?_ ?_<;>intro h<;>simp only[h]))|simp(maxSteps:=4000000) (disch:=first|exact ddL|fail) only[go_sem,simprocAttr,Tryz.f77,hto1])
    case' inr =>
     have hxa:=hxa hz
     have hxb:=hxb hz
     clear hc0
     repeat' (first|((refine lG hvn (St.le_refl _) ?_;intro f sm v d hf0 hs0 hv0 sf vf vs;(have hle:=St.bQ (o:=flD fl d) (St.le_refl (bkS m l q b B ex)) hf0;have hle:=St.bQ (o:=.mp (vEs (shC B fl))) hle hs0;have hle:=St.bQ (o:=vwO f mk sm B.sq B.sq .aT) hle hv0;have hf1:=hf0;have hs1:=hs0;have hv1:=hv0;simp only[aY] at hf1 hs1 hv1;obtain⟨f1,f2,f3,f4,-⟩:=hf1;obtain⟨s1,s2,s3,s4,-⟩:=hs1;obtain⟨v1,v2,v3,v4,-⟩:=hv1;have fs:=Ne.symm sf;have fv:=Ne.symm vf;have sv:=Ne.symm vs)))|(with_reducible first|refine up hct ?_)|(with_reducible first|(refine wT ?_;(first|((fail_if_success (have:=nl1));refine wN fun nl1 hnl=>?_)|refine wN fun _ hnl=>?_);revert hnl;(repeat refine wS fun _ _=>?_);intro hnl)|refine wE ?_|(refine wK ?_ ?_<;>intro h)|(refine wB ?_ ?_<;>intro h<;>simp only[h]))|simp(maxSteps:=4000000) (disch:=first|exact ddL|fail) only[go_sem,simprocAttr,Tryz.f77,hxa,hxb,hto1])
     clear hxa hxb
    all_goals (try (exfalso;omega))
    all_goals
     have n1:nl1≠b:=by assumption
     have n2:nl1≠q:=by assumption
     have n3:nl1≠l:=by assumption
     have n4:nl1≠m:=by assumption
     have n5:nl1≠f:=by assumption
     have n6:nl1≠sm:=by assumption
     have n7:nl1≠v:=by assumption
     have hn0:bkS m l q b B ex nl1=none:=by simp only[aY];exact⟨n1,n2,n3,n4,rfl⟩
    all_goals
     refine aD (α:=Nat × List (MV × MV)) (fun z=>⟨117,[(75,.int .i64 (z.1:Int)),(74,.int .i64 (log.length:Int)),(73,.lst 31 (log.map TU.c) false),(14,.mapv nl1),(12,.ptr v 0 0),(4,.lst 31 (log.map TU.c) false),(3,.int .i64 floor),(2,.int .u32 (mk.toNat:Int))],[]⟩)
      (fun z=>((((bkS m l q b B ex).set f (flD fl d)).set sm (.mp (vEs (shC B fl)))).set v (vwO f mk sm B.sq B.sq .aT)).set nl1 (.mp z.2)) (fun z=>z.1≤log.length∧JF (log.take z.1) z.2∧∀t,t∈log.take z.1→cW t.card mk=t.card) (fun z=>log.length - z.1) (.of (.less ?_ (St.le_refl _)) ⟨(0,[]),rfl,rfl,Nat.zero_le _,CR,by simp⟩) ?_
     ·simp(maxSteps:=4000000) (disch:=first|exact ddL|fail) only[go_sem,simprocAttr,aC,aB]
      all_goals first|rfl|(simp;done)
     ·rintro⟨i,es⟩ ⟨hi,hM,hpr⟩
      simp only at hi hM hpr ⊢
      by_cases hlt:i<log.length
      ·obtain⟨x,hx⟩:=bC log hlt
       have hat:=aV (f:=TU.c) hx
       have hpj:=vR x.card mk
       have hN:=zO hM x
       rw[←aO hx] at hN
       have hall:=hM.k
       have hnb:cW x.card mk≠x.card→dI B fl mk floor log=false:=fun h=>hbad (by
        rw[←Bool.not_eq_true,rR]
        exact fun h'=>h (h'.1 x (bR hx)))
       obtain⟨C,c1⟩:∃C:bP,∀ms,C 108 ms=some ⟨[],fun v=>v=.agg (cW x.card mk).c,none⟩:=⟨lO 108 (.agg (cW x.card mk).c),fun _=>cM⟩
       have hne:=u4 (cW x.card mk) x.card
       by_cases hpe:cW x.card mk=x.card
       ·have hpr':∀t,t∈log.take (i+1)→cW t.card mk=t.card:=fun t ht=>by
         rw[aO hx,List.mem_append,List.mem_singleton] at ht
         rcases ht with ht|rfl
         ·exact hpr t ht
         ·exact hpe
        rw[decide_eq_true hpe,Bool.not_true] at hne
        obtain⟨pc,hpc⟩:∃pc,cW x.card mk=pc:=⟨_,rfl⟩
        rw[hpc] at hne hpj c1
        repeat' (first|((with_reducible refine aJ mixed ?chk C ?_);(case chk=>decide +kernel))|(with_reducible refine aF (c1 _) hpj ?_)|(with_reducible first|(refine wT ?_;(first|((fail_if_success (have:=nl1));refine wN fun nl1 hnl=>?_)|refine wN fun _ hnl=>?_);revert hnl;(repeat refine wS fun _ _=>?_);intro hnl)|refine wE ?_|(refine wK ?_ ?_<;>intro h)|(refine wB ?_ ?_<;>intro h<;>simp only[h]))|simp(maxSteps:=4000000) (disch:=first|exact ddL|fail) only[go_sem,simprocAttr,FXs,hat,hall,hne])
        all_goals (try (exfalso;omega))
        all_goals
         refine .of (.less ?_ (σ1:=((((bkS m l q b B ex).set f (flD fl d)).set sm (.mp (vEs (shC B fl)))).set v (vwO f mk sm B.sq B.sq .aT)).set nl1 (.mp (dJ .i64 x.id (.int .i64 x.new) es))) ?_) ⟨(i+1,dJ .i64 x.id (.int .i64 x.new) es),rfl,rfl,⟨by simp only;omega,hN,hpr'⟩,by simp only;omega⟩
         ·simp(maxSteps:=4000000) (disch:=first|exact ddL|fail) only[go_sem,simprocAttr,aC,aB]
          all_goals first|rfl|(simp;done)
         ·clear hM hpr hN hpr' hall hat hpj hne c1 hbad hgood hct hcl hnb hle
          refine mQ ?_
          simp only[aY]
          exact⟨by assumption,by assumption,by assumption,by assumption,by assumption,by assumption,by assumption,by assumption,rfl⟩
       ·rw[decide_eq_false hpe,Bool.not_false] at hne
        have hf:=hnb hpe
        obtain⟨pc,hpc⟩:∃pc,cW x.card mk=pc:=⟨_,rfl⟩
        rw[hpc] at hne hpj c1
        repeat' (first|((with_reducible refine aJ mixed ?chk C ?_);(case chk=>decide +kernel))|(with_reducible refine aF (c1 _) hpj ?_)|(with_reducible first|(refine wT ?_;(first|((fail_if_success (have:=nl1));refine wN fun nl1 hnl=>?_)|refine wN fun _ hnl=>?_);revert hnl;(repeat refine wS fun _ _=>?_);intro hnl)|refine wE ?_|(refine wK ?_ ?_<;>intro h)|(refine wB ?_ ?_<;>intro h<;>simp only[h]))|simp(maxSteps:=4000000) (disch:=first|exact ddL|fail) only[go_sem,simprocAttr,FXs,hat,hne])
        all_goals first|exact .inr ⟨hf,rfl,St.bQ (St.bQ hle hn0) (by simp only[aY];exact⟨by assumption,by assumption,by assumption,by assumption,rfl⟩)⟩|(exfalso;omega)
      ·have:i=log.length:=by omega
       subst this
       rw[List.take_length] at hM hpr
       repeat' (first|((refine Jz (by rw[Ol]) ?_;intro it st ck hit0 hst1 hst2;have hit1:=hit0;simp only[aY] at hit1;obtain⟨i1,i2,i3,i4,i5,i6,i7,i8,-⟩:=hit1;have i1':=Ne.symm i1;have i2':=Ne.symm i2;have i3':=Ne.symm i3;have i4':=Ne.symm i4))|(with_reducible first|(refine wT ?_;(first|((fail_if_success (have:=nl1));refine wN fun nl1 hnl=>?_)|refine wN fun _ hnl=>?_);revert hnl;(repeat refine wS fun _ _=>?_);intro hnl)|refine wE ?_|(refine wK ?_ ?_<;>intro h)|(refine wB ?_ ?_<;>intro h<;>simp only[h]))|simp(maxSteps:=4000000) (disch:=first|exact ddL|fail) only[go_sem,simprocAttr])
       refine aD (α:=List Nat) (fun seen=>⟨117,[(93,.ptr it 0 0),(12,.ptr v 0 0),(4,.lst 31 (log.map TU.c) false),(3,.int .i64 floor)],[]⟩)
        (fun seen=>(((((bkS m l q b B ex).set f (flD fl d)).set sm (.mp (vEs (shC B fl)))).set v (vwO f mk sm B.sq B.sq .aT)).set nl1 (.mk es st ck)).set it (.it nl1 ck seen)) (fun seen=>∀(i:Nat) (z:MV × MV) (s:Nat),es[i]?=some z→st[i]?=some s→s∈seen→∃id n,z=(.int .i64 id,.int .i64 n)∧nL B fl id=n) (fun seen=>GW st seen) (.of (.less ?_ ?_) ⟨[],rfl,rfl,by simp⟩) ?_
       ·simp(maxSteps:=4000000) (disch:=first|exact ddL|fail) only[go_sem,simprocAttr,aC,aB]
        all_goals first|rfl|(simp;done)
       ·exact St.le_refl _
       ·intro seen hseen
        have hent:∀{i:Nat} {z:MV × MV},es[i]?=some z→∃id n,z=(.int .i64 id,.int .i64 n)∧cQ log id=some n:=fun {i z} hz=>by
         obtain⟨id,h1,h2⟩:=MW hM.k hM.o hz
         rw[hM.g id] at h2
         cases hnw:cQ log id with
         | none=>rw[hnw] at h2;cases h2
         | some n =>
          rw[hnw] at h2
          have h2:=Option.some.inj h2
          exact⟨id,n,Prod.ext h1 h2.symm,hnw⟩
        have hlk:=Kd hb fl
        have hkV:=AB (shC B fl)
        obtain⟨V,hV⟩:∃V,vEs (shC B fl)=V:=⟨_,rfl⟩
        rw[hV] at hlk hkV ⊢
        have hnb:∀id n,cQ log id=some n→nL B fl id≠n→dI B fl mk floor log=false:=fun id n h1 h2=>hbad (by
         rw[←Bool.not_eq_true,rR]
         exact fun h'=>h2 (h'.2 id n h1))
        repeat' (first|(refine Jy (aM _ _ _) ((aH _ _ _ _ i1').trans (aM _ _ _)) hent (fun hsee=>?_) (fun i id n s hz hnw hs hns=>?_))|(refine Jw (aM _ _ _) ((aH _ _ _ _ i1').trans (aM _ _ _)) hz hs ?_)|(with_reducible first|refine up hcl ?_)|(with_reducible first|(refine wT ?_;(first|((fail_if_success (have:=nl1));refine wN fun nl1 hnl=>?_)|refine wN fun _ hnl=>?_);revert hnl;(repeat refine wS fun _ _=>?_);intro hnl)|refine wE ?_|(refine wK ?_ ?_<;>intro h)|(refine wB ?_ ?_<;>intro h<;>simp only[h]))|simp(maxSteps:=4000000) (disch:=first|exact ddL|fail) only[go_sem,simprocAttr,FXs,List.headD_cons,hlk,hkV])
        ·refine .inl ⟨hgood ((rR B fl mk log).2 ⟨hpr,fun id n hnw=>?_⟩),f,sm,v,d,⟨sf,vf,vs⟩,rfl,fun j hj=>?_,?_,?_⟩
         ·have hg:=hM.g id
          rw[hnw] at hg
          obtain⟨i,hi,hz⟩:=B1 hM.k hg
          obtain⟨s,hs⟩:=bC st (by rw[hst1];exact hi)
          obtain⟨id',n',e1,e2⟩:=hseen i _ s hz hs (hsee s (bR hs))
          cases e1
          exact e2
         ·rcases hj with rfl|rfl|rfl<;>assumption
         ·clear hseen hent hlk hnb hbad hgood
          exact St.bQ (St.bQ (St.bQ (St.bQ (St.bQ (St.le_refl _) hf0) hs0) hv0) hn0) (by simp only[aY];exact⟨i5,i6,i7,i8,rfl⟩)
         ·clear hseen hent hlk hnb hbad hgood
          subst hV
          exact St.aL (St.aL (St.aL (St.none_le _) (by simp[St.set, *])) (by simp[St.set, *])) (by simp[St.set, *])
        ·have hf:=hnb id n hnw (by assumption)
         exact .inr ⟨hf,rfl,St.bQ (St.bQ (St.bQ (St.bQ (St.bQ (St.le_refl _) hf0) hs0) hv0) hn0) (by simp only[aY];exact⟨i5,i6,i7,i8,rfl⟩)⟩
        ·refine .of (.less ?_ (St.le_refl _)) ⟨seen++[s],rfl,rfl,fun i' z' s' h1 h2 h3=>?_,Mc hs hns⟩
         ·simp(maxSteps:=4000000) (disch:=first|exact ddL|fail) only[go_sem,simprocAttr,aC,aB]
          all_goals first|rfl|(simp;done)
         ·rw[List.mem_append,List.mem_singleton] at h3
          rcases h3 with h3|rfl
          ·exact hseen i' z' s' h1 h2 h3
          ·have e:i'=i:=Li hst2 h2 hs
           subst e
           rw[hz] at h1
           cases h1
           exact⟨id,n,rfl,by omega⟩
end

section
set_option maxRecDepth 100000
set_option maxHeartbeats 8000000
theorem rV(a b:List Int)(hl:a.length≤1000000)(ta tb:Bool):aA Tryz.prog 165 [.lst 1 (a.map aR) ta,.lst 1 (b.map aR) tb] St.none (fun r _=>r=.bool (decide (a=b))):=by
 refine aA.bF (aA.body 26 [.tmp 4] Tryz.func165 rfl rfl rfl rfl ?_)
 by_cases hlen:a.length=b.length
 rotate_left
 ·rw[decide_eq_false fun e=>hlen (by rw[e])]
  repeat' (first|(with_reducible first|(refine wN fun _ hnl=>?_;revert hnl;(repeat refine wS fun _ _=>?_);intro hnl)|refine wE ?_|(refine wK ?_ ?_<;>intro h)|(refine wB ?_ ?_<;>intro h<;>simp only[h]))|simp(maxSteps:=4000000) (disch:=first|exact ddL|fail) only[go_sem,simprocAttr,Tryz.f165])
  all_goals first|exact⟨_,St.le_refl _,rfl⟩|exact⟨_,St.le_refl _⟩|(exfalso;omega)
 ·repeat' (first|(with_reducible first|(refine wN fun _ hnl=>?_;revert hnl;(repeat refine wS fun _ _=>?_);intro hnl)|refine wE ?_|(refine wK ?_ ?_<;>intro h)|(refine wB ?_ ?_<;>intro h<;>simp only[h]))|simp(maxSteps:=4000000) (disch:=first|exact ddL|fail) only[go_sem,simprocAttr,Tryz.f165])
  all_goals (try (exfalso;omega))
  refine aD (α:=Nat) (fun i=>⟨26,[(13,.int .i64 (i:Int)),(12,.int .i64 (a.length:Int)),(0,.lst 1 (a.map aR) ta),(1,.lst 1 (b.map aR) tb)],[]⟩) (fun _=>St.none) (fun i=>i≤a.length∧a.take i=b.take i) (fun i=>a.length - i) (.of (.less ?_ (St.le_refl _)) ⟨0,rfl,rfl,Nat.zero_le _,rfl⟩) ?_
  ·simp(maxSteps:=4000000) (disch:=first|exact ddL|fail) only[go_sem,simprocAttr,aC,aB]
   all_goals rfl
  ·rintro i ⟨hi,hq⟩
   by_cases hlt:i<a.length
   ·obtain⟨x,hx⟩:=bC a hlt
    obtain⟨y,hy⟩:=bC b (by omega:i<b.length)
    have hat:=aV (f:=aR) hx
    have hbt:=aV (f:=aR) hy
    by_cases he:x=y
    ·have hnext:a.take (i+1)=b.take (i+1):=by rw[aO hx,aO hy,hq,he]
     repeat' (first|(with_reducible first|(refine wN fun _ hnl=>?_;revert hnl;(repeat refine wS fun _ _=>?_);intro hnl)|refine wE ?_|(refine wK ?_ ?_<;>intro h)|(refine wB ?_ ?_<;>intro h<;>simp only[h]))|simp(maxSteps:=4000000) (disch:=first|exact ddL|fail) only[go_sem,simprocAttr,FXs,hat,hbt])
     all_goals (try (exfalso;omega))
     all_goals
      refine .of (.less ?_ (St.none_le _)) ⟨i+1,rfl,rfl,⟨by omega,hnext⟩,by omega⟩
      simp(maxSteps:=4000000) (disch:=first|exact ddL|fail) only[go_sem,simprocAttr,aC,aB]
      all_goals first|rfl|(simp;done)
    ·have hne':a≠b:=fun e=>by subst e;rw[hx] at hy;exact he (Option.some.inj hy)
     rw[decide_eq_false hne']
     repeat' (first|(with_reducible first|(refine wN fun _ hnl=>?_;revert hnl;(repeat refine wS fun _ _=>?_);intro hnl)|refine wE ?_|(refine wK ?_ ?_<;>intro h)|(refine wB ?_ ?_<;>intro h<;>simp only[h]))|simp(maxSteps:=4000000) (disch:=first|exact ddL|fail) only[go_sem,simprocAttr,FXs,hat,hbt])
     all_goals first|exact⟨_,St.le_refl _,rfl⟩|exact⟨_,St.le_refl _⟩|(exfalso;omega)
   ·have:i=a.length:=by omega
    subst this
    have he:a=b:=by
     rw[List.take_length,hlen,List.take_length] at hq
     exact hq
    rw[decide_eq_true he]
    repeat' (first|(with_reducible first|(refine wN fun _ hnl=>?_;revert hnl;(repeat refine wS fun _ _=>?_);intro hnl)|refine wE ?_|(refine wK ?_ ?_<;>intro h)|(refine wB ?_ ?_<;>intro h<;>simp only[h]))|simp(maxSteps:=4000000) (disch:=first|exact ddL|fail) only[go_sem,simprocAttr])
    all_goals first|exact⟨_,St.le_refl _,rfl⟩|exact⟨_,St.le_refl _⟩
theorem IQ(a b:List DE)(hl:a.length≤1000000)(ta tb:Bool):aA Tryz.prog 172 [.lst 3 (a.map DE.c) ta,.lst 3 (b.map DE.c) tb] St.none (fun r _=>r=.bool (decide (a=b))):=by
 refine aA.bF (aA.body 26 [.tmp 4] Tryz.func172 rfl rfl rfl rfl ?_)
 by_cases hlen:a.length=b.length
 rotate_left
 ·rw[decide_eq_false fun e=>hlen (by rw[e])]
  repeat' (first|(with_reducible first|(refine wN fun _ hnl=>?_;revert hnl;(repeat refine wS fun _ _=>?_);intro hnl)|refine wE ?_|(refine wK ?_ ?_<;>intro h)|(refine wB ?_ ?_<;>intro h<;>simp only[h]))|simp(maxSteps:=4000000) (disch:=first|exact ddL|fail) only[go_sem,simprocAttr,Tryz.f172])
  all_goals first|exact⟨_,St.le_refl _,rfl⟩|exact⟨_,St.le_refl _⟩|(exfalso;omega)
 ·repeat' (first|(with_reducible first|(refine wN fun _ hnl=>?_;revert hnl;(repeat refine wS fun _ _=>?_);intro hnl)|refine wE ?_|(refine wK ?_ ?_<;>intro h)|(refine wB ?_ ?_<;>intro h<;>simp only[h]))|simp(maxSteps:=4000000) (disch:=first|exact ddL|fail) only[go_sem,simprocAttr,Tryz.f172])
  all_goals (try (exfalso;omega))
  refine aD (α:=Nat) (fun i=>⟨26,[(13,.int .i64 (i:Int)),(12,.int .i64 (a.length:Int)),(0,.lst 3 (a.map DE.c) ta),(1,.lst 3 (b.map DE.c) tb)],[]⟩) (fun _=>St.none) (fun i=>i≤a.length∧a.take i=b.take i) (fun i=>a.length - i) (.of (.less ?_ (St.le_refl _)) ⟨0,rfl,rfl,Nat.zero_le _,rfl⟩) ?_
  ·simp(maxSteps:=4000000) (disch:=first|exact ddL|fail) only[go_sem,simprocAttr,aC,aB]
   all_goals rfl
  ·rintro i ⟨hi,hq⟩
   by_cases hlt:i<a.length
   ·obtain⟨x,hx⟩:=bC a hlt
    obtain⟨y,hy⟩:=bC b (by omega:i<b.length)
    have hat:=aV (f:=DE.c) hx
    have hbt:=aV (f:=DE.c) hy
    have hne:=Ci x y
    by_cases he:x=y
    ·have hnext:a.take (i+1)=b.take (i+1):=by rw[aO hx,aO hy,hq,he]
     rw[decide_eq_true he,Bool.not_true] at hne
     repeat' (first|(with_reducible first|(refine wN fun _ hnl=>?_;revert hnl;(repeat refine wS fun _ _=>?_);intro hnl)|refine wE ?_|(refine wK ?_ ?_<;>intro h)|(refine wB ?_ ?_<;>intro h<;>simp only[h]))|simp(maxSteps:=4000000) (disch:=first|exact ddL|fail) only[go_sem,simprocAttr,FXs,hat,hbt,hne])
     all_goals (try (exfalso;omega))
     all_goals
      refine .of (.less ?_ (St.none_le _)) ⟨i+1,rfl,rfl,⟨by omega,hnext⟩,by omega⟩
      simp(maxSteps:=4000000) (disch:=first|exact ddL|fail) only[go_sem,simprocAttr,aC,aB]
      all_goals first|rfl|(simp;done)
    ·have hne':a≠b:=fun e=>by subst e;rw[hx] at hy;exact he (Option.some.inj hy)
     rw[decide_eq_false hne']
     rw[decide_eq_false he,Bool.not_false] at hne
     repeat' (first|(with_reducible first|(refine wN fun _ hnl=>?_;revert hnl;(repeat refine wS fun _ _=>?_);intro hnl)|refine wE ?_|(refine wK ?_ ?_<;>intro h)|(refine wB ?_ ?_<;>intro h<;>simp only[h]))|simp(maxSteps:=4000000) (disch:=first|exact ddL|fail) only[go_sem,simprocAttr,FXs,hat,hbt,hne])
     all_goals first|exact⟨_,St.le_refl _,rfl⟩|exact⟨_,St.le_refl _⟩|(exfalso;omega)
   ·have:i=a.length:=by omega
    subst this
    have he:a=b:=by
     rw[List.take_length,hlen,List.take_length] at hq
     exact hq
    rw[decide_eq_true he]
    repeat' (first|(with_reducible first|(refine wN fun _ hnl=>?_;revert hnl;(repeat refine wS fun _ _=>?_);intro hnl)|refine wE ?_|(refine wK ?_ ?_<;>intro h)|(refine wB ?_ ?_<;>intro h<;>simp only[h]))|simp(maxSteps:=4000000) (disch:=first|exact ddL|fail) only[go_sem,simprocAttr])
    all_goals first|exact⟨_,St.le_refl _,rfl⟩|exact⟨_,St.le_refl _⟩
theorem IS(a b:List TU)(hl:a.length≤1000000)(ta tb:Bool):aA Tryz.prog 177 [.lst 31 (a.map TU.c) ta,.lst 31 (b.map TU.c) tb] St.none (fun r _=>r=.bool (decide (a=b))):=by
 refine aA.bF (aA.body 26 [.tmp 4] Tryz.func177 rfl rfl rfl rfl ?_)
 by_cases hlen:a.length=b.length
 rotate_left
 ·rw[decide_eq_false fun e=>hlen (by rw[e])]
  repeat' (first|(with_reducible first|(refine wN fun _ hnl=>?_;revert hnl;(repeat refine wS fun _ _=>?_);intro hnl)|refine wE ?_|(refine wK ?_ ?_<;>intro h)|(refine wB ?_ ?_<;>intro h<;>simp only[h]))|simp(maxSteps:=4000000) (disch:=first|exact ddL|fail) only[go_sem,simprocAttr,Tryz.f177])
  all_goals first|exact⟨_,St.le_refl _,rfl⟩|exact⟨_,St.le_refl _⟩|(exfalso;omega)
 ·repeat' (first|(with_reducible first|(refine wN fun _ hnl=>?_;revert hnl;(repeat refine wS fun _ _=>?_);intro hnl)|refine wE ?_|(refine wK ?_ ?_<;>intro h)|(refine wB ?_ ?_<;>intro h<;>simp only[h]))|simp(maxSteps:=4000000) (disch:=first|exact ddL|fail) only[go_sem,simprocAttr,Tryz.f177])
  all_goals (try (exfalso;omega))
  refine aD (α:=Nat) (fun i=>⟨26,[(13,.int .i64 (i:Int)),(12,.int .i64 (a.length:Int)),(0,.lst 31 (a.map TU.c) ta),(1,.lst 31 (b.map TU.c) tb)],[]⟩) (fun _=>St.none) (fun i=>i≤a.length∧a.take i=b.take i) (fun i=>a.length - i) (.of (.less ?_ (St.le_refl _)) ⟨0,rfl,rfl,Nat.zero_le _,rfl⟩) ?_
  ·simp(maxSteps:=4000000) (disch:=first|exact ddL|fail) only[go_sem,simprocAttr,aC,aB]
   all_goals rfl
  ·rintro i ⟨hi,hq⟩
   by_cases hlt:i<a.length
   ·obtain⟨x,hx⟩:=bC a hlt
    obtain⟨y,hy⟩:=bC b (by omega:i<b.length)
    have hat:=aV (f:=TU.c) hx
    have hbt:=aV (f:=TU.c) hy
    have hne:=Cj x y
    by_cases he:x=y
    ·have hnext:a.take (i+1)=b.take (i+1):=by rw[aO hx,aO hy,hq,he]
     rw[decide_eq_true he,Bool.not_true] at hne
     repeat' (first|(with_reducible first|(refine wN fun _ hnl=>?_;revert hnl;(repeat refine wS fun _ _=>?_);intro hnl)|refine wE ?_|(refine wK ?_ ?_<;>intro h)|(refine wB ?_ ?_<;>intro h<;>simp only[h]))|simp(maxSteps:=4000000) (disch:=first|exact ddL|fail) only[go_sem,simprocAttr,FXs,hat,hbt,hne])
     all_goals (try (exfalso;omega))
     all_goals
      refine .of (.less ?_ (St.none_le _)) ⟨i+1,rfl,rfl,⟨by omega,hnext⟩,by omega⟩
      simp(maxSteps:=4000000) (disch:=first|exact ddL|fail) only[go_sem,simprocAttr,aC,aB]
      all_goals first|rfl|(simp;done)
    ·have hne':a≠b:=fun e=>by subst e;rw[hx] at hy;exact he (Option.some.inj hy)
     rw[decide_eq_false hne']
     rw[decide_eq_false he,Bool.not_false] at hne
     repeat' (first|(with_reducible first|(refine wN fun _ hnl=>?_;revert hnl;(repeat refine wS fun _ _=>?_);intro hnl)|refine wE ?_|(refine wK ?_ ?_<;>intro h)|(refine wB ?_ ?_<;>intro h<;>simp only[h]))|simp(maxSteps:=4000000) (disch:=first|exact ddL|fail) only[go_sem,simprocAttr,FXs,hat,hbt,hne])
     all_goals first|exact⟨_,St.le_refl _,rfl⟩|exact⟨_,St.le_refl _⟩|(exfalso;omega)
   ·have:i=a.length:=by omega
    subst this
    have he:a=b:=by
     rw[List.take_length,hlen,List.take_length] at hq
     exact hq
    rw[decide_eq_true he]
    repeat' (first|(with_reducible first|(refine wN fun _ hnl=>?_;revert hnl;(repeat refine wS fun _ _=>?_);intro hnl)|refine wE ?_|(refine wK ?_ ?_<;>intro h)|(refine wB ?_ ?_<;>intro h<;>simp only[h]))|simp(maxSteps:=4000000) (disch:=first|exact ddL|fail) only[go_sem,simprocAttr])
    all_goals first|exact⟨_,St.le_refl _,rfl⟩|exact⟨_,St.le_refl _⟩
theorem vT{f sm v:Nat}(hvs:v≠sm)(mk:UInt32)(floor now:Int)(log:MV){cs:List CA}(hc:G1 cs):aA Tryz.prog 62 [.ptr v 0 0] ((St.none.set sm (.mp (vEs cs))).set v (vwO f mk sm floor now log)) (fun r σ'=>r=.lst 1 ((cs.map CA.id).map aR) false∧σ'=(St.none.set sm (.mp (vEs cs))).set v (vwO f mk sm floor now log)):=by
 refine aA.less (Q':=fun r σ'=>r=.lst 1 ((cs.map CA.id).map aR) false∧((St.none.set sm (.mp (vEs cs))).set v (vwO f mk sm floor now log)).le σ') (aA.body 11 [.tmp 2] Tryz.func62 rfl rfl rfl rfl ?_) fun r σ' h=>⟨_,h.2,h.1,rfl⟩
 have hsv:=Ne.symm hvs
 have hk:=Eu sm
 have hs:∀{b:Nat},b≠sm→aA Tryz.prog 147 [.fn (.func 240) [] [.ptr b 0 0]] ((St.none.set b (.row 214 1 [[.mapv sm]])).set sm (.mp (vEs cs))) fun r σ' =>
   r=.lst 1 ((cs.map CA.id).map aR) false∧σ'=(St.none.set b (.row 214 1 [[.mapv sm]])).set sm (.mp (vEs cs)):=fun {b} hb=>by
  refine(yN hb (AB cs) (fun n hn=>?_) (by simp[vEs];exact hc.2.2)).mono fun r σ' h=>?_
  ·rw[zC] at hn
   obtain⟨c,h1,rfl⟩:=List.mem_map.1 hn
   have:=hc.2.1 c h1
   exact DD (by omega)
  ·obtain⟨⟨ns,h1,h2,rfl⟩,rfl⟩:=h
   rw[zC] at h1
   rw[tA hc.1 h1 h2]
   exact⟨rfl,rfl⟩
 repeat' (first|(refine kP hk ?_;(intro b hb;simp only[aY] at hb;obtain⟨b1,b2,-⟩:=hb;have b1':=Ne.symm b1;have b2':=Ne.symm b2))|((refine bS (hs (by assumption)) (le2 (by simp[St.set, *]) (by simp[St.set, *])) ?_))|(with_reducible first|(refine wN fun _ hnl=>?_;revert hnl;(repeat refine wS fun _ _=>?_);intro hnl)|refine wE ?_|(refine wK ?_ ?_<;>intro h)|(refine wB ?_ ?_<;>intro h<;>simp only[h]))|simp(maxSteps:=4000000) (disch:=first|exact ddL|fail) only[go_sem,simprocAttr,Tryz.f62])
 all_goals first|exact⟨rfl,le2 (by simp[St.set, *]) (by simp[St.set, *])⟩|exact le2 (by simp[St.set, *]) (by simp[St.set, *])
end

section
set_option maxRecDepth 100000
set_option maxHeartbeats 8000000
theorem I1{B:BK}(hb:BkR B)(h3:B.gr.length≤1000000)(h4:∀g,g∈B.gr→g.mem.length≤1000000){m l q b:Nat}(D:pU m l q b)(ex:List (List MV)){fl:List ND}(hfl:fl.length≤1000000)(tt:Bool){mk:UInt32}(floor:Int)(log:List TU)(hlog:log.length≤1000000)(hv:dI B fl mk floor log=true) :
  aA Tryz.prog 77 [.ptr b 0 0,.lst 5 (fl.map ND.c) tt,.int .u32 (mk.toNat:Int),.int .i64 floor,.lst 31 (log.map TU.c) false] (bkS m l q b B ex) (fun r σ'=>∃ρ:St,(∀j o,ρ j=some o→bkS m l q b B ex j=none)∧σ'=ρ.over (bkS m l q b B ex)∧∃f sm v d,G0 f sm v∧r=.tup [.ptr v 0 0,.bool true]∧ρ=vwR fl d f sm v mk floor B.sq (.lst 31 (log.map TU.c) false) (shC B fl)) :=
 (sS hb h3 h4 D ex hfl tt floor log hlog).less fun r σ' h=>by
  rcases h with⟨-,f,sm,v,d,hd,rfl,hn,h1,h2⟩|⟨h,-⟩
  ·have hfr:∀j o,vwR fl d f sm v mk floor B.sq (.lst 31 (log.map TU.c) false) (shC B fl) j=some o→bkS m l q b B ex j=none:=fun j o hj=>hn j (by
    by_cases j1:j=v
    ·exact .inr (.inr j1)
    ·by_cases j2:j=sm
     ·exact .inr (.inl j2)
     ·by_cases j3:j=f
      ·exact .inl j3
      ·simp[St.set,St.none,j1,j2,j3] at hj)
   refine⟨(vwR fl d f sm v mk floor B.sq (.lst 31 (log.map TU.c) false) (shC B fl)).over (bkS m l q b B ex),fun j o hj=>?_,_,hfr,rfl,f,sm,v,d,hd,rfl,rfl⟩
   rcases gI hj with hj|⟨_,hj⟩
   ·exact h2 j o hj
   ·exact h1 j o hj
  ·rw[hv] at h;cases h
theorem I0{B:BK}(hb:BkR B)(h3:B.gr.length≤1000000)(h4:∀g,g∈B.gr→g.mem.length≤1000000){m l q b:Nat}(D:pU m l q b)(ex:List (List MV)){fl:List ND}(hfl:fl.length≤1000000)(tt:Bool){mk:UInt32}(floor:Int)(log:List TU)(hlog:log.length≤1000000)(hv:dI B fl mk floor log=false) :
  aA Tryz.prog 77 [.ptr b 0 0,.lst 5 (fl.map ND.c) tt,.int .u32 (mk.toNat:Int),.int .i64 floor,.lst 31 (log.map TU.c) false] (bkS m l q b B ex) (fun r σ'=>r=.tup [.nilp,.bool false]∧σ'=bkS m l q b B ex) :=
 (sS hb h3 h4 D ex hfl tt floor log hlog).less fun r σ' h=>by
  rcases h with⟨h,-⟩|⟨-,rfl,h⟩
  ·rw[hv] at h;cases h
  ·exact⟨_,h,rfl,rfl⟩
theorem J9(B:BK)(fl:List ND):Eo B fl=(shC B fl).map CA.id:=rfl
theorem qS{B:BK}(hb:BkR B)(fl:List ND):G1 (shC B fl):=by
 have h:=pH hb.cok hb.nx2 (by have:=hb.nc;omega)
 refine⟨h.1.filter _,fun c hc=>h.2.1 c (List.mem_filter.1 hc).1,Nat.le_trans (List.length_filter_le _ _) h.2.2⟩
theorem PW{σ:St}{tm tl n f sm v:Nat}{A A0 T X F S V:bE}(h1:tl≠tm)(hn:n≠tl)(hf:f≠tl)(hs:sm≠tl)(hv:v≠tl)(n0:σ n=none)(f0:σ f=none)(s0:σ sm=none)(v0:σ v=none):((σ.set tm A).set tl T).le (((((((σ.set tm A0).set tl T).set n X).set f F).set sm S).set v V).set tm A):=by
 intro j o hj
 by_cases e1:j=tl
 ·subst e1
  rw[aM] at hj
  rw[aH _ _ _ _ h1,aH _ _ _ _ (Ne.symm hv),aH _ _ _ _ (Ne.symm hs),aH _ _ _ _ (Ne.symm hf),aH _ _ _ _ (Ne.symm hn),aM]
  exact hj
 ·rw[aH _ _ _ _ e1] at hj
  by_cases e2:j=tm
  ·subst e2
   rw[aM] at hj ⊢
   exact hj
  ·rw[aH _ _ _ _ e2] at hj
   have g:∀{k:Nat},σ k=none→j≠k:=fun h e=>by subst e;rw[h] at hj;cases hj
   rw[aH _ _ _ _ e2,aH _ _ _ _ (g v0),aH _ _ _ _ (g s0),aH _ _ _ _ (g f0),aH _ _ _ _ (g n0),aH _ _ _ _ e1,aH _ _ _ _ e2]
   exact hj
theorem Fs{B:BK}(hb:BkR B)(h3:B.gr.length≤1000000)(h4:∀g,g∈B.gr→g.mem.length≤1000000){m l q b:Nat}(D:pU m l q b)(ex:List (List MV))(L:List SU)(hL:L.length≤1000000)(hs:SuF L) :
  aA Tryz.prog 82 [.ptr b 0 0,.lst 7 (L.map SU.c) false] (bkS m l q b B ex) (fun r σ'=>r=.tup [.junk,.bool (decide (L.length≤4)&&cP B (-1) L)]∧σ'=bkS m l q b B ex):=by
 refine aA.Oi (aA.body 78 [.tmp 4,.tmp 5] Tryz.func82 rfl rfl rfl rfl ?_)
 have hfin:∀{σ:St} {x:MV} {ok:Bool},(bkS m l q b B ex).le σ→∃σv:St,σv.le σ∧(bkS m l q b B ex).le σ∧(∀k o,bkS m l q b B ex k=some o→σv k=none)∧View σv (.tup [x,.bool ok]) (.tup [.junk,.bool ok]):=fun h=>⟨St.none,St.none_le _,h,fun _ _ _=>rfl,.two (.junk _) (.same _)⟩
 obtain⟨res,hres⟩:∃z,(decide (L.length≤4)&&cP B (-1) L)=z:=⟨_,rfl⟩
 rw[hres]
 have D':=D
 obtain⟨d1,d2,d3,d4,d5,d6⟩:=D
 by_cases h0:L.length≤4
 rotate_left
 ·rw[decide_eq_false h0,Bool.false_and] at hres
  subst hres
  repeat' (first|(with_reducible first|(refine wT ?_;(first|((fail_if_success (have:=nl1));refine wN fun nl1 hnl=>?_)|refine wN fun _ hnl=>?_);revert hnl;(repeat refine wS fun _ _=>?_);intro hnl)|refine wE ?_|(refine wK ?_ ?_<;>intro h)|(refine wB ?_ ?_<;>intro h<;>simp only[h]))|simp(maxSteps:=4000000) (disch:=first|exact ddL|fail) only[go_sem,simprocAttr,Tryz.f82])
  all_goals first|exact hfin (St.le_refl _)|(exfalso;omega)
 ·rw[decide_eq_true h0,Bool.true_and] at hres
  repeat' (first|(refine j9 wP ?_;(intro tm tl htm htl hlm;have hml:=Ne.symm hlm))|(with_reducible first|(refine wT ?_;(first|((fail_if_success (have:=nl1));refine wN fun nl1 hnl=>?_)|refine wN fun _ hnl=>?_);revert hnl;(repeat refine wS fun _ _=>?_);intro hnl)|refine wE ?_|(refine wK ?_ ?_<;>intro h)|(refine wB ?_ ?_<;>intro h<;>simp only[h]))|simp(maxSteps:=4000000) (disch:=first|exact ddL|fail) only[go_sem,simprocAttr,Tryz.f82])
  all_goals (try (exfalso;omega))
  have htm1:=htm
  have htl1:=htl
  simp only[aY] at htm1 htl1
  obtain⟨m1,m2,m3,m4,-⟩:=htm1
  obtain⟨t1,t2,t3,t4,-⟩:=htl1
  refine aD (α:=Nat × List (MV × MV)) (fun z=>⟨78,[(18,.int .i64 (z.1:Int)),(17,.int .i64 (L.length:Int)),(16,.lst 7 (L.map SU.c) false),(7,.int .i64 (bY (L.map SU.dev) z.1 (-1))),(6,.ptr tl 0 0),(0,.ptr b 0 0)],[]⟩)
   (fun z=>((bkS m l q b B ex).set tm (.mp z.2)).set tl (.row 252 1 [[.mapv tm]])) (fun z=>z.1≤L.length∧(z.2.all fun p=>isK .i64 p.1)=true∧res=cP B (bY (L.map SU.dev) z.1 (-1)) (L.drop z.1)) (fun z=>L.length - z.1) (.of (.less ?_ (St.le_refl _)) ⟨(0,[]),rfl,rfl,Nat.zero_le _,rfl,hres.symm⟩) ?_
  ·simp(maxSteps:=4000000) (disch:=first|exact ddL|fail) only[go_sem,simprocAttr,aC,aB]
   all_goals first|rfl|(simp;done)
  ·rintro⟨i,es⟩ ⟨hi,hall,hq⟩
   simp only at hi hall hq ⊢
   have hle2:∀{o o':bE},(bkS m l q b B ex).le (((bkS m l q b B ex).set tm o).set tl o'):=St.bQ (St.bQ (St.le_refl _) htm) htl
   by_cases hlt:i<L.length
   ·obtain⟨x,hx⟩:=bC L hlt
    rw[cY hx,cP,tB] at hq
    unfold big at hq
    have hat:=aV (f:=SU.c) hx
    have hnext:=eM (fM (f:=SU.dev) hx) (z:=-1)
    obtain⟨z1,z2,z3⟩:=hs x (bR hx)
    obtain⟨last,hlast⟩:∃k,bY (L.map SU.dev) i (-1)=k:=⟨_,rfl⟩
    rw[hlast] at hq ⊢
    by_cases hr:last<x.dev∧1≤x.ep∧x.ep≤1099511627776∧x.dev<6
    rotate_left
    ·have hf:res=false:=by
      rw[hq]
      by_cases h1:last<x.dev
      ·rw[decide_eq_false (fun h2=>hr ⟨h1,h2⟩)];simp
      ·rw[decide_eq_false h1];simp
     subst hf
     clear hq
     repeat' (first|(with_reducible first|(refine wT ?_;(first|((fail_if_success (have:=nl1));refine wN fun nl1 hnl=>?_)|refine wN fun _ hnl=>?_);revert hnl;(repeat refine wS fun _ _=>?_);intro hnl)|refine wE ?_|(refine wK ?_ ?_<;>intro h)|(refine wB ?_ ?_<;>intro h<;>simp only[h]))|simp(maxSteps:=4000000) (disch:=first|exact ddL|fail) only[go_sem,simprocAttr,hat])
     all_goals first|exact hfin (St.bQ hle2 (by simp only[aY];exact⟨by assumption,by assumption,by assumption,by assumption,rfl⟩))|(exfalso;omega)
    ·obtain⟨r1,r2,r3,r4⟩:=hr
     rw[decide_eq_true r1,decide_eq_true ⟨r2,r3,r4⟩,Bool.true_and,Bool.true_and] at hq
     cases hvo:dI B x.fl x.mask x.floor x.log
     ·rw[hvo,Bool.false_and,Bool.false_and] at hq
      subst hq
      have hv:=I0 hb h3 h4 D' ex z1 false x.floor x.log z3 hvo
      repeat' (first|(refine bS hv (St.bQ hle2 (by simp only[aY];exact⟨by assumption,by assumption,by assumption,by assumption,rfl⟩)) ?_)|(refine aJ mixed (by decide +kernel) (fnF []) ?_)|(with_reducible first|(refine wT ?_;(first|((fail_if_success (have:=nl1));refine wN fun nl1 hnl=>?_)|refine wN fun _ hnl=>?_);revert hnl;(repeat refine wS fun _ _=>?_);intro hnl)|refine wE ?_|(refine wK ?_ ?_<;>intro h)|(refine wB ?_ ?_<;>intro h<;>simp only[h]))|simp(maxSteps:=4000000) (disch:=first|exact ddL|fail) only[go_sem,simprocAttr,hat])
      all_goals first|exact hfin (St.bQ hle2 (by simp only[aY];exact⟨by assumption,by assumption,by assumption,by assumption,rfl⟩))|(exfalso;omega)
     ·rw[hvo,Bool.true_and,J9] at hq
      have hv:=I1 hb h3 h4 D' ex z1 false x.floor x.log z3 hvo
      have heq:=rV ((shC B x.fl).map CA.id) x.mem (by rw[List.length_map];exact(qS hb x.fl).2.2) false false
      have hmem:=fun {f sm v:Nat} (h:v≠sm)=>vT (f:=f) h x.mask x.floor B.sq (.lst 31 (x.log.map TU.c) false) (qS hb x.fl)
      obtain⟨I,hI⟩:∃I,(shC B x.fl).map CA.id=I:=⟨_,rfl⟩
      rw[hI] at hq heq
      simp only[hI] at hmem
      obtain⟨V,hV⟩:∃V,vEs (shC B x.fl)=V:=⟨_,rfl⟩
      simp only[hV] at hmem
      by_cases hme:I=x.mem
      ·rw[decide_eq_true hme.symm,Bool.true_and] at hq
       rw[decide_eq_true hme] at heq
       repeat' (first|((refine lG hv (St.bQ hle2 (by simp only[aY];exact⟨by assumption,by assumption,by assumption,by assumption,rfl⟩)) ?_;intro f sm v d hf0 hs0 hv0 sf vf vs;(have hf1:=hf0;have hs1:=hs0;have hv1:=hv0;simp only[aY] at hf1 hs1 hv1;obtain⟨f1,f2,f3,-⟩:=hf1;obtain⟨s1,s2,s3,-⟩:=hs1;obtain⟨v1,v2,v3,-⟩:=hv1;have fs:=Ne.symm sf;have fv:=Ne.symm vf;have sv:=Ne.symm vs;have f1':=Ne.symm f1;have f2':=Ne.symm f2;have f3':=Ne.symm f3;have s1':=Ne.symm s1;have s2':=Ne.symm s2;have s3':=Ne.symm s3;have v1':=Ne.symm v1;have v2':=Ne.symm v2;have v3':=Ne.symm v3)))|(refine aJ mixed (by decide +kernel) (fnF [(62,⟨[v,sm],fun w=>w=.lst 1 (I.map aR) false,none⟩),(165,⟨[],fun w=>w=.bool true,none⟩)]) ?_)|(refine fF [v,sm] [vwO f x.mask sm x.floor B.sq (.lst 31 (x.log.map TU.c) false),.mp V] bN (by simp[St.set, *]) (hmem vs) ?_)|(refine aF (dF bN) heq ?_)|(with_reducible first|(refine wT ?_;(first|((fail_if_success (have:=nl1));refine wN fun nl1 hnl=>?_)|refine wN fun _ hnl=>?_);revert hnl;(repeat refine wS fun _ _=>?_);intro hnl)|refine wE ?_|(refine wK ?_ ?_<;>intro h)|(refine wB ?_ ?_<;>intro h<;>simp only[h]))|simp(maxSteps:=4000000) (disch:=first|exact ddL|fail) only[go_sem,simprocAttr,hat,hall,hV])
       all_goals (try (exfalso;omega))
       all_goals
        have hN:bkS m l q b B ex nl1=none:=by simp only[aY];exact⟨by assumption,by assumption,by assumption,by assumption,rfl⟩
        have hF:bkS m l q b B ex f=none:=by simp only[aY] at hf0 ⊢;exact hf0.2.2.2
        have hS:bkS m l q b B ex sm=none:=by simp only[aY] at hs0 ⊢;exact hs0.2.2.2
        have hV':bkS m l q b B ex v=none:=by simp only[aY] at hv0 ⊢;exact hv0.2.2.2
        refine .of (.less ?_ (PW hlm (by assumption) f2 s2 v2 hN hF hS hV')) ⟨(i+1,dJ .i64 x.dev (.agg [.int .i64 x.ep,.ptr v 0 0]) es),rfl,rfl,⟨by simp only;omega,qD hall,by simp only;rw[hnext];exact hq⟩,by simp only;omega⟩
        rw[hnext]
        simp(maxSteps:=4000000) (disch:=first|exact ddL|fail) only[go_sem,simprocAttr,aC,aB]
        all_goals first|rfl|(simp;done)
      ·rw[decide_eq_false (Ne.symm hme),Bool.false_and] at hq
       rw[decide_eq_false hme] at heq
       subst hq
       repeat' (first|((refine lG hv (St.bQ hle2 (by simp only[aY];exact⟨by assumption,by assumption,by assumption,by assumption,rfl⟩)) ?_;intro f sm v d hf0 hs0 hv0 sf vf vs;(have hf1:=hf0;have hs1:=hs0;have hv1:=hv0;simp only[aY] at hf1 hs1 hv1;obtain⟨f1,f2,f3,-⟩:=hf1;obtain⟨s1,s2,s3,-⟩:=hs1;obtain⟨v1,v2,v3,-⟩:=hv1;have fs:=Ne.symm sf;have fv:=Ne.symm vf;have sv:=Ne.symm vs;have f1':=Ne.symm f1;have f2':=Ne.symm f2;have f3':=Ne.symm f3;have s1':=Ne.symm s1;have s2':=Ne.symm s2;have s3':=Ne.symm s3;have v1':=Ne.symm v1;have v2':=Ne.symm v2;have v3':=Ne.symm v3)))|(refine aJ mixed (by decide +kernel) (fnF [(62,⟨[v,sm],fun w=>w=.lst 1 (I.map aR) false,none⟩),(165,⟨[],fun w=>w=.bool false,none⟩)]) ?_)|(refine fF [v,sm] [vwO f x.mask sm x.floor B.sq (.lst 31 (x.log.map TU.c) false),.mp V] bN (by simp[St.set, *]) (hmem vs) ?_)|(refine aF (dF bN) heq ?_)|(with_reducible first|(refine wT ?_;(first|((fail_if_success (have:=nl1));refine wN fun nl1 hnl=>?_)|refine wN fun _ hnl=>?_);revert hnl;(repeat refine wS fun _ _=>?_);intro hnl)|refine wE ?_|(refine wK ?_ ?_<;>intro h)|(refine wB ?_ ?_<;>intro h<;>simp only[h]))|simp(maxSteps:=4000000) (disch:=first|exact ddL|fail) only[go_sem,simprocAttr,hat,hV])
       all_goals (try (exfalso;omega))
       all_goals
        have hN:bkS m l q b B ex nl1=none:=by simp only[aY];exact⟨by assumption,by assumption,by assumption,by assumption,rfl⟩
        have hF:bkS m l q b B ex f=none:=by simp only[aY] at hf0 ⊢;exact hf0.2.2.2
        have hS:bkS m l q b B ex sm=none:=by simp only[aY] at hs0 ⊢;exact hs0.2.2.2
        have hV':bkS m l q b B ex v=none:=by simp only[aY] at hv0 ⊢;exact hv0.2.2.2
        exact hfin (St.bQ (St.bQ (St.bQ (St.bQ hle2 hN) hF) hS) hV')
   ·have:i=L.length:=by omega
    subst this
    rw[List.drop_length,cP] at hq
    subst hq
    repeat' (first|(with_reducible first|(refine wT ?_;(first|((fail_if_success (have:=nl1));refine wN fun nl1 hnl=>?_)|refine wN fun _ hnl=>?_);revert hnl;(repeat refine wS fun _ _=>?_);intro hnl)|refine wE ?_|(refine wK ?_ ?_<;>intro h)|(refine wB ?_ ?_<;>intro h<;>simp only[h]))|simp(maxSteps:=4000000) (disch:=first|exact ddL|fail) only[go_sem,simprocAttr])
    exact hfin hle2
end
end Go.Proofs.YtojmhmejdihaaaaGreatDoor
