/- Parts of the proof; conditions: as its theorems name them. -/
import Derived.Test.YtppdgejjmhdjhaaGreatDoorM9za
set_option linter.unusedVariables false
set_option linter.unusedSimpArgs false
set_option maxHeartbeats 8000000
set_option maxRecDepth 100000
namespace Go.Proofs.YtppdgejjmhdjhaaGreatDoor
section
theorem Ss{P:Program}{g:FuncId}{ms:List MV}{σ τ:St}{m l b:Nat}{om ol ob:aW}{r:MV}{k:MV→St→Prop}(h:aA P g ms τ fun v σ'=>v=r∧σ'=((τ.set m om).set l ol).set b ob)(hle:τ.le σ)(hk:R (bY r (((σ.set m om).set l ol).set b ob) k)):R (cU P g ms σ k) :=
 bJ h hle fun v σ' hv _=>by
  obtain⟨rfl,rfl⟩:=hv
  rw[bE,bE,bE,sQ hle];exact hk
abbrev mlb(m l b:Nat)(om ol ob:aW):St:=((St.none.set m om).set l ol).set b ob
theorem Vi{m l b:Nat}{om ol ob om' ol' ob':aW}:mlb m l b om' ol' ob'=(((mlb m l b om ol ob).set m om').set l ol').set b ob':=by
 funext j
 by_cases h1:j=b
 ·simp[St.set,h1]
 ·by_cases h2:j=l
  ·simp[St.set,h1,h2]
  ·by_cases h3:j=m<;>simp[St.set,h1,h2,h3]
theorem Vj{σ:St}{m l b:Nat}{om ol ob:aW}(hm:σ m=some om)(hl:σ l=some ol)(hb:σ b=some ob):(mlb m l b om ol ob).le σ:=St.aB (St.aB (St.aB (St.none_le _) hm) hl) hb
end

section
theorem Wn:(ED.mk 1 0 0 evP).c=.int .i64 1::.int .i64 0::.int .i64 0::.int .u32 256::.int .u32 2::fc f80:=rfl
theorem Wo:(ED.mk 2 1 0 evW).c=.int .i64 2::.int .i64 1::.int .i64 0::.int .u32 256::.int .u32 1::fc f80:=rfl
theorem UW{m l b:Nat}(hlm:l≠m)(hbm:b≠m)(hbl:b≠l)(D g:MV) :
  aA Tryz.prog 17 [.ptr b 0 0,.agg (.int .i64 1::.int .i64 0::.int .i64 0::.int .u32 256::.int .u32 2::fc f80)] (mlb m l b (.mp (cEs [])) (shO 1 m D) (bG 0 l g)) (fun v σ'=>v=.tup [.lst 2 ([((1:Int),(1:Int))].map chC) false,.int .i64 0]∧σ'=(((mlb m l b (.mp (cEs [])) (shO 1 m D) (bG 0 l g)).set m (.mp (cEs [ev1]))).set l (shO 2 m D)).set b (bG 1 l g)):=by
 rw[←Wn]
 refine(N6 (nx:=1) (sq:=0) hlm hbm hbl D g [] evP dK (by decide) (by decide) (by decide) (by simp) (by decide) (by decide)).mono ?_
 rintro v σ' ⟨q1,q2⟩
 exact⟨q1,q2.trans Vi⟩
theorem UX{m l q b:Nat}(D:dQ m l q b)(g:MV) :
  aA Tryz.prog 17 [.ptr b 0 0,.agg (.int .i64 2::.int .i64 1::.int .i64 0::.int .u32 256::.int .u32 1::fc f80)] ((shS 2 m l q [ev1] [] []).set b (bG 1 l g)) (fun v σ'=>v=.tup [.lst 2 ([((2:Int),(1:Int))].map chC) false,.int .i64 0]∧σ'=((((shS 2 m l q [ev1] [] []).set b (bG 1 l g)).set m (.mp (cEs [ev2]))).set l (shO 2 m (.vec 3 q 0 0))).set b (bG 2 l g)):=by
 rw[←Wo]
 refine(N7 (nx:=2) (sq:=1) D [ev1] (List.pairwise_singleton _ _) [] (by decide) [] g 1 evW dK (c:=ev1) dK dK dK (by decide) (by decide) (by decide) (by decide)).mono ?_
 rintro v σ' ⟨q1,q2⟩
 refine⟨q1,q2.trans ?_⟩
 obtain⟨d1,d2,d3,d4,d5,d6⟩:=D
 have hw:wrC [ev1] 1 (dB ev1 evW)=[ev2]:=rfl
 rw[hw]
 funext j
 by_cases h1:j=b
 ·subst h1;simp[St.set]
 ·by_cases h2:j=l
  ·subst h2;simp[St.set,h1,Ne.symm d3]
  ·by_cases h3:j=q
   ·subst h3;simp[St.set,h1,h2,d2]
   ·by_cases h4:j=m
    ·subst h4;simp[St.set,h1,h2,h3]
    ·simp[St.set,h1,h2,h3,h4]
theorem SV{m l q b n:Nat}(D:dQ m l q b)(hn:n≠m∧n≠l∧n≠q∧n≠b) :
  aA Tryz.prog 15 [.ptr b 0 0,.vec 5 n 0 1,.int .u32 256] ((bkS m l q b bk1 []).set n (.row 121 5 [evN.c])) (fun r σ'=>∃f sm g v d,kT m l q b f sm g v∧r=.ptr v 0 0∧σ'=vwS m l q b bk1 f [evN] d sm g v 256 Mp []) :=
 Hi (B:=bk1) (mk:=256) ⟨by decide,by decide,by decide,by decide,by decide +kernel,by decide +kernel,by decide,by decide,by decide +kernel⟩ (by decide) (fun g hg=>by cases hg) D hn zR (by decide)
theorem SR{m l q b f sm g v:Nat}(V:kT m l q b f sm g v)(d:Bool)(ex:List (List MV)):aA Tryz.prog 18 [.ptr v 0 0,.ptr b 0 0,.lst 2 ([((1:Int),(1:Int))].map chC) false] (vwS m l q b Df f [evN] d sm g v 256 Mp ex) (fun _ σ'=>∃d' g' ex',kT m l q b f sm g' v∧σ'=vwS m l q b Df f [evN] d' sm g' v 256 E7 ex'):=by
 have h:=qB SP (by decide) (fun g hg=>by cases hg) (by decide) zR (mk:=256) V d Mp (by decide) ex [(1,1)] (by decide) false
 rw[Po] at h
 exact h
theorem SS{m l q b f sm g v:Nat}(V:kT m l q b f sm g v)(d:Bool)(ex:List (List MV)):aA Tryz.prog 18 [.ptr v 0 0,.ptr b 0 0,.lst 2 ([((2:Int),(1:Int))].map chC) false] (vwS m l q b Dg f [evN] d sm g v 256 E7 ex) (fun _ σ'=>∃d' g' ex',kT m l q b f sm g' v∧σ'=vwS m l q b Dg f [evN] d' sm g' v 256 IC ex'):=by
 have h:=qB SQ (by decide) (fun g hg=>by cases hg) (by decide) zR (mk:=256) V d E7 (by decide) ex [(2,1)] (by decide) false
 rw[Pp] at h
 exact h
theorem UY:∃X1 X2:List MV,IC.log.map TU.c=[.int .i64 1::.int .i64 1::.int .i64 0::.int .i64 1::X1,.int .i64 2::.int .i64 1::.int .i64 1::.int .i64 0::X2]:=by
 refine⟨(fL ev1 256).c,ca0.c,?_⟩
 show[(gE 1 0 1 (fL ev1 256) true).c,(gE 2 1 1 (fL ca0 256) false).c]=_
 rw[show(gE 1 0 1 (fL ev1 256) true).c=.int .i64 1::.int .i64 1::.int .i64 0::.int .i64 (gE 1 0 1 (fL ev1 256) true).new::(fL ev1 256).c from rfl,UZ]
 rfl
theorem C6:aA Tryz.prog 13 [] St.none (fun r _=>r=.bool true):=by
 refine aA.bR (mB 66 [.tmp 0] Tryz.func13 ?_)
 have hnew:aA Tryz.prog 60 [] St.none _:=xE
 repeat' first|((refine LP hnew ?_;intro m l q b hm hl hq hb D;clear hm hl hq hb;simp only[bk1,List.map_nil,List.length_nil];have D':=D;obtain⟨d1,d2,d3,d4,d5,d6⟩:=D;have e1:=Ne.symm d1;have e2:=Ne.symm d2;have e3:=Ne.symm d3;have e4:=Ne.symm d4;have e5:=Ne.symm d5;have e6:=Ne.symm d6))|(refine wM ?_;(first|(have _:=nl1)|(intro nl1));intros)|refine wZ2 @Tryz.f13.eq_1 @FXs ?_|fail
 have n1:nl1≠m:=by assumption
 have n2:nl1≠l:=by assumption
 have n3:nl1≠q:=by assumption
 have n4:nl1≠b:=by assumption
 refine Su (SV D' ⟨n1,n2,n3,n4⟩) (St.aB (UO (by simp[St.set, *,bk1]) (by simp[St.set, *,bk1]) (by simp[St.set, *,bk1]) (by simp[St.set, *,bk1])) (aD _ _ _)) (by simp only[aU];exact⟨n4,n3,n2,n1,rfl⟩) fun f sm g v d V hf hs hg hv=>?_
 clear hf hs hg hv
 have VV:=V
 obtain⟨-,⟨f1,f2,f3,f4⟩,⟨s1,s2,s3,s4,s5⟩,⟨g1,g2,g3,g4,g5,g6⟩,⟨v1,v2,v3,v4,v5,v6,v7⟩⟩:=V
 have f1':=Ne.symm f1
 have f2':=Ne.symm f2
 have f3':=Ne.symm f3
 have f4':=Ne.symm f4
 have s1':=Ne.symm s1
 have s2':=Ne.symm s2
 have s3':=Ne.symm s3
 have s4':=Ne.symm s4
 have s5':=Ne.symm s5
 have g1':=Ne.symm g1
 have g2':=Ne.symm g2
 have g3':=Ne.symm g3
 have g4':=Ne.symm g4
 have g5':=Ne.symm g5
 have g6':=Ne.symm g6
 have v1':=Ne.symm v1
 have v2':=Ne.symm v2
 have v3':=Ne.symm v3
 have v4':=Ne.symm v4
 have v5':=Ne.symm v5
 have v6':=Ne.symm v6
 have v7':=Ne.symm v7
 repeat' first|refine wZ1 @FXs ?_|fail
 refine Ss (UW d1 d4 d5 (.vec 3 q 0 0) (.lst 2 [] false)) (Vj sS sS sS) ?_
 repeat' first|refine wZ1 @FXs ?_|fail
 refine Sv VV (SR VV d []) (UJ (by show _=some (aW.mp (cEs [ev1]));simp[St.set, *]) (by show _=some (shO 2 m (.vec 3 q 0 0));simp[St.set, *]) (by show _=some (aW.row 197 3 []);simp[St.set, *]) (by show _=some (bG 1 l (.lst 2 [] false));simp[St.set, *]) sS sS sS sS) fun r1 dd1 g' ex1 V1 hg'=>?_
 clear hg'
 have VV1:=V1
 obtain⟨-,-,-,⟨w1,w2,w3,w4,w5,w6⟩,⟨-,-,-,-,-,-,w7⟩⟩:=V1
 have w1':=Ne.symm w1
 have w2':=Ne.symm w2
 have w3':=Ne.symm w3
 have w4':=Ne.symm w4
 have w5':=Ne.symm w5
 have w6':=Ne.symm w6
 have w7':=Ne.symm w7
 repeat' first|refine wZ1 @FXs ?_|fail
 refine Ss (UX D' (.lst 2 [] false)) (St.aB (St.aB (St.aB (St.aB (St.none_le _) sS) (by show _=some (shO 2 m (.vec 3 q 0 0));simp[St.set, *])) (by show _=some (aW.row 197 3 []);simp[St.set, *])) sS) ?_
 repeat' first|refine wZ1 @FXs ?_|fail
 refine Sv VV1 (SS VV1 dd1 ex1) (UJ (by show _=some (aW.mp (cEs [ev2]));simp[St.set, *]) (by show _=some (shO 2 m (.vec 3 q 0 0));simp[St.set, *]) (by show _=some (aW.row 197 3 []);simp[St.set, *]) (by show _=some (bG 2 l (.lst 2 [] false));simp[St.set, *]) sS sS sS sS) fun r2 dd2 k ex2 V2 hk=>?_
 clear hk
 have VV2:=V2
 obtain⟨-,-,-,⟨u1,u2,u3,u4,u5,u6⟩,⟨-,-,-,-,-,-,u7⟩⟩:=V2
 have u1':=Ne.symm u1
 have u2':=Ne.symm u2
 have u3':=Ne.symm u3
 have u4':=Ne.symm u4
 have u5':=Ne.symm u5
 have u6':=Ne.symm u6
 have u7':=Ne.symm u7
 repeat' first|refine wZ1 @FXs ?_|fail
 obtain⟨X1,X2,hX⟩:=UY
 have hlog:=AG u7 f sm 256 IC.floor IC.now IC.log (by decide) ex2
 rw[hX] at hlog
 refine cQ hlog (St.aB (St.aB (St.none_le _) sS) sS) ?_
 repeat' first|refine wZ1 @FXs ?_|fail
 all_goals first|exact⟨_,St.le_refl _,rfl⟩|exact⟨_,St.le_refl _⟩|trace_state
end

section
def Chn(l:List TU):Prop:=∀a t b,l=a++t::b→(fF a t.id).getD t.old=t.old
theorem Chn.take{l:List TU}(h:Chn l)(n:Nat):Chn (l.take n):=fun a t b e=>by
 refine h a t (b++l.drop n) ?_
 rw[←List.cons_append,←List.append_assoc,←e,List.take_append_drop]
theorem Chn.at{l:List TU}(h:Chn l){i:Nat}{t:TU}(hi:l[i]?=some t):(fF (l.take i) t.id).getD t.old=t.old :=
 h (l.take i) t (l.drop (i+1)) (by rw[←tO hi,List.take_append_drop])
theorem KH:Chn []:=fun a t b e=>by cases a<;>cases e
theorem EV{l:List TU}{t:TU}(h:Chn l)(ht:(fF l t.id).getD t.old=t.old):Chn (l++[t]):=fun a u b e=>by
 rcases List.eq_nil_or_concat b with rfl|⟨b',z,rfl⟩
 ·obtain⟨rfl,e2⟩:=List.append_inj' e rfl
  cases e2
  exact ht
 ·rw[List.concat_eq_append,←List.cons_append,←List.append_assoc] at e
  obtain⟨rfl,e2⟩:=List.append_inj' e rfl
  exact h a u b' rfl
theorem O9{l:List TU}{t:TU}(h:Chn (l++[t])):Chn l∧(fF l t.id).getD t.old=t.old :=
 ⟨by have:=h.take l.length;rwa [List.take_left' rfl] at this,h l t [] rfl⟩
theorem vP{l:List TU}{t:TU}{id:Int}(h:t.id≠id):itS (l++[t]) id=itS l id:=by
 unfold itS
 rw[lI,fO,if_neg h,if_neg h,Option.or_none]
theorem lO{f g:Int→List IT}:∀{ids:List Int},(∀i,i∈ids→f i=g i)→ids.flatMap f=ids.flatMap g
 | [],_=>rfl
 | i::r,h=>by rw[List.flatMap_cons,List.flatMap_cons,h i (List.mem_cons_self ..),lO fun j hj=>h j (List.mem_cons_of_mem _ hj)]
theorem vQ(o:Int)(t:TU):((kO o t).toList.length:Int)=if t.new≠o then 1 else 0:=by
 unfold kO
 by_cases h:o=t.new
 ·rw[if_pos h,if_neg (by simpa using h.symm)];rfl
 ·rw[if_neg h,if_pos (fun e=>h e.symm)]
  split
  ·rfl
  ·split<;>rfl
theorem NT{l:List TU}{t:TU}(hc:(fF l t.id).getD t.old=t.old) :
  ((lW (l++[t])).length:Int)=((lW l).length:Int) - (if t.old≠(kN l t.id).getD t.old then 1 else 0)+if t.new≠(kN l t.id).getD t.old then 1 else 0:=by
 by_cases hm:t.id∈l.map TU.id
 ·have hi:t.id∈eQ l:=(nC l).2 hm
  obtain⟨o,ho⟩:∃o,kN l t.id=some o:=by
   cases h:kN l t.id with
   | none=>exact absurd hm (lH.1 h)
   | some o=>exact⟨o,rfl⟩
  obtain⟨u,hu⟩:∃u,fT l t.id=some u:=by
   cases h:fT l t.id with
   | none=>exact absurd hm ((oE l).1 h)
   | some o=>exact⟨o,rfl⟩
  rw[Aq,hu] at hc
  simp only[Option.map_some,Option.getD_some] at hc
  have hu':UpI ((eQ l).map _root_.id):=by rw[List.map_id];exact Dm l
  obtain⟨y,a,b,e,hy,-,ha,hb⟩:=nG (f:=_root_.id) (x:=t.id) hu' (by rw[List.map_id];exact hi)
  simp only[_root_.id] at hy ha hb
  subst hy
  unfold lW
  rw[jJ,show gT (eQ l) t.id=eQ l from if_pos hi,e,List.flatMap_append,List.flatMap_append,List.flatMap_cons,List.flatMap_cons,
   lO (g:=itS l) (fun i h=>vP (by have:=ha i h;omega)),lO (ids:=b) (g:=itS l) (fun i h=>vP (by have:=hb i h;omega))]
  have e1:itS l t.id=(kO o u).toList:=by unfold itS;rw[ho,hu]
  have e2:itS (l++[t]) t.id=(kO o t).toList:=by unfold itS;rw[lI,fO,ho];simp
  have n1:=vQ o u
  have n2:=vQ o t
  rw[←e1,hc] at n1
  rw[←e2] at n2
  rw[ho,Option.getD_some,←n1,←n2]
  simp only[List.length_append]
  omega
 ·have hi:t.id∉eQ l:=fun h=>hm ((nC l).1 h)
  have ho:=lH.2 hm
  have e0:itS (l++[t]) t.id=(kO t.old t).toList:=by unfold itS;rw[lI,fO,if_pos rfl,ho];simp
  have n2:=vQ t.old t
  rw[←e0] at n2
  unfold lW
  rw[jJ,show gT (eQ l) t.id=_ from if_neg hi,List.flatMap_append,List.flatMap_cons]
  have hc1:∀i,i∈eQ l→itS (l++[t]) i=itS l i:=fun i h=>vP fun e=>hi (e ▸ h)
  rw[lO (g:=itS l) fun i h=>hc1 i (List.mem_of_mem_take h),lO (ids:=(eQ l).drop _) (g:=itS l) fun i h=>hc1 i (List.mem_of_mem_drop h)]
  have hs:((eQ l).flatMap (itS l)).length=((((eQ l).take (aQ (eQ l) t.id)).flatMap (itS l))++(((eQ l).drop (aQ (eQ l) t.id)).flatMap (itS l))).length:=by rw[←List.flatMap_append,List.take_append_drop]
  rw[ho,Option.getD_none,if_neg (by simp),hs,←n2]
  simp only[List.length_append]
  omega
theorem HV(l:List TU)(x:TU)(f n c:Int):upS (l++[x]) f n c=if f<x.sq∧x.sq≤n∧x.id≤c then upS l f n c++[x] else upS l f n c:=by
 unfold upS
 rw[List.filter_append,List.filter_cons,List.filter_nil]
 split
 ·rename_i h;rw[if_pos (of_decide_eq_true h)]
 ·rename_i h;rw[if_neg (fun q=>h (decide_eq_true q)),List.append_nil]
theorem EI{l:List Int}{x:Int}:UpI (l++[x])↔UpI l∧∀y,y∈l→y<x:=by
 unfold UpI
 rw[List.pairwise_append]
 simp
theorem LO{f n c id:Int}(hid:id≤c):∀l:List TU,UpI (l.map TU.sq)→(∀u,u∈l→u.sq≤n)→fF (upS l f n c) id=none∨fF (upS l f n c) id=fF l id :=
 mM (fun _ _=>.inl rfl) fun l x ih hu hn=>by
  rw[List.map_append,List.map_cons,List.map_nil,EI] at hu
  have ih':=ih hu.1 fun u h=>hn u (List.mem_append.2 (.inl h))
  have hx:=hn x (by simp)
  rw[HV,jP]
  by_cases e:x.id=id
  ·rw[if_pos e]
   by_cases hf:f<x.sq
   ·rw[if_pos ⟨hf,hx,by omega⟩,jP,if_pos e]
    exact .inr rfl
   ·rw[if_neg fun h=>hf h.1]
    have:upS l f n c=[]:=List.filter_eq_nil_iff.2 fun u h=>by
     have:=hu.2 u.sq (List.mem_map.2 ⟨u,h,rfl⟩)
     simp only[decide_eq_true_eq]
     omega
    rw[this]
    exact .inl rfl
  ·rw[if_neg e]
   split
   ·rw[jP,if_neg e];exact ih'
   ·exact ih'
theorem Pb{f n c:Int}:∀l:List TU,UpI (l.map TU.sq)→(∀u,u∈l→u.sq≤n)→Chn l→Chn (upS l f n c) :=
 mM (fun _ _ _=>KH) fun l x ih hu hn hc=>by
  rw[List.map_append,List.map_cons,List.map_nil,EI] at hu
  have hn':∀u,u∈l→u.sq≤n:=fun u h=>hn u (List.mem_append.2 (.inl h))
  obtain⟨h1,h2⟩:=O9 hc
  have ih':=ih hu.1 hn' h1
  rw[HV]
  split
  ·rename_i h
   refine EV ih' ?_
   rcases LO (f:=f) (n:=n) h.2.2 l hu.1 hn' with q|q
   ·rw[q];rfl
   ·rw[q];exact h2
  ·exact ih'
theorem EH{l:List TU}{f n c:Int}{t:TU}:t∈upS l f n c↔t∈l∧f<t.sq∧t.sq≤n∧t.id≤c:=by
 unfold upS
 rw[List.mem_filter,decide_eq_true_eq]
theorem EF(l:List TU)(f n c:Int):(upS l f n c).length≤l.length:=List.length_filter_le _ _
end

section
theorem tP(f:F8):∀c,c∈fc f→c.aL=true:=List.all_eq_true.1 (dS f)
theorem JX(old:Int)(t:TU):aA Tryz.prog 231 [.int .i64 old,.agg t.c] St.none (fun r _=>r=.tup [.agg ((kO old t).getD it0).k,.bool (kO old t).isSome]):=by
 refine aA.bR (mB 29 [.cell 4 164,.tmp 5] Tryz.func231 ?_)
 have hfc:=tP t.card.f
 unfold kO
 by_cases h1:old=t.new
 ·rw[if_pos h1]
  repeat' first|(refine wO ?_;intros)|refine wZ3 @Tryz.f231.eq_1 @FXs @hfc ?_|fail
  all_goals exact lE
 ·rw[if_neg h1]
  by_cases h2:old=0
  ·rw[if_pos h2]
   repeat' first|(refine wO ?_;intros)|refine wZ3 @Tryz.f231.eq_1 @FXs @hfc ?_|fail
   all_goals exact lE
  ·rw[if_neg h2]
   by_cases h3:t.new=0
   ·rw[if_pos h3]
    repeat' first|(refine wO ?_;intros)|refine wZ3 @Tryz.f231.eq_1 @FXs @hfc ?_|fail
    all_goals exact lE
   ·rw[if_neg h3]
    repeat' first|(refine wO ?_;intros)|refine wZ3 @Tryz.f231.eq_1 @FXs @hfc ?_|fail
    all_goals exact lE
theorem BN(t:TU)(f n c:Int):aA Tryz.prog 230 [.agg t.c,.int .i64 f,.int .i64 n,.int .i64 c] St.none (fun r _=>r=.bool (decide (f<t.sq∧t.sq≤n∧t.id≤c))):=by
 refine aA.bR (mB 25 [.tmp 8] Tryz.func230 ?_)
 by_cases h1:f<t.sq
 ·by_cases h2:t.sq≤n
  ·by_cases h3:t.id≤c
   ·rw[decide_eq_true ⟨h1,h2,h3⟩]
    repeat' first|(refine wO ?_;intros)|refine wZ2 @Tryz.f230.eq_1 @FXs ?_|fail
    all_goals first|exact⟨_,St.le_refl _,rfl⟩|exact⟨_,St.le_refl _⟩|(exfalso;omega)|(refine⟨_,St.le_refl _,?_⟩;simp[*])
   ·rw[decide_eq_false fun h=>h3 h.2.2]
    repeat' first|(refine wO ?_;intros)|refine wZ2 @Tryz.f230.eq_1 @FXs ?_|fail
    all_goals first|exact⟨_,St.le_refl _,rfl⟩|exact⟨_,St.le_refl _⟩|(exfalso;omega)|(refine⟨_,St.le_refl _,?_⟩;simp[*])
  ·rw[decide_eq_false fun h=>h2 h.2.1]
   repeat' first|(refine wO ?_;intros)|refine wZ2 @Tryz.f230.eq_1 @FXs ?_|fail
   all_goals first|exact⟨_,St.le_refl _,rfl⟩|exact⟨_,St.le_refl _⟩|(exfalso;omega)|(refine⟨_,St.le_refl _,?_⟩;simp[*])
 ·rw[decide_eq_false fun h=>h1 h.1]
  repeat' first|(refine wO ?_;intros)|refine wZ2 @Tryz.f230.eq_1 @FXs ?_|fail
  all_goals first|exact⟨_,St.le_refl _,rfl⟩|exact⟨_,St.le_refl _⟩|(exfalso;omega)|(refine⟨_,St.le_refl _,?_⟩;simp[*])
end

section
theorem Ox(B:BK)(fl:List ND)(id:Int):jF B fl id=((shown B fl id).getD ca0,(shown B fl id).isSome):=by
 unfold jF shown bD
 cases h:B.cards.find? (fun c=>decide (c.id=id)) with
 | none =>
  simp only
  rw[if_neg (fun q=>by have:=q.1;split at this<;>omega)]
  rfl
 | some c =>
  simp only[true_and]
  split<;>rfl
theorem s7{B:BK}{fl:List ND}{id:Int}{c:CA}(h:shown B fl id=some c):c∈B.cards∧c.id=id:=by
 unfold shown at h
 split at h
 ·cases h
 ·rename_i d hd
  split at h
  ·cases h
   exact⟨List.mem_of_find?_eq_some hd,by simpa using List.find?_some hd⟩
  ·cases h
theorem LC(id v j:Int):∀sh:List (Int × Int),shG (shP sh id v) j=if j=id then v else shG sh j
 | []=>by
  unfold shP shG
  by_cases h:j=id
  ·rw[if_pos h.symm,if_pos h]
  ·rw[if_neg (Ne.symm h),if_neg h];rfl
 | (i,u)::r=>by
  have ih:=LC id v j r
  unfold shP
  by_cases h1:i=id
  ·rw[if_pos h1]
   subst h1
   unfold shG
   by_cases h:j=i
   ·rw[if_pos h.symm,if_pos h]
   ·rw[if_neg (Ne.symm h),if_neg h,if_neg (Ne.symm h)]
  ·rw[if_neg h1]
   unfold shG
   rw[ih]
   by_cases h:i=j
   ·rw[if_pos h,if_pos h,if_neg oM]
   ·rw[if_neg h,if_neg h]
theorem HH{j:Int}:∀{sh:List (Int × Int)},j∉sh.map (·.1)→shG sh j=0
 | [],_=>rfl
 | (i,u)::r,h=>by
  rw[List.map_cons,List.mem_cons] at h
  unfold shG
  rw[if_neg fun e=>h (.inl e.symm)]
  exact HH fun q=>h (.inr q)
theorem Ly(id j:Int):∀sh:List (Int × Int),(sh.map (·.1)).Nodup→shG (shD sh id) j=if j=id then 0 else shG sh j
 | [],_=>by
  unfold shD
  split<;>rfl
 | (i,u)::r,hn=>by
  obtain⟨n1,n2⟩:=List.nodup_cons.1 hn
  have ih:=Ly id j r n2
  unfold shD
  by_cases h1:i=id
  ·rw[if_pos h1]
   subst h1
   by_cases h:j=i
   ·rw[if_pos h,h];exact HH n1
   ·rw[if_neg h]
    show _=shG ((i,u)::r) j
    rw[shG,if_neg (Ne.symm h)]
  ·rw[if_neg h1]
   unfold shG
   rw[ih]
   by_cases h:i=j
   ·rw[if_pos h,if_pos h,if_neg oM]
   ·rw[if_neg h,if_neg h]
theorem HI(id v:Int):∀sh:List (Int × Int),(shP sh id v).map (·.1)=if id∈sh.map (·.1) then sh.map (·.1) else sh.map (·.1)++[id]
 | []=>by simp[shP]
 | (i,u)::r=>by
  unfold shP
  by_cases h1:i=id
  ·rw[if_pos h1,if_pos (by simp[h1])];rfl
  ·rw[if_neg h1,List.map_cons,HI id v r]
   have h1':¬id=i:=fun e=>h1 e.symm
   by_cases h:id∈r.map (·.1)
   ·rw[if_pos h,if_pos (by rw[List.map_cons];exact List.mem_cons_of_mem _ h)];rfl
   ·rw[if_neg h,if_neg (by rw[List.map_cons,List.mem_cons];exact fun q=>q.elim h1' h)];rfl
theorem HG(id:Int):∀sh:List (Int × Int),((shD sh id).map (·.1)).Sublist (sh.map (·.1))
 | []=>.slnil
 | (i,u)::r=>by
  unfold shD
  split
  ·exact List.sublist_cons_self _ _
  ·exact(HG id r).cons_cons _
theorem JE{l:List Int}{x:Int}(h:l.Nodup)(hx:x∉l):(l++[x]).Nodup:=by
 rw[List.nodup_append]
 refine⟨h,by simp,fun a ha b hb=>?_⟩
 rw[List.mem_singleton] at hb
 exact fun e=>hx (by rw[←hb,←e];exact ha)
structure LInv (z:VS):Prop where
 ch:Chn z.log
 up:UpI (z.log.map TU.sq)
 now:∀t,t∈z.log→t.sq≤z.now
 tok:∀t,t∈z.log→TOk t
 idb:∀t,t∈z.log→1≤t.id∧t.id<1073741824
 new:∀id v,fF z.log id=some v→shG z.sh id=v
 key:(z.sh.map (·.1)).Nodup
 val:∀p,p∈z.sh→p.2≠0
 len:z.log.length≤40
 flo:z.floor≤z.now
 pos:0≤z.now
 sqb:∀t,t∈z.log→1≤t.sq
theorem JD{l:List TU}{id v:Int}(h:fF (l.drop 1) id=some v):fF l id=some v:=by
 cases l with
 | nil=>exact h
 | cons t l =>
  rw[List.drop_succ_cons,List.drop_zero] at h
  rw[fF,h]
theorem Chn.tail{l:List TU}(h:Chn l):Chn (l.drop 1):=fun a t b e=>by
 cases l with
 | nil=>cases a<;>cases e
 | cons u l =>
  rw[List.drop_succ_cons,List.drop_zero] at e
  have:=h (u::a) t b (by rw[e];rfl)
  cases hn:fF a t.id with
  | none=>rfl
  | some v =>
   rw[fF,hn] at this
   exact this
theorem NX{log:List TU}{t:TU}:(gY log t).Sublist (log++[t]):=by
 unfold gY
 split
 ·exact List.Sublist.refl _
 ·exact List.drop_sublist _ _
theorem NV{log:List TU}{t:TU}(h:Chn (log++[t])):Chn (gY log t):=by
 unfold gY
 split
 ·exact h
 ·exact h.tail
theorem NW{log:List TU}{t:TU}{id v:Int}(h:fF (gY log t) id=some v):fF (log++[t]) id=some v:=by
 unfold gY at h
 split at h
 ·exact h
 ·exact JD h
theorem QV{floor now:Int}{log:List TU}{t:TU}(h:floor≤now)(hl:∀u,u∈log++[t]→u.sq≤now):mL floor log t≤now:=by
 unfold mL
 split
 ·exact h
 ·cases log with
  | nil=>exact hl t (by simp)
  | cons u r=>exact hl u (by simp)
noncomputable def mR(B:BK)(fl:List ND)(mk:UInt32)(old seq id:Int):TU:=gE seq old id (fL ((shown B fl id).getD ca0) mk) (shown B fl id).isSome
theorem xB(B:BK)(fl:List ND)(mk:UInt32)(old seq id:Int):(mR B fl mk old seq id).new=cW B fl id:=by
 unfold mR gE cW
 cases shown B fl id<;>rfl
theorem uW(B:BK)(fl:List ND)(mk:UInt32)(z:VS)(seq id:Int):iQ B fl mk z seq id=if id=0 then { z with now:=seq } else
  ⟨if (shown B fl id).isSome=true then shP z.sh id (cW B fl id) else shD z.sh id,if shG z.sh id=cW B fl id then z.floor else mL z.floor z.log (mR B fl mk (shG z.sh id) seq id),seq,if shG z.sh id=cW B fl id then z.log else gY z.log (mR B fl mk (shG z.sh id) seq id)⟩:=by
 unfold iQ
 split
 ·rfl
 ·have e:=xB B fl mk (shG z.sh id) seq id
  unfold mR at e ⊢
  simp only[Ox,e]
  rfl
theorem Ba{B:BK}{fl:List ND}{id:Int}(h:shown B fl id=none):cW B fl id=0:=by
 unfold cW;rw[h];rfl
theorem uX{B:BK}{fl:List ND}{mk:UInt32}{z:VS}(hk:(z.sh.map (·.1)).Nodup)(seq id j:Int):shG (iQ B fl mk z seq id).sh j=if id≠0∧j=id then cW B fl id else shG z.sh j:=by
 rw[uW]
 by_cases h0:id=0
 ·rw[if_pos h0,if_neg fun h=>h.1 h0]
 ·rw[if_neg h0]
  simp only
  cases hs:shown B fl id with
  | none =>
   simp only[Option.isSome_none,Bool.false_eq_true,if_false]
   rw[Ly _ _ _ hk,Ba hs]
   by_cases h:j=id
   ·rw[if_pos h,if_pos ⟨h0,h⟩]
   ·rw[if_neg h,if_neg fun q=>h q.2]
  | some c =>
   simp only[Option.isSome_some,if_true]
   rw[LC]
   by_cases h:j=id
   ·rw[if_pos h,if_pos ⟨h0,h⟩]
   ·rw[if_neg h,if_neg fun q=>h q.2]
theorem LF{id v:Int}{p:Int × Int}:∀{sh:List (Int × Int)},p∈shP sh id v→p∈sh∨p.2=v
 | [],h=>.inr (by unfold shP at h;rw[List.mem_singleton] at h;rw[h])
 | (i,u)::r,h=>by
  unfold shP at h
  split at h
  ·rcases List.mem_cons.1 h with rfl|h
   ·exact .inr rfl
   ·exact .inl (List.mem_cons_of_mem _ h)
  ·rcases List.mem_cons.1 h with rfl|h
   ·exact .inl (List.mem_cons_self ..)
   ·exact(LF h).imp (List.mem_cons_of_mem _) fun q=>q
theorem Lx(id:Int):∀sh:List (Int × Int),(shD sh id).Sublist sh
 | []=>.slnil
 | (i,u)::r=>by
  unfold shD
  split
  ·exact List.sublist_cons_self _ _
  ·exact(Lx id r).cons_cons _
theorem LV{B:BK}(hb:BkW B){fl:List ND}{id:Int}(h:(shown B fl id).isSome=true):cW B fl id≠0:=by
 obtain⟨c,hc⟩:=Option.isSome_iff_exists.1 h
 obtain⟨⟨p1,p2,p3,p4,p5⟩,p6⟩:=fN (hb.cds c (s7 hc).1).1
 unfold cW
 rw[hc,Option.getD_some]
 omega
theorem wR{B:BK}(hb:BkW B){fl:List ND}{mk:UInt32}{z:VS}(hz:LInv z){seq id:Int}(hs:z.now<seq)(hid:id=0∨1≤id∧id<1073741824):LInv (iQ B fl mk z seq id):=by
 have hsh:=fun j=>uX (B:=B) (fl:=fl) (mk:=mk) hz.key seq id j
 have hlen:=HQ (B:=B) (fl:=fl) (mk:=mk) hz.len seq id
 rw[uW] at hsh hlen ⊢
 by_cases h0:id=0
 ·rw[if_pos h0]
  exact { hz with now:=fun t ht=>by have:=hz.now t ht;simp only;omega,flo:=by have:=hz.flo;simp only;omega,pos:=by have:=hz.pos;simp only;omega }
 rw[if_neg h0] at hsh hlen ⊢
 have hid':=hid.resolve_left h0
 simp only at hsh
 have hkey:((if (shown B fl id).isSome=true then shP z.sh id (cW B fl id) else shD z.sh id).map (·.1)).Nodup:=by
  split
  ·rw[HI]
   split
   ·exact hz.key
   ·exact JE hz.key (by assumption)
  ·exact hz.key.sublist (HG id z.sh)
 have hval:∀p,p∈(if (shown B fl id).isSome=true then shP z.sh id (cW B fl id) else shD z.sh id)→p.2≠0:=fun p hp=>by
  split at hp
  ·rename_i q
   rcases LF hp with h|h
   ·exact hz.val p h
   ·rw[h];exact LV hb q
  ·exact hz.val p ((Lx id z.sh).subset hp)
 by_cases ho:shG z.sh id=cW B fl id
 ·simp only[if_pos ho] at hlen ⊢
  refine⟨hz.ch,hz.up,fun t ht=>by have:=hz.now t ht;simp only;omega,hz.tok,hz.idb,fun j v hv=>?_,hkey,hval,hlen,by have:=hz.flo;simp only;omega,by have:=hz.pos;simp only;omega,hz.sqb⟩
  simp only
  rw[hsh]
  split
  ·rename_i q;rw[←ho,←q.2];exact hz.new j v hv
  ·exact hz.new j v hv
 ·simp only[if_neg ho] at hlen ⊢
  obtain⟨T,hT⟩:∃T,mR B fl mk (shG z.sh id) seq id=T:=⟨_,rfl⟩
  have hTn:T.new=cW B fl id:=by rw[←hT];exact xB ..
  have hTi:T.id=id:=by rw[←hT];rfl
  have hTo:T.old=shG z.sh id:=by rw[←hT];rfl
  have hTs:T.sq=seq:=by rw[←hT];rfl
  have hTk:TOk T:=fun hne=>by
   rw[←hT] at hne ⊢
   unfold mR gE at hne ⊢
   cases hs':shown B fl id with
   | none=>rw[hs'] at hne;exact absurd rfl hne
   | some c=>exact(s7 hs').2
  rw[hT] at hlen ⊢
  have hc:Chn (z.log++[T]):=EV hz.ch (by
   rw[hTi,hTo]
   cases hn:fF z.log id with
   | none=>rfl
   | some v=>exact(hz.new id v hn).symm)
  have hsub:=NX (log:=z.log) (t:=T)
  have hall:∀u,u∈z.log++[T]→u.sq≤seq:=fun u hu=>by
   rcases List.mem_append.1 hu with hu|hu
   ·have:=hz.now u hu;omega
   ·rw[List.mem_singleton] at hu;subst hu;omega
  refine⟨NV hc,?_,fun u hu=>hall u (hsub.subset hu),fun u hu=>?_,fun u hu=>?_,fun j v hv=>?_,hkey,hval,hlen,QV (show z.floor≤seq by have:=hz.flo;omega) hall,show 0≤seq by have:=hz.pos;omega,fun u hu=>?_⟩
  ·refine List.Pairwise.sublist (hsub.map TU.sq) ?_
   rw[List.map_append]
   exact EI.2 ⟨hz.up,fun y hy=>by
    obtain⟨u,hu,rfl⟩:=List.mem_map.1 hy
    have:=hz.now u hu
    rw[hTs];omega⟩
  ·rcases List.mem_append.1 (hsub.subset hu) with hu|hu
   ·exact hz.tok u hu
   ·rw[List.mem_singleton] at hu;subst hu;exact hTk
  ·rcases List.mem_append.1 (hsub.subset hu) with hu|hu
   ·exact hz.idb u hu
   ·rw[List.mem_singleton] at hu;subst hu;rw[hTi];exact hid'
  ·have:=NW hv
   rw[jP,hTi] at this
   simp only
   rw[hsh]
   by_cases e:id=j
   ·rw[if_pos e] at this
    rw[if_pos ⟨h0,e.symm⟩,←hTn]
    exact Option.some.inj this
   ·rw[if_neg e] at this
    rw[if_neg fun q=>e q.2.symm]
    exact hz.new j v this
  ·rcases List.mem_append.1 (hsub.subset hu) with hu|hu
   ·exact hz.sqb u hu
   ·rw[List.mem_singleton] at hu;subst hu;rw[hTs];have:=hz.pos;omega
end

section
theorem oU{B B':BK}{fl:List ND}{j:Int}(h1:B'.cards.find? (fun c=>decide (c.id=j))=B.cards.find? (fun c=>decide (c.id=j)))(h2:grB B'.gr j=grB B.gr j):shown B' fl j=shown B fl j:=by
 unfold shown
 rw[h1]
 cases h:B.cards.find? (fun c=>decide (c.id=j)) with
 | none=>rfl
 | some c =>
  have hc:c.id=j:=by simpa using List.find?_some h
  simp only[dW,hc,h2]
theorem K8{j:Int}{l:List GR}{f:GR→GR}(h:∀x,x∈l→(f x).no=x.no∧(j∈(f x).mem↔j∈x.mem)):grB (l.map f) j=grB l j:=by
 unfold grB
 generalize 0=s
 induction l generalizing s with
 | nil=>rfl
 | cons x l ih =>
  have ih':=fun s=>ih (fun y hy=>h y (List.mem_cons_of_mem _ hy)) (s:=s)
  have hx:=h x (List.mem_cons_self ..)
  have:grF j s (f x)=grF j s x:=by
   unfold grF
   rw[hx.1]
   by_cases q:j∈x.mem
   ·rw[if_pos q,if_pos (hx.2.2 q)]
   ·rw[if_neg q,if_neg fun z=>q (hx.2.1 z)]
  rw[List.map_cons,List.foldl_cons,List.foldl_cons,this]
  exact ih' _
theorem S8{j g:Int}{a b:List GR}:grB (a++⟨g,[]⟩::b) j=grB (a++b) j:=by
 unfold grB
 rw[List.foldl_append,List.foldl_cons,List.foldl_append]
 rfl
theorem K6{j g:Int}{l:List GR}(h:∀x,x∈l→x.no=g→j∉x.mem):grB (mS l g) j=grB l j:=by
 unfold grB mS
 generalize 0=s
 induction l generalizing s with
 | nil=>rfl
 | cons x l ih =>
  have ih':=fun s=>ih (s:=s) fun y hy=>h y (List.mem_cons_of_mem _ hy)
  rw[List.filter_cons]
  by_cases e:x.no=g
  ·rw[if_neg (by simpa using e),List.foldl_cons]
   have:grF j s x=s:=by unfold grF;rw[if_neg (h x (List.mem_cons_self ..) e)]
   rw[this]
   exact ih' s
  ·rw[if_pos (by simpa using e),List.foldl_cons,List.foldl_cons]
   exact ih' _
theorem K9{j g:Int}{m:List Int}{l:List GR}(h:∀x,x∈l→x.no=g→(j∈m↔j∈x.mem)):grB (fK l g m) j=grB l j:=by
 unfold fK
 refine K8 fun x hx=>?_
 by_cases e:x.no=g
 ·rw[if_pos e];exact⟨e.symm,h x hx e⟩
 ·rw[if_neg e];exact⟨rfl,Iff.rfl⟩
theorem yT{α:Type}{f:α→Int}{l:List α}(hu:UpI (l.map f)){x y:α}(hx:x∈l)(hy:y∈l)(h:f x=f y):x=y:=by
 induction l with
 | nil=>cases hx
 | cons z l ih =>
  rw[List.map_cons] at hu
  obtain⟨u1,u2⟩:=List.pairwise_cons.1 hu
  rcases List.mem_cons.1 hx with rfl|hx'<;>rcases List.mem_cons.1 hy with rfl|hy'
  ·rfl
  ·have:=u1 (f y) (List.mem_map.2 ⟨y,hy',rfl⟩);omega
  ·have:=u1 (f x) (List.mem_map.2 ⟨x,hx',rfl⟩);omega
  ·exact ih u2 hx' hy'
theorem uB{l:List GR}(hu:UpI (l.map GR.no)){x:GR}(hx:x∈l):bI l x.no=x.mem:=by
 obtain⟨y,h1,h2,h3,-⟩:=gJ hu (List.mem_map.2 ⟨x,hx,rfl⟩)
 rw[h3,yT (f:=GR.no) hu h1 hx h2]
theorem SY{l:List CA}{j:Int}{p:CA→Bool}(h:∀c,c∈l→c.id=j→p c=true):(l.filter p).find? (fun c=>decide (c.id=j))=l.find? (fun c=>decide (c.id=j)):=by
 induction l with
 | nil=>rfl
 | cons c l ih =>
  have ih':=ih fun d hd=>h d (List.mem_cons_of_mem _ hd)
  rw[List.filter_cons]
  by_cases e:c.id=j
  ·rw[if_pos (h c (List.mem_cons_self ..) e),List.find?_cons,List.find?_cons]
   simp[e]
  ·split
   ·rw[List.find?_cons,List.find?_cons,ih']
   ·rw[List.find?_cons,ih'];simp[e]
theorem SZ{l:List CA}{i j:Int}{x:CA}(hx:x.id=i)(h:j≠i):(wrC l i x).find? (fun c=>decide (c.id=j))=l.find? (fun c=>decide (c.id=j)):=by
 unfold wrC
 induction l with
 | nil=>rfl
 | cons c l ih =>
  rw[List.map_cons,List.find?_cons,List.find?_cons,ih]
  by_cases e:c.id=i
  ·rw[if_pos e]
   have h1:¬x.id=j:=fun q=>h (q.symm.trans hx)
   have h2:¬c.id=j:=fun q=>h (q.symm.trans e)
   simp[h1,h2]
  ·rw[if_neg e]
theorem kB{B:BK}(hb:BkW B)(x:ED)(fl:List ND) :
  (doE B x≠0∧doC B x=[]∧doB B x=B) ∨
  (doE B x=0∧∃i,doC B x=[i]∧(i=0∨1≤i∧i<1073741824)∧∀j,j≠i∨i=0→shown (doB B x) fl j=shown B fl j) ∨
  (doE B x=0∧doC B x=bI B.gr x.gr++[0]∧x.gr∈B.gr.map GR.no∧doB B x={ B with gr:=mS B.gr x.gr,sq:=B.sq+((bI B.gr x.gr).length+1:Nat) }):=by
 have err:∀{e:Int},e≠0→doT B x=(e,B,[])→(doE B x≠0∧doC B x=[]∧doB B x=B):=fun he h=>⟨by unfold doE;rw[h];exact he,by unfold doC;rw[h],lN h⟩
 have one:∀{B':BK} {i:Int},doT B x=(0,B',[i])→(i=0∨1≤i∧i<1073741824)→(∀j,j≠i∨i=0→B'.cards.find? (fun c=>decide (c.id=j))=B.cards.find? (fun c=>decide (c.id=j))∧grB B'.gr j=grB B.gr j) →
   (doE B x=0∧∃i,doC B x=[i]∧(i=0∨1≤i∧i<1073741824)∧∀j,j≠i∨i=0→shown (doB B x) fl j=shown B fl j):=fun {B' i} h h1 h2 =>
  ⟨by unfold doE;rw[h],i,by unfold doC;rw[h],h1,fun j hj=>oU (by unfold doB;rw[h];exact(h2 j hj).1) (by unfold doB;rw[h];exact(h2 j hj).2)⟩
 by_cases he:aR x=0
 rotate_left
 ·exact .inl (err he (by unfold doT;rw[if_pos he]))
 by_cases hs:1099511627676<B.sq
 ·exact .inl (err (e:=8) (by decide) (by unfold doT;rw[if_neg (by simpa using he),if_pos hs]))
 obtain⟨e1,e2,e3,e4,e5⟩:=bU he
 have hT:doT B x=doT B x:=rfl
 conv at hT=>rhs;unfold doT
 rw[if_neg (by simpa using he),if_neg hs] at hT
 have hn1:=hb.nx1
 by_cases k1:x.kd=1
 ·rw[if_pos k1] at hT
  by_cases hf:48≤B.cards.length∨1073741824≤B.nx
  ·rw[if_pos hf] at hT;exact .inl (err (by decide) hT)
  ·rw[if_neg hf] at hT
   refine .inr (.inl (one hT (.inr oM) fun j hj=>⟨?_,rfl⟩))
   have hj:j≠B.nx:=by rcases hj with h|h<;>omega
   have h0:¬B.nx=j:=fun q=>hj q.symm
   rw[List.find?_append]
   have:([cA B.nx x.p]:List CA).find? (fun c=>decide (c.id=j))=none:=by
    rw[List.find?_eq_none]
    intro c hc
    rw[List.mem_singleton] at hc
    subst hc
    rw[decide_eq_false (show ¬(cA B.nx x.p).id=j from h0)];exact Bool.false_ne_true
   rw[this,Option.or_none]
 rw[if_neg k1] at hT
 by_cases k2:x.kd=2
 ·rw[if_pos k2] at hT
  by_cases h1:(bD B.cards B.dead x.id).2=0
  rotate_left
  ·rw[if_pos h1] at hT;exact .inl (err h1 hT)
  rw[if_neg (by simpa using h1)] at hT
  by_cases h2:1099511627776≤(bD B.cards B.dead x.id).1.ver
  ·rw[if_pos h2] at hT;exact .inl (err (by decide) hT)
  rw[if_neg h2] at hT
  have hi:=e4 (by rw[k2];rfl)
  refine .inr (.inl (one hT (.inr hi) fun j hj=>⟨?_,rfl⟩))
  have hj:j≠x.id:=by rcases hj with h|h<;>omega
  exact SZ (sG h1).2 hj
 rw[if_neg k2] at hT
 by_cases k3:x.kd=3
 ·rw[if_pos k3] at hT
  by_cases h1:(bD B.cards B.dead x.id).2=0
  rotate_left
  ·rw[if_pos h1] at hT;exact .inl (err h1 hT)
  rw[if_neg (by simpa using h1)] at hT
  have hi:=e4 (by rw[k3];rfl)
  refine .inr (.inl (one hT (.inr hi) fun j hj=>?_))
  have hj:j≠x.id:=by rcases hj with h|h<;>omega
  refine⟨SY fun c _ hc=>by simp[hc,hj],?_⟩
  unfold lvG
  exact K8 fun y _=>⟨rfl,by simp only;rw[pK];exact⟨fun q=>q.1,fun q=>⟨q,hj⟩⟩⟩
 rw[if_neg k3] at hT
 by_cases k4:x.kd=4
 ·rw[if_pos k4] at hT
  by_cases h1:x.gr∈B.gr.map GR.no
  ·rw[if_pos h1] at hT;exact .inl (err (by decide) hT)
  ·rw[if_neg h1] at hT
   refine .inr (.inl (one hT (.inl rfl) fun j hj=>⟨rfl,?_⟩))
   simp only[vZ]
   rw[S8,List.take_append_drop]
 rw[if_neg k4] at hT
 by_cases k5:x.kd=5
 ·rw[if_pos k5] at hT
  by_cases h1:x.gr∈B.gr.map GR.no
  ·rw[if_pos h1] at hT
   exact .inr (.inr ⟨by unfold doE;rw[hT],by unfold doC;rw[hT],h1,by unfold doB;rw[hT];simp⟩)
  ·rw[if_neg h1] at hT;exact .inl (err (by decide) hT)
 rw[if_neg k5] at hT
 have hset:∀{m:List Int} {j:Int},(j∈m↔j∈bI B.gr x.gr)→grB (fK B.gr x.gr m) j=grB B.gr j:=fun h=>K9 fun y hy e=>by rw[h,←e,uB hb.upg hy]
 by_cases k6:x.kd=6
 ·rw[if_pos k6] at hT
  by_cases h1:(bD B.cards B.dead x.id).2=0
  rotate_left
  ·rw[if_pos h1] at hT;exact .inl (err h1 hT)
  rw[if_neg (by simpa using h1)] at hT
  by_cases h2:x.gr∈B.gr.map GR.no
  rotate_left
  ·rw[if_pos h2] at hT;exact .inl (err (by decide) hT)
  rw[if_neg (by simpa using h2)] at hT
  by_cases h3:x.id∈bI B.gr x.gr
  ·rw[if_pos h3] at hT;exact .inl (err (by decide) hT)
  rw[if_neg h3] at hT
  have hi:=e4 (by rw[k6];rfl)
  refine .inr (.inl (one hT (.inr hi) fun j hj=>⟨rfl,hset ?_⟩))
  have hj:j≠x.id:=by rcases hj with h|h<;>omega
  rw[Eb]
  exact⟨fun q=>q.resolve_left hj,.inr⟩
 ·rw[if_neg k6] at hT
  by_cases h2:x.gr∈B.gr.map GR.no
  rotate_left
  ·rw[if_pos h2] at hT;exact .inl (err (by decide) hT)
  rw[if_neg (by simpa using h2)] at hT
  by_cases h3:x.id∈bI B.gr x.gr
  rotate_left
  ·rw[if_pos h3] at hT;exact .inl (err (by decide) hT)
  rw[if_neg (by simpa using h3)] at hT
  have hi:=e4 (by rw[show x.kd=7 by omega];rfl)
  refine .inr (.inl (one hT (.inr hi) fun j hj=>⟨rfl,hset ?_⟩))
  have hj:j≠x.id:=by rcases hj with h|h<;>omega
  rw[pK]
  exact⟨fun q=>q.1,fun q=>⟨q,hj⟩⟩
end

section
def cM(log:List TU)(fl:Int):List TU:=log.filter fun t=>!decide (t.sq≤fl)
def iR(z:VS)(fl:Int):VS:={ z with floor:=max z.floor (min fl z.now),log:=cM z.log fl }
theorem xQ(t:TU)(fl:Int):aA Tryz.prog 95 [.agg t.c,.cptr [.int .i64 fl]] St.none (fun r _=>r=.bool (decide (t.sq≤fl))):=by
 refine aA.bR (mB 8 [.tmp 3] Tryz.func95 ?_)
 repeat' first|(refine wO ?_;intros)|refine wZ2 @Tryz.f95.eq_1 @FXs ?_|fail
 all_goals exact lE
def rP(fl:Int):List TU→Int→Int
 | [],_=>-1
 | t::l,o=>if t.sq≤fl then o else rP fl l (o+1)
theorem K4{fl:Int}:∀(l:List TU) (o:Int),(rP fl l o = -1∧cM l fl=l)∨∃i t,l[i]?=some t∧t.sq≤fl∧cM (l.take i) fl=l.take i∧rP fl l o=o+(i:Int)
 | [],o=>.inl ⟨rfl,rfl⟩
 | t::l,o=>by
  rw[rP]
  by_cases h:t.sq≤fl
  ·rw[if_pos h]
   exact .inr ⟨0,t,rfl,h,rfl,by simp⟩
  ·rw[if_neg h]
   have hk:∀r,cM (t::r) fl=t::cM r fl:=fun r=>by unfold cM;rw[List.filter_cons,if_pos (by simpa using h)]
   rcases K4 (fl:=fl) l (o+1) with⟨h1,h2⟩|⟨i,u,h1,h2,h3,h4⟩
   ·exact .inl ⟨h1,by rw[hk,h2]⟩
   ·exact .inr ⟨i+1,u,by simpa using h1,h2,by rw[List.take_succ_cons,hk,h3],by rw[h4];omega⟩
theorem JU(l:List TU)(hl:l.length≤1000000)(t:Bool)(fl:Int) :
  aA Tryz.prog 179 [.lst 31 (l.map TU.c) t,.fn (.func 95) [] [.cptr [.int .i64 fl]]] St.none (fun r _=>r=.int .i64 (rP fl l 0)):=by
 refine aA.bR (mB 19 [.tmp 4] Tryz.func179 ?_)
 obtain⟨G,hG⟩:∃G,rP fl l 0=G:=⟨_,rfl⟩
 rw[hG]
 repeat' first|refine wZ1 @Tryz.f179.eq_1 ?_|fail
 refine aE (α:=Nat) (fun k=>⟨19,[(8,.int .i64 (k:Int)),(7,.int .i64 (l.length:Int)),(0,.lst 31 (l.map TU.c) t),(1,.fn (.func 95) [] [.cptr [.int .i64 fl]])],[]⟩) (fun _=>St.none)
  (fun k=>k≤l.length∧G=rP fl (l.drop k) (k:Int)) (fun k=>l.length - k) (.of (.less ?_ (St.le_refl _)) ⟨0,rfl,rfl,Nat.zero_le _,hG.symm⟩) ?_
 ·exact wW
 ·rintro k ⟨h1,h2⟩
  by_cases hk:k<l.length
  ·obtain⟨d,hd⟩:=bW l hk
   have hat:=bF (f:=TU.c) hd
   have hc:=xQ d fl
   rw[tO hd,rP] at h2
   by_cases he:d.sq≤fl
   ·rw[decide_eq_true he] at hc
    rw[if_pos he] at h2
    subst h2
    repeat' first|(with_reducible first|refine up hc ?_)|refine wZ2 @FXs @hat ?_|fail
    all_goals exact lE
   ·rw[decide_eq_false he] at hc
    rw[if_neg he] at h2
    have h2':G=rP fl (l.drop (k+1)) ((k+1:Nat):Int):=by rw[h2];rfl
    repeat' first|(with_reducible first|refine up hc ?_)|refine wZ2 @FXs @hat ?_|fail
    all_goals (try (exfalso;omega))
    all_goals
     refine .of (.less ?_ (St.le_refl _)) ⟨k+1,rfl,rfl,⟨by omega,h2'⟩,by omega⟩
     exact wW
  ·obtain rfl:k=l.length:=by omega
   rw[List.drop_length,rP] at h2
   subst h2
   repeat' first|refine wZ0 ?_|fail
   all_goals exact lE
theorem tA(l:List TU)(x:TU)(fl:Int):cM (l++[x]) fl=if x.sq≤fl then cM l fl else cM l fl++[x]:=by
 unfold cM
 rw[List.filter_append,List.filter_cons,List.filter_nil]
 by_cases h:x.sq≤fl<;>simp[h]
theorem OM(l:List TU)(fl:Int):(cM l fl).length≤l.length:=List.length_filter_le _ _
theorem T8{A M D:List (List MV)}{m x:List MV}{i:Nat}(hi:A.length=i):(A++(m::M)++(x::D)).set i x=(A++[x])++(M++[x])++D:=by
 subst hi
 simp
theorem JL{g:Nat}(log:List TU)(hl:log.length≤1000000)(ex:List (List MV))(fl:Int) :
  aA Tryz.prog 94 [.vec 31 g 0 log.length,.fn (.func 95) [] [.cptr [.int .i64 fl]]] (St.none.set g (lgO log ex)) (fun r σ'=>r=.vec 31 g 0 (cM log fl).length∧∃ex',σ'=St.none.set g (lgO (cM log fl) ex')):=by
 refine aA.less (Q':=fun r σ'=>∃ex',r=.vec 31 g 0 (cM log fl).length∧(St.none.set g (lgO (cM log fl) ex')).le σ') (mB 42 [.tmp 4] Tryz.func94 ?_) fun v σ' ⟨ex',h1,h2⟩=>⟨_,h2,h1,ex',rfl⟩
 have hi:=JU log hl false fl
 have hml:(log.map TU.c).length=log.length:=List.length_map _
 rcases K4 (fl:=fl) log 0 with⟨h1,h2⟩|⟨i,t,h1,h2,h3,h4⟩
 ·rw[h1] at hi
  rw[h2]
  repeat' first|(refine nQ [.lst 31 (log.map TU.c) false,.fn (.func 95) [] [.cptr [.int .i64 fl]]] hi (by constructor) rfl (lJ (cX (aD _ _ _) (by simp)) (.same _)) ?_)|refine wZ1 @Tryz.f94.eq_1 ?_|fail
  all_goals first|exact⟨ex,rfl,St.le_refl _⟩|exact⟨ex,St.le_refl _⟩|(exfalso;omega)
 ·rw[h4,Int.zero_add] at hi
  have hil:=(List.getElem?_eq_some_iff.1 h1).1
  repeat' first|(refine nQ [.lst 31 (log.map TU.c) false,.fn (.func 95) [] [.cptr [.int .i64 fl]]] hi (by constructor) rfl (lJ (cX (aD _ _ _) (by simp)) (.same _)) ?_)|refine wZ1 @Tryz.f94.eq_1 ?_|fail
  all_goals (try (exfalso;omega))
  refine aE (α:=Nat × List TU) (fun a=>⟨42,[(6,.int .i64 (a.1:Int)),(5,.int .i64 ((cM (log.take a.1) fl).length:Int)),(0,.vec 31 g 0 log.length),(1,.fn (.func 95) [] [.cptr [.int .i64 fl]])],[]⟩)
   (fun a=>St.none.set g (.row 128 31 ((cM (log.take a.1) fl++a.2).map TU.c++((log.drop a.1).map TU.c++ex)))) (fun a=>a.1≤log.length∧(cM (log.take a.1) fl).length+a.2.length=a.1∧0<a.2.length) (fun a=>log.length - a.1) ?_ ?_
  ·have e:cM (log.take (i+1)) fl=log.take i:=by rw[aP h1,tA,if_pos h2,h3]
   have e2:(log.take i++[t]).map TU.c++((log.drop (i+1)).map TU.c++ex)=log.map TU.c++ex:=by
    rw[←List.append_assoc,←List.map_append,←aP h1,List.take_append_drop]
   refine .of (.less ?_ (σ1:=St.none.set g (.row 128 31 ((log.take i++[t]).map TU.c++((log.drop (i+1)).map TU.c++ex)))) (by rw[e2];exact St.le_refl _)) ⟨(i+1,[t]),rfl,by simp only[e],by simp only;omega,by simp only[e,List.length_take,List.length_singleton];omega,by simp⟩
   simp only[e,List.length_take]
   have e3:min i log.length=i:=by omega
   simp(maxSteps:=4000000) (disch:=first|decide|assumption|omega|(simp only[wL];omega)) only[go_sem,simprocAttr,bC,aS,e3]
   all_goals first|rfl|(simp;done)
  ·rintro⟨j,M⟩ ⟨hj,hM,hM0⟩
   simp only at hj hM hM0 ⊢
   obtain⟨m,M,rfl⟩:∃m M',M=m::M':=by
    cases M with
    | nil=>simp at hM0
    | cons a b=>exact⟨a,b,rfl⟩
   rw[List.length_cons] at hM
   by_cases hlt:j<log.length
   ·obtain⟨x,hx⟩:=bW log hlt
    have hc:=xQ x fl
    have hsn:=tA (log.take j) x fl
    rw[←aP hx] at hsn
    have hdr:(log.drop j).map TU.c=x.c::(log.drop (j+1)).map TU.c:=by rw[tO hx,List.map_cons]
    obtain⟨F,hF⟩:∃F,cM (log.take j) fl=F:=⟨_,rfl⟩
    rw[hF] at hsn hM ⊢
    rw[hdr]
    have hFl:(F.map TU.c).length=F.length:=List.length_map _
    have hat:((F++m::M).map TU.c++(x.c::(log.drop (j+1)).map TU.c++ex)).getD j []=x.c:=by
     have:j=((F++m::M).map TU.c).length:=by rw[List.length_map,List.length_append,List.length_cons];omega
     rw[List.getD_eq_getElem?_getD,List.getElem?_append_right oM,←this,Nat.sub_self];rfl
    have hatm:((F++m::M).map TU.c++(x.c::(log.drop (j+1)).map TU.c++ex)).getD F.length []=m.c:=by
     rw[List.map_append,List.append_assoc,List.getD_eq_getElem?_getD,List.getElem?_append_right oM,hFl,Nat.sub_self];rfl
    have hset:((F++m::M).map TU.c++(x.c::(log.drop (j+1)).map TU.c++ex)).set F.length x.c=((F++[x])++(M++[x])).map TU.c++((log.drop (j+1)).map TU.c++ex):=by
     rw[List.map_append,List.map_cons,List.cons_append,T8 hFl,List.map_append,List.map_append,List.map_append];rfl
    have hlen:((F++m::M).map TU.c++(x.c::(log.drop (j+1)).map TU.c++ex)).length=log.length+ex.length:=by
     simp only[List.length_append,List.length_map,List.length_cons,List.length_drop]
     omega
    obtain⟨R0,hR0⟩:∃R0,(F++m::M).map TU.c++(x.c::(log.drop (j+1)).map TU.c++ex)=R0:=⟨_,rfl⟩
    rw[hR0] at hat hatm hset hlen ⊢
    by_cases he:x.sq≤fl
    ·rw[decide_eq_true he] at hc
     rw[if_pos he] at hsn
     have e:R0=(F++(m::M++[x])).map TU.c++((log.drop (j+1)).map TU.c++ex):=by rw[←hR0];simp
     repeat' first|(with_reducible first|refine up hc ?_)|(refine wO ?_;intros)|refine wZ3 @FXs @hat @hlen ?_|fail
     all_goals (try (exfalso;omega))
     all_goals
      refine .of (.less ?_ (σ1:=St.none.set g (.row 128 31 R0)) (St.aB (St.none_le _) sS)) ⟨(j+1,m::M++[x]),rfl,(by show _=St.none.set g (.row 128 31 ((cM (log.take (j+1)) fl++(m::M++[x])).map TU.c++((log.drop (j+1)).map TU.c++ex)));rw[hsn,e]),⟨by simp only;omega,by simp only[hsn,List.length_append,List.length_cons,List.length_nil];omega,by simp⟩,by simp only;omega⟩
      simp only[hsn]
      exact wW
    ·rw[decide_eq_false he] at hc
     rw[if_neg he] at hsn
     repeat' first|(with_reducible first|refine up hc ?_)|(refine wO ?_;intros)|refine wZ4 @FXs @hat @hatm @hlen ?_|fail
     all_goals (try (exfalso;omega))
     all_goals
      refine .of (.less ?_ (σ1:=St.none.set g (.row 128 31 (R0.set F.length x.c))) (St.aB (St.none_le _) sS)) ⟨(j+1,M++[x]),rfl,(by show _=St.none.set g (.row 128 31 ((cM (log.take (j+1)) fl++(M++[x])).map TU.c++((log.drop (j+1)).map TU.c++ex)));rw[hsn,hset]),⟨by simp only;omega,by simp only[hsn,List.length_append,List.length_cons,List.length_nil];omega,by simp⟩,by simp only;omega⟩
      simp only[hsn,List.length_append,List.length_singleton]
      exact wW
   ·obtain rfl:j=log.length:=by omega
    rw[List.take_length] at hM ⊢
    rw[List.drop_length,List.map_nil,List.nil_append]
    obtain⟨F,hF⟩:∃F,cM log fl=F:=⟨_,rfl⟩
    rw[hF] at hM ⊢
    have hFl:(F.map TU.c).length=F.length:=List.length_map _
    have hlen:((F++m::M).map TU.c++ex).length=log.length+ex.length:=by
     simp only[List.length_append,List.length_map,List.length_cons]
     omega
    have hrl:∀z:List MV,bB ((F++m::M).map TU.c++ex) F.length (List.replicate (log.length - F.length) z)=F.map TU.c++(List.replicate (log.length - F.length) z++ex):=fun z=>by
     unfold bB
     rw[List.map_append,List.length_replicate]
     have h1:List.take F.length (F.map TU.c++(m::M).map TU.c++ex)=F.map TU.c:=by rw[List.append_assoc];exact List.take_left' hFl
     have h2:F.length+(log.length - F.length)=(F.map TU.c++(m::M).map TU.c).length:=by simp only[List.length_append,List.length_map,List.length_cons];omega
     rw[h1,h2,List.drop_left' rfl,List.append_assoc]
    obtain⟨R0,hR0⟩:∃R0,(F++m::M).map TU.c++ex=R0:=⟨_,rfl⟩
    rw[hR0] at hlen hrl ⊢
    repeat' first|refine wZ3 @FXs @hlen @hrl ?_|fail
    all_goals (try (exfalso;omega))
    all_goals first|exact⟨_,St.le_refl _⟩|exact⟨_,rfl,St.le_refl _⟩
theorem VL{P:Program}{h0:FuncId}{ms:List MV}{σ:St}{b g:Nat}{ob og:aW}{og':List (List MV)→aW}{rv:MV}{k:MV→St→Prop}(hb:σ b=some ob)(hg:σ g=some og)
 (h:aA P h0 ms ((St.none.set b ob).set g og) fun r σ'=>r=rv∧∃ex',σ'=St.none.set g (og' ex'))(hk:∀ex',R (bY rv ((σ.del b).set g (og' ex')) k)):R (cU P h0 ms σ k) :=
 bJ h (St.aB (St.aB (St.none_le _) hb) hg) fun r σ' hv' hf=>by
  obtain⟨rfl,ex',rfl⟩:=hv'
  have e:(St.none.set g (og' ex')).over (σ.minus ((St.none.set b ob).set g og))=(σ.del b).set g (og' ex'):=by
   funext j
   by_cases h1:j=g
   ·subst h1;simp[St.over,St.set]
   ·by_cases h2:j=b
    ·subst h2;simp[St.over,St.set,St.minus,St.del,St.none,h1]
    ·simp[St.over,St.set,St.minus,St.del,St.none,h1,h2]
  rw[e]
  exact hk ex'
theorem Hj{g v:Nat}(hvg:v≠g)(f sm:Nat)(mk:UInt32)(z:VS)(hl:z.log.length≤1000)(ex:List (List MV))(fl:Int) :
  aA Tryz.prog 27 [.ptr v 0 0,.int .i64 fl] ((St.none.set g (lgO z.log ex)).set v (vwO f mk sm z.floor z.now (.vec 31 g 0 z.log.length))) (fun _ σ'=>∃ex',σ'=(St.none.set g (lgO (iR z fl).log ex')).set v (vwO f mk sm (iR z fl).floor z.now (.vec 31 g 0 (iR z fl).log.length))):=by
 refine aA.less (Q':=fun _ σ'=>∃ex',((St.none.set g (lgO (iR z fl).log ex')).set v (vwO f mk sm (iR z fl).floor z.now (.vec 31 g 0 (iR z fl).log.length))).le σ') (mB 29 [] Tryz.func27 ?_) fun r σ' ⟨ex',h⟩=>⟨_,h,ex',rfl⟩
 have hgv:=Ne.symm hvg
 have hd:=fun(b:Nat) (hb:b≠g)=>(aA.pre (ms':=[.vec 31 g 0 z.log.length,.fn (.func 95) [] [.cptr [.int .i64 fl]]]) (ms:=[.vec 31 g 0 z.log.length,.fn (.func 95) [] [.ptr b 0 0]]) rfl (aV.freeze (σ:=(St.none.set b (.row 3 1 [[.int .i64 fl]])).set g (lgO z.log ex)) (σ1:=St.none.set g (lgO z.log ex)) (St.none.set b (.row 3 1 [[.int .i64 fl]])) (St.aB (St.none_le _) (by rw[aF _ _ _ _ hb];exact aD _ _ _)) (St.aB (St.none_le _) (aD _ _ _)) (fun k o hk=>by
   by_cases h1:k=g
   ·subst h1;exact aF _ _ _ _ (Ne.symm hb)
   ·rw[aF _ _ _ _ h1] at hk;cases hk) (fun p hp=>by
   simp only[gZ,List.mem_cons,List.not_mem_nil,or_false] at hp
   rcases hp with rfl|rfl
   ·exact .same _
   ·exact .fn rfl (rG (View.ptr (i:=0) (o:=0) (aD _ _ _) (by simp))))) (JL (g:=g) z.log oM ex fl))
 have hfl:(if (if z.now<fl then z.now else fl) > z.floor then(if z.now<fl then z.now else fl) else z.floor)=(iR z fl).floor:=by
  unfold iR
  simp only
  split<;>split<;>omega
 have hlg:(iR z fl).log=cM z.log fl:=rfl
 rw[hlg]
 repeat' first|(refine wM ?_;(first|(have _:=nl1)|(intro nl1));intros)|refine wV ?_|refine wZ3 @Tryz.f27.eq_1 @FXs @hfl ?_|fail
 have n1:nl1≠g:=by assumption
 have n2:nl1≠v:=by assumption
 have n1':=Ne.symm n1
 have n2':=Ne.symm n2
 refine VL sS sS (hd nl1 n1) fun ex'=>?_
 repeat' first|refine wZ1 @FXs ?_|fail
 exact⟨ex',le2 (by simp[St.set,St.del, *]) (by simp[St.set,St.del, *])⟩
end
end Go.Proofs.YtppdgejjmhdjhaaGreatDoor
