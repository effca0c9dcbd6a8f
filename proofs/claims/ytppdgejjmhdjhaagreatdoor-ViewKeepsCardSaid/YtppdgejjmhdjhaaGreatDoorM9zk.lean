/- Parts of the proof; conditions: as its theorems name them. -/
import Derived.Test.YtppdgejjmhdjhaaGreatDoorM9zh
import Derived.Test.YtppdgejjmhdjhaaGreatDoorM9zi
import Derived.Test.YtppdgejjmhdjhaaGreatDoorM9zj
set_option linter.unusedVariables false
set_option linter.unusedSimpArgs false
set_option maxHeartbeats 8000000
set_option maxRecDepth 100000
namespace Go.Proofs.YtppdgejjmhdjhaaGreatDoor
section
structure ASK where
 frm:Int
 cur:Int
 page:Int
 trim:Int
abbrev ASK.c(q:ASK):List MV:=[.int .i64 q.frm,.int .i64 q.cur,.int .i64 q.page,.int .i64 q.trim]
theorem Xd{n:Nat}{x:List MV}(h:CT Tryz.prog (n+2) 28 x):∃d:ASK,x=d.c:=by
 obtain⟨hl,hf⟩:=lF (congrArg TD.k Ue) h
 rw[Ue] at hl
 obtain⟨a,ha,_⟩:=Aw (hf (0,3) (by simp))
 obtain⟨b,hb,_⟩:=Aw (hf (1,3) (by simp))
 obtain⟨c,hc,_⟩:=Aw (hf (2,3) (by simp))
 obtain⟨d,hd,_⟩:=Aw (hf (3,3) (by simp))
 simp only[td3] at ha hb hc hd
 refine⟨⟨a,b,c,d⟩,?_⟩
 rw[oT hl [(0,1),(1,1),(2,1),(3,1)] rfl]
 simp only[yJ,ha,hb,hc,hd]
 rfl
theorem W4{m:MV}(h:AT Tryz.prog 10 28 m):∃s:ASK,m=.agg s.c:=by
 obtain⟨cs,rfl,h1⟩:=OZ (by rw[Ue];rfl) h
 obtain⟨x,rfl⟩:=Xd (n:=8) h1
 exact⟨x,rfl⟩
end

section
def qC(l:List GR)(g id:Int):List GR:=if g∈l.map GR.no∧id∈bI l g then fK l g (dF (bI l g) id) else l
def dJ(B:BK)(g:Int):List (Int × Int)→List BK
 | []=>[]
 | x::r=>⟨x.1,B.nx,B.cards,B.dead,qC B.gr g x.2⟩::dJ ⟨x.1,B.nx,B.cards,B.dead,qC B.gr g x.2⟩ g r
def dX(B:BK)(x:ED):List BK:=if doE B x≠0 then[] else dJ B x.gr (cV B.sq (doC B x)).dropLast++[doB B x]
noncomputable def oZ(was now:BK)(fl:List ND)(mk:UInt32)(z:VS)(seq id:Int):VS :=
 if id=0 then { z with now:=seq } else
  { z with floor:=if cW was fl id=cW now fl id then z.floor else mL z.floor z.log (mR now fl mk (cW was fl id) seq id),now:=seq,log:=if cW was fl id=cW now fl id then z.log else gY z.log (mR now fl mk (cW was fl id) seq id) }
noncomputable def kC(fl:List ND)(mk:UInt32):VS→BK→List BK→List (Int × Int)→VS
 | z,was,n::r,x::s=>kC fl mk (oZ was n fl mk z x.1 x.2) n r s
 | z,_,_,_=>z
def o7(z w:VS):Prop:=z.floor=w.floor∧z.now=w.now∧z.log=w.log
structure C3 (B:BK) (fl:List ND) (z:VS):Prop extends LInv z where
 sh:∀j,shG z.sh j=cW B fl j
 at_:z.now=B.sq
theorem l7{B B':BK}{fl:List ND}{j:Int}(h:shown B fl j=shown B' fl j):cW B fl j=cW B' fl j:=by unfold cW;rw[h]
theorem wU(B:BK)(fl:List ND)(mk:UInt32)(z:VS)(seq id:Int):(iQ B fl mk z seq id).now=seq:=by
 rw[uW]
 split<;>rfl
theorem wX{B was now:BK}{fl:List ND}{mk:UInt32}{z w:VS}(h:o7 z w){seq id:Int}(hs:id≠0→shG z.sh id=cW was fl id∧shown B fl id=shown now fl id):o7 (iQ B fl mk z seq id) (oZ was now fl mk w seq id):=by
 obtain⟨h1,h2,h3⟩:=h
 rw[uW]
 unfold oZ
 by_cases h0:id=0
 ·rw[if_pos h0,if_pos h0]
  exact⟨h1,rfl,h3⟩
 ·rw[if_neg h0,if_neg h0]
  obtain⟨q1,q2⟩:=hs h0
  have q3:=l7 (fl:=fl) q2
  have q4:mR B fl mk (cW was fl id) seq id=mR now fl mk (cW was fl id) seq id:=by unfold mR;rw[q2]
  refine⟨?_,rfl,?_⟩
  ·simp only[q1,q3,q4,h1,h3]
  ·simp only[q1,q3,q4,h1,h3]
theorem Uc{s:Int}{l:List Int}:cV s (l++[0])≠[]:=by
 cases l<;>simp[cV]
theorem KI{l:List GR}{g:Int}{m:List Int}:mS (fK l g m) g=mS l g:=by
 unfold mS fK
 induction l with
 | nil=>rfl
 | cons x l ih =>
  rw[List.map_cons,List.filter_cons,List.filter_cons,ih]
  by_cases e:x.no=g
  ·rw[if_pos e];simp[e]
  ·rw[if_neg e]
theorem FT{l:List GR}(hu:UpI (l.map GR.no)){g:Int}(hg:g∈l.map GR.no)(m:List Int):bI (fK l g m) g=m:=by
 obtain⟨y,h1,h2,-,-⟩:=gJ hu hg
 have hy:(⟨g,m⟩:GR)∈fK l g m:=List.mem_map.2 ⟨y,h1,by rw[if_pos h2]⟩
 exact uB (l:=fK l g m) (by rw[oI];exact hu) hy
theorem Mm{m:Int}{r:List Int}(hu:UpI (m::r)):dF (m::r) m=r:=by
 obtain⟨u1,u2⟩:=List.pairwise_cons.1 hu
 unfold dF
 rw[List.filter_cons,if_neg (by simp),List.filter_eq_self]
 intro y hy
 have:=u1 y hy
 simp;omega
theorem A4(B:BK)(fl:List ND)(mk:UInt32)(z:VS)(x:Int × Int)(l:List (Int × Int)):fG B fl mk z (x::l)=fG B fl mk (iQ B fl mk z x.1 x.2) l:=rfl
theorem B7{F:BK}(hF:BkW F){fl:List ND}{mk:UInt32}{g:Int}:∀(ms:List Int) (B:BK) (z w:VS) (s:Int),LInv z→(∀j,shG z.sh j=cW B fl j)→z.now=s→o7 z w→B.cards=F.cards→UpI (B.gr.map GR.no)→g∈B.gr.map GR.no→bI B.gr g=ms→UpI ms→(∀m,m∈ms→1≤m∧m<1073741824)→mS B.gr g=F.gr →
  LInv (fG F fl mk z (cV s (ms++[0])))∧(∀j,shG (fG F fl mk z (cV s (ms++[0]))).sh j=cW F fl j)∧(fG F fl mk z (cV s (ms++[0]))).now=s+(ms.length+1:Nat)∧o7 (fG F fl mk z (cV s (ms++[0]))) (kC fl mk w B (dJ B g (cV s (ms++[0])).dropLast++[F]) (cV s (ms++[0])))
 | [],B,z,w,s,hz,hsh,hn,h3,hc,hu,hg,hm,_,_,hcl=>by
  have hx:∀x,x∈B.gr→x.no=g→x.mem=[]:=fun x hx e=>by rw[←uB hu hx,e,hm]
  have hsame:∀j,shown F fl j=shown B fl j:=fun j=>oU (by rw[hc]) (by rw[←hcl];exact K6 fun x h e=>by rw[hx x h e];exact List.not_mem_nil)
  have hl:cV s (([]:List Int)++[0])=[(s+1,0)]:=rfl
  rw[hl]
  refine⟨wR (fl:=fl) (mk:=mk) hF hz oM (.inl rfl),fun j=>?_,?_,?_⟩
  ·rw[A4]
   show shG (iQ F fl mk z (s+1) 0).sh j=_
   rw[uX hz.key,if_neg fun h=>h.1 rfl,hsh]
   exact(l7 (fl:=fl) (hsame j)).symm
  ·exact wU F fl mk z (s+1) 0
  ·exact wX (B:=F) (was:=B) (now:=F) (fl:=fl) (mk:=mk) h3 fun h=>absurd rfl h
 | m::r,B,z,w,s,hz,hsh,hn,h3,hc,hu,hg,hm,hum,hmb,hcl=>by
  obtain⟨u1,u2⟩:=List.pairwise_cons.1 hum
  have hm0:=hmb m (List.mem_cons_self ..)
  have hl:cV s ((m::r)++[0])=(s+1,m)::cV (s+1) (r++[0]):=rfl
  have hq:qC B.gr g m=fK B.gr g r:=by
   unfold qC
   rw[if_pos ⟨hg,by rw[hm];exact List.mem_cons_self ..⟩,hm,Mm hum]
  have hd:((s+1,m)::cV (s+1) (r++[0])).dropLast=(s+1,m)::(cV (s+1) (r++[0])).dropLast:=List.dropLast_cons_of_ne_nil Uc
  obtain⟨B',hB'⟩:∃B':BK,B'=⟨s+1,B.nx,B.cards,B.dead,qC B.gr g m⟩:=⟨_,rfl⟩
  have hgr':B'.gr=fK B.gr g r:=by rw[hB'];exact hq
  have hcd':B'.cards=B.cards:=by rw[hB']
  have hin:∀x,x∈fK B.gr g r→x.no=g→x.mem=r:=fun x hx e=>by
   have:=uB (l:=fK B.gr g r) (by rw[oI];exact hu) hx
   rw[e,FT hu hg] at this
   exact this.symm
  have hmr:m∉r:=fun h=>by have:=u1 m h;omega
  have hFm:shown F fl m=shown B' fl m:=oU (by rw[hcd',hc]) (by rw[←hcl,hgr',←KI (m:=r)];exact K6 fun x hx e=>by rw[hin x hx e];exact hmr)
  have hBj:∀j,j≠m→shown B' fl j=shown B fl j:=fun j hj=>oU (by rw[hcd']) (by
   rw[hgr']
   refine K9 fun x hx e=>?_
   rw[←uB hu hx,e,hm,List.mem_cons]
   exact⟨.inr,fun h=>h.resolve_left hj⟩)
  rw[hl,hd,A4,dJ,←hB',List.cons_append,kC]
  have key:=B7 (fl:=fl) (mk:=mk) hF r B' (iQ F fl mk z (s+1) m) (oZ B B' fl mk w (s+1) m) (s+1) (wR (fl:=fl) (mk:=mk) hF hz oM (.inr hm0)) (fun j=>by
   rw[uX hz.key]
   by_cases e:j=m
   ·rw[if_pos ⟨by omega,e⟩,e];exact l7 (fl:=fl) hFm
   ·rw[if_neg fun h=>e h.2,hsh];exact(l7 (fl:=fl) (hBj j e)).symm) (wU F fl mk z (s+1) m) (wX h3 fun _=>⟨hsh m,hFm⟩) (by rw[hcd',hc]) (by rw[hgr',oI];exact hu) (by rw[hgr',oI];exact hg) (by rw[hgr',FT hu hg]) u2 (fun y hy=>hmb y (List.mem_cons_of_mem _ hy)) (by rw[hgr',KI,hcl])
  refine⟨key.1,key.2.1,by rw[key.2.2.1,List.length_cons];omega,key.2.2.2⟩
theorem Pm(B:BK)(x:ED):(doB B x).sq=B.sq+((doC B x).length:Int):=rfl
theorem Mo{B:BK}(hb:BkW B){fl:List ND}{mk:UInt32}{z w:VS}(hz:C3 B fl z)(h3:o7 z w)(x:ED) :
  C3 (doB B x) fl (fG (doB B x) fl mk z (cV B.sq (doC B x)))∧o7 (fG (doB B x) fl mk z (cV B.sq (doC B x))) (kC fl mk w B (dX B x) (cV B.sq (doC B x))):=by
 have hw:=doW hb x
 rcases kB hb x fl with⟨e1,e2,e3⟩|⟨e1,i,e2,e3,e4⟩|⟨e1,e2,e3,e4⟩
 ·unfold dX
  rw[if_pos e1,e2,e3]
  exact⟨hz,h3⟩
 ·unfold dX
  have hsq:=Pm B x
  rw[e2] at hsq
  rw[if_neg (by simpa using e1),e2]
  have hl:cV B.sq [i]=[(B.sq+1,i)]:=rfl
  rw[hl]
  have hlt:z.now<B.sq+1:=by rw[hz.at_];omega
  refine⟨⟨wR hw hz.toLInv hlt e3,fun j=>?_,by rw[hsq];exact wU ..⟩,?_⟩
  ·show shG (iQ (doB B x) fl mk z (B.sq+1) i).sh j=_
   rw[uX hz.key]
   by_cases e:i≠0∧j=i
   ·rw[if_pos e,e.2]
   ·rw[if_neg e,hz.sh]
    refine(l7 (e4 j ?_)).symm
    by_cases h:j=i
    ·exact .inr (Classical.byContradiction fun q=>e ⟨q,h⟩)
    ·exact .inl h
  ·exact wX h3 fun _=>⟨hz.sh i,rfl⟩
 ·obtain⟨m1,m2⟩:=Af hb x.gr
  obtain⟨y,hy,-,hym,-⟩:=gJ hb.upg e3
  obtain⟨c1,c2,c3,c4⟩:=B7 hw (fl:=fl) (mk:=mk) (g:=x.gr) (bI B.gr x.gr) B z w B.sq hz.toLInv hz.sh hz.at_ h3 (by rw[e4]) hb.upg e3 rfl m1 (fun m hm=>by rw[hym] at hm;exact hb.mid y hy m hm) (by rw[e4])
  unfold dX
  rw[if_neg (by simpa using e1),e2]
  exact⟨⟨c1,c2,by rw[c3,e4]⟩,c4⟩
theorem MI{B:BK}(hb:BkW B)(fl:List ND)(j:Int):j∈rI B fl↔cW B fl j≠0:=by
 constructor
 ·intro h
  obtain⟨c,hc,rfl⟩:=List.mem_map.1 h
  obtain⟨h1,h2⟩:=List.mem_filter.1 hc
  refine LV hb ?_
  obtain⟨y,-,q2,q3,q4⟩:=oC (f:=CA.id) hb.ups (List.mem_map.2 ⟨c,h1,rfl⟩)
  have:y=c:=yT (f:=CA.id) hb.ups q4 h1 q2
  subst this
  unfold shown
  rw[q3]
  simp only[h2,if_true]
  rfl
 ·intro h
  cases hs:shown B fl j with
  | none=>exact absurd (Ba hs) h
  | some c =>
   obtain⟨h1,rfl⟩:=s7 hs
   refine List.mem_map.2 ⟨c,List.mem_filter.2 ⟨h1,?_⟩,rfl⟩
   unfold shown at hs
   split at hs
   ·cases hs
   ·rename_i d hd
    split at hs
    ·cases hs;assumption
    ·cases hs
theorem LA{j:Int}:∀{sh:List (Int × Int)},(sh.map (·.1)).Nodup→(∀p,p∈sh→p.2≠0)→(j∈sh.map (·.1)↔shG sh j≠0)
 | [],_,_=>by simp[shG]
 | (i,u)::r,hn,hv=>by
  obtain⟨n1,n2⟩:=List.nodup_cons.1 hn
  unfold shG
  by_cases e:i=j
  ·rw[if_pos e]
   exact⟨fun _=>hv (i,u) (List.mem_cons_self ..),fun _=>by rw[List.map_cons,e];exact List.mem_cons_self ..⟩
  ·rw[if_neg e,←LA n2 fun p hp=>hv p (List.mem_cons_of_mem _ hp),List.map_cons,List.mem_cons]
   exact⟨fun h=>h.resolve_left fun q=>e q.symm,.inr⟩
theorem PI{B:BK}(hb:BkW B)(fl:List ND):UpI (rI B fl):=by
 unfold rI
 exact hb.ups.sublist (List.Sublist.map _ List.filter_sublist)
theorem RR{B:BK}(hb:BkW B){fl:List ND}{z:VS}(hz:C3 B fl z)(j:Int):j∈z.sh.map (·.1)↔j∈rI B fl:=by
 rw[LA hz.key hz.val,hz.sh,MI hb]
end

section
theorem En(seq old id:Int)(c:CA)(is:Bool):aA Tryz.prog 184 [.int .i64 seq,.int .i64 old,.int .i64 id,.agg c.c,.bool is] St.none (fun r _=>r=.tup [.agg (if old=(gE seq old id c is).new then tu0 else gE seq old id c is).c,.bool (!decide (old=(gE seq old id c is).new))]):=by
 refine aA.bR (mB 30 [.cell 10 128,.tmp 11] Tryz.func184 ?_)
 obtain⟨T,hT⟩:∃T,gE seq old id c is=T:=⟨_,rfl⟩
 have hn:T.new=if is=true then c.ver else 0:=by rw[←hT];rfl
 have hTc:T.c=.int .i64 seq::.int .i64 id::.int .i64 old::.int .i64 (if is=true then c.ver else 0)::(if is=true then c else ca0).c:=by rw[←hT];rfl
 rw[hT]
 cases is
 ·simp only[Bool.false_eq_true,if_false] at hn hTc
  by_cases h:old=0
  ·rw[if_pos (h.trans hn.symm),decide_eq_true (h.trans hn.symm)]
   subst h
   repeat' first|(refine wO ?_;intros)|(refine wY ?_ ?_<;>intro h)|refine wZ2 @Tryz.f184.eq_1 @FXs ?_|exact wC2 @Tryz.f184.eq_1 @FXs|fail
   all_goals exact lE
  ·rw[if_neg (fun e=>h (e.trans hn)),decide_eq_false (fun e=>h (e.trans hn)),hTc]
   repeat' first|(refine wO ?_;intros)|(refine wY ?_ ?_<;>intro h)|refine wZ2 @Tryz.f184.eq_1 @FXs ?_|exact wC2 @Tryz.f184.eq_1 @FXs|fail
   all_goals exact lE
 ·simp only[if_true] at hn hTc
  by_cases h:old=c.ver
  ·rw[if_pos (h.trans hn.symm),decide_eq_true (h.trans hn.symm)]
   subst h
   repeat' first|(refine wO ?_;intros)|(refine wY ?_ ?_<;>intro h)|refine wZ2 @Tryz.f184.eq_1 @FXs ?_|exact wC2 @Tryz.f184.eq_1 @FXs|fail
   all_goals exact lE
  ·rw[if_neg (fun e=>h (e.trans hn)),decide_eq_false (fun e=>h (e.trans hn)),hTc]
   repeat' first|(refine wO ?_;intros)|(refine wY ?_ ?_<;>intro h)|refine wZ2 @Tryz.f184.eq_1 @FXs ?_|exact wC2 @Tryz.f184.eq_1 @FXs|fail
   all_goals exact lE
abbrev dvC(fl:List ND)(tf:Bool)(mk:UInt32)(w:VS):List MV:=[.lst 5 (fl.map ND.c) tf,.int .u32 (mk.toNat:Int),.int .i64 w.floor,.int .i64 w.now,.lst 31 (w.log.map TU.c) false]
abbrev dvO(fl:List ND)(tf:Bool)(mk:UInt32)(w:VS):aW:=.row 84 5 [dvC fl tf mk w]
theorem E1(fl:List ND)(tf:Bool)(mk:UInt32)(w:VS)(hl:w.log.length≤1000000)(hT:∀t,t∈w.log→TOk t)(hq:∀t,t∈w.log→1≤t.sq∧t.sq≤1099511627776)(from_ cur page:Int) :
  aA Tryz.prog 35 [.agg (dvC fl tf mk w),.int .i64 from_,.int .i64 cur,.int .i64 page] St.none (fun r _=>r=if from_<w.floor∨w.now<from_ then .tup [.lst 28 [] false,.int .i64 0,.bool false] else .tup [.lst 28 ((tN w.log from_ w.now cur page).1.map IT.k) false,.int .i64 (tN w.log from_ w.now cur page).2,.bool true]):=by
 have hct:=Oi w.log hl from_ w.now cur page hT hq false
 have vt:∀{σ:St} {a a' b c:MV},View σ a a'→View σ (.tup [a,b,c]) (.tup [a',b,c]):=fun {σ a a' b c} h=>.tup rfl fun i m m' hm hm'=>by
  match i with
  | 0=>simp at hm hm';subst hm;subst hm';exact h
  | 1=>simp at hm hm';subst hm;subst hm';exact .same _
  | 2=>simp at hm hm';subst hm;subst hm';exact .same _
  | i+3=>simp at hm
 refine aA.seen (mB 36 [.tmp 8,.tmp 9,.tmp 10] Tryz.func35 ?_)
 by_cases h1:from_<w.floor
 ·rw[if_pos (.inl h1)]
  repeat' first|(refine wO ?_;intros)|(refine wY ?_ ?_<;>intro h)|refine wZ2 @Tryz.f35.eq_1 @FXs ?_|exact wC2 @Tryz.f35.eq_1 @FXs|fail
  all_goals first|exact vt (.nil _ _)|(exfalso;omega)
 ·by_cases h2:w.now<from_
  ·rw[if_pos (.inr h2)]
   repeat' first|(refine wO ?_;intros)|(refine wY ?_ ?_<;>intro h)|refine wZ2 @Tryz.f35.eq_1 @FXs ?_|exact wC2 @Tryz.f35.eq_1 @FXs|fail
   all_goals first|exact vt (.nil _ _)|(exfalso;omega)
  ·rw[if_neg oM]
   repeat' first|(with_reducible first|refine up hct ?_)|(refine wO ?_;intros)|(refine wY ?_ ?_<;>intro h)|refine wZ2 @Tryz.f35.eq_1 @FXs ?_|exact wC2 @Tryz.f35.eq_1 @FXs|fail
   all_goals first|exact .same _|(exfalso;omega)
theorem Iz(o:Nat){was now:BK}(hw:BkW was)(hn:BkW now){fl:List ND}(hp:bS fl=0)(tf:Bool)(mk:UInt32)(w:VS)(hl:w.log.length≤1000)(seq id:Int) :
  aA Tryz.prog 99 [.ptr o 0 0,.agg was.c,.agg now.c,.agg [.int .i64 seq,.int .i64 id]] (St.none.set o (dvO fl tf mk w)) (fun r σ'=>r=.tup []∧σ'=St.none.set o (dvO fl tf mk (oZ was now fl mk w seq id))):=by
 have q1:∀{B:BK},BkW B→B.gr.length≤1000000:=fun h=>by have:=h.ng;omega
 have q2:∀{B:BK},BkW B→∀g,g∈B.gr→g.mem.length≤1000000:=fun h g hg=>by have:=h.nm g hg;omega
 have hsh:=xZ now hn.toBkR (q1 hn) (q2 hn) fl hp tf id
 have hve:=Ov was hw.toBkR (q1 hw) (q2 hw) fl hp tf id
 have hpj:=AP ((shown now fl id).getD ca0) mk
 have hof:=En seq (cW was fl id) id (fL ((shown now fl id).getD ca0) mk) (shown now fl id).isSome
 have hT:gE seq (cW was fl id) id (fL ((shown now fl id).getD ca0) mk) (shown now fl id).isSome=mR now fl mk (cW was fl id) seq id:=rfl
 rw[hT,xB] at hof
 unfold oZ
 by_cases h0:id=0
 ·subst h0
  rw[if_pos rfl]
  refine aA.gh (mB 82 [] Tryz.func99 ?_)
  clear hsh hve hpj hof
  repeat' first|(refine wM ?_;(first|(have _:=nl9)|(have _:=nl8;intro nl9)|(have _:=nl7;intro nl8)|(have _:=nl6;intro nl7)|(have _:=nl5;intro nl6)|(have _:=nl4;intro nl5)|(have _:=nl3;intro nl4)|(have _:=nl2;intro nl3)|(have _:=nl1;intro nl2)|(intro nl1));intros)|refine wV ?_|(refine wY ?_ ?_<;>intro h)|refine wZ2 @Tryz.f99.eq_1 @FXs ?_|exact wC2 @Tryz.f99.eq_1 @FXs|fail
  all_goals (try (exfalso;omega))
  all_goals exact .of (aV.drop (St.aB (St.none_le _) sS)) ⟨_,rfl,rfl,rfl⟩
 rw[if_neg h0]
 obtain⟨c,hc⟩:∃c,(shown now fl id).getD ca0=c:=⟨_,rfl⟩
 obtain⟨is,his⟩:∃is,(shown now fl id).isSome=is:=⟨_,rfl⟩
 obtain⟨T,hTe⟩:∃T,mR now fl mk (cW was fl id) seq id=T:=⟨_,rfl⟩
 obtain⟨vo,hvo⟩:∃v,cW was fl id=v:=⟨_,rfl⟩
 obtain⟨vn,hvn⟩:∃v,cW now fl id=v:=⟨_,rfl⟩
 obtain⟨pc,hpc⟩:∃pc,fL c mk=pc:=⟨_,rfl⟩
 rw[hc,his] at hsh hof
 rw[hc] at hpj
 rw[hpc] at hpj hof
 rw[hTe,hvo,hvn] at hof
 rw[hvo] at hve
 rw[hTe,hvo,hvn]
 clear hT hTe hvo hvn hpc hc his
 by_cases he:vo=vn
 ·rw[if_pos he,decide_eq_true he,Bool.not_true] at hof
  rw[if_pos he,if_pos he]
  obtain⟨C,k1,k2,k3,k4⟩:=kw4 183 ⟨[],fun v=>v=.tup [.agg c.c,.bool is],none⟩ 117 ⟨[],fun v=>v=.int .i64 vo,none⟩ 92 ⟨[],fun v=>v=.agg pc.c,none⟩ 184 ⟨[],fun v=>v=.tup [.agg tu0.c,.bool false],none⟩
  refine aA.gh (mB 82 [] Tryz.func99 ?_)
  repeat' first|(refine aI mixed dK C ?_)|(with_reducible refine aG (k1 _) hsh ?_)|(with_reducible refine aG (k2 _) hve ?_)|(with_reducible refine aG (k3 _) hpj ?_)|(with_reducible refine aG (k4 _) hof ?_)|(refine wM ?_;(first|(have _:=nl9)|(have _:=nl8;intro nl9)|(have _:=nl7;intro nl8)|(have _:=nl6;intro nl7)|(have _:=nl5;intro nl6)|(have _:=nl4;intro nl5)|(have _:=nl3;intro nl4)|(have _:=nl2;intro nl3)|(have _:=nl1;intro nl2)|(intro nl1));intros)|refine wV ?_|(refine wY ?_ ?_<;>intro h)|refine wZ2 @Tryz.f99.eq_1 @FXs ?_|exact wC2 @Tryz.f99.eq_1 @FXs|fail
  all_goals (try (exfalso;omega))
  all_goals exact .of (aV.drop (St.aB (St.none_le _) sS)) ⟨_,rfl,rfl,rfl⟩
 ·rw[if_neg he,decide_eq_false he,Bool.not_false] at hof
  rw[if_neg he,if_neg he]
  obtain⟨C,k1,k2,k3,k4⟩:=kw4 183 ⟨[],fun v=>v=.tup [.agg c.c,.bool is],none⟩ 117 ⟨[],fun v=>v=.int .i64 vo,none⟩ 92 ⟨[],fun v=>v=.agg pc.c,none⟩ 184 ⟨[],fun v=>v=.tup [.agg T.c,.bool true],none⟩
  have hml:(w.log.map TU.c).length=w.log.length:=List.length_map _
  have hfc:=tP T.card.f
  by_cases h4:w.log.length<40
  ·rw[show gY w.log T=w.log++[T] from if_pos h4,show mL w.floor w.log T=w.floor from if_pos h4]
   refine aA.gh (mB 82 [] Tryz.func99 ?_)
   repeat' first|(refine aI mixed dK C ?_)|(with_reducible refine aG (k1 _) hsh ?_)|(with_reducible refine aG (k2 _) hve ?_)|(with_reducible refine aG (k3 _) hpj ?_)|(with_reducible refine aG (k4 _) hof ?_)|(refine wM ?_;(first|(have _:=nl9)|(have _:=nl8;intro nl9)|(have _:=nl7;intro nl8)|(have _:=nl6;intro nl7)|(have _:=nl5;intro nl6)|(have _:=nl4;intro nl5)|(have _:=nl3;intro nl4)|(have _:=nl2;intro nl3)|(have _:=nl1;intro nl2)|(intro nl1));intros)|refine wV ?_|(refine wY ?_ ?_<;>intro h)|refine wZ4 @Tryz.f99.eq_1 @FXs @hml @hfc ?_|exact wC4 @Tryz.f99.eq_1 @FXs @hml @hfc|fail
   all_goals (try (exfalso;omega))
   all_goals
    have hnm:(w.log++[T]).map TU.c=w.log.map TU.c++[T.c]:=List.map_append
    have n1:o≠nl9:=by assumption
    refine .step (aV.IE nl9 o (oq:=.row 128 31 (w.log.map TU.c++[T.c])) (t:=84) (e:=5) (m:=.vec 31 nl9 0 (w.log.length+1)) [.lst 5 (fl.map ND.c) tf,.int .u32 (mk.toNat:Int),.int .i64 w.floor,.int .i64 seq] [] (m1:=.lst 31 (w.log.map TU.c++[T.c]) false) sS sS n1 (View.vecAll (aD _ _ _) (by rw[List.length_append,hml];rfl)) rfl) (.of (aV.drop (σ1:=St.none.set o (dvO fl tf mk { sh:=w.sh,floor:=w.floor,now:=seq,log:=w.log++[T] })) (St.aB (St.none_le _) (by rw[aD,dvO,dvC,hnm];rfl))) ⟨_,rfl,rfl,rfl⟩)
  ·obtain⟨t0,L,hL⟩:∃t0 L,w.log=t0::L:=by
    cases h:w.log with
    | nil=>rw[h] at h4;simp at h4
    | cons a b=>exact⟨a,b,rfl⟩
   rw[show gY w.log T=L++[T] by unfold gY;rw[if_neg h4,hL];rfl,show mL w.floor w.log T=t0.sq by unfold mL;rw[if_neg h4,hL];rfl]
   have hLl:L.length+1=w.log.length:=by rw[hL];rfl
   have hmL:(L.map TU.c).length=L.length:=List.length_map _
   have hlm:w.log.map TU.c=t0.c::L.map TU.c:=by rw[hL,List.map_cons]
   rw[hlm] at hml
   simp only[dvO,dvC,hlm]
   refine aA.gh (mB 82 [] Tryz.func99 ?_)
   repeat' first|(refine aI mixed dK C ?_)|(with_reducible refine aG (k1 _) hsh ?_)|(with_reducible refine aG (k2 _) hve ?_)|(with_reducible refine aG (k3 _) hpj ?_)|(with_reducible refine aG (k4 _) hof ?_)|(refine wM ?_;(first|(have _:=nl9)|(have _:=nl8;intro nl9)|(have _:=nl7;intro nl8)|(have _:=nl6;intro nl7)|(have _:=nl5;intro nl6)|(have _:=nl4;intro nl5)|(have _:=nl3;intro nl4)|(have _:=nl2;intro nl3)|(have _:=nl1;intro nl2)|(intro nl1));intros)|refine wV ?_|(refine wY ?_ ?_<;>intro h)|refine wZ6 @Tryz.f99.eq_1 @FXs @hml @hmL @hfc @List.cons_append.{0} ?_|exact wC6 @Tryz.f99.eq_1 @FXs @hml @hmL @hfc @List.cons_append.{0}|fail
   all_goals (try (exfalso;omega))
   all_goals
    have hnm:(L++[T]).map TU.c=L.map TU.c++[T.c]:=List.map_append
    have n1:o≠nl9:=by assumption
    have hv:=View.vec (σ:=St.none.set nl9 (.row 128 31 (t0.c::(L.map TU.c++[T.c])))) (l:=nl9) (lo:=1) (n:=w.log.length) (aD _ _ _) (by rw[List.length_cons,List.length_append,hmL];simp only[List.length_singleton];omega)
    rw[List.drop_succ_cons,List.drop_zero,List.take_of_length_le (by rw[List.length_append,hmL];simp only[List.length_singleton];omega)] at hv
    refine .step (aV.IE nl9 o (oq:=.row 128 31 (t0.c::(L.map TU.c++[T.c]))) (t:=84) (e:=5) (m:=.vec 31 nl9 1 w.log.length) [.lst 5 (fl.map ND.c) tf,.int .u32 (mk.toNat:Int),.int .i64 t0.sq,.int .i64 seq] [] (m1:=.lst 31 (L.map TU.c++[T.c]) false) ((aF _ _ _ _ (Ne.symm n1)).trans (aD _ _ _)) (aD _ _ _) n1 hv rfl) (.of (aV.drop (σ1:=St.none.set o (.row 84 5 [[.lst 5 (fl.map ND.c) tf,.int .u32 (mk.toNat:Int),.int .i64 t0.sq,.int .i64 seq,.lst 31 ((L++[T]).map TU.c) false]])) (St.aB (St.none_le _) (by rw[aD,hnm];rfl))) ⟨_,rfl,rfl,rfl⟩)
theorem IA(o:Nat)(fl:List ND)(tf:Bool)(mk:UInt32)(w:VS)(hl:w.log.length≤1000)(fr:Int):aA Tryz.prog 37 [.ptr o 0 0,.int .i64 fr] (St.none.set o (dvO fl tf mk w)) (fun r σ'=>r=.tup []∧σ'=St.none.set o (dvO fl tf mk (iR w fr))):=by
 have hfl:(if (if w.now<fr then w.now else fr) > w.floor then(if w.now<fr then w.now else fr) else w.floor)=(iR w fr).floor:=by
  unfold iR
  simp only
  split<;>split<;>omega
 have hlg:(iR w fr).log=cM w.log fr:=rfl
 have hnw:(iR w fr).now=w.now:=rfl
 simp only[dvO,dvC,hlg,hnw]
 obtain⟨F,hF⟩:∃F,(iR w fr).floor=F:=⟨_,rfl⟩
 rw[hF] at hfl ⊢
 have hml:(w.log.map TU.c).length=w.log.length:=List.length_map _
 refine aA.gh (mB 54 [] Tryz.func37 ?_)
 repeat' first|(refine wM ?_;(first|(have _:=nl3)|(have _:=nl2;intro nl3)|(have _:=nl1;intro nl2)|(intro nl1));intros)|refine wV ?_|(refine wY ?_ ?_<;>intro h)|refine wZ3 @Tryz.f37.eq_1 @FXs @hfl ?_|exact wC3 @Tryz.f37.eq_1 @FXs @hfl|fail
 have n1:nl1≠o:=by assumption
 refine aE (α:=Nat × Nat × List (List MV)) (fun s=>⟨54,[(5,.int .i64 (s.1:Int)),(4,.vec 31 s.2.1 0 (cM (w.log.take s.1) fr).length),(0,.ptr o 0 0),(1,.int .i64 fr)],[]⟩)
  (fun s=>(St.none.set o (.row 84 5 [[.lst 5 (fl.map ND.c) tf,.int .u32 (mk.toNat:Int),.int .i64 F,.int .i64 w.now,.lst 31 (w.log.map TU.c) false]])).set s.2.1 (.row 128 31 ((cM (w.log.take s.1) fr).map TU.c++s.2.2))) (fun s=>s.1≤w.log.length∧s.2.1≠o) (fun s=>w.log.length - s.1) ?_ ?_
 ·refine .of (.less ?_ (St.le_refl _)) ⟨(0,nl1,[]),rfl,by simp[cM],Nat.zero_le _,n1⟩
  simp(maxSteps:=4000000) (disch:=first|decide|assumption|omega|(simp only[wL];omega)) only[go_sem,simprocAttr,bC,aS]
  all_goals first|rfl|(simp[aS,cM];done)
 ·rintro⟨i,q,ex⟩ ⟨hi,hq⟩
  simp only at hi hq ⊢
  have hq':=Ne.symm hq
  by_cases hlt:i<w.log.length
  ·obtain⟨x,hx⟩:=bW w.log hlt
   have hat:=bF (f:=TU.c) hx
   have hsn:=tA (w.log.take i) x fr
   rw[←aP hx] at hsn
   have hfl:(cM (w.log.take i) fr).length≤i:=Nat.le_trans (OM _ _) (by rw[List.length_take];omega)
   obtain⟨L,hL⟩:∃L,cM (w.log.take i) fr=L:=⟨_,rfl⟩
   rw[hL] at hsn hfl ⊢
   have htk:(L.map TU.c++ex).take L.length=L.map TU.c:=mZ
   have hdr:(L.map TU.c++ex).drop (L.length+1)=ex.drop 1:=nZ
   have hLl:(L.map TU.c).length=L.length:=List.length_map _
   by_cases h0:x.sq≤fr
   ·rw[if_pos h0] at hsn
    repeat' first|(refine wM ?_;(first|(have _:=nl3)|(have _:=nl2;intro nl3)|(have _:=nl1;intro nl2)|(intro nl1));intros)|refine wV ?_|(refine wY ?_ ?_<;>intro h)|refine wZ3 @FXs @hat @hml ?_|exact wC3 @FXs @hat @hml|fail
    all_goals (try (exfalso;omega))
    all_goals
     refine .of (.less ?_ (σ1:=(St.none.set o (.row 84 5 [[.lst 5 (fl.map ND.c) tf,.int .u32 (mk.toNat:Int),.int .i64 F,.int .i64 w.now,.lst 31 (w.log.map TU.c) false]])).set q (.row 128 31 (L.map TU.c++ex))) (le2 sS sS)) ⟨(i+1,q,ex),rfl,by simp only[hsn],⟨by simp only;omega,hq⟩,by simp only;omega⟩
     simp only[hsn]
     exact wW
   ·rw[if_neg h0] at hsn
    have hnm:(L++[x]).map TU.c=L.map TU.c++[x.c]:=List.map_append
    repeat' first|(refine wM ?_;(first|(have _:=nl3)|(have _:=nl2;intro nl3)|(have _:=nl1;intro nl2)|(intro nl1));intros)|refine wV ?_|(refine wY ?_ ?_<;>intro h)|refine wZ6 @FXs @hat @hml @hLl @htk @hdr ?_|exact wC6 @FXs @hat @hml @hLl @htk @hdr|fail
    all_goals (try (exfalso;omega))
    ·obtain rfl:ex=[]:=List.eq_nil_of_length_eq_zero oM
     clear h
     refine .of (.less ?_ (σ1:=(St.none.set o (.row 84 5 [[.lst 5 (fl.map ND.c) tf,.int .u32 (mk.toNat:Int),.int .i64 F,.int .i64 w.now,.lst 31 (w.log.map TU.c) false]])).set nl3 (.row 128 31 ((L++[x]).map TU.c++[]))) ?_) ⟨(i+1,nl3,[]),rfl,by simp only[hsn],⟨by simp only;omega,by simp only;exact fun e=>by simp[e] at *⟩,by simp only;omega⟩
     ·simp only[hsn,List.length_append,List.length_singleton]
      exact wW
     ·rw[hnm]
      exact le2 sS sS
    ·clear h
     refine .of (.less ?_ (σ1:=(St.none.set o (.row 84 5 [[.lst 5 (fl.map ND.c) tf,.int .u32 (mk.toNat:Int),.int .i64 F,.int .i64 w.now,.lst 31 (w.log.map TU.c) false]])).set nl3 (.row 128 31 ((L++[x]).map TU.c++ex.drop 1))) ?_) ⟨(i+1,nl3,ex.drop 1),rfl,by simp only[hsn],⟨by simp only;omega,by assumption⟩,by simp only;omega⟩
     ·simp only[hsn,List.length_append,List.length_singleton]
      exact wW
     ·rw[hnm]
      exact le2 sS sS
  ·obtain rfl:i=w.log.length:=by omega
   rw[List.take_length]
   repeat' first|(refine wM ?_;(first|(have _:=nl3)|(have _:=nl2;intro nl3)|(have _:=nl1;intro nl2)|(intro nl1));intros)|refine wV ?_|(refine wY ?_ ?_<;>intro h)|refine wZ1 @FXs ?_|exact wC1 @FXs|fail
   all_goals
    refine .step (aV.IE q o (oq:=.row 128 31 ((cM w.log fr).map TU.c++ex)) (t:=84) (e:=5) (m:=.vec 31 q 0 (cM w.log fr).length) [.lst 5 (fl.map ND.c) tf,.int .u32 (mk.toNat:Int),.int .i64 F,.int .i64 w.now] [] (m1:=.lst 31 ((cM w.log fr).map TU.c) false) sS sS hq' (cX (aD _ _ _) (by rw[List.length_map])) rfl) (.of (aV.drop (σ1:=St.none.set o (.row 84 5 [[.lst 5 (fl.map ND.c) tf,.int .u32 (mk.toNat:Int),.int .i64 F,.int .i64 w.now,.lst 31 ((cM w.log fr).map TU.c) false]])) (St.aB (St.none_le _) (by rw[aD];rfl))) ⟨_,rfl,rfl,rfl⟩)
end

section
def gN(g:Int)(W:BK)(x:Int × Int):BK:=⟨x.1,W.nx,W.cards,W.dead,qC W.gr g x.2⟩
def HZ(B:BK)(g:Int)(l:List (Int × Int)):BK:=l.foldl (gN g) B
theorem uV(g:Int):∀(l:List (Int × Int)) (B:BK) (x:Int × Int),dJ B g (l++[x])=dJ B g l++[gN g (HZ B g l) x]
 | [],B,x=>rfl
 | y::l,B,x=>by
  rw[List.cons_append,dJ,dJ,uV g l,List.cons_append];rfl
theorem OP(g:Int)(l:List (Int × Int))(B:BK)(x:Int × Int):HZ B g (l++[x])=gN g (HZ B g l) x:=by
 unfold HZ
 rw[List.foldl_append];rfl
theorem mP(g:Int):∀(l:List (Int × Int)) (B:BK),(dJ B g l).length=l.length
 | [],_=>rfl
 | y::l,B=>by rw[dJ,List.length_cons,List.length_cons,mP g l]
theorem l5:∀(s:Int) (l:List Int),(cV s l).length=l.length
 | _,[]=>rfl
 | s,i::l=>by rw[cV,List.length_cons,List.length_cons,l5]
theorem LH:∀(s:Int) (l:List Int) (x:Int × Int),x∈cV s l→s<x.1∧x.1≤s+(l.length:Int)∧x.2∈l
 | _,[],x,h=>by cases h
 | s,i::l,x,h=>by
  rw[cV] at h
  rw[List.length_cons]
  rcases List.mem_cons.1 h with rfl|h
  ·exact⟨by simp only;omega,by simp only;omega,List.mem_cons_self ..⟩
  ·have:=LH (s+1) l x h
   exact⟨by omega,by omega,List.mem_cons_of_mem _ this.2.2⟩
theorem HP{B:BK}{x:ED}(hb:BkW B):(dX B x).length=(cV B.sq (doC B x)).length:=by
 unfold dX
 rcases kB hb x [] with⟨e1,e2,-⟩|⟨e1,i,e2,-⟩|⟨e1,e2,-⟩
 ·rw[if_pos e1,e2];rfl
 ·rw[if_neg (by simpa using e1),e2];rfl
 ·rw[if_neg (by simpa using e1),List.length_append,mP,List.length_dropLast,l5,e2]
  simp
theorem Vy{W:BK}(hw:BkW W){g:Int}(hg:0≤g∧g<16){x:Int × Int}(h1:W.sq≤x.1)(h2:x.1≤1099511627776):BkW (gN g W x):=by
 unfold gN
 refine hw.Rk h1 h2 ?_ ?_
 ·unfold qC
  split
  ·rw[oI];exact hw.upg
  ·exact hw.upg
 ·unfold qC
  split
  ·obtain⟨m1,m2⟩:=Af hw g
   exact Es hw hg ⟨Dc m1,fun y hy=>m2 y (pK.1 hy).1⟩
  ·exact hw.grs
theorem VQ{g:Int}(hg:0≤g∧g<16):∀(l:List Int) (s:Int) (W:BK),BkW W→W.sq≤s→s+(l.length:Int)≤1099511627776→(∀n,BkW (HZ W g ((cV s l).take n)))∧∀Z,Z∈dJ W g (cV s l)→BkW Z
 | [],s,W,hw,h1,h2=>⟨fun n=>by simpa[cV,HZ] using hw,fun Z hZ=>by cases hZ⟩
 | i::l,s,W,hw,h1,h2=>by
  rw[List.length_cons] at h2
  have hq:BkW (gN g W (s+1,i)):=Vy hw hg (by simp only;omega) (by simp only;omega)
  obtain⟨r1,r2⟩:=VQ hg l (s+1) (gN g W (s+1,i)) hq (by show s+1≤s+1;omega) oM
  rw[cV]
  refine⟨fun n=>?_,fun Z hZ=>?_⟩
  ·cases n with
   | zero=>exact hw
   | succ n=>rw[List.take_succ_cons];exact r1 n
  ·rw[dJ] at hZ
   rcases List.mem_cons.1 hZ with rfl|hZ
   ·exact hq
   ·exact r2 Z hZ
theorem CU(s:Int):∀(l:List Int) (x:Int),(cV s (l++[x])).dropLast=cV s l
 | [],x=>rfl
 | i::l,x=>by
  rw[List.cons_append,cV,List.dropLast_cons_of_ne_nil (by cases l<;>simp[cV]),CU (s+1) l x,cV]
theorem KK{B:BK}(hb:BkW B){x:ED}(h0:doE B x=0):∃l,(cV B.sq (doC B x)).dropLast=cV B.sq l∧l.length+1=(doC B x).length∧(∀i,i∈l→1≤i∧i<1073741824)∧B.sq+(l.length:Int)≤1099511627776:=by
 have hsq:=(doW hb x).sq2
 have hs:=Pm B x
 rcases kB hb x [] with⟨e1,-⟩|⟨e1,i,e2,-⟩|⟨e1,e2,e3,-⟩
 ·exact absurd h0 e1
 ·exact⟨[],by rw[e2];rfl,by rw[e2];rfl,fun i hi=>(by cases hi),(by have:=hb.sq2;simp only[List.length_nil];omega)⟩
 ·obtain⟨y,hy,-,hym,-⟩:=gJ hb.upg e3
  refine⟨bI B.gr x.gr,by rw[e2];exact CU _ _ _,by rw[e2,List.length_append];rfl,fun i hi=>?_,?_⟩
  ·rw[hym] at hi;exact hb.mid y hy i hi
  ·rw[hs,e2,List.length_append] at hsq
   simp only[List.length_singleton] at hsq
   omega
theorem KL{B:BK}{x:ED}(h0:doE B x=0):0≤x.gr∧x.gr<16:=by
 refine(bU ?_).2.2.1
 refine Classical.byContradiction fun he=>?_
 unfold doE doT at h0
 rw[if_pos he] at h0
 exact he h0
theorem OG{B:BK}(hb:BkW B){x:ED}:∀Z,Z∈dX B x→BkW Z:=by
 unfold dX
 by_cases h0:doE B x=0
 ·rw[if_neg (by simpa using h0)]
  obtain⟨l,h1,-,-,h4⟩:=KK hb h0
  intro Z hZ
  rcases List.mem_append.1 hZ with hZ|hZ
  ·rw[h1] at hZ
   exact(VQ (KL h0) l B.sq B hb (Int.le_refl _) h4).2 Z hZ
  ·rw[List.mem_singleton] at hZ;subst hZ;exact doW hb x
 ·rw[if_pos h0];intro Z hZ;cases hZ
theorem zQ(fl:List ND)(mk:UInt32):∀(S:List BK) (P:List (Int × Int)) (z:VS) (was n:BK) (p:Int × Int),S.length=P.length→kC fl mk z was (S++[n]) (P++[p])=oZ (S.getLastD was) n fl mk (kC fl mk z was S P) p.1 p.2
 | [],[],z,was,n,p,_=>rfl
 | s::S,q::P,z,was,n,p,h=>by
  rw[List.cons_append,List.cons_append,kC,kC,zQ fl mk S P _ s n p (by simpa using h)]
  cases S with
  | nil=>rfl
  | cons a b=>rfl
 | [],q::P,z,was,n,p,h=>by simp at h
 | s::S,[],z,was,n,p,h=>by simp at h
theorem OH{was now:BK}{fl:List ND}{mk:UInt32}{z:VS}(h:z.log.length≤40)(seq id:Int):(oZ was now fl mk z seq id).log.length≤40:=by
 unfold oZ
 split
 ·exact h
 ·simp only
  split
  ·exact h
  ·exact GA h
theorem B9{fl:List ND}{mk:UInt32}:∀(S:List BK) (P:List (Int × Int)) (z:VS) (was:BK),z.log.length≤40→(kC fl mk z was S P).log.length≤40
 | [],_,z,was,h=>by unfold kC;exact h
 | s::S,[],z,was,h=>by unfold kC;exact h
 | s::S,p::P,z,was,h=>by rw[kC];exact B9 S P _ s (OH h _ _)
end

section
theorem CE:∀{a b:List Int},a.Nodup→(∀x,x∈a→x∈b)→a.length≤b.length
 | [],b,_,_=>Nat.zero_le _
 | x::a,b,h,hs=>by
  obtain⟨n1,n2⟩:=List.nodup_cons.1 h
  have hx:=hs x (List.mem_cons_self ..)
  have:=CE (b:=b.erase x) n2 fun y hy=>(List.mem_erase_of_ne (fun e=>n1 (by rw[←e];exact hy))).2 (hs y (List.mem_cons_of_mem _ hy))
  rw[List.length_erase_of_mem hx] at this
  have:0<b.length:=List.length_pos_of_mem hx
  rw[List.length_cons]
  omega
theorem Cn(sh:List (Int × Int)):eF (shE sh)=sh.map (·.1):=by
 unfold eF shE
 rw[List.map_map]
 exact List.map_congr_left fun p _=>rfl
theorem Hh{f sm v:Nat}(hvs:v≠sm)(mk:UInt32)(floor now:Int)(log:MV){sh:List (Int × Int)}{I:List Int}(hu:UpI I)(hI:∀j,j∈sh.map (·.1)↔j∈I)(hn:(sh.map (·.1)).Nodup)(hb:∀j,j∈I→0≤j∧j≤1099511627776)(hl:sh.length≤1000000) :
  aA Tryz.prog 28 [.ptr v 0 0] ((St.none.set sm (.mp (shE sh))).set v (vwO f mk sm floor now log)) (fun r σ'=>r=.lst 1 (I.map aM) false∧σ'=(St.none.set sm (.mp (shE sh))).set v (vwO f mk sm floor now log)):=by
 refine aA.less (Q':=fun r σ'=>r=.lst 1 (I.map aM) false∧((St.none.set sm (.mp (shE sh))).set v (vwO f mk sm floor now log)).le σ') (mB 11 [.tmp 2] Tryz.func28 ?_) fun r σ' h=>⟨_,h.2,h.1,rfl⟩
 have hsv:=Ne.symm hvs
 have hk:=z6 sm
 have hs:∀{b:Nat},b≠sm→aA Tryz.prog 96 [.fn (.func 182) [] [.ptr b 0 0]] ((St.none.set b (.row 131 1 [[.mapv sm]])).set sm (.mp (shE sh))) fun r σ' =>
   r=.lst 1 (I.map aM) false∧σ'=(St.none.set b (.row 131 1 [[.mapv sm]])).set sm (.mp (shE sh)):=fun {b} hb'=>by
  refine(r6 hb' (La sh) (fun n hn'=>?_) (by unfold shE;rw[List.length_map];exact hl)).mono fun r σ' h=>?_
  ·rw[Cn] at hn'
   have:=hb n ((hI n).1 hn')
   exact Bd this
  ·obtain⟨⟨ns,h1,h2,rfl⟩,rfl⟩:=h
   rw[Cn] at h1
   have:ns=I:=by
    refine Si ?_ hu fun x=>by rw[h1.mem_iff,hI]
    exact(h2.and (h1.nodup_iff.2 hn)).imp fun⟨h1,h2⟩=>by omega
   rw[this]
   exact⟨rfl,rfl⟩
 repeat' first|(refine fQ hk ?_;(intro b hb;simp only[aU] at hb;obtain⟨b1,b2,-⟩:=hb;have b1':=Ne.symm b1;have b2':=Ne.symm b2))|((refine cQ (hs (by assumption)) (le2 sS sS) ?_))|(refine wO ?_;intros)|(refine wY ?_ ?_<;>intro h)|refine wZ1 @Tryz.f28.eq_1 ?_|exact wC1 @Tryz.f28.eq_1|fail
 all_goals first|exact⟨rfl,le2 sS sS⟩|exact le2 sS sS
theorem Hf(v f sm:Nat)(mk:UInt32)(floor now:Int)(log:MV):aA Tryz.prog 31 [.ptr v 0 0] (St.none.set v (vwO f mk sm floor now log)) (fun r σ'=>r=.ptr f 0 0∧σ'=St.none.set v (vwO f mk sm floor now log)):=by
 refine(mB 9 [.tmp 2] Tryz.func31 ?_)
 repeat' first|(refine wO ?_;intros)|(refine wY ?_ ?_<;>intro h)|refine wZ1 @Tryz.f31.eq_1 ?_|exact wC1 @Tryz.f31.eq_1|fail
 all_goals exact⟨rfl,rfl⟩
abbrev vgS(f sm g v:Nat)(mk:UInt32)(z:VS)(ex:List (List MV)):St:=((St.none.set sm (.mp (shE z.sh))).set g (lgO z.log ex)).set v (vwO f mk sm z.floor z.now (.vec 31 g 0 z.log.length))
theorem xP{f sm g v:Nat}(hgs:g≠sm)(hvs:v≠sm)(hvg:v≠g){mk:UInt32}{B:BK}(hb:BkW B){fl:List ND}(hp:bS fl=0)(tf:Bool){z:VS}(hz:C3 B fl z)(ex:List (List MV)){w:VS}(h3:o7 z w)(tl:Bool) :
  aA Tryz.prog 34 [.ptr v 0 0,.agg [.lst 5 (fl.map ND.c) tf,.int .u32 (mk.toNat:Int),.int .i64 w.floor,.int .i64 w.now,.lst 31 (w.log.map TU.c) tl],.agg B.c] (vgS f sm g v mk z ex) (fun r σ'=>r=.bool true∧σ'=vgS f sm g v mk z ex):=by
 obtain⟨e1,e2,e3⟩:=h3
 rw[←e1,←e2,←e3]
 refine aA.less (Q':=fun r σ'=>r=.bool true∧(vgS f sm g v mk z ex).le σ') (mB 42 [.tmp 6] Tryz.func34 ?_) fun r σ' h=>⟨_,h.2,h.1,rfl⟩
 have hgl:B.gr.length≤1000000:=by have:=hb.ng;omega
 have hgm:∀g,g∈B.gr→g.mem.length≤1000000:=fun g hg=>by have:=hb.nm g hg;omega
 have hIu:=PI hb fl
 have hIb:∀j,j∈rI B fl→0≤j∧j≤1099511627776:=fun j hj=>by
  obtain⟨c,hc,rfl⟩:=List.mem_map.1 hj
  obtain⟨⟨p1,p2,-⟩,-⟩:=fN (hb.cds c (List.mem_filter.1 hc).1).1
  omega
 have hIl:(rI B fl).length≤1000000:=by
  unfold rI
  rw[List.length_map]
  have:=List.length_filter_le (dW B.gr fl) B.cards
  have:=hb.nc
  omega
 have hsl:z.sh.length≤1000000:=by
  have:(z.sh.map (·.1)).length≤(rI B fl).length:=by
   exact CE hz.key fun j hj=>(RR hb hz j).1 hj
  rw[List.length_map] at this
  omega
 have c1:=Hh hvs (f:=f) mk z.floor z.now (.vec 31 g 0 z.log.length) hIu (RR hb hz) hz.key hIb hsl
 have c2:=Om B hb.toBkR hgl hgm fl hp tf
 have c3:=Kd (rI B fl) (rI B fl) hIl false false
 obtain⟨I,hI⟩:∃I,(rI B fl).map aM=I:=⟨_,rfl⟩
 rw[hI] at c1 c2 c3
 rw[decide_eq_true rfl] at c3
 have hlen:=hz.len
 have c4:=AG hvg f sm mk z.floor z.now z.log oM ex
 have c5:=HC z.log z.log oM false tl
 rw[decide_eq_true rfl] at c5
 have c6:=Ed v f sm mk z.floor z.now (.vec 31 g 0 z.log.length)
 have c7:=Kb v f sm mk z.floor z.now (.vec 31 g 0 z.log.length)
 have c8:=Hg v f sm mk z.floor z.now (.vec 31 g 0 z.log.length)
 obtain⟨T,hT⟩:∃T,z.log.map TU.c=T:=⟨_,rfl⟩
 simp only[vgS]
 rw[hT] at c4 c5 ⊢
 obtain⟨n,hn⟩:∃n,z.log.length=n:=⟨_,rfl⟩
 rw[hn] at c1 c4 c6 c7 c8 ⊢
 obtain⟨C,k1,k2,k3,k4,k5,k6,k7,k8⟩:=kw8 28 ⟨[v,sm],fun w=>w=.lst 1 I false,none⟩ 101 ⟨[],fun w=>w=.lst 1 I false,none⟩ 100 ⟨[],fun w=>w=.bool true,none⟩ 29 ⟨[v,g],fun w=>w=.lst 31 T false,none⟩ 102 ⟨[],fun w=>w=.bool true,none⟩ 22 ⟨[v],fun w=>w=.int .i64 z.floor,none⟩ 30 ⟨[v],fun w=>w=.int .i64 z.now,none⟩ 32 ⟨[v],fun w=>w=.int .u32 (mk.toNat:Int),none⟩
 have hsv:=Ne.symm hvs
 have hgv:=Ne.symm hvg
 have hsg:=Ne.symm hgs
 clear hz hIu hIb hIl hsl e1 e2 e3
 repeat' first|(refine wO ?_;intros)|(refine wY ?_ ?_<;>intro h)|refine wZ2 @Tryz.f34.eq_1 @FXs ?_|exact wC2 @Tryz.f34.eq_1 @FXs|fail
 refine aI mixed dK C ?_
 repeat' first|(refine eK [v,sm] [vwO f mk sm z.floor z.now (.vec 31 g 0 n),.mp (shE z.sh)] (k1 _) sS c1 ?_)|(with_reducible refine aG (k2 _) c2 ?_)|(with_reducible refine aG (k3 _) c3 ?_)|(refine eK [v,g] [vwO f mk sm z.floor z.now (.vec 31 g 0 n),lgO z.log ex] (k4 _) sS c4 ?_)|(with_reducible refine aG (k5 _) c5 ?_)|(refine eK [v] [vwO f mk sm z.floor z.now (.vec 31 g 0 n)] (k6 _) sS c6 ?_)|(refine eK [v] [vwO f mk sm z.floor z.now (.vec 31 g 0 n)] (k7 _) sS c7 ?_)|(refine eK [v] [vwO f mk sm z.floor z.now (.vec 31 g 0 n)] (k8 _) sS c8 ?_)|(refine wO ?_;intros)|(refine wY ?_ ?_<;>intro h)|refine wZ1 @FXs ?_|exact wC1 @FXs|fail
 all_goals exact St.aB (le2 sS sS) sS
theorem Bc{σ:St}{a a' b c:MV}(h:View σ a a'):View σ (.tup [a,b,c]) (.tup [a',b,c]):=.tup rfl fun i m m' hm hm'=>by
 match i with
 | 0=>simp at hm hm';subst hm;subst hm';exact h
 | 1=>simp at hm hm';subst hm;subst hm';exact .same _
 | 2=>simp at hm hm';subst hm;subst hm';exact .same _
 | i+3=>simp at hm
noncomputable def US(z:VS)(from_ cur page:Int):MV:=if from_<z.floor∨z.now<from_ then .tup [.lst 28 [] false,.int .i64 0,.bool false] else .tup [.lst 28 ((tN z.log from_ z.now cur page).1.map IT.k) false,.int .i64 (tN z.log from_ z.now cur page).2,.bool true]
theorem Ec{g v:Nat}(hvg:v≠g)(f sm:Nat)(mk:UInt32){z:VS}(hz:LInv z)(hnw:z.now≤1099511627776)(ex:List (List MV))(from_ cur page:Int) :
  aA Tryz.prog 21 [.ptr v 0 0,.int .i64 from_,.int .i64 cur,.int .i64 page] ((St.none.set g (lgO z.log ex)).set v (vwO f mk sm z.floor z.now (.vec 31 g 0 z.log.length))) (fun r σ'=>r=US z from_ cur page∧σ'=(St.none.set g (lgO z.log ex)).set v (vwO f mk sm z.floor z.now (.vec 31 g 0 z.log.length))):=by
 have hgv:=Ne.symm hvg
 have hlen:=hz.len
 have hct:=JK g z.log oM ex from_ z.now cur page hz.idb (fun t ht=>by have:=hz.sqb t ht;have:=hz.now t ht;omega) (Pb z.log hz.up hz.now hz.ch)
 unfold US
 refine aA.RJ (Q:=fun σ'=>σ'=(St.none.set g (lgO z.log ex)).set v (vwO f mk sm z.floor z.now (.vec 31 g 0 z.log.length))) (mB 48 [.tmp 8,.tmp 9,.tmp 10] Tryz.func21 ?_)
 have hgs:∀{σ':St} {w r:MV},((St.none.set g (lgO z.log ex)).set v (vwO f mk sm z.floor z.now (.vec 31 g 0 z.log.length))).le σ'→View St.none w r→∃τ σv:St,τ=(St.none.set g (lgO z.log ex)).set v (vwO f mk sm z.floor z.now (.vec 31 g 0 z.log.length))∧σv.le σ'∧τ.le σ'∧(∀k o,τ k=some o→σv k=none)∧View σv w r:=fun h hv=>⟨_,St.none,rfl,St.none_le _,h,fun _ _ _=>rfl,hv⟩
 by_cases h1:from_<z.floor
 ·rw[if_pos (.inl h1)]
  repeat' first|(refine wO ?_;intros)|(refine wY ?_ ?_<;>intro h)|refine wZ2 @Tryz.f21.eq_1 @FXs ?_|exact wC2 @Tryz.f21.eq_1 @FXs|fail
  all_goals first|exact hgs (St.le_refl _) (Bc (.nil _ _))|(exfalso;omega)
 ·by_cases h2:z.now<from_
  ·rw[if_pos (.inr h2)]
   repeat' first|(refine wO ?_;intros)|(refine wY ?_ ?_<;>intro h)|refine wZ2 @Tryz.f21.eq_1 @FXs ?_|exact wC2 @Tryz.f21.eq_1 @FXs|fail
   all_goals first|exact hgs (St.le_refl _) (Bc (.nil _ _))|(exfalso;omega)
  ·rw[if_neg oM]
   obtain⟨⟨X,to_⟩,hX⟩:∃X,tN z.log from_ z.now cur page=X:=⟨_,rfl⟩
   rw[hX] at hct ⊢
   simp only at hct ⊢
   obtain⟨C,k1⟩:=kw1 89 ⟨[g],fun w=>w=.tup [.lst 28 (X.map IT.k) false,.int .i64 to_],none⟩
   repeat' first|(refine wO ?_;intros)|(refine wY ?_ ?_<;>intro h)|refine wZ2 @Tryz.f21.eq_1 @FXs ?_|exact wC2 @Tryz.f21.eq_1 @FXs|fail
   all_goals (try (exfalso;omega))
   refine aI mixed dK C ?_
   repeat' first|(refine eK [g] [lgO z.log ex] (k1 _) sS hct ?_)|(refine wO ?_;intros)|(refine wY ?_ ?_<;>intro h)|refine wZ1 @FXs ?_|exact wC1 @FXs|fail
   all_goals exact hgs (le2 sS sS) (.same _)
end

section
theorem LL{z:VS}(hz:LInv z)(fl:Int):cM z.log fl=upS z.log fl z.now 1073741824:=by
 unfold cM upS
 refine List.filter_congr fun t ht=>?_
 have h1:=hz.now t ht
 have h2:=hz.idb t ht
 by_cases h:t.sq≤fl
 ·rw[decide_eq_true h,decide_eq_false fun q=>by have:=q.1;omega];rfl
 ·rw[decide_eq_false h,decide_eq_true (show fl<t.sq∧t.sq≤z.now∧t.id≤1073741824 from⟨by omega,h1,by omega⟩)];rfl
theorem NU{id v:Int}:∀l:List TU,fF l id=some v→∃t,t∈l∧t.id=id:=fun l h=>by
 rw[Aq] at h
 obtain⟨t,ht,-⟩:=Option.map_eq_some_iff.1 h
 exact⟨t,(vS l ht).1,(vS l ht).2⟩
theorem Sd{B:BK}{fls:List ND}{z:VS}(hz:C3 B fls z)(fl:Int):C3 B fls (iR z fl):=by
 have hsub:(cM z.log fl).Sublist z.log:=List.filter_sublist
 refine⟨⟨?_,(hz.up.sublist (hsub.map TU.sq)),fun t ht=>hz.now t (hsub.subset ht),fun t ht=>hz.tok t (hsub.subset ht),fun t ht=>hz.idb t (hsub.subset ht),fun id v h=>?_,hz.key,hz.val,Nat.le_trans hsub.length_le hz.len,?_,hz.pos,fun t ht=>hz.sqb t (hsub.subset ht)⟩,hz.sh,hz.at_⟩
 ·show Chn (cM z.log fl)
  rw[LL hz.toLInv]
  exact Pb z.log hz.up hz.now hz.ch
 ·have h:fF (cM z.log fl) id=some v:=h
  obtain⟨t,ht,rfl⟩:=NU _ h
  have hid:=hz.idb t (hsub.subset ht)
  rw[LL hz.toLInv] at h
  rcases LO (f:=fl) (n:=z.now) (c:=1073741824) (id:=t.id) oM z.log hz.up hz.now with q|q
  ·rw[q] at h;cases h
  ·rw[q] at h;exact hz.new t.id v h
 ·have:=hz.flo
  show max z.floor (min fl z.now)≤z.now
  omega
theorem ON{z w:VS}(h:o7 z w)(fl:Int):o7 (iR z fl) (iR w fl):=by
 obtain⟨h1,h2,h3⟩:=h
 exact⟨by show max z.floor (min fl z.now)=max w.floor (min fl w.now);rw[h1,h2],h2,by show cM z.log fl=cM w.log fl;rw[h3]⟩
end
end Go.Proofs.YtppdgejjmhdjhaaGreatDoor
