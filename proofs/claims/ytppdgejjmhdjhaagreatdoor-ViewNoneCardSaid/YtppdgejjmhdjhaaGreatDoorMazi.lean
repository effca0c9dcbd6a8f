/- Parts of the proof, joined; conditions: those that its theorems name. -/
import Derived.Test.YtppdgejjmhdjhaaGreatDoorMazg
import Derived.Test.YtppdgejjmhdjhaaGreatDoorMazh
set_option linter.unusedVariables false
set_option linter.unusedSimpArgs false
set_option maxHeartbeats 4000000
namespace Go.Proofs.YtppdgejjmhdjhaaGreatDoor
section
set_option maxRecDepth 100000
set_option maxHeartbeats 8000000
structure VS where
 sh:List (Int × Int)
 floor:Int
 now:Int
 log:List TU
def shE(sh:List (Int × Int)):List (MV × MV):=sh.map fun p=>(.int .i64 p.1,.int .i64 p.2)
def shG:List (Int × Int)→Int→Int
 | [],_=>0
 | (i,u)::r,id=>if i=id then u else shG r id
def shP:List (Int × Int)→Int→Int→List (Int × Int)
 | [],id,v=>[(id,v)]
 | (i,u)::r,id,v=>if i=id then(i,v)::r else(i,u)::shP r id v
def shD:List (Int × Int)→Int→List (Int × Int)
 | [],_=>[]
 | (i,u)::r,id=>if i=id then r else(i,u)::shD r id
theorem Ih(sh:List (Int × Int)):((shE sh).all fun p=>isK .i64 p.1)=true:=by
 rw[List.all_eq_true]
 intro x hx
 obtain⟨p,_,rfl⟩:=List.mem_map.1 hx
 simp[isK]
theorem xJ{id:Int}:∀sh:List (Int × Int),(dJ id (shE sh)).getD (.int .i64 0)=.int .i64 (shG sh id)
 | []=>rfl
 | (i,u)::r=>by
  have ih:=xJ (id:=id) r
  simp only[shE,List.map_cons,dJ,shG] at ih ⊢
  by_cases h:i=id
  ·rw[if_pos h,if_pos h];rfl
  ·rw[if_neg h,if_neg h];exact ih
theorem xM{id v:Int}:∀sh:List (Int × Int),gH .i64 id (.int .i64 v) (shE sh)=shE (shP sh id v)
 | []=>rfl
 | (i,u)::r=>by
  have ih:=xM (id:=id) (v:=v) r
  simp only[shE,List.map_cons,gH,shP] at ih ⊢
  by_cases h:i=id
  ·rw[if_pos h,if_pos h];rfl
  ·rw[if_neg h,if_neg h,ih];rfl
theorem xH{id:Int}:∀sh:List (Int × Int),pS id (shE sh)=shE (shD sh id)
 | []=>rfl
 | (i,u)::r=>by
  have ih:=xH (id:=id) r
  simp only[shE,List.map_cons,pS,shD] at ih ⊢
  by_cases h:i=id
  ·rw[if_pos h,if_pos h]
  ·rw[if_neg h,if_neg h,ih];rfl
noncomputable def lD(B:BK)(fl:List ND)(mk:UInt32)(z:VS)(seq id:Int):VS :=
 if id=0 then { z with now:=seq } else
  let c:=(gA B fl id).1
  let is:=(gA B fl id).2
  let t:=gC seq (shG z.sh id) id (fT c mk) is
  ⟨if is=true then shP z.sh id c.ver else shD z.sh id,if shG z.sh id=t.new then z.floor else qH z.floor z.log t,seq,if shG z.sh id=t.new then z.log else kE z.log t⟩
noncomputable def iH(B:BK)(fl:List ND)(mk:UInt32)(z:VS)(xs:List (Int × Int)):VS:=xs.foldl (fun z x=>lD B fl mk z x.1 x.2) z
abbrev chC(x:Int × Int):List MV:=[.int .i64 x.1,.int .i64 x.2]
theorem HC{P:Program}{h0:FuncId}{ms:List MV}{σ:St}{g v:Nat}{og ov:aO}{og':List (List MV)→aO}{ov':Nat→aO}{k:MV→St→Prop}(hvg:v≠g)(hg:σ g=some og)(hv:σ v=some ov)
 (h:aA P h0 ms ((St.none.set g og).set v ov) fun _ σ'=>∃g' ex',v≠g'∧σ'=(St.none.set g' (og' ex')).set v (ov' g'))
 (hk:∀r g' ex',v≠g'→(σ.del g) g'=none→R (bF r (((σ.del g).set g' (og' ex')).set v (ov' g')) k)):R (cN P h0 ms σ k) :=
 bM h (St.aC (St.aC (St.none_le _) hg) hv) fun r σ' hv' hf=>by
  obtain⟨g',ex',hne,rfl⟩:=hv'
  have e:((St.none.set g' (og' ex')).set v (ov' g')).over (σ.minus ((St.none.set g og).set v ov))=((σ.del g).set g' (og' ex')).set v (ov' g'):=by
   funext j
   by_cases h1:j=v
   ·subst h1;simp[St.over,St.set]
   ·by_cases h2:j=g'
    ·subst h2;simp[St.over,St.set,h1]
    ·by_cases h3:j=g
     ·subst h3;simp[St.over,St.set,St.minus,St.del,St.none,h1,h2]
     ·simp[St.over,St.set,St.minus,St.del,St.none,h1,h2,h3]
  rw[e]
  refine hk r g' ex' hne ?_
  rcases hf g' (og' ex') (by simp[St.set,Ne.symm hne]) with h|⟨o',h⟩
  ·simp[St.del,h]
  ·by_cases h3:g'=g
   ·subst h3;simp[St.del]
   ·simp[St.set,St.none,h3,Ne.symm hne] at h
structure jT (m l q b f sm g v:Nat):Prop where
 D:mX m l q b
 hf:f≠m∧f≠l∧f≠q∧f≠b
 hs:sm≠m∧sm≠l∧sm≠q∧sm≠b∧sm≠f
 hg:g≠m∧g≠l∧g≠q∧g≠b∧g≠f∧g≠sm
 hv:v≠m∧v≠l∧v≠q∧v≠b∧v≠f∧v≠sm∧v≠g
noncomputable abbrev vwS(m l q b:Nat)(B:BK)(f:Nat)(fl:List ND)(d:Bool)(sm g v:Nat)(mk:UInt32)(z:VS)(ex:List (List MV)):St:=(((bfS m l q b B f fl d).set sm (.mp (shE z.sh))).set g (lgO z.log ex)).set v (vwO f mk sm z.floor z.now (.vec 31 g 0 z.log.length))
theorem Jy{m l q b f sm g v:Nat}{B:BK}{fl:List ND}{d:Bool}{mk:UInt32}{z:VS}{ex:List (List MV)}{σ:St}(hm:σ m=some (.mp (cEs B.cards)))(hl:σ l=some (shO B.nx m (.vec 3 q 0 B.dead.length)))(hq:σ q=some (.row 197 3 (B.dead.map DE.c)))(hb:σ b=some (bA B.sq l (.lst 2 (B.gr.map GR.c) false)))(hf:σ f=some (flD fl d))
 (hs:σ sm=some (.mp (shE z.sh)))(hg:σ g=some (lgO z.log ex))(hv:σ v=some (vwO f mk sm z.floor z.now (.vec 31 g 0 z.log.length))):(vwS m l q b B f fl d sm g v mk z ex).le σ :=
 St.aC (St.aC (St.aC (JD hm hl hq hb hf) hs) hg) hv
theorem GM{log:List TU}{t:TU}(h:log.length≤40):(kE log t).length≤40:=by
 unfold kE
 split
 ·rw[List.length_append];simp only[List.length_cons,List.length_nil];omega
 ·rw[List.length_drop,List.length_append];simp only[List.length_cons,List.length_nil];omega
theorem Ht{B:BK}{fl:List ND}{mk:UInt32}{z:VS}(h:z.log.length≤40)(seq id:Int):(lD B fl mk z seq id).log.length≤40:=by
 unfold lD
 split
 ·exact h
 ·simp only
  split
  ·exact h
  ·exact GM h
theorem E0{B:BK}{fl:List ND}{mk:UInt32}{z:VS}(h:z.log.length≤40):∀xs:List (Int × Int),(iH B fl mk z xs).log.length≤40:=by
 intro xs
 induction xs generalizing z with
 | nil=>exact h
 | cons x r ih=>exact ih (Ht h x.1 x.2)
theorem oL{B:BK}(hb:BkR B)(h3:B.gr.length≤1000000)(h4:∀g,g∈B.gr→g.mem.length≤1000000)(hd:B.dead.length≤1000000){fl:List ND}(hp:cD fl=0){mk:UInt32}{m l q b f sm g v:Nat}(V:jT m l q b f sm g v)(d:Bool)(z:VS)(hz:z.log.length≤40)(ex:List (List MV))(xs:List (Int × Int))(hx:xs.length≤1000000)(tt:Bool) :
  aA Tryz.prog 18 [.ptr v 0 0,.ptr b 0 0,.lst 2 (xs.map chC) tt] (vwS m l q b B f fl d sm g v mk z ex) (fun _ σ'=>∃d' g' ex',jT m l q b f sm g' v∧σ'=vwS m l q b B f fl d' sm g' v mk (iH B fl mk z xs) ex'):=by
 refine aA.less (Q':=fun _ σ'=>∃d' g' ex',jT m l q b f sm g' v∧(vwS m l q b B f fl d' sm g' v mk (iH B fl mk z xs) ex').le σ') (aA.body 81 [] Tryz.func18 rfl rfl rfl rfl ?_) fun v σ' ⟨d',g',ex',h1,h2⟩=>⟨_,h2,d',g',ex',h1,rfl⟩
 repeat' (first|(with_reducible first|(refine wT ?_;(first|((fail_if_success (have:=nl1));refine wN fun nl1 hnl=>?_)|((fail_if_success (have:=nl2));refine wN fun nl2 hnl=>?_)|((fail_if_success (have:=nl3));refine wN fun nl3 hnl=>?_)|refine wN fun _ hnl=>?_);revert hnl;(repeat refine wS fun _ _=>?_);intro hnl)|refine wE ?_|(refine wK ?_ ?_<;>intro h)|(refine wB ?_ ?_<;>intro h<;>simp only[h]))|simp(maxSteps:=4000000) (disch:=first|exact ddL|fail) only[go_sem,simprocAttr,Tryz.f18])
 refine aV (α:=Nat × Bool × Nat × List (List MV)) (fun a=>⟨81,[(16,.int .i64 (a.1:Int)),(15,.int .i64 (xs.length:Int)),(14,.lst 2 (xs.map chC) tt),(0,.ptr v 0 0),(1,.ptr b 0 0)],[]⟩)
  (fun a=>vwS m l q b B f fl a.2.1 sm a.2.2.1 v mk (iH B fl mk z (xs.take a.1)) a.2.2.2) (fun a=>a.1≤xs.length∧jT m l q b f sm a.2.2.1 v) (fun a=>xs.length - a.1) ?_ ?_
 ·refine .of (.less ?_ (St.le_refl _)) ⟨(0,d,g,ex),rfl,rfl,Nat.zero_le _,V⟩
  simp(maxSteps:=4000000) (disch:=first|exact ddL|fail) only[go_sem,simprocAttr,aJ,aG]
  all_goals first|rfl|(simp;done)
 ·rintro⟨i,dd,g0,ex0⟩ ⟨hi,V1⟩
  simp only at hi V1 ⊢
  by_cases hlt:i<xs.length
  rotate_left
  ·obtain rfl:i=xs.length:=by omega
   rw[List.take_length]
   repeat' (first|(with_reducible first|(refine wT ?_;(first|((fail_if_success (have:=nl1));refine wN fun nl1 hnl=>?_)|((fail_if_success (have:=nl2));refine wN fun nl2 hnl=>?_)|((fail_if_success (have:=nl3));refine wN fun nl3 hnl=>?_)|refine wN fun _ hnl=>?_);revert hnl;(repeat refine wS fun _ _=>?_);intro hnl)|refine wE ?_|(refine wK ?_ ?_<;>intro h)|(refine wB ?_ ?_<;>intro h<;>simp only[h]))|simp(maxSteps:=4000000) (disch:=first|exact ddL|fail) only[go_sem,simprocAttr])
   exact⟨_,_,_,V1,St.le_refl _⟩
  obtain⟨⟨seq,id⟩,hxi⟩:=iK xs hlt
  have hat:=nB (f:=chC) hxi
  have hml:(xs.map chC).length=xs.length:=List.length_map _
  have htk:iH B fl mk z (xs.take (i+1))=lD B fl mk (iH B fl mk z (xs.take i)) seq id:=by
   rw[cQ hxi];unfold iH;rw[List.foldl_append];rfl
  have hz1:=E0 (B:=B) (fl:=fl) (mk:=mk) hz (xs.take i)
  obtain⟨z1,hz1e⟩:∃z1,iH B fl mk z (xs.take i)=z1:=⟨_,rfl⟩
  rw[hz1e] at htk hz1 ⊢
  have VV:=V1
  have DD:=V1.D
  obtain⟨⟨d1,d2,d3,d4,d5,d6⟩,⟨f1,f2,f3,f4⟩,⟨s1,s2,s3,s4,s5⟩,⟨g1,g2,g3,g4,g5,g6⟩,⟨v1,v2,v3,v4,v5,v6,v7⟩⟩:=V1
  have d1':=Ne.symm d1
  have d2':=Ne.symm d2
  have d3':=Ne.symm d3
  have d4':=Ne.symm d4
  have d5':=Ne.symm d5
  have d6':=Ne.symm d6
  have f1':=Ne.symm f1
  have f2':=Ne.symm f2
  have f3':=Ne.symm f3
  have f4':=Ne.symm f4
  have s1':=Ne.symm s1
  have s2':=Ne.symm s2
  have s3':=Ne.symm s3
  have s4':=Ne.symm s4
  have s5':=Ne.symm s5
  have g1':=Ne.symm g1
  have g2':=Ne.symm g2
  have g3':=Ne.symm g3
  have g4':=Ne.symm g4
  have g5':=Ne.symm g5
  have g6':=Ne.symm g6
  have v1':=Ne.symm v1
  have v2':=Ne.symm v2
  have v3':=Ne.symm v3
  have v4':=Ne.symm v4
  have v5':=Ne.symm v5
  have v6':=Ne.symm v6
  have v7':=Ne.symm v7
  simp only[vwS,bfS,bkS,shS,List.append_nil]
  by_cases h0:id=0
  ·subst h0
   rw[show lD B fl mk z1 seq 0={ z1 with now:=seq } from if_pos rfl] at htk
   repeat' (first|(with_reducible first|(refine wT ?_;(first|((fail_if_success (have:=nl1));refine wN fun nl1 hnl=>?_)|((fail_if_success (have:=nl2));refine wN fun nl2 hnl=>?_)|((fail_if_success (have:=nl3));refine wN fun nl3 hnl=>?_)|refine wN fun _ hnl=>?_);revert hnl;(repeat refine wS fun _ _=>?_);intro hnl)|refine wE ?_|(refine wK ?_ ?_<;>intro h)|(refine wB ?_ ?_<;>intro h<;>simp only[h]))|simp(maxSteps:=4000000) (disch:=first|exact ddL|fail) only[go_sem,simprocAttr,hat,hml])
   clear hat hml hxi
   refine .of (.less ?_ ?_) ⟨(i+1,dd,g0,ex0),rfl,rfl,⟨by simp only;omega,VV⟩,by simp only;omega⟩
   ·simp(maxSteps:=4000000) (disch:=first|exact ddL|fail) only[go_sem,simprocAttr,aJ,aG]
    all_goals first|rfl|(simp;done)
   ·simp only[htk]
    clear htk hz1e hz1 hz hx hlt hi h3 h4 hb hd hp VV DD V
    refine St.aC (St.aC (St.aC (St.aC (St.aC (St.aC (St.aC (St.aC (St.none_le _) ?_) ?_) ?_) ?_) ?_) ?_) ?_) ?_
    all_goals simp[St.set, *]
  ·have hsh:=zF hb h3 h4 DD ⟨f1,f2,f3,f4⟩ hp dd hd id
   obtain⟨de,hde⟩:∃de,(dd || decide ((eZ B.cards B.dead id).2=0))=de:=⟨_,rfl⟩
   rw[hde] at hsh
   have hst:lD B fl mk z1 seq id=_:=if_neg h0
   obtain⟨⟨c,is⟩,hci⟩:∃ci,gA B fl id=ci:=⟨_,rfl⟩
   rw[hci] at hsh hst
   have hpj:=BA c mk
   have hpv:(fT c mk).ver=c.ver:=rfl
   obtain⟨pc,hpc⟩:∃pc,fT c mk=pc:=⟨_,rfl⟩
   have hof:=vG seq (shG z1.sh id) id pc is
   simp only[hpc] at hst hpj
   obtain⟨T,hT⟩:∃T,gC seq (shG z1.sh id) id pc is=T:=⟨_,rfl⟩
   rw[hT] at hof
   rw[hT] at hst
   rw[hst] at htk
   have hgt:=xJ (id:=id) z1.sh
   have hput:=xM (id:=id) (v:=c.ver) z1.sh
   have hdel:=xH (id:=id) z1.sh
   have hik:=Ih z1.sh
   obtain⟨old,hold⟩:∃o,shG z1.sh id=o:=⟨_,rfl⟩
   rw[hold] at hof hgt htk
   have hsh':=Kx hsh
   obtain⟨K,hK,c1⟩:∃K:bJ,PlU (.these [76]) K∧∀ms,K 76 ms=some ⟨[f,b,q,l,m],fun _=>True,some ([flD fl de],fun _=>.tup [.agg c.c,.bool is])⟩ :=
    ⟨fnF [(76,⟨[f,b,q,l,m],fun _=>True,some ([flD fl de],fun _=>.tup [.agg c.c,.bool is])⟩)],vE,fun _=>cV⟩
   by_cases ho:old=T.new
   ·rw[if_pos ho,decide_eq_true ho,Bool.not_true] at hof
    simp only[if_pos ho] at htk
    obtain⟨C2,k1,k2⟩:∃C:bJ,(∀ms,C 78 ms=some ⟨[],fun v=>v=.agg pc.c,none⟩)∧∀ms,C 77 ms=some ⟨[],fun v=>v=.tup [.agg tu0.c,.bool false],none⟩ :=
     ⟨fnF [(78,⟨[],fun v=>v=.agg pc.c,none⟩),(77,⟨[],fun v=>v=.tup [.agg tu0.c,.bool false],none⟩)],fun _=>cV,fun _=>pM cV⟩
    clear hsh hci hpc hT hold hst
    cases is
    ·simp only[Bool.false_eq_true,if_false] at htk
     repeat' (first|(with_reducible first|(refine wT ?_;(first|((fail_if_success (have:=nl1));refine wN fun nl1 hnl=>?_)|((fail_if_success (have:=nl2));refine wN fun nl2 hnl=>?_)|((fail_if_success (have:=nl3));refine wN fun nl3 hnl=>?_)|refine wN fun _ hnl=>?_);revert hnl;(repeat refine wS fun _ _=>?_);intro hnl)|refine wE ?_|(refine wK ?_ ?_<;>intro h)|(refine wB ?_ ?_<;>intro h<;>simp only[h]))|simp(maxSteps:=4000000) (disch:=first|exact ddL|fail) only[go_sem,simprocAttr,hat,hml])
     refine cA mixed [76] (by decide +kernel) K hK ?_
     repeat' (first|(refine e7 (os:=[flD fl dd,bA B.sq l (.lst 2 (B.gr.map GR.c) false),.row 197 3 (B.dead.map DE.c),shO B.nx m (.vec 3 q 0 B.dead.length),.mp (cEs B.cards)]) (c1 _) (by simp[St.set, *]) hsh' ?_)|(with_reducible first|(refine wT ?_;(first|((fail_if_success (have:=nl1));refine wN fun nl1 hnl=>?_)|((fail_if_success (have:=nl2));refine wN fun nl2 hnl=>?_)|((fail_if_success (have:=nl3));refine wN fun nl3 hnl=>?_)|refine wN fun _ hnl=>?_);revert hnl;(repeat refine wS fun _ _=>?_);intro hnl)|refine wE ?_|(refine wK ?_ ?_<;>intro h)|(refine wB ?_ ?_<;>intro h<;>simp only[h]))|simp(maxSteps:=4000000) (disch:=first|exact ddL|fail) only[go_sem,simprocAttr,FXs])
     refine bL mixed (by decide +kernel) C2 ?_
     repeat' (first|(with_reducible refine aY (k1 _) hpj ?_)|(with_reducible refine aY (k2 _) hof ?_)|(refine mJ mixed (fun _ _=>none) [_,_,_,_,_,_] [] rfl (by decide +kernel) ?_)|(with_reducible first|(refine wT ?_;(first|((fail_if_success (have:=nl1));refine wN fun nl1 hnl=>?_)|((fail_if_success (have:=nl2));refine wN fun nl2 hnl=>?_)|((fail_if_success (have:=nl3));refine wN fun nl3 hnl=>?_)|refine wN fun _ hnl=>?_);revert hnl;(repeat refine wS fun _ _=>?_);intro hnl)|refine wE ?_|(refine wK ?_ ?_<;>intro h)|(refine wB ?_ ?_<;>intro h<;>simp only[h]))|simp(maxSteps:=4000000) (disch:=first|exact ddL|fail) only[go_sem,simprocAttr,FXs,List.headD_cons,hgt,hput,hik])
     refine iV (lC (t:=131) (l:=sm) (es:=shE z1.sh) (kd:=.i64) (n:=id) rfl (by rw[Hv]) (by rw[td3]) rfl (by simp[St.set, *]) rfl hik ?_)
     rw[hdel]
     show R _
     repeat' (first|(with_reducible first|(refine wT ?_;(first|((fail_if_success (have:=nl1));refine wN fun nl1 hnl=>?_)|((fail_if_success (have:=nl2));refine wN fun nl2 hnl=>?_)|((fail_if_success (have:=nl3));refine wN fun nl3 hnl=>?_)|refine wN fun _ hnl=>?_);revert hnl;(repeat refine wS fun _ _=>?_);intro hnl)|refine wE ?_|(refine wK ?_ ?_<;>intro h)|(refine wB ?_ ?_<;>intro h<;>simp only[h]))|simp(maxSteps:=4000000) (disch:=first|exact ddL|fail) only[go_sem,simprocAttr,FXs])
     clear hat hml hxi hgt hput hik hdel hof hpj hsh'
     refine .of (.less ?_ ?_) ⟨(i+1,de,g0,ex0),rfl,rfl,⟨by simp only;omega,VV⟩,by simp only;omega⟩
     ·simp(maxSteps:=4000000) (disch:=first|exact ddL|fail) only[go_sem,simprocAttr,aJ,aG]
      all_goals first|rfl|(simp;done)
     ·simp only[htk]
      clear htk hz1e hz1 hz hx hlt hi h3 h4 hb hd hp VV DD V c1 k1 k2
      refine St.aC (St.aC (St.aC (St.aC (St.aC (St.aC (St.aC (St.aC (St.none_le _) ?_) ?_) ?_) ?_) ?_) ?_) ?_) ?_
      all_goals simp[St.set,St.del, *]
    ·simp only[if_true] at htk
     repeat' (first|(with_reducible first|(refine wT ?_;(first|((fail_if_success (have:=nl1));refine wN fun nl1 hnl=>?_)|((fail_if_success (have:=nl2));refine wN fun nl2 hnl=>?_)|((fail_if_success (have:=nl3));refine wN fun nl3 hnl=>?_)|refine wN fun _ hnl=>?_);revert hnl;(repeat refine wS fun _ _=>?_);intro hnl)|refine wE ?_|(refine wK ?_ ?_<;>intro h)|(refine wB ?_ ?_<;>intro h<;>simp only[h]))|simp(maxSteps:=4000000) (disch:=first|exact ddL|fail) only[go_sem,simprocAttr,hat,hml])
     refine cA mixed [76] (by decide +kernel) K hK ?_
     repeat' (first|(refine e7 (os:=[flD fl dd,bA B.sq l (.lst 2 (B.gr.map GR.c) false),.row 197 3 (B.dead.map DE.c),shO B.nx m (.vec 3 q 0 B.dead.length),.mp (cEs B.cards)]) (c1 _) (by simp[St.set, *]) hsh' ?_)|(with_reducible first|(refine wT ?_;(first|((fail_if_success (have:=nl1));refine wN fun nl1 hnl=>?_)|((fail_if_success (have:=nl2));refine wN fun nl2 hnl=>?_)|((fail_if_success (have:=nl3));refine wN fun nl3 hnl=>?_)|refine wN fun _ hnl=>?_);revert hnl;(repeat refine wS fun _ _=>?_);intro hnl)|refine wE ?_|(refine wK ?_ ?_<;>intro h)|(refine wB ?_ ?_<;>intro h<;>simp only[h]))|simp(maxSteps:=4000000) (disch:=first|exact ddL|fail) only[go_sem,simprocAttr,FXs])
     refine bL mixed (by decide +kernel) C2 ?_
     repeat' (first|(with_reducible refine aY (k1 _) hpj ?_)|(with_reducible refine aY (k2 _) hof ?_)|(with_reducible first|(refine wT ?_;(first|((fail_if_success (have:=nl1));refine wN fun nl1 hnl=>?_)|((fail_if_success (have:=nl2));refine wN fun nl2 hnl=>?_)|((fail_if_success (have:=nl3));refine wN fun nl3 hnl=>?_)|refine wN fun _ hnl=>?_);revert hnl;(repeat refine wS fun _ _=>?_);intro hnl)|refine wE ?_|(refine wK ?_ ?_<;>intro h)|(refine wB ?_ ?_<;>intro h<;>simp only[h]))|simp(maxSteps:=4000000) (disch:=first|exact ddL|fail) only[go_sem,simprocAttr,FXs,List.headD_cons,hgt,hput,hik])
     clear hat hml hxi hgt hput hik hdel hof hpj hsh'
     refine .of (.less ?_ ?_) ⟨(i+1,de,g0,ex0),rfl,rfl,⟨by simp only;omega,VV⟩,by simp only;omega⟩
     ·simp(maxSteps:=4000000) (disch:=first|exact ddL|fail) only[go_sem,simprocAttr,aJ,aG]
      all_goals first|rfl|(simp;done)
     ·simp only[htk]
      clear htk hz1e hz1 hz hx hlt hi h3 h4 hb hd hp VV DD V c1 k1 k2
      refine St.aC (St.aC (St.aC (St.aC (St.aC (St.aC (St.aC (St.aC (St.none_le _) ?_) ?_) ?_) ?_) ?_) ?_) ?_) ?_
      all_goals simp[St.set,St.del, *]
   ·rw[if_neg ho,decide_eq_false ho,Bool.not_false] at hof
    simp only[if_neg ho] at htk
    obtain⟨C2,k1,k2⟩:∃C:bJ,(∀ms,C 78 ms=some ⟨[],fun v=>v=.agg pc.c,none⟩)∧∀ms,C 77 ms=some ⟨[],fun v=>v=.tup [.agg T.c,.bool true],none⟩ :=
     ⟨fnF [(78,⟨[],fun v=>v=.agg pc.c,none⟩),(77,⟨[],fun v=>v=.tup [.agg T.c,.bool true],none⟩)],fun _=>cV,fun _=>pM cV⟩
    clear hsh hci hpc hT hold hst
    cases is
    ·simp only[Bool.false_eq_true,if_false] at htk
     repeat' (first|(with_reducible first|(refine wT ?_;(first|((fail_if_success (have:=nl1));refine wN fun nl1 hnl=>?_)|((fail_if_success (have:=nl2));refine wN fun nl2 hnl=>?_)|((fail_if_success (have:=nl3));refine wN fun nl3 hnl=>?_)|refine wN fun _ hnl=>?_);revert hnl;(repeat refine wS fun _ _=>?_);intro hnl)|refine wE ?_|(refine wK ?_ ?_<;>intro h)|(refine wB ?_ ?_<;>intro h<;>simp only[h]))|simp(maxSteps:=4000000) (disch:=first|exact ddL|fail) only[go_sem,simprocAttr,hat,hml])
     refine cA mixed [76] (by decide +kernel) K hK ?_
     repeat' (first|(refine e7 (os:=[flD fl dd,bA B.sq l (.lst 2 (B.gr.map GR.c) false),.row 197 3 (B.dead.map DE.c),shO B.nx m (.vec 3 q 0 B.dead.length),.mp (cEs B.cards)]) (c1 _) (by simp[St.set, *]) hsh' ?_)|(with_reducible first|(refine wT ?_;(first|((fail_if_success (have:=nl1));refine wN fun nl1 hnl=>?_)|((fail_if_success (have:=nl2));refine wN fun nl2 hnl=>?_)|((fail_if_success (have:=nl3));refine wN fun nl3 hnl=>?_)|refine wN fun _ hnl=>?_);revert hnl;(repeat refine wS fun _ _=>?_);intro hnl)|refine wE ?_|(refine wK ?_ ?_<;>intro h)|(refine wB ?_ ?_<;>intro h<;>simp only[h]))|simp(maxSteps:=4000000) (disch:=first|exact ddL|fail) only[go_sem,simprocAttr,FXs])
     refine bL mixed (by decide +kernel) C2 ?_
     repeat' (first|(with_reducible refine aY (k1 _) hpj ?_)|(with_reducible refine aY (k2 _) hof ?_)|(with_reducible first|(refine wT ?_;(first|((fail_if_success (have:=nl1));refine wN fun nl1 hnl=>?_)|((fail_if_success (have:=nl2));refine wN fun nl2 hnl=>?_)|((fail_if_success (have:=nl3));refine wN fun nl3 hnl=>?_)|refine wN fun _ hnl=>?_);revert hnl;(repeat refine wS fun _ _=>?_);intro hnl)|refine wE ?_|(refine wK ?_ ?_<;>intro h)|(refine wB ?_ ?_<;>intro h<;>simp only[h]))|simp(maxSteps:=4000000) (disch:=first|exact ddL|fail) only[go_sem,simprocAttr,FXs,List.headD_cons,hgt,hput,hik])
     refine HC v7 (by simp[St.set, *]) (by simp[St.set, *]) (qO v7 f sm mk z1.floor seq z1.log hz1 ex0 T) fun rr g' ex' hvg hg'=>?_
     have gm:g'≠m:=fun e=>by subst e;simp[St.set,St.del, *] at hg'
     have gl:g'≠l:=fun e=>by subst e;simp[St.set,St.del, *] at hg'
     have gq:g'≠q:=fun e=>by subst e;simp[St.set,St.del, *] at hg'
     have gb:g'≠b:=fun e=>by subst e;simp[St.set,St.del, *] at hg'
     have gf:g'≠f:=fun e=>by subst e;simp[St.set,St.del, *] at hg'
     have gs:g'≠sm:=fun e=>by subst e;simp[St.set,St.del, *] at hg'
     have gn1:g'≠nl1:=fun e=>by subst e;simp[St.set,St.del, *] at hg'
     have gn2:g'≠nl2:=fun e=>by subst e;simp[St.set,St.del, *] at hg'
     have gn3:g'≠nl3:=fun e=>by subst e;simp[St.set,St.del, *] at hg'
     have VV':jT m l q b f sm g' v:=⟨VV.D,VV.hf,VV.hs,⟨gm,gl,gq,gb,gf,gs⟩,⟨v1,v2,v3,v4,v5,v6,hvg⟩⟩
     clear hg'
     have gm':=Ne.symm gm
     have gl':=Ne.symm gl
     have gq':=Ne.symm gq
     have gb':=Ne.symm gb
     have gf':=Ne.symm gf
     have gs':=Ne.symm gs
     have hvg':=Ne.symm hvg
     have gn1':=Ne.symm gn1
     have gn2':=Ne.symm gn2
     have gn3':=Ne.symm gn3
     repeat' (first|(refine mJ mixed (fun _ _=>none) [_,_,_,_,_,_] [] rfl (by decide +kernel) ?_)|(with_reducible first|(refine wT ?_;(first|((fail_if_success (have:=nl1));refine wN fun nl1 hnl=>?_)|((fail_if_success (have:=nl2));refine wN fun nl2 hnl=>?_)|((fail_if_success (have:=nl3));refine wN fun nl3 hnl=>?_)|refine wN fun _ hnl=>?_);revert hnl;(repeat refine wS fun _ _=>?_);intro hnl)|refine wE ?_|(refine wK ?_ ?_<;>intro h)|(refine wB ?_ ?_<;>intro h<;>simp only[h]))|simp(maxSteps:=4000000) (disch:=first|exact ddL|fail) only[go_sem,simprocAttr,FXs])
     refine iV (lC (t:=131) (l:=sm) (es:=shE z1.sh) (kd:=.i64) (n:=id) rfl (by rw[Hv]) (by rw[td3]) rfl (by simp[St.set, *]) rfl hik ?_)
     rw[hdel]
     show R _
     repeat' (first|(with_reducible first|(refine wT ?_;(first|((fail_if_success (have:=nl1));refine wN fun nl1 hnl=>?_)|((fail_if_success (have:=nl2));refine wN fun nl2 hnl=>?_)|((fail_if_success (have:=nl3));refine wN fun nl3 hnl=>?_)|refine wN fun _ hnl=>?_);revert hnl;(repeat refine wS fun _ _=>?_);intro hnl)|refine wE ?_|(refine wK ?_ ?_<;>intro h)|(refine wB ?_ ?_<;>intro h<;>simp only[h]))|simp(maxSteps:=4000000) (disch:=first|exact ddL|fail) only[go_sem,simprocAttr,FXs])
     clear hat hml hxi hgt hput hik hdel hof hpj hsh'
     refine .of (.less ?_ ?_) ⟨(i+1,de,g',ex'),rfl,rfl,⟨by simp only;omega,VV'⟩,by simp only;omega⟩
     ·simp(maxSteps:=4000000) (disch:=first|exact ddL|fail) only[go_sem,simprocAttr,aJ,aG]
      all_goals first|rfl|(simp;done)
     ·simp only[htk]
      clear VV' htk hz1e hz1 hz hx hlt hi h3 h4 hb hd hp VV DD V c1 k1 k2
      refine St.aC (St.aC (St.aC (St.aC (St.aC (St.aC (St.aC (St.aC (St.none_le _) ?_) ?_) ?_) ?_) ?_) ?_) ?_) ?_
      all_goals simp[St.set,St.del, *]
    ·simp only[if_true] at htk
     repeat' (first|(with_reducible first|(refine wT ?_;(first|((fail_if_success (have:=nl1));refine wN fun nl1 hnl=>?_)|((fail_if_success (have:=nl2));refine wN fun nl2 hnl=>?_)|((fail_if_success (have:=nl3));refine wN fun nl3 hnl=>?_)|refine wN fun _ hnl=>?_);revert hnl;(repeat refine wS fun _ _=>?_);intro hnl)|refine wE ?_|(refine wK ?_ ?_<;>intro h)|(refine wB ?_ ?_<;>intro h<;>simp only[h]))|simp(maxSteps:=4000000) (disch:=first|exact ddL|fail) only[go_sem,simprocAttr,hat,hml])
     refine cA mixed [76] (by decide +kernel) K hK ?_
     repeat' (first|(refine e7 (os:=[flD fl dd,bA B.sq l (.lst 2 (B.gr.map GR.c) false),.row 197 3 (B.dead.map DE.c),shO B.nx m (.vec 3 q 0 B.dead.length),.mp (cEs B.cards)]) (c1 _) (by simp[St.set, *]) hsh' ?_)|(with_reducible first|(refine wT ?_;(first|((fail_if_success (have:=nl1));refine wN fun nl1 hnl=>?_)|((fail_if_success (have:=nl2));refine wN fun nl2 hnl=>?_)|((fail_if_success (have:=nl3));refine wN fun nl3 hnl=>?_)|refine wN fun _ hnl=>?_);revert hnl;(repeat refine wS fun _ _=>?_);intro hnl)|refine wE ?_|(refine wK ?_ ?_<;>intro h)|(refine wB ?_ ?_<;>intro h<;>simp only[h]))|simp(maxSteps:=4000000) (disch:=first|exact ddL|fail) only[go_sem,simprocAttr,FXs])
     refine bL mixed (by decide +kernel) C2 ?_
     repeat' (first|(with_reducible refine aY (k1 _) hpj ?_)|(with_reducible refine aY (k2 _) hof ?_)|(with_reducible first|(refine wT ?_;(first|((fail_if_success (have:=nl1));refine wN fun nl1 hnl=>?_)|((fail_if_success (have:=nl2));refine wN fun nl2 hnl=>?_)|((fail_if_success (have:=nl3));refine wN fun nl3 hnl=>?_)|refine wN fun _ hnl=>?_);revert hnl;(repeat refine wS fun _ _=>?_);intro hnl)|refine wE ?_|(refine wK ?_ ?_<;>intro h)|(refine wB ?_ ?_<;>intro h<;>simp only[h]))|simp(maxSteps:=4000000) (disch:=first|exact ddL|fail) only[go_sem,simprocAttr,FXs,List.headD_cons,hgt,hput,hik])
     refine HC v7 (by simp[St.set, *]) (by simp[St.set, *]) (qO v7 f sm mk z1.floor seq z1.log hz1 ex0 T) fun rr g' ex' hvg hg'=>?_
     have gm:g'≠m:=fun e=>by subst e;simp[St.set,St.del, *] at hg'
     have gl:g'≠l:=fun e=>by subst e;simp[St.set,St.del, *] at hg'
     have gq:g'≠q:=fun e=>by subst e;simp[St.set,St.del, *] at hg'
     have gb:g'≠b:=fun e=>by subst e;simp[St.set,St.del, *] at hg'
     have gf:g'≠f:=fun e=>by subst e;simp[St.set,St.del, *] at hg'
     have gs:g'≠sm:=fun e=>by subst e;simp[St.set,St.del, *] at hg'
     have gn1:g'≠nl1:=fun e=>by subst e;simp[St.set,St.del, *] at hg'
     have gn2:g'≠nl2:=fun e=>by subst e;simp[St.set,St.del, *] at hg'
     have gn3:g'≠nl3:=fun e=>by subst e;simp[St.set,St.del, *] at hg'
     have VV':jT m l q b f sm g' v:=⟨VV.D,VV.hf,VV.hs,⟨gm,gl,gq,gb,gf,gs⟩,⟨v1,v2,v3,v4,v5,v6,hvg⟩⟩
     clear hg'
     have gm':=Ne.symm gm
     have gl':=Ne.symm gl
     have gq':=Ne.symm gq
     have gb':=Ne.symm gb
     have gf':=Ne.symm gf
     have gs':=Ne.symm gs
     have hvg':=Ne.symm hvg
     have gn1':=Ne.symm gn1
     have gn2':=Ne.symm gn2
     have gn3':=Ne.symm gn3
     repeat' (first|(with_reducible first|(refine wT ?_;(first|((fail_if_success (have:=nl1));refine wN fun nl1 hnl=>?_)|((fail_if_success (have:=nl2));refine wN fun nl2 hnl=>?_)|((fail_if_success (have:=nl3));refine wN fun nl3 hnl=>?_)|refine wN fun _ hnl=>?_);revert hnl;(repeat refine wS fun _ _=>?_);intro hnl)|refine wE ?_|(refine wK ?_ ?_<;>intro h)|(refine wB ?_ ?_<;>intro h<;>simp only[h]))|simp(maxSteps:=4000000) (disch:=first|exact ddL|fail) only[go_sem,simprocAttr,FXs,hput,hik])
     clear hat hml hxi hgt hput hik hdel hof hpj hsh'
     refine .of (.less ?_ ?_) ⟨(i+1,de,g',ex'),rfl,rfl,⟨by simp only;omega,VV'⟩,by simp only;omega⟩
     ·simp(maxSteps:=4000000) (disch:=first|exact ddL|fail) only[go_sem,simprocAttr,aJ,aG]
      all_goals first|rfl|(simp;done)
     ·simp only[htk]
      clear VV' htk hz1e hz1 hz hx hlt hi h3 h4 hb hd hp VV DD V c1 k1 k2
      refine St.aC (St.aC (St.aC (St.aC (St.aC (St.aC (St.aC (St.aC (St.none_le _) ?_) ?_) ?_) ?_) ?_) ?_) ?_) ?_
      all_goals simp[St.set,St.del, *]
end

section
set_option maxRecDepth 100000
set_option maxHeartbeats 8000000
def evP:PA:=⟨256,2,f80⟩
def evW:PA:=⟨256,1,f80⟩
def ev1:CA:=b5 1 evP
def ev2:CA:=dN ev1 evW
def tW:BK:=⟨1,2,[ev1],[],[]⟩
def tX:BK:=⟨2,2,[ev2],[],[]⟩
theorem HY:BkR tW:=⟨by decide,by decide,by decide,by decide,by decide +kernel,by decide +kernel,by decide,by decide,by decide +kernel⟩
theorem HZ:BkR tX:=⟨by decide,by decide,by decide,by decide,by decide +kernel,by decide +kernel,by decide,by decide,by decide +kernel⟩
def evN:ND:=⟨3,1,va0⟩
theorem pK:cD [evN]=0:=by decide +kernel
theorem Dd:gA tW [evN] 1=(ev1,true):=by
 have h1:jN tW.gr [evN] ev1=true:=by rw[qY pK];decide +kernel
 have h2:eZ tW.cards tW.dead 1=(ev1,0):=by decide +kernel
 unfold gA
 rw[h2]
 exact if_pos ⟨rfl,h1⟩
theorem De:gA tX [evN] 1=(ca0,false):=by
 have h1:jN tX.gr [evN] ev2=false:=by rw[qY pK];decide +kernel
 have h2:eZ tX.cards tX.dead 1=(ev2,0):=by decide +kernel
 unfold gA
 rw[h2]
 exact if_neg fun h=>by rw[h1] at h;cases h.2
def Dc:VS:=⟨[],0,0,[]⟩
def wW:VS:=⟨[(1,1)],0,1,[gC 1 0 1 (fT ev1 256) true]⟩
def AF:VS:=⟨[],0,2,[gC 1 0 1 (fT ev1 256) true,gC 2 1 1 (fT ca0 256) false]⟩
theorem Ft:iH tW [evN] 256 Dc [(1,1)]=wW:=by
 show lD tW [evN] 256 Dc 1 1=_
 unfold lD
 rw[Dd]
 have h:(gC 1 0 1 (fT ev1 256) true).new=1:=by decide +kernel
 have hv:ev1.ver=1:=by decide +kernel
 simp[Dc,wW,shG,shP,qH,kE,h,hv]
theorem Fu:iH tX [evN] 256 wW [(2,1)]=AF:=by
 show lD tX [evN] 256 wW 2 1=_
 unfold lD
 rw[De]
 have h:(gC 2 1 1 (fT ca0 256) false).new=0:=rfl
 simp[wW,AF,shG,shD,qH,kE,h]
theorem JK:(gC 1 0 1 (fT ev1 256) true).new=1:=by decide +kernel
end
end Go.Proofs.YtppdgejjmhdjhaaGreatDoor
