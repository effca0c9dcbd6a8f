/- Parts of the proof, joined; conditions: those that its theorems name. -/
import Derived.Test.YtppdgejjmhdjhaaGreatDoorMbzj
import Derived.Test.YtppdgejjmhdjhaaGreatDoorMbzk
set_option linter.unusedVariables false
set_option linter.unusedSimpArgs false
set_option maxHeartbeats 4000000
namespace Go.Proofs.YtppdgejjmhdjhaaGreatDoor
section
set_option maxRecDepth 100000
set_option maxHeartbeats 8000000
structure VS where
 sh:List (Int × Int)
 floor:Int
 now:Int
 log:List TU
def shE(sh:List (Int × Int)):List (MV × MV):=sh.map fun p=>(.int .i64 p.1,.int .i64 p.2)
def shG:List (Int × Int)→Int→Int
 | [],_=>0
 | (i,u)::r,id=>if i=id then u else shG r id
def shP:List (Int × Int)→Int→Int→List (Int × Int)
 | [],id,v=>[(id,v)]
 | (i,u)::r,id,v=>if i=id then(i,v)::r else(i,u)::shP r id v
def shD:List (Int × Int)→Int→List (Int × Int)
 | [],_=>[]
 | (i,u)::r,id=>if i=id then r else(i,u)::shD r id
theorem MK(sh:List (Int × Int)):((shE sh).all fun p=>isK .i64 p.1)=true:=by
 rw[List.all_eq_true]
 intro x hx
 obtain⟨p,_,rfl⟩:=List.mem_map.1 hx
 simp[isK]
theorem BV{id:Int}:∀sh:List (Int × Int),(cB id (shE sh)).getD (.int .i64 0)=.int .i64 (shG sh id)
 | []=>rfl
 | (i,u)::r=>by
  have ih:=BV (id:=id) r
  simp only[shE,List.map_cons,cB,shG] at ih ⊢
  by_cases h:i=id
  ·rw[if_pos h,if_pos h];rfl
  ·rw[if_neg h,if_neg h];exact ih
theorem BZ{id v:Int}:∀sh:List (Int × Int),cM .i64 id (.int .i64 v) (shE sh)=shE (shP sh id v)
 | []=>rfl
 | (i,u)::r=>by
  have ih:=BZ (id:=id) (v:=v) r
  simp only[shE,List.map_cons,cM,shP] at ih ⊢
  by_cases h:i=id
  ·rw[if_pos h,if_pos h];rfl
  ·rw[if_neg h,if_neg h,ih];rfl
theorem BR{id:Int}:∀sh:List (Int × Int),uB id (shE sh)=shE (shD sh id)
 | []=>rfl
 | (i,u)::r=>by
  have ih:=BR (id:=id) r
  simp only[shE,List.map_cons,uB,shD] at ih ⊢
  by_cases h:i=id
  ·rw[if_pos h,if_pos h]
  ·rw[if_neg h,if_neg h,ih];rfl
noncomputable def oM(B:BK)(fl:List ND)(mk:UInt32)(z:VS)(seq id:Int):VS :=
 if id=0 then { z with now:=seq } else
  let c:=(iU B fl id).1
  let is:=(iU B fl id).2
  let t:=iW seq (shG z.sh id) id (cC c mk) is
  ⟨if is=true then shP z.sh id c.ver else shD z.sh id,if shG z.sh id=t.new then z.floor else vC z.floor z.log t,seq,if shG z.sh id=t.new then z.log else mQ z.log t⟩
noncomputable def kK(B:BK)(fl:List ND)(mk:UInt32)(z:VS)(xs:List (Int × Int)):VS:=xs.foldl (fun z x=>oM B fl mk z x.1 x.2) z
abbrev chC(x:Int × Int):List MV:=[.int .i64 x.1,.int .i64 x.2]
theorem L2{P:Program}{h0:FuncId}{ms:List MV}{σ:St}{g v:Nat}{og ov:aW}{og':List (List MV)→aW}{ov':Nat→aW}{k:MV→St→Prop}(hvg:v≠g)(hg:σ g=some og)(hv:σ v=some ov)
 (h:aA P h0 ms ((St.none.set g og).set v ov) fun _ σ'=>∃g' ex',v≠g'∧σ'=(St.none.set g' (og' ex')).set v (ov' g'))
 (hk:∀r g' ex',v≠g'→(σ.del g) g'=none→R (bQ r (((σ.del g).set g' (og' ex')).set v (ov' g')) k)):R (cQ P h0 ms σ k) :=
 bX h (St.aD (St.aD (St.none_le _) hg) hv) fun r σ' hv' hf=>by
  obtain⟨g',ex',hne,rfl⟩:=hv'
  have e:((St.none.set g' (og' ex')).set v (ov' g')).over (σ.minus ((St.none.set g og).set v ov))=((σ.del g).set g' (og' ex')).set v (ov' g'):=by
   funext j
   by_cases h1:j=v
   ·subst h1;simp[St.over,St.set]
   ·by_cases h2:j=g'
    ·subst h2;simp[St.over,St.set,h1]
    ·by_cases h3:j=g
     ·subst h3;simp[St.over,St.set,St.minus,St.del,St.none,h1,h2]
     ·simp[St.over,St.set,St.minus,St.del,St.none,h1,h2,h3]
  rw[e]
  refine hk r g' ex' hne ?_
  rcases hf g' (og' ex') (by simp[St.set,Ne.symm hne]) with h|⟨o',h⟩
  ·simp[St.del,h]
  ·by_cases h3:g'=g
   ·subst h3;simp[St.del]
   ·simp[St.set,St.none,h3,Ne.symm hne] at h
structure lZ (m l q b f sm g v:Nat):Prop where
 D:kE m l q b
 hf:f≠m∧f≠l∧f≠q∧f≠b
 hs:sm≠m∧sm≠l∧sm≠q∧sm≠b∧sm≠f
 hg:g≠m∧g≠l∧g≠q∧g≠b∧g≠f∧g≠sm
 hv:v≠m∧v≠l∧v≠q∧v≠b∧v≠f∧v≠sm∧v≠g
noncomputable abbrev vwS(m l q b:Nat)(B:BK)(f:Nat)(fl:List ND)(d:Bool)(sm g v:Nat)(mk:UInt32)(z:VS)(ex:List (List MV)):St:=(((bfS m l q b B f fl d).set sm (.mp (shE z.sh))).set g (lgO z.log ex)).set v (vwO f mk sm z.floor z.now (.vec 31 g 0 z.log.length))
theorem Oc{m l q b f sm g v:Nat}{B:BK}{fl:List ND}{d:Bool}{mk:UInt32}{z:VS}{ex:List (List MV)}{σ:St}(hm:σ m=some (.mp (cEs B.cards)))(hl:σ l=some (shO B.nx m (.vec 3 q 0 B.dead.length)))(hq:σ q=some (.row 197 3 (B.dead.map DE.c)))(hb:σ b=some (bL B.sq l (.lst 2 (B.gr.map GR.c) false)))(hf:σ f=some (flD fl d))
 (hs:σ sm=some (.mp (shE z.sh)))(hg:σ g=some (lgO z.log ex))(hv:σ v=some (vwO f mk sm z.floor z.now (.vec 31 g 0 z.log.length))):(vwS m l q b B f fl d sm g v mk z ex).le σ :=
 St.aD (St.aD (St.aD (Oh hm hl hq hb hf) hs) hg) hv
theorem Lc{log:List TU}{t:TU}(h:log.length≤40):(mQ log t).length≤40:=by
 unfold mQ
 split
 ·rw[List.length_append];simp only[List.length_cons,List.length_nil];omega
 ·rw[List.length_drop,List.length_append];simp only[List.length_cons,List.length_nil];omega
theorem LS{B:BK}{fl:List ND}{mk:UInt32}{z:VS}(h:z.log.length≤40)(seq id:Int):(oM B fl mk z seq id).log.length≤40:=by
 unfold oM
 split
 ·exact h
 ·simp only
  split
  ·exact h
  ·exact Lc h
theorem Jr{B:BK}{fl:List ND}{mk:UInt32}{z:VS}(h:z.log.length≤40):∀xs:List (Int × Int),(kK B fl mk z xs).log.length≤40:=by
 intro xs
 induction xs generalizing z with
 | nil=>exact h
 | cons x r ih=>exact ih (LS h x.1 x.2)
theorem sD{B:BK}(hb:BkR B)(h3:B.gr.length≤1000000)(h4:∀g,g∈B.gr→g.mem.length≤1000000)(hd:B.dead.length≤1000000){fl:List ND}(hp:bF fl=0){mk:UInt32}{m l q b f sm g v:Nat}(V:lZ m l q b f sm g v)(d:Bool)(z:VS)(hz:z.log.length≤40)(ex:List (List MV))(xs:List (Int × Int))(hx:xs.length≤1000000)(tt:Bool) :
  aA Tryz.prog 18 [.ptr v 0 0,.ptr b 0 0,.lst 2 (xs.map chC) tt] (vwS m l q b B f fl d sm g v mk z ex) (fun _ σ'=>∃d' g' ex',lZ m l q b f sm g' v∧σ'=vwS m l q b B f fl d' sm g' v mk (kK B fl mk z xs) ex'):=by
 refine aA.less (Q':=fun _ σ'=>∃d' g' ex',lZ m l q b f sm g' v∧(vwS m l q b B f fl d' sm g' v mk (kK B fl mk z xs) ex').le σ') (aA.body 81 [] Tryz.func18 rfl rfl rfl rfl ?_) fun v σ' ⟨d',g',ex',h1,h2⟩=>⟨_,h2,d',g',ex',h1,rfl⟩
 repeat' (first|(with_reducible first|(refine wT ?_;(first|((fail_if_success (have:=nl1));refine wN fun nl1 hnl=>?_)|((fail_if_success (have:=nl2));refine wN fun nl2 hnl=>?_)|((fail_if_success (have:=nl3));refine wN fun nl3 hnl=>?_)|refine wN fun _ hnl=>?_);revert hnl;(repeat refine wS fun _ _=>?_);intro hnl)|refine wE ?_|(refine wK ?_ ?_<;>intro h)|(refine wB ?_ ?_<;>intro h<;>simp only[h]))|simp(maxSteps:=4000000) (disch:=first|exact ddL|fail) only[go_sem,simprocAttr,Tryz.f18])
 refine aF (α:=Nat × Bool × Nat × List (List MV)) (fun a=>⟨81,[(16,.int .i64 (a.1:Int)),(15,.int .i64 (xs.length:Int)),(14,.lst 2 (xs.map chC) tt),(0,.ptr v 0 0),(1,.ptr b 0 0)],[]⟩)
  (fun a=>vwS m l q b B f fl a.2.1 sm a.2.2.1 v mk (kK B fl mk z (xs.take a.1)) a.2.2.2) (fun a=>a.1≤xs.length∧lZ m l q b f sm a.2.2.1 v) (fun a=>xs.length - a.1) ?_ ?_
 ·refine .of (.less ?_ (St.le_refl _)) ⟨(0,d,g,ex),rfl,rfl,Nat.zero_le _,V⟩
  simp(maxSteps:=4000000) (disch:=first|exact ddL|fail) only[go_sem,simprocAttr,aC,aB]
  all_goals first|rfl|(simp;done)
 ·rintro⟨i,dd,g0,ex0⟩ ⟨hi,V1⟩
  simp only at hi V1 ⊢
  by_cases hlt:i<xs.length
  rotate_left
  ·obtain rfl:i=xs.length:=by omega
   rw[List.take_length]
   repeat' (first|(with_reducible first|(refine wT ?_;(first|((fail_if_success (have:=nl1));refine wN fun nl1 hnl=>?_)|((fail_if_success (have:=nl2));refine wN fun nl2 hnl=>?_)|((fail_if_success (have:=nl3));refine wN fun nl3 hnl=>?_)|refine wN fun _ hnl=>?_);revert hnl;(repeat refine wS fun _ _=>?_);intro hnl)|refine wE ?_|(refine wK ?_ ?_<;>intro h)|(refine wB ?_ ?_<;>intro h<;>simp only[h]))|simp(maxSteps:=4000000) (disch:=first|exact ddL|fail) only[go_sem,simprocAttr])
   exact⟨_,_,_,V1,St.le_refl _⟩
  obtain⟨⟨seq,id⟩,hxi⟩:=bI xs hlt
  have hat:=bB (f:=chC) hxi
  have hml:(xs.map chC).length=xs.length:=List.length_map _
  have htk:kK B fl mk z (xs.take (i+1))=oM B fl mk (kK B fl mk z (xs.take i)) seq id:=by
   rw[aV hxi];unfold kK;rw[List.foldl_append];rfl
  have hz1:=Jr (B:=B) (fl:=fl) (mk:=mk) hz (xs.take i)
  obtain⟨z1,hz1e⟩:∃z1,kK B fl mk z (xs.take i)=z1:=⟨_,rfl⟩
  rw[hz1e] at htk hz1 ⊢
  have VV:=V1
  have DD:=V1.D
  obtain⟨⟨d1,d2,d3,d4,d5,d6⟩,⟨f1,f2,f3,f4⟩,⟨s1,s2,s3,s4,s5⟩,⟨g1,g2,g3,g4,g5,g6⟩,⟨v1,v2,v3,v4,v5,v6,v7⟩⟩:=V1
  have d1':=Ne.symm d1
  have d2':=Ne.symm d2
  have d3':=Ne.symm d3
  have d4':=Ne.symm d4
  have d5':=Ne.symm d5
  have d6':=Ne.symm d6
  have f1':=Ne.symm f1
  have f2':=Ne.symm f2
  have f3':=Ne.symm f3
  have f4':=Ne.symm f4
  have s1':=Ne.symm s1
  have s2':=Ne.symm s2
  have s3':=Ne.symm s3
  have s4':=Ne.symm s4
  have s5':=Ne.symm s5
  have g1':=Ne.symm g1
  have g2':=Ne.symm g2
  have g3':=Ne.symm g3
  have g4':=Ne.symm g4
  have g5':=Ne.symm g5
  have g6':=Ne.symm g6
  have v1':=Ne.symm v1
  have v2':=Ne.symm v2
  have v3':=Ne.symm v3
  have v4':=Ne.symm v4
  have v5':=Ne.symm v5
  have v6':=Ne.symm v6
  have v7':=Ne.symm v7
  simp only[vwS,bfS,bkS,shS,List.append_nil]
  by_cases h0:id=0
  ·subst h0
   rw[show oM B fl mk z1 seq 0={ z1 with now:=seq } from if_pos rfl] at htk
   repeat' (first|(with_reducible first|(refine wT ?_;(first|((fail_if_success (have:=nl1));refine wN fun nl1 hnl=>?_)|((fail_if_success (have:=nl2));refine wN fun nl2 hnl=>?_)|((fail_if_success (have:=nl3));refine wN fun nl3 hnl=>?_)|refine wN fun _ hnl=>?_);revert hnl;(repeat refine wS fun _ _=>?_);intro hnl)|refine wE ?_|(refine wK ?_ ?_<;>intro h)|(refine wB ?_ ?_<;>intro h<;>simp only[h]))|simp(maxSteps:=4000000) (disch:=first|exact ddL|fail) only[go_sem,simprocAttr,hat,hml])
   clear hat hml hxi
   refine .of (.less ?_ ?_) ⟨(i+1,dd,g0,ex0),rfl,rfl,⟨by simp only;omega,VV⟩,by simp only;omega⟩
   ·simp(maxSteps:=4000000) (disch:=first|exact ddL|fail) only[go_sem,simprocAttr,aC,aB]
    all_goals first|rfl|(simp;done)
   ·simp only[htk]
    clear htk hz1e hz1 hz hx hlt hi h3 h4 hb hd hp VV DD V
    refine St.aD (St.aD (St.aD (St.aD (St.aD (St.aD (St.aD (St.aD (St.none_le _) ?_) ?_) ?_) ?_) ?_) ?_) ?_) ?_
    all_goals simp[St.set, *]
  ·have hsh:=C8 hb h3 h4 DD ⟨f1,f2,f3,f4⟩ hp dd hd id
   obtain⟨de,hde⟩:∃de,(dd || decide ((fT B.cards B.dead id).2=0))=de:=⟨_,rfl⟩
   rw[hde] at hsh
   have hst:oM B fl mk z1 seq id=_:=if_neg h0
   obtain⟨⟨c,is⟩,hci⟩:∃ci,iU B fl id=ci:=⟨_,rfl⟩
   rw[hci] at hsh hst
   have hpj:=vL c mk
   have hpv:(cC c mk).ver=c.ver:=rfl
   obtain⟨pc,hpc⟩:∃pc,cC c mk=pc:=⟨_,rfl⟩
   have hof:=AZ seq (shG z1.sh id) id pc is
   simp only[hpc] at hst hpj
   obtain⟨T,hT⟩:∃T,iW seq (shG z1.sh id) id pc is=T:=⟨_,rfl⟩
   rw[hT] at hof
   rw[hT] at hst
   rw[hst] at htk
   have hgt:=BV (id:=id) z1.sh
   have hput:=BZ (id:=id) (v:=c.ver) z1.sh
   have hdel:=BR (id:=id) z1.sh
   have hik:=MK z1.sh
   obtain⟨old,hold⟩:∃o,shG z1.sh id=o:=⟨_,rfl⟩
   rw[hold] at hof hgt htk
   have hsh':=Ps hsh
   obtain⟨K,hK,c1⟩:∃K:bR,PlU (.these [76]) K∧∀ms,K 76 ms=some ⟨[f,b,q,l,m],fun _=>True,some ([flD fl de],fun _=>.tup [.agg c.c,.bool is])⟩ :=
    ⟨fnF [(76,⟨[f,b,q,l,m],fun _=>True,some ([flD fl de],fun _=>.tup [.agg c.c,.bool is])⟩)],AY,fun _=>bO⟩
   by_cases ho:old=T.new
   ·rw[if_pos ho,decide_eq_true ho,Bool.not_true] at hof
    simp only[if_pos ho] at htk
    obtain⟨C2,k1,k2⟩:∃C:bR,(∀ms,C 78 ms=some ⟨[],fun v=>v=.agg pc.c,none⟩)∧∀ms,C 77 ms=some ⟨[],fun v=>v=.tup [.agg tu0.c,.bool false],none⟩ :=
     ⟨fnF [(78,⟨[],fun v=>v=.agg pc.c,none⟩),(77,⟨[],fun v=>v=.tup [.agg tu0.c,.bool false],none⟩)],fun _=>bO,fun _=>bC bO⟩
    clear hsh hci hpc hT hold hst
    cases is
    ·simp only[Bool.false_eq_true,if_false] at htk
     repeat' (first|(with_reducible first|(refine wT ?_;(first|((fail_if_success (have:=nl1));refine wN fun nl1 hnl=>?_)|((fail_if_success (have:=nl2));refine wN fun nl2 hnl=>?_)|((fail_if_success (have:=nl3));refine wN fun nl3 hnl=>?_)|refine wN fun _ hnl=>?_);revert hnl;(repeat refine wS fun _ _=>?_);intro hnl)|refine wE ?_|(refine wK ?_ ?_<;>intro h)|(refine wB ?_ ?_<;>intro h<;>simp only[h]))|simp(maxSteps:=4000000) (disch:=first|exact ddL|fail) only[go_sem,simprocAttr,hat,hml])
     refine dO mixed [76] (by decide +kernel) K hK ?_
     repeat' (first|(refine gW (os:=[flD fl dd,bL B.sq l (.lst 2 (B.gr.map GR.c) false),.row 197 3 (B.dead.map DE.c),shO B.nx m (.vec 3 q 0 B.dead.length),.mp (cEs B.cards)]) (c1 _) (by simp[St.set, *]) hsh' ?_)|(with_reducible first|(refine wT ?_;(first|((fail_if_success (have:=nl1));refine wN fun nl1 hnl=>?_)|((fail_if_success (have:=nl2));refine wN fun nl2 hnl=>?_)|((fail_if_success (have:=nl3));refine wN fun nl3 hnl=>?_)|refine wN fun _ hnl=>?_);revert hnl;(repeat refine wS fun _ _=>?_);intro hnl)|refine wE ?_|(refine wK ?_ ?_<;>intro h)|(refine wB ?_ ?_<;>intro h<;>simp only[h]))|simp(maxSteps:=4000000) (disch:=first|exact ddL|fail) only[go_sem,simprocAttr,FXs])
     refine aK mixed (by decide +kernel) C2 ?_
     repeat' (first|(with_reducible refine aI (k1 _) hpj ?_)|(with_reducible refine aI (k2 _) hof ?_)|(refine pX mixed (fun _ _=>none) [_,_,_,_,_,_] [] rfl (by decide +kernel) ?_)|(with_reducible first|(refine wT ?_;(first|((fail_if_success (have:=nl1));refine wN fun nl1 hnl=>?_)|((fail_if_success (have:=nl2));refine wN fun nl2 hnl=>?_)|((fail_if_success (have:=nl3));refine wN fun nl3 hnl=>?_)|refine wN fun _ hnl=>?_);revert hnl;(repeat refine wS fun _ _=>?_);intro hnl)|refine wE ?_|(refine wK ?_ ?_<;>intro h)|(refine wB ?_ ?_<;>intro h<;>simp only[h]))|simp(maxSteps:=4000000) (disch:=first|exact ddL|fail) only[go_sem,simprocAttr,FXs,List.headD_cons,hgt,hput,hik])
     refine jW (oL (t:=131) (l:=sm) (es:=shE z1.sh) (kd:=.i64) (n:=id) rfl (by rw[GK]) (by rw[td3]) rfl (by simp[St.set, *]) rfl hik ?_)
     rw[hdel]
     show R _
     repeat' (first|(with_reducible first|(refine wT ?_;(first|((fail_if_success (have:=nl1));refine wN fun nl1 hnl=>?_)|((fail_if_success (have:=nl2));refine wN fun nl2 hnl=>?_)|((fail_if_success (have:=nl3));refine wN fun nl3 hnl=>?_)|refine wN fun _ hnl=>?_);revert hnl;(repeat refine wS fun _ _=>?_);intro hnl)|refine wE ?_|(refine wK ?_ ?_<;>intro h)|(refine wB ?_ ?_<;>intro h<;>simp only[h]))|simp(maxSteps:=4000000) (disch:=first|exact ddL|fail) only[go_sem,simprocAttr,FXs])
     clear hat hml hxi hgt hput hik hdel hof hpj hsh'
     refine .of (.less ?_ ?_) ⟨(i+1,de,g0,ex0),rfl,rfl,⟨by simp only;omega,VV⟩,by simp only;omega⟩
     ·simp(maxSteps:=4000000) (disch:=first|exact ddL|fail) only[go_sem,simprocAttr,aC,aB]
      all_goals first|rfl|(simp;done)
     ·simp only[htk]
      clear htk hz1e hz1 hz hx hlt hi h3 h4 hb hd hp VV DD V c1 k1 k2
      refine St.aD (St.aD (St.aD (St.aD (St.aD (St.aD (St.aD (St.aD (St.none_le _) ?_) ?_) ?_) ?_) ?_) ?_) ?_) ?_
      all_goals simp[St.set,St.del, *]
    ·simp only[if_true] at htk
     repeat' (first|(with_reducible first|(refine wT ?_;(first|((fail_if_success (have:=nl1));refine wN fun nl1 hnl=>?_)|((fail_if_success (have:=nl2));refine wN fun nl2 hnl=>?_)|((fail_if_success (have:=nl3));refine wN fun nl3 hnl=>?_)|refine wN fun _ hnl=>?_);revert hnl;(repeat refine wS fun _ _=>?_);intro hnl)|refine wE ?_|(refine wK ?_ ?_<;>intro h)|(refine wB ?_ ?_<;>intro h<;>simp only[h]))|simp(maxSteps:=4000000) (disch:=first|exact ddL|fail) only[go_sem,simprocAttr,hat,hml])
     refine dO mixed [76] (by decide +kernel) K hK ?_
     repeat' (first|(refine gW (os:=[flD fl dd,bL B.sq l (.lst 2 (B.gr.map GR.c) false),.row 197 3 (B.dead.map DE.c),shO B.nx m (.vec 3 q 0 B.dead.length),.mp (cEs B.cards)]) (c1 _) (by simp[St.set, *]) hsh' ?_)|(with_reducible first|(refine wT ?_;(first|((fail_if_success (have:=nl1));refine wN fun nl1 hnl=>?_)|((fail_if_success (have:=nl2));refine wN fun nl2 hnl=>?_)|((fail_if_success (have:=nl3));refine wN fun nl3 hnl=>?_)|refine wN fun _ hnl=>?_);revert hnl;(repeat refine wS fun _ _=>?_);intro hnl)|refine wE ?_|(refine wK ?_ ?_<;>intro h)|(refine wB ?_ ?_<;>intro h<;>simp only[h]))|simp(maxSteps:=4000000) (disch:=first|exact ddL|fail) only[go_sem,simprocAttr,FXs])
     refine aK mixed (by decide +kernel) C2 ?_
     repeat' (first|(with_reducible refine aI (k1 _) hpj ?_)|(with_reducible refine aI (k2 _) hof ?_)|(with_reducible first|(refine wT ?_;(first|((fail_if_success (have:=nl1));refine wN fun nl1 hnl=>?_)|((fail_if_success (have:=nl2));refine wN fun nl2 hnl=>?_)|((fail_if_success (have:=nl3));refine wN fun nl3 hnl=>?_)|refine wN fun _ hnl=>?_);revert hnl;(repeat refine wS fun _ _=>?_);intro hnl)|refine wE ?_|(refine wK ?_ ?_<;>intro h)|(refine wB ?_ ?_<;>intro h<;>simp only[h]))|simp(maxSteps:=4000000) (disch:=first|exact ddL|fail) only[go_sem,simprocAttr,FXs,List.headD_cons,hgt,hput,hik])
     clear hat hml hxi hgt hput hik hdel hof hpj hsh'
     refine .of (.less ?_ ?_) ⟨(i+1,de,g0,ex0),rfl,rfl,⟨by simp only;omega,VV⟩,by simp only;omega⟩
     ·simp(maxSteps:=4000000) (disch:=first|exact ddL|fail) only[go_sem,simprocAttr,aC,aB]
      all_goals first|rfl|(simp;done)
     ·simp only[htk]
      clear htk hz1e hz1 hz hx hlt hi h3 h4 hb hd hp VV DD V c1 k1 k2
      refine St.aD (St.aD (St.aD (St.aD (St.aD (St.aD (St.aD (St.aD (St.none_le _) ?_) ?_) ?_) ?_) ?_) ?_) ?_) ?_
      all_goals simp[St.set,St.del, *]
   ·rw[if_neg ho,decide_eq_false ho,Bool.not_false] at hof
    simp only[if_neg ho] at htk
    obtain⟨C2,k1,k2⟩:∃C:bR,(∀ms,C 78 ms=some ⟨[],fun v=>v=.agg pc.c,none⟩)∧∀ms,C 77 ms=some ⟨[],fun v=>v=.tup [.agg T.c,.bool true],none⟩ :=
     ⟨fnF [(78,⟨[],fun v=>v=.agg pc.c,none⟩),(77,⟨[],fun v=>v=.tup [.agg T.c,.bool true],none⟩)],fun _=>bO,fun _=>bC bO⟩
    clear hsh hci hpc hT hold hst
    cases is
    ·simp only[Bool.false_eq_true,if_false] at htk
     repeat' (first|(with_reducible first|(refine wT ?_;(first|((fail_if_success (have:=nl1));refine wN fun nl1 hnl=>?_)|((fail_if_success (have:=nl2));refine wN fun nl2 hnl=>?_)|((fail_if_success (have:=nl3));refine wN fun nl3 hnl=>?_)|refine wN fun _ hnl=>?_);revert hnl;(repeat refine wS fun _ _=>?_);intro hnl)|refine wE ?_|(refine wK ?_ ?_<;>intro h)|(refine wB ?_ ?_<;>intro h<;>simp only[h]))|simp(maxSteps:=4000000) (disch:=first|exact ddL|fail) only[go_sem,simprocAttr,hat,hml])
     refine dO mixed [76] (by decide +kernel) K hK ?_
     repeat' (first|(refine gW (os:=[flD fl dd,bL B.sq l (.lst 2 (B.gr.map GR.c) false),.row 197 3 (B.dead.map DE.c),shO B.nx m (.vec 3 q 0 B.dead.length),.mp (cEs B.cards)]) (c1 _) (by simp[St.set, *]) hsh' ?_)|(with_reducible first|(refine wT ?_;(first|((fail_if_success (have:=nl1));refine wN fun nl1 hnl=>?_)|((fail_if_success (have:=nl2));refine wN fun nl2 hnl=>?_)|((fail_if_success (have:=nl3));refine wN fun nl3 hnl=>?_)|refine wN fun _ hnl=>?_);revert hnl;(repeat refine wS fun _ _=>?_);intro hnl)|refine wE ?_|(refine wK ?_ ?_<;>intro h)|(refine wB ?_ ?_<;>intro h<;>simp only[h]))|simp(maxSteps:=4000000) (disch:=first|exact ddL|fail) only[go_sem,simprocAttr,FXs])
     refine aK mixed (by decide +kernel) C2 ?_
     repeat' (first|(with_reducible refine aI (k1 _) hpj ?_)|(with_reducible refine aI (k2 _) hof ?_)|(with_reducible first|(refine wT ?_;(first|((fail_if_success (have:=nl1));refine wN fun nl1 hnl=>?_)|((fail_if_success (have:=nl2));refine wN fun nl2 hnl=>?_)|((fail_if_success (have:=nl3));refine wN fun nl3 hnl=>?_)|refine wN fun _ hnl=>?_);revert hnl;(repeat refine wS fun _ _=>?_);intro hnl)|refine wE ?_|(refine wK ?_ ?_<;>intro h)|(refine wB ?_ ?_<;>intro h<;>simp only[h]))|simp(maxSteps:=4000000) (disch:=first|exact ddL|fail) only[go_sem,simprocAttr,FXs,List.headD_cons,hgt,hput,hik])
     refine L2 v7 (by simp[St.set, *]) (by simp[St.set, *]) (vK v7 f sm mk z1.floor seq z1.log hz1 ex0 T) fun rr g' ex' hvg hg'=>?_
     have gm:g'≠m:=fun e=>by subst e;simp[St.set,St.del, *] at hg'
     have gl:g'≠l:=fun e=>by subst e;simp[St.set,St.del, *] at hg'
     have gq:g'≠q:=fun e=>by subst e;simp[St.set,St.del, *] at hg'
     have gb:g'≠b:=fun e=>by subst e;simp[St.set,St.del, *] at hg'
     have gf:g'≠f:=fun e=>by subst e;simp[St.set,St.del, *] at hg'
     have gs:g'≠sm:=fun e=>by subst e;simp[St.set,St.del, *] at hg'
     have gn1:g'≠nl1:=fun e=>by subst e;simp[St.set,St.del, *] at hg'
     have gn2:g'≠nl2:=fun e=>by subst e;simp[St.set,St.del, *] at hg'
     have gn3:g'≠nl3:=fun e=>by subst e;simp[St.set,St.del, *] at hg'
     have VV':lZ m l q b f sm g' v:=⟨VV.D,VV.hf,VV.hs,⟨gm,gl,gq,gb,gf,gs⟩,⟨v1,v2,v3,v4,v5,v6,hvg⟩⟩
     clear hg'
     have gm':=Ne.symm gm
     have gl':=Ne.symm gl
     have gq':=Ne.symm gq
     have gb':=Ne.symm gb
     have gf':=Ne.symm gf
     have gs':=Ne.symm gs
     have hvg':=Ne.symm hvg
     have gn1':=Ne.symm gn1
     have gn2':=Ne.symm gn2
     have gn3':=Ne.symm gn3
     repeat' (first|(refine pX mixed (fun _ _=>none) [_,_,_,_,_,_] [] rfl (by decide +kernel) ?_)|(with_reducible first|(refine wT ?_;(first|((fail_if_success (have:=nl1));refine wN fun nl1 hnl=>?_)|((fail_if_success (have:=nl2));refine wN fun nl2 hnl=>?_)|((fail_if_success (have:=nl3));refine wN fun nl3 hnl=>?_)|refine wN fun _ hnl=>?_);revert hnl;(repeat refine wS fun _ _=>?_);intro hnl)|refine wE ?_|(refine wK ?_ ?_<;>intro h)|(refine wB ?_ ?_<;>intro h<;>simp only[h]))|simp(maxSteps:=4000000) (disch:=first|exact ddL|fail) only[go_sem,simprocAttr,FXs])
     refine jW (oL (t:=131) (l:=sm) (es:=shE z1.sh) (kd:=.i64) (n:=id) rfl (by rw[GK]) (by rw[td3]) rfl (by simp[St.set, *]) rfl hik ?_)
     rw[hdel]
     show R _
     repeat' (first|(with_reducible first|(refine wT ?_;(first|((fail_if_success (have:=nl1));refine wN fun nl1 hnl=>?_)|((fail_if_success (have:=nl2));refine wN fun nl2 hnl=>?_)|((fail_if_success (have:=nl3));refine wN fun nl3 hnl=>?_)|refine wN fun _ hnl=>?_);revert hnl;(repeat refine wS fun _ _=>?_);intro hnl)|refine wE ?_|(refine wK ?_ ?_<;>intro h)|(refine wB ?_ ?_<;>intro h<;>simp only[h]))|simp(maxSteps:=4000000) (disch:=first|exact ddL|fail) only[go_sem,simprocAttr,FXs])
     clear hat hml hxi hgt hput hik hdel hof hpj hsh'
     refine .of (.less ?_ ?_) ⟨(i+1,de,g',ex'),rfl,rfl,⟨by simp only;omega,VV'⟩,by simp only;omega⟩
     ·simp(maxSteps:=4000000) (disch:=first|exact ddL|fail) only[go_sem,simprocAttr,aC,aB]
      all_goals first|rfl|(simp;done)
     ·simp only[htk]
      clear VV' htk hz1e hz1 hz hx hlt hi h3 h4 hb hd hp VV DD V c1 k1 k2
      refine St.aD (St.aD (St.aD (St.aD (St.aD (St.aD (St.aD (St.aD (St.none_le _) ?_) ?_) ?_) ?_) ?_) ?_) ?_) ?_
      all_goals simp[St.set,St.del, *]
    ·simp only[if_true] at htk
     repeat' (first|(with_reducible first|(refine wT ?_;(first|((fail_if_success (have:=nl1));refine wN fun nl1 hnl=>?_)|((fail_if_success (have:=nl2));refine wN fun nl2 hnl=>?_)|((fail_if_success (have:=nl3));refine wN fun nl3 hnl=>?_)|refine wN fun _ hnl=>?_);revert hnl;(repeat refine wS fun _ _=>?_);intro hnl)|refine wE ?_|(refine wK ?_ ?_<;>intro h)|(refine wB ?_ ?_<;>intro h<;>simp only[h]))|simp(maxSteps:=4000000) (disch:=first|exact ddL|fail) only[go_sem,simprocAttr,hat,hml])
     refine dO mixed [76] (by decide +kernel) K hK ?_
     repeat' (first|(refine gW (os:=[flD fl dd,bL B.sq l (.lst 2 (B.gr.map GR.c) false),.row 197 3 (B.dead.map DE.c),shO B.nx m (.vec 3 q 0 B.dead.length),.mp (cEs B.cards)]) (c1 _) (by simp[St.set, *]) hsh' ?_)|(with_reducible first|(refine wT ?_;(first|((fail_if_success (have:=nl1));refine wN fun nl1 hnl=>?_)|((fail_if_success (have:=nl2));refine wN fun nl2 hnl=>?_)|((fail_if_success (have:=nl3));refine wN fun nl3 hnl=>?_)|refine wN fun _ hnl=>?_);revert hnl;(repeat refine wS fun _ _=>?_);intro hnl)|refine wE ?_|(refine wK ?_ ?_<;>intro h)|(refine wB ?_ ?_<;>intro h<;>simp only[h]))|simp(maxSteps:=4000000) (disch:=first|exact ddL|fail) only[go_sem,simprocAttr,FXs])
     refine aK mixed (by decide +kernel) C2 ?_
     repeat' (first|(with_reducible refine aI (k1 _) hpj ?_)|(with_reducible refine aI (k2 _) hof ?_)|(with_reducible first|(refine wT ?_;(first|((fail_if_success (have:=nl1));refine wN fun nl1 hnl=>?_)|((fail_if_success (have:=nl2));refine wN fun nl2 hnl=>?_)|((fail_if_success (have:=nl3));refine wN fun nl3 hnl=>?_)|refine wN fun _ hnl=>?_);revert hnl;(repeat refine wS fun _ _=>?_);intro hnl)|refine wE ?_|(refine wK ?_ ?_<;>intro h)|(refine wB ?_ ?_<;>intro h<;>simp only[h]))|simp(maxSteps:=4000000) (disch:=first|exact ddL|fail) only[go_sem,simprocAttr,FXs,List.headD_cons,hgt,hput,hik])
     refine L2 v7 (by simp[St.set, *]) (by simp[St.set, *]) (vK v7 f sm mk z1.floor seq z1.log hz1 ex0 T) fun rr g' ex' hvg hg'=>?_
     have gm:g'≠m:=fun e=>by subst e;simp[St.set,St.del, *] at hg'
     have gl:g'≠l:=fun e=>by subst e;simp[St.set,St.del, *] at hg'
     have gq:g'≠q:=fun e=>by subst e;simp[St.set,St.del, *] at hg'
     have gb:g'≠b:=fun e=>by subst e;simp[St.set,St.del, *] at hg'
     have gf:g'≠f:=fun e=>by subst e;simp[St.set,St.del, *] at hg'
     have gs:g'≠sm:=fun e=>by subst e;simp[St.set,St.del, *] at hg'
     have gn1:g'≠nl1:=fun e=>by subst e;simp[St.set,St.del, *] at hg'
     have gn2:g'≠nl2:=fun e=>by subst e;simp[St.set,St.del, *] at hg'
     have gn3:g'≠nl3:=fun e=>by subst e;simp[St.set,St.del, *] at hg'
     have VV':lZ m l q b f sm g' v:=⟨VV.D,VV.hf,VV.hs,⟨gm,gl,gq,gb,gf,gs⟩,⟨v1,v2,v3,v4,v5,v6,hvg⟩⟩
     clear hg'
     have gm':=Ne.symm gm
     have gl':=Ne.symm gl
     have gq':=Ne.symm gq
     have gb':=Ne.symm gb
     have gf':=Ne.symm gf
     have gs':=Ne.symm gs
     have hvg':=Ne.symm hvg
     have gn1':=Ne.symm gn1
     have gn2':=Ne.symm gn2
     have gn3':=Ne.symm gn3
     repeat' (first|(with_reducible first|(refine wT ?_;(first|((fail_if_success (have:=nl1));refine wN fun nl1 hnl=>?_)|((fail_if_success (have:=nl2));refine wN fun nl2 hnl=>?_)|((fail_if_success (have:=nl3));refine wN fun nl3 hnl=>?_)|refine wN fun _ hnl=>?_);revert hnl;(repeat refine wS fun _ _=>?_);intro hnl)|refine wE ?_|(refine wK ?_ ?_<;>intro h)|(refine wB ?_ ?_<;>intro h<;>simp only[h]))|simp(maxSteps:=4000000) (disch:=first|exact ddL|fail) only[go_sem,simprocAttr,FXs,hput,hik])
     clear hat hml hxi hgt hput hik hdel hof hpj hsh'
     refine .of (.less ?_ ?_) ⟨(i+1,de,g',ex'),rfl,rfl,⟨by simp only;omega,VV'⟩,by simp only;omega⟩
     ·simp(maxSteps:=4000000) (disch:=first|exact ddL|fail) only[go_sem,simprocAttr,aC,aB]
      all_goals first|rfl|(simp;done)
     ·simp only[htk]
      clear VV' htk hz1e hz1 hz hx hlt hi h3 h4 hb hd hp VV DD V c1 k1 k2
      refine St.aD (St.aD (St.aD (St.aD (St.aD (St.aD (St.aD (St.aD (St.none_le _) ?_) ?_) ?_) ?_) ?_) ?_) ?_) ?_
      all_goals simp[St.set,St.del, *]
end

section
set_option maxRecDepth 100000
set_option maxHeartbeats 8000000
def evP:PA:=⟨256,2,f80⟩
def evW:PA:=⟨256,1,f80⟩
def ev1:CA:=dF 1 evP
def ev2:CA:=eY ev1 evW
def Ae:BK:=⟨1,2,[ev1],[],[]⟩
def Af:BK:=⟨2,2,[ev2],[],[]⟩
theorem Ms:BkR Ae:=⟨by decide,by decide,by decide,by decide,by decide +kernel,by decide +kernel,by decide,by decide,by decide +kernel⟩
theorem Mt:BkR Af:=⟨by decide,by decide,by decide,by decide,by decide +kernel,by decide +kernel,by decide,by decide,by decide +kernel⟩
def evN:ND:=⟨3,1,va0⟩
theorem tS:bF [evN]=0:=by decide +kernel
theorem Hr:iU Ae [evN] 1=(ev1,true):=by
 have h1:dG Ae.gr [evN] ev1=true:=by rw[wJ tS];decide +kernel
 have h2:fT Ae.cards Ae.dead 1=(ev1,0):=by decide +kernel
 unfold iU
 rw[h2]
 exact if_pos ⟨rfl,h1⟩
theorem Hs:iU Af [evN] 1=(ca0,false):=by
 have h1:dG Af.gr [evN] ev2=false:=by rw[wJ tS];decide +kernel
 have h2:fT Af.cards Af.dead 1=(ev2,0):=by decide +kernel
 unfold iU
 rw[h2]
 exact if_neg fun h=>by rw[h1] at h;cases h.2
def Hq:VS:=⟨[],0,0,[]⟩
def BC:VS:=⟨[(1,1)],0,1,[iW 1 0 1 (cC ev1 256) true]⟩
def Ek:VS:=⟨[],0,2,[iW 1 0 1 (cC ev1 256) true,iW 2 1 1 (cC ca0 256) false]⟩
theorem JX:kK Ae [evN] 256 Hq [(1,1)]=BC:=by
 show oM Ae [evN] 256 Hq 1 1=_
 unfold oM
 rw[Hr]
 have h:(iW 1 0 1 (cC ev1 256) true).new=1:=by decide +kernel
 have hv:ev1.ver=1:=by decide +kernel
 simp[Hq,BC,shG,shP,vC,mQ,h,hv]
theorem JY:kK Af [evN] 256 BC [(2,1)]=Ek:=by
 show oM Af [evN] 256 BC 2 1=_
 unfold oM
 rw[Hs]
 have h:(iW 2 1 1 (cC ca0 256) false).new=0:=rfl
 simp[BC,Ek,shG,shD,vC,mQ,h]
theorem Oq:(iW 1 0 1 (cC ev1 256) true).new=1:=by decide +kernel
end

section
set_option maxRecDepth 100000
set_option maxHeartbeats 8000000
abbrev shV(cs:List CA):List (Int × Int):=cs.map fun c=>(c.id,c.ver)
theorem NQ(cs:List CA):vEs cs=shE (shV cs):=by
 unfold vEs shE shV
 rw[List.map_map];rfl
theorem Db{B:BK}(hb:BkR B)(h3:B.gr.length≤1000000)(h4:∀g,g∈B.gr→g.mem.length≤1000000){m l q b:Nat}(D:kE m l q b){fl:List ND}(hp:bF fl=0)(tt:Bool){mk:UInt32}(hm:mk.toNat≤511) :
  aA Tryz.prog 15 [.ptr b 0 0,.lst 5 (fl.map ND.c) tt,.int .u32 (mk.toNat:Int)] (bkS m l q b B []) (fun r σ'=>∃f sm g v d,lZ m l q b f sm g v∧r=.ptr v 0 0∧σ'=vwS m l q b B f fl d sm g v mk ⟨shV (shC B fl),B.sq,B.sq,[]⟩ []):=by
 refine aA.gh ((vO hb h3 h4 D [] hp tt hm).mono ?_)
 rintro _ _ ⟨ρ,hfr,rfl,f,sm,v,d,⟨n1,n2,n3⟩,rfl,rfl⟩
 have hf:=hfr f (flD fl d) (by simp[St.set,Ne.symm n1,Ne.symm n2])
 have hs:=hfr sm (.mp (vEs (shC B fl))) (by simp[St.set,Ne.symm n3])
 have hv:=hfr v _ (aJ _ _ _)
 simp only[aX] at hf hs hv
 obtain⟨f1,f2,f3,f4,-⟩:=hf
 obtain⟨s1,s2,s3,s4,-⟩:=hs
 obtain⟨v1,v2,v3,v4,-⟩:=hv
 rw[a8,a8,a8,cT]
 refine Gh.vW (b:=v) (t:=133) (e:=6) (pre:=[.ptr f 0 0,.int .u32 (mk.toNat:Int),.mapv sm,.int .i64 B.sq,.int .i64 B.sq]) (post:=[]) 128 31 (aJ _ _ _) fun g hg=>?_
 simp only[aX] at hg
 obtain⟨g1,g2,g3,g4,g5,g6,g7,-⟩:=hg
 refine .done ⟨_,rfl,f,sm,g,v,d,⟨D,⟨f4,f3,f2,f1⟩,⟨s4,s3,s2,s1,n1⟩,⟨g7,g6,g5,g4,g3,g2⟩,⟨v4,v3,v2,v1,n2,n3,Ne.symm g1⟩⟩,rfl,?_⟩
 rw[NQ]
 funext j
 by_cases h1:j=g
 ·subst h1;simp[St.set,g1,lgO]
 ·by_cases h2:j=v
  ·subst h2;simp[St.set,h1]
  ·simp[St.set,h1,h2]
theorem Dc{B:BK}(hb:BkR B)(h3:B.gr.length≤1000000)(h4:∀g,g∈B.gr→g.mem.length≤1000000){m l q b n:Nat}(D:kE m l q b)(hn:n≠m∧n≠l∧n≠q∧n≠b){x:ND}(hp:bF [x]=0){mk:UInt32}(hm:mk.toNat≤511) :
  aA Tryz.prog 15 [.ptr b 0 0,.vec 5 n 0 1,.int .u32 (mk.toNat:Int)] ((bkS m l q b B []).set n (.row 121 5 [x.c])) (fun r σ'=>∃f sm g v d,lZ m l q b f sm g v∧r=.ptr v 0 0∧σ'=vwS m l q b B f [x] d sm g v mk ⟨shV (shC B [x]),B.sq,B.sq,[]⟩ []):=by
 have hn0:bkS m l q b B [] n=none:=by simp only[aX];exact⟨hn.2.2.2,hn.2.2.1,hn.2.1,hn.1,rfl⟩
 refine aA.pre (ms':=[.ptr b 0 0,.lst 5 ([x].map ND.c) false,.int .u32 (mk.toNat:Int)]) rfl (bM.freeze (St.none.set n (.row 121 5 [x.c])) (St.aD (St.none_le _) (aJ _ _ _)) (St.b6 (St.le_refl _) hn0) (fun k o hk=>?_) (fun p hp=>?_)) (Db hb h3 h4 D hp false hm)
 ·rw[aM _ _ _ _ (fun e=>by subst e;rw[hn0] at hk;cases hk)];rfl
 ·simp only[j0,List.mem_cons,List.not_mem_nil,or_false] at hp
  rcases hp with rfl|rfl|rfl
  ·exact .same _
  ·exact View.vecAll (aJ _ _ _) rfl
  ·exact .same _
theorem L7{P:Program}{g0:FuncId}{ms:List MV}{σ:St}{m l q b n:Nat}{on:aW}{B:BK}{fl:List ND}{mk:UInt32}{z:VS}{k:MV→St→Prop}{u:Nat→MV}
 (h:aA P g0 ms ((bkS m l q b B []).set n on) fun r σ'=>∃f sm g v d,lZ m l q b f sm g v∧r=u v∧σ'=vwS m l q b B f fl d sm g v mk z [])(hle:((bkS m l q b B []).set n on).le σ)(hn:bkS m l q b B [] n=none)
 (hk:∀f sm g v d,lZ m l q b f sm g v→(σ.del n) f=none→(σ.del n) sm=none→(σ.del n) g=none→(σ.del n) v=none→R (bQ (u v) (((((σ.del n).set f (flD fl d)).set sm (.mp (shE z.sh))).set g (lgO z.log [])).set v (vwO f mk sm z.floor z.now (.vec 31 g 0 z.log.length))) k)):R (cQ P g0 ms σ k) :=
 bX h hle fun r σ' hv hf=>by
  obtain⟨f,sm,g,v,d,V,rfl,rfl⟩:=hv
  have hV:=V
  obtain⟨D,⟨f1,f2,f3,f4⟩,⟨s1,s2,s3,s4,s5⟩,⟨g1,g2,g3,g4,g5,g6⟩,⟨v1,v2,v3,v4,v5,v6,v7⟩⟩:=V
  have e:(vwS m l q b B f fl d sm g v mk z []).over (σ.minus ((bkS m l q b B []).set n on))=((((σ.del n).set f (flD fl d)).set sm (.mp (shE z.sh))).set g (lgO z.log [])).set v (vwO f mk sm z.floor z.now (.vec 31 g 0 z.log.length)):=by
   rw[a8,a8,a8,a8]
   congr 4
   funext j
   by_cases h1:j=n
   ·subst h1
    simp only[St.over,St.minus,St.del,hn,aJ]
    simp
   ·simp only[St.over,St.minus,St.del,aM _ _ _ _ h1,if_neg h1]
    cases hb:bkS m l q b B [] j with
    | none=>rfl
    | some o=>exact(hle j o (by rw[aM _ _ _ _ h1];exact hb)).symm
  have hfree:∀j o,vwS m l q b B f fl d sm g v mk z [] j=some o→(j≠m∧j≠l∧j≠q∧j≠b)→(σ.del n) j=none:=fun j o hj hne=>by
   by_cases h1:j=n
   ·simp[St.del,h1]
   ·rcases hf j o hj with h|⟨o',h⟩
    ·simp[St.del,h1,h]
    ·rw[aM _ _ _ _ h1] at h
     obtain⟨j1,j2,j3,j4⟩:=hne
     simp[St.set,St.none,j1,j2,j3,j4] at h
  rw[e]
  refine hk f sm g v d hV (hfree f (flD fl d) ?_ ⟨f1,f2,f3,f4⟩) (hfree sm (.mp (shE z.sh)) ?_ ⟨s1,s2,s3,s4⟩) (hfree g (lgO z.log []) ?_ ⟨g1,g2,g3,g4⟩) (hfree v _ (aJ _ _ _) ⟨v1,v2,v3,v4⟩)
  ·simp[St.set,Ne.symm v5,Ne.symm g5,Ne.symm s5]
  ·simp[St.set,Ne.symm v6,Ne.symm g6]
  ·simp[St.set,Ne.symm v7]
theorem L8{P:Program}{g0:FuncId}{ms:List MV}{σ:St}{m l q b f sm g v:Nat}{B:BK}{fl:List ND}{d:Bool}{mk:UInt32}{z z':VS}{ex:List (List MV)}{k:MV→St→Prop}(V:lZ m l q b f sm g v)
 (h:aA P g0 ms (vwS m l q b B f fl d sm g v mk z ex) fun _ σ'=>∃d' g' ex',lZ m l q b f sm g' v∧σ'=vwS m l q b B f fl d' sm g' v mk z' ex')(hle:(vwS m l q b B f fl d sm g v mk z ex).le σ)
 (hk:∀r d' g' ex',lZ m l q b f sm g' v→(σ.del g) g'=none→R (bQ r (((((σ.del g).set f (flD fl d')).set sm (.mp (shE z'.sh))).set g' (lgO z'.log ex')).set v (vwO f mk sm z'.floor z'.now (.vec 31 g' 0 z'.log.length))) k)):R (cQ P g0 ms σ k) :=
 bX h hle fun r σ' hv hf=>by
  obtain⟨d',g',ex',V',rfl⟩:=hv
  have hV:=V'
  obtain⟨D,⟨f1,f2,f3,f4⟩,⟨s1,s2,s3,s4,s5⟩,⟨g1,g2,g3,g4,g5,g6⟩,⟨v1,v2,v3,v4,v5,v6,v7⟩⟩:=V'
  obtain⟨-,-,-,⟨G1,G2,G3,G4,G5,G6⟩,⟨-,-,-,-,-,-,w7⟩⟩:=V
  have e:(vwS m l q b B f fl d' sm g' v mk z' ex').over (σ.minus (vwS m l q b B f fl d sm g v mk z ex))=((((σ.del g).set f (flD fl d')).set sm (.mp (shE z'.sh))).set g' (lgO z'.log ex')).set v (vwO f mk sm z'.floor z'.now (.vec 31 g' 0 z'.log.length)):=by
   rw[a8,a8,a8,a8]
   funext j
   by_cases h1:j=v
   ·subst h1;rw[aJ,aJ]
   ·rw[aM _ _ _ _ h1,aM _ _ _ _ h1]
    by_cases h2:j=g'
    ·subst h2;rw[aJ,aJ]
    ·rw[aM _ _ _ _ h2,aM _ _ _ _ h2]
     by_cases h3:j=sm
     ·subst h3;rw[aJ,aJ]
     ·rw[aM _ _ _ _ h3,aM _ _ _ _ h3]
      by_cases h4:j=f
      ·subst h4;rw[aJ,aJ]
      ·rw[aM _ _ _ _ h4,aM _ _ _ _ h4]
       by_cases h5:j=g
       ·subst h5
        have hb0:bkS m l q b B [] j=none:=by simp only[aX];exact⟨G4,G3,G2,G1,rfl⟩
        have hj:vwS m l q b B f fl d sm j v mk z ex j=some (lgO z.log ex):=(aM _ _ _ _ h1).trans (aJ _ _ _)
        simp only[St.over,St.minus,St.del,hb0,if_true]
        rw[hj]
       ·have hvw:vwS m l q b B f fl d sm g v mk z ex j=bkS m l q b B [] j:=by
         show(((_:St).set v _):St) j=_
         rw[aM _ _ _ _ h1,aM _ _ _ _ h5,aM _ _ _ _ h3]
         exact aM _ _ _ _ h4
        simp only[St.over,St.minus,St.del,hvw,if_neg h5]
        cases hb:bkS m l q b B [] j with
        | none=>rfl
        | some o=>exact(hle j o (hvw.trans hb)).symm
  rw[e]
  refine hk r d' g' ex' hV ?_
  by_cases h5:g'=g
  ·simp[St.del,h5]
  ·rcases hf g' (lgO z'.log ex') (by simp[St.set,Ne.symm v7]) with h|⟨o',h⟩
   ·simp[St.del,h5,h]
   ·simp[St.set,St.none,h5,Ne.symm v7,g1,g2,g3,g4,g5,g6] at h
theorem AW{g n:Nat}(xs:List (List MV))(hn:n+1≤1000000)(hx:n+1≤xs.length) :
  aA Tryz.prog 98 [.vec 31 g 0 (n+1)] (St.none.set g (.row 128 31 xs)) (fun r σ'=>∃q,r=.vec 31 q 0 (n+1)∧q≠g∧σ'=(St.none.set g (.row 128 31 xs)).set q (.row 128 31 (xs.take (n+1)))):=by
 refine aA.less (Q':=fun r σ'=>∃q,r=.vec 31 q 0 (n+1)∧q≠g∧((St.none.set g (.row 128 31 xs)).set q (.row 128 31 (xs.take (n+1)))).le σ') ?_ fun v σ' ⟨q,h1,h2,h3⟩=>⟨_,h3,q,h1,h2,rfl⟩
 refine(aA.lL 8 [.tmp 2] Tryz.func98 rfl rfl rfl rfl ?_)
 have hl:(xs.take (n+1)).length=n+1:=by rw[List.length_take];omega
 refine fC (jR ?_)
 repeat' (first|(with_reducible first|(refine wN fun _ hnl=>?_;revert hnl;(repeat refine wS fun _ _=>?_);intro hnl)|refine wE ?_|(refine wK ?_ ?_<;>intro h)|(refine wB ?_ ?_<;>intro h<;>simp only[h]))|simp(maxSteps:=4000000) (disch:=first|exact ddL|fail) only[go_sem,simprocAttr,FXs])
 refine jW (fC (fC (mO [_] _ [] rfl rfl ?_)))
 repeat' (first|(with_reducible first|(refine wN fun _ hnl=>?_;revert hnl;(repeat refine wS fun _ _=>?_);intro hnl)|refine wE ?_|(refine wK ?_ ?_<;>intro h)|(refine wB ?_ ?_<;>intro h<;>simp only[h]))|simp(maxSteps:=4000000) (disch:=first|exact ddL|fail) only[go_sem,simprocAttr,FXs])
 refine jW (FB (t:=77) (el:=128) (n:=n) (l:=g) (lo:=0) (e:=31) rfl (by rw[NL]) rfl ?_)
 show R _
 repeat' (first|(with_reducible first|(refine wN fun _ hnl=>?_;revert hnl;(repeat refine wS fun _ _=>?_);intro hnl)|refine wE ?_|(refine wK ?_ ?_<;>intro h)|(refine wB ?_ ?_<;>intro h<;>simp only[h]))|simp(maxSteps:=4000000) (disch:=first|exact ddL|fail) only[go_sem,simprocAttr,FXs])
 refine jW (jR ?_)
 repeat' (first|(with_reducible first|(refine wN fun _ hnl=>?_;revert hnl;(repeat refine wS fun _ _=>?_);intro hnl)|refine wE ?_|(refine wK ?_ ?_<;>intro h)|(refine wB ?_ ?_<;>intro h<;>simp only[h]))|simp(maxSteps:=4000000) (disch:=first|exact ddL|fail) only[go_sem,simprocAttr,FXs])
 refine jW (jR ?_)
 repeat' (first|(with_reducible first|(refine wN fun _ hnl=>?_;revert hnl;(repeat refine wS fun _ _=>?_);intro hnl)|refine wE ?_|(refine wK ?_ ?_<;>intro h)|(refine wB ?_ ?_<;>intro h<;>simp only[h]))|simp(maxSteps:=4000000) (disch:=first|exact ddL|fail) only[go_sem,simprocAttr,FXs,hl])
 exact⟨_,rfl,by assumption,St.le_refl _⟩
theorem L3{P:Program}{g0:FuncId}{ms:List MV}{σ:St}{g:Nat}{og o:aW}{u:Nat→MV}{k:MV→St→Prop}(hg:σ g=some og)(h:aA P g0 ms (St.none.set g og) fun r σ'=>∃q,r=u q∧q≠g∧σ'=(St.none.set g og).set q o)(hk:∀q,σ q=none→R (bQ (u q) (σ.set q o) k)):R (cQ P g0 ms σ k) :=
 bX h (St.aD (St.none_le _) hg) fun r σ' hv hf=>by
  obtain⟨q,rfl,hq,rfl⟩:=hv
  have e:((St.none.set g og).set q o).over (σ.minus (St.none.set g og))=σ.set q o:=by
   rw[a8]
   congr 1
   funext j
   by_cases h1:j=g
   ·subst h1;simp[St.over,St.set,hg]
   ·simp[St.over,St.set,St.none,St.minus,h1]
  rw[e]
  refine hk q ?_
  rcases hf q o (aJ _ _ _) with h|⟨o',h⟩
  ·exact h
  ·rw[aM _ _ _ _ hq] at h;cases h
theorem Fm{v g:Nat}(hvg:v≠g)(f sm:Nat)(mk:UInt32)(floor now:Int)(log:List TU)(hl:log.length≤1000)(ex:List (List MV)) :
  aA Tryz.prog 29 [.ptr v 0 0] ((St.none.set g (lgO log ex)).set v (vwO f mk sm floor now (.vec 31 g 0 log.length))) (fun r σ'=>r=.lst 31 (log.map TU.c) false∧σ'=(St.none.set g (lgO log ex)).set v (vwO f mk sm floor now (.vec 31 g 0 log.length))):=by
 have hgv:=Ne.symm hvg
 refine aA.LC (aA.body 10 [.tmp 2] Tryz.func29 rfl rfl rfl rfl ?_)
 cases log with
 | nil =>
  have he:aA Tryz.prog 98 [.lst 31 [] false] St.none (fun r _=>r=.lst 31 [] true):=j6 rU tO
  repeat' (first|(with_reducible first|(refine wN fun _ hnl=>?_;revert hnl;(repeat refine wS fun _ _=>?_);intro hnl)|refine wE ?_|(refine wK ?_ ?_<;>intro h)|(refine wB ?_ ?_<;>intro h<;>simp only[h]))|simp(maxSteps:=4000000) (disch:=first|exact ddL|fail) only[go_sem,simprocAttr,Tryz.f29,FXs])
  refine gR [.lst 31 [] false] he (.lst0 _) rfl (fun i m m' h1 h2=>?_) ?_
  ·match i with
   | 0 =>
    simp only[List.getElem?_cons_zero,Option.some.injEq] at h1 h2
    subst h1
    subst h2
    have:=View.vec (σ:=(St.none.set g (lgO [] ex)).set v (vwO f mk sm floor now (.vec 31 g 0 0))) (l:=g) (lo:=0) (n:=0) (t:=128) (e:=31) (xs:=([]:List TU).map TU.c++ex) (by rw[aM _ _ _ _ hgv];exact aJ _ _ _) (Nat.zero_le _)
    simpa using this
   | i+1=>simp at h1
  repeat' (first|(with_reducible first|(refine wN fun _ hnl=>?_;revert hnl;(repeat refine wS fun _ _=>?_);intro hnl)|refine wE ?_|(refine wK ?_ ?_<;>intro h)|(refine wB ?_ ?_<;>intro h<;>simp only[h]))|simp(maxSteps:=4000000) (disch:=first|exact ddL|fail) only[go_sem,simprocAttr])
  exact⟨St.none,St.none_le _,St.le_refl _,fun k o hk=>rfl,.tight _ _⟩
 | cons x L =>
  have hm:(L.map TU.c).length=L.length:=List.length_map _
  have hk:=AW (g:=g) (n:=L.length) ((x::L).map TU.c++ex) (by simp only[List.length_cons] at hl;omega) (by simp)
  rw[List.take_left' (by simp)] at hk
  repeat' (first|(with_reducible first|(refine wN fun _ hnl=>?_;revert hnl;(repeat refine wS fun _ _=>?_);intro hnl)|refine wE ?_|(refine wK ?_ ?_<;>intro h)|(refine wB ?_ ?_<;>intro h<;>simp only[h]))|simp(maxSteps:=4000000) (disch:=first|exact ddL|fail) only[go_sem,simprocAttr,Tryz.f29,FXs])
  refine L3 (aM _ _ _ _ hgv |>.trans (aJ _ _ _)) hk fun q hq=>?_
  repeat' (first|(with_reducible first|(refine wN fun _ hnl=>?_;revert hnl;(repeat refine wS fun _ _=>?_);intro hnl)|refine wE ?_|(refine wK ?_ ?_<;>intro h)|(refine wB ?_ ?_<;>intro h<;>simp only[h]))|simp(maxSteps:=4000000) (disch:=first|exact ddL|fail) only[go_sem,simprocAttr])
  exact⟨St.none.set q _,St.aD (St.none_le _) (aJ _ _ _),St.b6 (St.le_refl _) hq,fun k o hk=>(aM _ _ _ _ fun e=>by subst e;rw[hq] at hk;cases hk).trans rfl,.vecAll (aJ _ _ _) (by simp only[List.length_cons,hm])⟩
end
end Go.Proofs.YtppdgejjmhdjhaaGreatDoor
