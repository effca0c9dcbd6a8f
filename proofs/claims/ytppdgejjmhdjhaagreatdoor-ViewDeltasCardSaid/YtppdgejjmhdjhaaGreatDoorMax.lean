/- Parts of the proof; conditions: as its theorems name them. -/
import Derived.Test.YtppdgejjmhdjhaaGreatDoorMaw
set_option linter.unusedVariables false
set_option linter.unusedSimpArgs false
set_option maxHeartbeats 8000000
set_option maxRecDepth 100000
namespace Go.Proofs.YtppdgejjmhdjhaaGreatDoor
structure VS where
 sh:List (Int × Int)
 floor:Int
 now:Int
 log:List TU
def shE(sh:List (Int × Int)):List (MV × MV):=sh.map fun p=>(.int .i64 p.1,.int .i64 p.2)
def shG:List (Int × Int)→Int→Int
 | [],_=>0
 | (i,u)::r,id=>if i=id then u else shG r id
def shP:List (Int × Int)→Int→Int→List (Int × Int)
 | [],id,v=>[(id,v)]
 | (i,u)::r,id,v=>if i=id then(i,v)::r else(i,u)::shP r id v
def shD:List (Int × Int)→Int→List (Int × Int)
 | [],_=>[]
 | (i,u)::r,id=>if i=id then r else(i,u)::shD r id
theorem Th(sh:List (Int × Int)):((shE sh).all fun p=>isK .i64 p.1)=true:=by
 rw[List.all_eq_true]
 intro x hx
 obtain⟨p,_,rfl⟩:=List.mem_map.1 hx
 simp[isK]
theorem FM{id:Int}:∀sh:List (Int × Int),(dQ id (shE sh)).getD (.int .i64 0)=.int .i64 (shG sh id)
 | []=>rfl
 | (i,u)::r=>by
  have ih:=FM (id:=id) r
  simp only[shE,List.map_cons,dQ,shG] at ih ⊢
  by_cases h:i=id
  ·rw[if_pos h,if_pos h];rfl
  ·rw[if_neg h,if_neg h];exact ih
theorem FP{id v:Int}:∀sh:List (Int × Int),dG .i64 id (.int .i64 v) (shE sh)=shE (shP sh id v)
 | []=>rfl
 | (i,u)::r=>by
  have ih:=FP (id:=id) (v:=v) r
  simp only[shE,List.map_cons,dG,shP] at ih ⊢
  by_cases h:i=id
  ·rw[if_pos h,if_pos h];rfl
  ·rw[if_neg h,if_neg h,ih];rfl
theorem FK{id:Int}:∀sh:List (Int × Int),tL id (shE sh)=shE (shD sh id)
 | []=>rfl
 | (i,u)::r=>by
  have ih:=FK (id:=id) r
  simp only[shE,List.map_cons,tL,shD] at ih ⊢
  by_cases h:i=id
  ·rw[if_pos h,if_pos h]
  ·rw[if_neg h,if_neg h,ih];rfl
noncomputable def iO(B:BK)(fl:List ND)(mk:UInt32)(z:VS)(seq id:Int):VS :=
 if id=0 then { z with now:=seq } else
  let c:=(jG B fl id).1
  let is:=(jG B fl id).2
  let t:=iP seq (shG z.sh id) id (eB c mk) is
  ⟨if is=true then shP z.sh id c.ver else shD z.sh id,if shG z.sh id=t.new then z.floor else kW z.floor z.log t,seq,if shG z.sh id=t.new then z.log else gG z.log t⟩
noncomputable def eF(B:BK)(fl:List ND)(mk:UInt32)(z:VS)(xs:List (Int × Int)):VS:=xs.foldl (fun z x=>iO B fl mk z x.1 x.2) z
abbrev chC(x:Int × Int):List MV:=[.int .i64 x.1,.int .i64 x.2]
theorem Sq{P:Program}{h0:FuncId}{ms:List MV}{σ:St}{g v:Nat}{og ov:aT}{og':List (List MV)→aT}{ov':Nat→aT}{k:MV→St→Prop}(hvg:v≠g)(hg:σ g=some og)(hv:σ v=some ov)
 (h:aA P h0 ms ((St.none.set g og).set v ov) fun _ σ'=>∃g' ex',v≠g'∧σ'=(St.none.set g' (og' ex')).set v (ov' g'))
 (hk:∀r g' ex',v≠g'→(σ.del g) g'=none→R (bT r (((σ.del g).set g' (og' ex')).set v (ov' g')) k)):R (cW P h0 ms σ k) :=
 bK h (St.aB (St.aB (St.none_le _) hg) hv) fun r σ' hv' hf=>by
  obtain⟨g',ex',hne,rfl⟩:=hv'
  have e:((St.none.set g' (og' ex')).set v (ov' g')).over (σ.minus ((St.none.set g og).set v ov))=((σ.del g).set g' (og' ex')).set v (ov' g'):=by
   funext j
   by_cases h1:j=v
   ·subst h1;simp[St.over,St.set]
   ·by_cases h2:j=g'
    ·subst h2;simp[St.over,St.set,h1]
    ·by_cases h3:j=g
     ·subst h3;simp[St.over,St.set,St.minus,St.del,St.none,h1,h2]
     ·simp[St.over,St.set,St.minus,St.del,St.none,h1,h2,h3]
  rw[e]
  refine hk r g' ex' hne ?_
  rcases hf g' (og' ex') (by simp[St.set,Ne.symm hne]) with h|⟨o',h⟩
  ·simp[St.del,h]
  ·by_cases h3:g'=g
   ·subst h3;simp[St.del]
   ·simp[St.set,St.none,h3,Ne.symm hne] at h
structure kZ (m l q b f sm g v:Nat):Prop where
 D:dM m l q b
 hf:f≠m∧f≠l∧f≠q∧f≠b
 hs:sm≠m∧sm≠l∧sm≠q∧sm≠b∧sm≠f
 hg:g≠m∧g≠l∧g≠q∧g≠b∧g≠f∧g≠sm
 hv:v≠m∧v≠l∧v≠q∧v≠b∧v≠f∧v≠sm∧v≠g
noncomputable abbrev vwS(m l q b:Nat)(B:BK)(f:Nat)(fl:List ND)(d:Bool)(sm g v:Nat)(mk:UInt32)(z:VS)(ex:List (List MV)):St:=(((bfS m l q b B f fl d).set sm (.mp (shE z.sh))).set g (lgO z.log ex)).set v (vwO f mk sm z.floor z.now (.vec 31 g 0 z.log.length))
theorem UT{m l q b f sm g v:Nat}{B:BK}{fl:List ND}{d:Bool}{mk:UInt32}{z:VS}{ex:List (List MV)}{σ:St}(hm:σ m=some (.mp (cEs B.cards)))(hl:σ l=some (shO B.nx m (.vec 3 q 0 B.dead.length)))(hq:σ q=some (.row 197 3 (B.dead.map DE.c)))(hb:σ b=some (bG B.sq l (.lst 2 (B.gr.map GR.c) false)))(hf:σ f=some (flD fl d))
 (hs:σ sm=some (.mp (shE z.sh)))(hg:σ g=some (lgO z.log ex))(hv:σ v=some (vwO f mk sm z.floor z.now (.vec 31 g 0 z.log.length))):(vwS m l q b B f fl d sm g v mk z ex).le σ :=
 St.aB (St.aB (St.aB (UY hm hl hq hb hf) hs) hg) hv
theorem QX{log:List TU}{t:TU}(h:log.length≤40):(gG log t).length≤40:=by
 unfold gG
 split
 ·rw[List.length_append];simp only[List.length_cons,List.length_nil];omega
 ·rw[List.length_drop,List.length_append];simp only[List.length_cons,List.length_nil];omega
theorem HY{B:BK}{fl:List ND}{mk:UInt32}{z:VS}(h:z.log.length≤40)(seq id:Int):(iO B fl mk z seq id).log.length≤40:=by
 unfold iO
 split
 ·exact h
 ·simp only
  split
  ·exact h
  ·exact QX h
theorem OK{B:BK}{fl:List ND}{mk:UInt32}{z:VS}(h:z.log.length≤40):∀xs:List (Int × Int),(eF B fl mk z xs).log.length≤40:=by
 intro xs
 induction xs generalizing z with
 | nil=>exact h
 | cons x r ih=>exact ih (HY h x.1 x.2)
theorem qC{B:BK}(hb:BkR B)(h3:B.gr.length≤1000000)(h4:∀g,g∈B.gr→g.mem.length≤1000000)(hd:B.dead.length≤1000000){fl:List ND}(hp:cR fl=0){mk:UInt32}{m l q b f sm g v:Nat}(V:kZ m l q b f sm g v)(d:Bool)(z:VS)(hz:z.log.length≤40)(ex:List (List MV))(xs:List (Int × Int))(hx:xs.length≤1000000)(tt:Bool) :
  aA Tryz.prog 18 [.ptr v 0 0,.ptr b 0 0,.lst 2 (xs.map chC) tt] (vwS m l q b B f fl d sm g v mk z ex) (fun _ σ'=>∃d' g' ex',kZ m l q b f sm g' v∧σ'=vwS m l q b B f fl d' sm g' v mk (eF B fl mk z xs) ex'):=by
 refine aA.less (Q':=fun _ σ'=>∃d' g' ex',kZ m l q b f sm g' v∧(vwS m l q b B f fl d' sm g' v mk (eF B fl mk z xs) ex').le σ') (mB 81 [] Tryz.func18 ?_) fun v σ' ⟨d',g',ex',h1,h2⟩=>⟨_,h2,d',g',ex',h1,rfl⟩
 repeat' first|refine wZ1 @Tryz.f18.eq_1 ?_|fail
 refine aF (α:=Nat × Bool × Nat × List (List MV)) (fun a=>⟨81,[(16,.int .i64 (a.1:Int)),(15,.int .i64 (xs.length:Int)),(14,.lst 2 (xs.map chC) tt),(0,.ptr v 0 0),(1,.ptr b 0 0)],[]⟩)
  (fun a=>vwS m l q b B f fl a.2.1 sm a.2.2.1 v mk (eF B fl mk z (xs.take a.1)) a.2.2.2) (fun a=>a.1≤xs.length∧kZ m l q b f sm a.2.2.1 v) (fun a=>xs.length - a.1) ?_ ?_
 ·refine .of (.less ?_ (St.le_refl _)) ⟨(0,d,g,ex),rfl,rfl,Nat.zero_le _,V⟩
  exact wW
 ·rintro⟨i,dd,g0,ex0⟩ ⟨hi,V1⟩
  simp only at hi V1 ⊢
  by_cases hlt:i<xs.length
  rotate_left
  ·obtain rfl:i=xs.length:=by omega
   rw[List.take_length]
   repeat' first|refine wZ0 ?_|fail
   exact⟨_,_,_,V1,St.le_refl _⟩
  obtain⟨⟨seq,id⟩,hxi⟩:=bU xs hlt
  have hat:=bN (f:=chC) hxi
  have hml:(xs.map chC).length=xs.length:=List.length_map _
  have htk:eF B fl mk z (xs.take (i+1))=iO B fl mk (eF B fl mk z (xs.take i)) seq id:=by
   rw[aZ hxi];unfold eF;rw[List.foldl_append];rfl
  have hz1:=OK (B:=B) (fl:=fl) (mk:=mk) hz (xs.take i)
  obtain⟨z1,hz1e⟩:∃z1,eF B fl mk z (xs.take i)=z1:=⟨_,rfl⟩
  rw[hz1e] at htk hz1 ⊢
  have VV:=V1
  have DD:=V1.D
  obtain⟨⟨d1,d2,d3,d4,d5,d6⟩,⟨f1,f2,f3,f4⟩,⟨s1,s2,s3,s4,s5⟩,⟨g1,g2,g3,g4,g5,g6⟩,⟨v1,v2,v3,v4,v5,v6,v7⟩⟩:=V1
  have d1':=Ne.symm d1
  have d2':=Ne.symm d2
  have d3':=Ne.symm d3
  have d4':=Ne.symm d4
  have d5':=Ne.symm d5
  have d6':=Ne.symm d6
  have f1':=Ne.symm f1
  have f2':=Ne.symm f2
  have f3':=Ne.symm f3
  have f4':=Ne.symm f4
  have s1':=Ne.symm s1
  have s2':=Ne.symm s2
  have s3':=Ne.symm s3
  have s4':=Ne.symm s4
  have s5':=Ne.symm s5
  have g1':=Ne.symm g1
  have g2':=Ne.symm g2
  have g3':=Ne.symm g3
  have g4':=Ne.symm g4
  have g5':=Ne.symm g5
  have g6':=Ne.symm g6
  have v1':=Ne.symm v1
  have v2':=Ne.symm v2
  have v3':=Ne.symm v3
  have v4':=Ne.symm v4
  have v5':=Ne.symm v5
  have v6':=Ne.symm v6
  have v7':=Ne.symm v7
  simp only[vwS,bfS,bkS,shS,List.append_nil]
  by_cases h0:id=0
  ·subst h0
   rw[show iO B fl mk z1 seq 0={ z1 with now:=seq } from if_pos rfl] at htk
   repeat' first|(refine wM ?_;(first|(have _:=nl1)|(intro nl1));intros)|refine wZ2 @hat @hml ?_|fail
   clear hat hml hxi
   refine .of (.less ?_ ?_) ⟨(i+1,dd,g0,ex0),rfl,rfl,⟨by simp only;omega,VV⟩,by simp only;omega⟩
   ·exact wW
   ·simp only[htk]
    clear htk hz1e hz1 hz hx hlt hi h3 h4 hb hd hp VV DD V
    refine St.aB (St.aB (St.aB (St.aB (St.aB (St.aB (St.aB (St.aB (St.none_le _) ?_) ?_) ?_) ?_) ?_) ?_) ?_) ?_
    all_goals simp[St.set, *]
  ·have hsh:=Hq hb h3 h4 DD ⟨f1,f2,f3,f4⟩ hp dd hd id
   obtain⟨de,hde⟩:∃de,(dd || decide ((bB B.cards B.dead id).2=0))=de:=⟨_,rfl⟩
   rw[hde] at hsh
   have hst:iO B fl mk z1 seq id=_:=if_neg h0
   obtain⟨⟨c,is⟩,hci⟩:∃ci,jG B fl id=ci:=⟨_,rfl⟩
   rw[hci] at hsh hst
   have hpj:=Kd c mk
   have hpv:(eB c mk).ver=c.ver:=rfl
   obtain⟨pc,hpc⟩:∃pc,eB c mk=pc:=⟨_,rfl⟩
   have hof:=Et seq (shG z1.sh id) id pc is
   simp only[hpc] at hst hpj
   obtain⟨T,hT⟩:∃T,iP seq (shG z1.sh id) id pc is=T:=⟨_,rfl⟩
   rw[hT] at hof
   rw[hT] at hst
   rw[hst] at htk
   have hgt:=FM (id:=id) z1.sh
   have hput:=FP (id:=id) (v:=c.ver) z1.sh
   have hdel:=FK (id:=id) z1.sh
   have hik:=Th z1.sh
   obtain⟨old,hold⟩:∃o,shG z1.sh id=o:=⟨_,rfl⟩
   rw[hold] at hof hgt htk
   have hsh':=Wq hsh
   obtain⟨K,hK,c1⟩:∃K:cD,PlU (.these [76]) K∧∀ms,K 76 ms=some ⟨[f,b,q,l,m],fun _=>True,some ([flD fl de],fun _=>.tup [.agg c.c,.bool is])⟩ :=
    ⟨fnF [(76,⟨[f,b,q,l,m],fun _=>True,some ([flD fl de],fun _=>.tup [.agg c.c,.bool is])⟩)],mS,fun _=>fJ⟩
   by_cases ho:old=T.new
   ·rw[if_pos ho,decide_eq_true ho,Bool.not_true] at hof
    simp only[if_pos ho] at htk
    obtain⟨C2,k1,k2⟩:=kw2 78 ⟨[],fun v=>v=.agg pc.c,none⟩ 77 ⟨[],fun v=>v=.tup [.agg tu0.c,.bool false],none⟩
    clear hsh hci hpc hT hold hst
    cases is
    ·simp only[Bool.false_eq_true,if_false] at htk
     repeat' first|(refine wM ?_;(first|(have _:=nl1)|(intro nl1));intros)|refine wZ2 @hat @hml ?_|fail
     refine cB mixed [76] dK K hK ?_
     repeat' first|(refine jL (os:=[flD fl dd,bG B.sq l (.lst 2 (B.gr.map GR.c) false),.row 197 3 (B.dead.map DE.c),shO B.nx m (.vec 3 q 0 B.dead.length),.mp (cEs B.cards)]) (c1 _) sS hsh' ?_)|(refine wM ?_;(first|(have _:=nl2)|(intro nl2));intros)|refine wZ1 @FXs ?_|fail
     refine aJ mixed dK C2 ?_
     repeat' first|(with_reducible refine aH (k1 _) hpj ?_)|(with_reducible refine aH (k2 _) hof ?_)|(refine gN mixed (fun _ _=>none) [_,_,_,_,_,_] [] rfl dK ?_)|(refine wM ?_;(first|(have _:=nl3)|(intro nl3));intros)|refine wZ5 @FXs @List.headD_cons.{0} @hgt @hput @hik ?_|fail
     refine bL (kB (t:=131) (l:=sm) (es:=shE z1.sh) (kd:=.i64) (n:=id) rfl (by rw[Sa]) (by rw[td3]) rfl sS rfl hik ?_)
     rw[hdel]
     show R _
     repeat' first|refine wZ1 @FXs ?_|fail
     clear hat hml hxi hgt hput hik hdel hof hpj hsh'
     refine .of (.less ?_ ?_) ⟨(i+1,de,g0,ex0),rfl,rfl,⟨by simp only;omega,VV⟩,by simp only;omega⟩
     ·exact wW
     ·simp only[htk]
      clear htk hz1e hz1 hz hx hlt hi h3 h4 hb hd hp VV DD V c1 k1 k2
      refine St.aB (St.aB (St.aB (St.aB (St.aB (St.aB (St.aB (St.aB (St.none_le _) ?_) ?_) ?_) ?_) ?_) ?_) ?_) ?_
      all_goals simp[St.set,St.del, *]
    ·simp only[if_true] at htk
     repeat' first|(refine wM ?_;(first|(have _:=nl1)|(intro nl1));intros)|refine wZ2 @hat @hml ?_|fail
     refine cB mixed [76] dK K hK ?_
     repeat' first|(refine jL (os:=[flD fl dd,bG B.sq l (.lst 2 (B.gr.map GR.c) false),.row 197 3 (B.dead.map DE.c),shO B.nx m (.vec 3 q 0 B.dead.length),.mp (cEs B.cards)]) (c1 _) sS hsh' ?_)|(refine wM ?_;(first|(have _:=nl2)|(intro nl2));intros)|refine wZ1 @FXs ?_|fail
     refine aJ mixed dK C2 ?_
     repeat' first|(with_reducible refine aH (k1 _) hpj ?_)|(with_reducible refine aH (k2 _) hof ?_)|(refine wM ?_;(first|(have _:=nl3)|(intro nl3));intros)|refine wV ?_|refine wZ5 @FXs @List.headD_cons.{0} @hgt @hput @hik ?_|fail
     clear hat hml hxi hgt hput hik hdel hof hpj hsh'
     refine .of (.less ?_ ?_) ⟨(i+1,de,g0,ex0),rfl,rfl,⟨by simp only;omega,VV⟩,by simp only;omega⟩
     ·exact wW
     ·simp only[htk]
      clear htk hz1e hz1 hz hx hlt hi h3 h4 hb hd hp VV DD V c1 k1 k2
      refine St.aB (St.aB (St.aB (St.aB (St.aB (St.aB (St.aB (St.aB (St.none_le _) ?_) ?_) ?_) ?_) ?_) ?_) ?_) ?_
      all_goals simp[St.set,St.del, *]
   ·rw[if_neg ho,decide_eq_false ho,Bool.not_false] at hof
    simp only[if_neg ho] at htk
    obtain⟨C2,k1,k2⟩:=kw2 78 ⟨[],fun v=>v=.agg pc.c,none⟩ 77 ⟨[],fun v=>v=.tup [.agg T.c,.bool true],none⟩
    clear hsh hci hpc hT hold hst
    cases is
    ·simp only[Bool.false_eq_true,if_false] at htk
     repeat' first|(refine wM ?_;(first|(have _:=nl1)|(intro nl1));intros)|refine wZ2 @hat @hml ?_|fail
     refine cB mixed [76] dK K hK ?_
     repeat' first|(refine jL (os:=[flD fl dd,bG B.sq l (.lst 2 (B.gr.map GR.c) false),.row 197 3 (B.dead.map DE.c),shO B.nx m (.vec 3 q 0 B.dead.length),.mp (cEs B.cards)]) (c1 _) sS hsh' ?_)|(refine wM ?_;(first|(have _:=nl2)|(intro nl2));intros)|refine wZ1 @FXs ?_|fail
     refine aJ mixed dK C2 ?_
     repeat' first|(with_reducible refine aH (k1 _) hpj ?_)|(with_reducible refine aH (k2 _) hof ?_)|(refine wM ?_;(first|(have _:=nl3)|(intro nl3));intros)|refine wZ5 @FXs @List.headD_cons.{0} @hgt @hput @hik ?_|fail
     refine Sq v7 sS sS (AK v7 f sm mk z1.floor seq z1.log hz1 ex0 T) fun rr g' ex' hvg hg'=>?_
     have gm:g'≠m:=fun e=>by subst e;simp[St.set,St.del, *] at hg'
     have gl:g'≠l:=fun e=>by subst e;simp[St.set,St.del, *] at hg'
     have gq:g'≠q:=fun e=>by subst e;simp[St.set,St.del, *] at hg'
     have gb:g'≠b:=fun e=>by subst e;simp[St.set,St.del, *] at hg'
     have gf:g'≠f:=fun e=>by subst e;simp[St.set,St.del, *] at hg'
     have gs:g'≠sm:=fun e=>by subst e;simp[St.set,St.del, *] at hg'
     have gn1:g'≠nl1:=fun e=>by subst e;simp[St.set,St.del, *] at hg'
     have gn2:g'≠nl2:=fun e=>by subst e;simp[St.set,St.del, *] at hg'
     have gn3:g'≠nl3:=fun e=>by subst e;simp[St.set,St.del, *] at hg'
     have VV':kZ m l q b f sm g' v:=⟨VV.D,VV.hf,VV.hs,⟨gm,gl,gq,gb,gf,gs⟩,⟨v1,v2,v3,v4,v5,v6,hvg⟩⟩
     clear hg'
     have gm':=Ne.symm gm
     have gl':=Ne.symm gl
     have gq':=Ne.symm gq
     have gb':=Ne.symm gb
     have gf':=Ne.symm gf
     have gs':=Ne.symm gs
     have hvg':=Ne.symm hvg
     have gn1':=Ne.symm gn1
     have gn2':=Ne.symm gn2
     have gn3':=Ne.symm gn3
     repeat' first|(refine gN mixed (fun _ _=>none) [_,_,_,_,_,_] [] rfl dK ?_)|refine wZ1 @FXs ?_|fail
     refine bL (kB (t:=131) (l:=sm) (es:=shE z1.sh) (kd:=.i64) (n:=id) rfl (by rw[Sa]) (by rw[td3]) rfl sS rfl hik ?_)
     rw[hdel]
     show R _
     repeat' first|refine wZ1 @FXs ?_|fail
     clear hat hml hxi hgt hput hik hdel hof hpj hsh'
     refine .of (.less ?_ ?_) ⟨(i+1,de,g',ex'),rfl,rfl,⟨by simp only;omega,VV'⟩,by simp only;omega⟩
     ·exact wW
     ·simp only[htk]
      clear VV' htk hz1e hz1 hz hx hlt hi h3 h4 hb hd hp VV DD V c1 k1 k2
      refine St.aB (St.aB (St.aB (St.aB (St.aB (St.aB (St.aB (St.aB (St.none_le _) ?_) ?_) ?_) ?_) ?_) ?_) ?_) ?_
      all_goals simp[St.set,St.del, *]
    ·simp only[if_true] at htk
     repeat' first|(refine wM ?_;(first|(have _:=nl1)|(intro nl1));intros)|refine wZ2 @hat @hml ?_|fail
     refine cB mixed [76] dK K hK ?_
     repeat' first|(refine jL (os:=[flD fl dd,bG B.sq l (.lst 2 (B.gr.map GR.c) false),.row 197 3 (B.dead.map DE.c),shO B.nx m (.vec 3 q 0 B.dead.length),.mp (cEs B.cards)]) (c1 _) sS hsh' ?_)|(refine wM ?_;(first|(have _:=nl2)|(intro nl2));intros)|refine wZ1 @FXs ?_|fail
     refine aJ mixed dK C2 ?_
     repeat' first|(with_reducible refine aH (k1 _) hpj ?_)|(with_reducible refine aH (k2 _) hof ?_)|(refine wM ?_;(first|(have _:=nl3)|(intro nl3));intros)|refine wZ5 @FXs @List.headD_cons.{0} @hgt @hput @hik ?_|fail
     refine Sq v7 sS sS (AK v7 f sm mk z1.floor seq z1.log hz1 ex0 T) fun rr g' ex' hvg hg'=>?_
     have gm:g'≠m:=fun e=>by subst e;simp[St.set,St.del, *] at hg'
     have gl:g'≠l:=fun e=>by subst e;simp[St.set,St.del, *] at hg'
     have gq:g'≠q:=fun e=>by subst e;simp[St.set,St.del, *] at hg'
     have gb:g'≠b:=fun e=>by subst e;simp[St.set,St.del, *] at hg'
     have gf:g'≠f:=fun e=>by subst e;simp[St.set,St.del, *] at hg'
     have gs:g'≠sm:=fun e=>by subst e;simp[St.set,St.del, *] at hg'
     have gn1:g'≠nl1:=fun e=>by subst e;simp[St.set,St.del, *] at hg'
     have gn2:g'≠nl2:=fun e=>by subst e;simp[St.set,St.del, *] at hg'
     have gn3:g'≠nl3:=fun e=>by subst e;simp[St.set,St.del, *] at hg'
     have VV':kZ m l q b f sm g' v:=⟨VV.D,VV.hf,VV.hs,⟨gm,gl,gq,gb,gf,gs⟩,⟨v1,v2,v3,v4,v5,v6,hvg⟩⟩
     clear hg'
     have gm':=Ne.symm gm
     have gl':=Ne.symm gl
     have gq':=Ne.symm gq
     have gb':=Ne.symm gb
     have gf':=Ne.symm gf
     have gs':=Ne.symm gs
     have hvg':=Ne.symm hvg
     have gn1':=Ne.symm gn1
     have gn2':=Ne.symm gn2
     have gn3':=Ne.symm gn3
     repeat' first|refine wV ?_|refine wZ3 @FXs @hput @hik ?_|fail
     clear hat hml hxi hgt hput hik hdel hof hpj hsh'
     refine .of (.less ?_ ?_) ⟨(i+1,de,g',ex'),rfl,rfl,⟨by simp only;omega,VV'⟩,by simp only;omega⟩
     ·exact wW
     ·simp only[htk]
      clear VV' htk hz1e hz1 hz hx hlt hi h3 h4 hb hd hp VV DD V c1 k1 k2
      refine St.aB (St.aB (St.aB (St.aB (St.aB (St.aB (St.aB (St.aB (St.none_le _) ?_) ?_) ?_) ?_) ?_) ?_) ?_) ?_
      all_goals simp[St.set,St.del, *]
end Go.Proofs.YtppdgejjmhdjhaaGreatDoor
