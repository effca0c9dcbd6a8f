/- Parts of the proof, joined; conditions: those that its theorems name. -/
import Derived.Test.YtppdgejjmhdjhaaGreatDoorMazi
import Derived.Test.YtppdgejjmhdjhaaGreatDoorMazj
set_option linter.unusedVariables false
set_option linter.unusedSimpArgs false
set_option maxHeartbeats 4000000
namespace Go.Proofs.YtppdgejjmhdjhaaGreatDoor
section
set_option maxRecDepth 100000
set_option maxHeartbeats 8000000
abbrev shV(cs:List CA):List (Int × Int):=cs.map fun c=>(c.id,c.ver)
theorem Jf(cs:List CA):vEs cs=shE (shV cs):=by
 unfold vEs shE shV
 rw[List.map_map];rfl
theorem zI{B:BK}(hb:BkR B)(h3:B.gr.length≤1000000)(h4:∀g,g∈B.gr→g.mem.length≤1000000){m l q b:Nat}(D:mX m l q b){fl:List ND}(hp:cD fl=0)(tt:Bool){mk:UInt32}(hm:mk.toNat≤511) :
  aA Tryz.prog 15 [.ptr b 0 0,.lst 5 (fl.map ND.c) tt,.int .u32 (mk.toNat:Int)] (bkS m l q b B []) (fun r σ'=>∃f sm g v d,jT m l q b f sm g v∧r=.ptr v 0 0∧σ'=vwS m l q b B f fl d sm g v mk ⟨shV (shC B fl),B.sq,B.sq,[]⟩ []):=by
 refine aA.gh ((BF hb h3 h4 D [] hp tt hm).mono ?_)
 rintro _ _ ⟨ρ,hfr,rfl,f,sm,v,d,⟨n1,n2,n3⟩,rfl,rfl⟩
 have hf:=hfr f (flD fl d) (by simp[St.set,Ne.symm n1,Ne.symm n2])
 have hs:=hfr sm (.mp (vEs (shC B fl))) (by simp[St.set,Ne.symm n3])
 have hv:=hfr v _ (aH _ _ _)
 simp only[bB] at hf hs hv
 obtain⟨f1,f2,f3,f4,-⟩:=hf
 obtain⟨s1,s2,s3,s4,-⟩:=hs
 obtain⟨v1,v2,v3,v4,-⟩:=hv
 rw[aW,aW,aW,cP]
 refine Gh.CJ (b:=v) (t:=133) (e:=6) (pre:=[.ptr f 0 0,.int .u32 (mk.toNat:Int),.mapv sm,.int .i64 B.sq,.int .i64 B.sq]) (post:=[]) 128 31 (aH _ _ _) fun g hg=>?_
 simp only[bB] at hg
 obtain⟨g1,g2,g3,g4,g5,g6,g7,-⟩:=hg
 refine .done ⟨_,rfl,f,sm,g,v,d,⟨D,⟨f4,f3,f2,f1⟩,⟨s4,s3,s2,s1,n1⟩,⟨g7,g6,g5,g4,g3,g2⟩,⟨v4,v3,v2,v1,n2,n3,Ne.symm g1⟩⟩,rfl,?_⟩
 rw[Jf]
 funext j
 by_cases h1:j=g
 ·subst h1;simp[St.set,g1,lgO]
 ·by_cases h2:j=v
  ·subst h2;simp[St.set,h1]
  ·simp[St.set,h1,h2]
theorem zJ{B:BK}(hb:BkR B)(h3:B.gr.length≤1000000)(h4:∀g,g∈B.gr→g.mem.length≤1000000){m l q b n:Nat}(D:mX m l q b)(hn:n≠m∧n≠l∧n≠q∧n≠b){x:ND}(hp:cD [x]=0){mk:UInt32}(hm:mk.toNat≤511) :
  aA Tryz.prog 15 [.ptr b 0 0,.vec 5 n 0 1,.int .u32 (mk.toNat:Int)] ((bkS m l q b B []).set n (.row 121 5 [x.c])) (fun r σ'=>∃f sm g v d,jT m l q b f sm g v∧r=.ptr v 0 0∧σ'=vwS m l q b B f [x] d sm g v mk ⟨shV (shC B [x]),B.sq,B.sq,[]⟩ []):=by
 have hn0:bkS m l q b B [] n=none:=by simp only[bB];exact⟨hn.2.2.2,hn.2.2.1,hn.2.1,hn.1,rfl⟩
 refine aA.pre (ms':=[.ptr b 0 0,.lst 5 ([x].map ND.c) false,.int .u32 (mk.toNat:Int)]) rfl (bU.freeze (St.none.set n (.row 121 5 [x.c])) (St.aC (St.none_le _) (aH _ _ _)) (St.lM (St.le_refl _) hn0) (fun k o hk=>?_) (fun p hp=>?_)) (zI hb h3 h4 D hp false hm)
 ·rw[aI _ _ _ _ (fun e=>by subst e;rw[hn0] at hk;cases hk)];rfl
 ·simp only[hO,List.mem_cons,List.not_mem_nil,or_false] at hp
  rcases hp with rfl|rfl|rfl
  ·exact .same _
  ·exact View.vecAll (aH _ _ _) rfl
  ·exact .same _
theorem HG{P:Program}{g0:FuncId}{ms:List MV}{σ:St}{m l q b n:Nat}{on:aO}{B:BK}{fl:List ND}{mk:UInt32}{z:VS}{k:MV→St→Prop}{u:Nat→MV}
 (h:aA P g0 ms ((bkS m l q b B []).set n on) fun r σ'=>∃f sm g v d,jT m l q b f sm g v∧r=u v∧σ'=vwS m l q b B f fl d sm g v mk z [])(hle:((bkS m l q b B []).set n on).le σ)(hn:bkS m l q b B [] n=none)
 (hk:∀f sm g v d,jT m l q b f sm g v→(σ.del n) f=none→(σ.del n) sm=none→(σ.del n) g=none→(σ.del n) v=none→R (bF (u v) (((((σ.del n).set f (flD fl d)).set sm (.mp (shE z.sh))).set g (lgO z.log [])).set v (vwO f mk sm z.floor z.now (.vec 31 g 0 z.log.length))) k)):R (cN P g0 ms σ k) :=
 bM h hle fun r σ' hv hf=>by
  obtain⟨f,sm,g,v,d,V,rfl,rfl⟩:=hv
  have hV:=V
  obtain⟨D,⟨f1,f2,f3,f4⟩,⟨s1,s2,s3,s4,s5⟩,⟨g1,g2,g3,g4,g5,g6⟩,⟨v1,v2,v3,v4,v5,v6,v7⟩⟩:=V
  have e:(vwS m l q b B f fl d sm g v mk z []).over (σ.minus ((bkS m l q b B []).set n on))=((((σ.del n).set f (flD fl d)).set sm (.mp (shE z.sh))).set g (lgO z.log [])).set v (vwO f mk sm z.floor z.now (.vec 31 g 0 z.log.length)):=by
   rw[aW,aW,aW,aW]
   congr 4
   funext j
   by_cases h1:j=n
   ·subst h1
    simp only[St.over,St.minus,St.del,hn,aH]
    simp
   ·simp only[St.over,St.minus,St.del,aI _ _ _ _ h1,if_neg h1]
    cases hb:bkS m l q b B [] j with
    | none=>rfl
    | some o=>exact(hle j o (by rw[aI _ _ _ _ h1];exact hb)).symm
  have hfree:∀j o,vwS m l q b B f fl d sm g v mk z [] j=some o→(j≠m∧j≠l∧j≠q∧j≠b)→(σ.del n) j=none:=fun j o hj hne=>by
   by_cases h1:j=n
   ·simp[St.del,h1]
   ·rcases hf j o hj with h|⟨o',h⟩
    ·simp[St.del,h1,h]
    ·rw[aI _ _ _ _ h1] at h
     obtain⟨j1,j2,j3,j4⟩:=hne
     simp[St.set,St.none,j1,j2,j3,j4] at h
  rw[e]
  refine hk f sm g v d hV (hfree f (flD fl d) ?_ ⟨f1,f2,f3,f4⟩) (hfree sm (.mp (shE z.sh)) ?_ ⟨s1,s2,s3,s4⟩) (hfree g (lgO z.log []) ?_ ⟨g1,g2,g3,g4⟩) (hfree v _ (aH _ _ _) ⟨v1,v2,v3,v4⟩)
  ·simp[St.set,Ne.symm v5,Ne.symm g5,Ne.symm s5]
  ·simp[St.set,Ne.symm v6,Ne.symm g6]
  ·simp[St.set,Ne.symm v7]
theorem HH{P:Program}{g0:FuncId}{ms:List MV}{σ:St}{m l q b f sm g v:Nat}{B:BK}{fl:List ND}{d:Bool}{mk:UInt32}{z z':VS}{ex:List (List MV)}{k:MV→St→Prop}(V:jT m l q b f sm g v)
 (h:aA P g0 ms (vwS m l q b B f fl d sm g v mk z ex) fun _ σ'=>∃d' g' ex',jT m l q b f sm g' v∧σ'=vwS m l q b B f fl d' sm g' v mk z' ex')(hle:(vwS m l q b B f fl d sm g v mk z ex).le σ)
 (hk:∀r d' g' ex',jT m l q b f sm g' v→(σ.del g) g'=none→R (bF r (((((σ.del g).set f (flD fl d')).set sm (.mp (shE z'.sh))).set g' (lgO z'.log ex')).set v (vwO f mk sm z'.floor z'.now (.vec 31 g' 0 z'.log.length))) k)):R (cN P g0 ms σ k) :=
 bM h hle fun r σ' hv hf=>by
  obtain⟨d',g',ex',V',rfl⟩:=hv
  have hV:=V'
  obtain⟨D,⟨f1,f2,f3,f4⟩,⟨s1,s2,s3,s4,s5⟩,⟨g1,g2,g3,g4,g5,g6⟩,⟨v1,v2,v3,v4,v5,v6,v7⟩⟩:=V'
  obtain⟨-,-,-,⟨G1,G2,G3,G4,G5,G6⟩,⟨-,-,-,-,-,-,w7⟩⟩:=V
  have e:(vwS m l q b B f fl d' sm g' v mk z' ex').over (σ.minus (vwS m l q b B f fl d sm g v mk z ex))=((((σ.del g).set f (flD fl d')).set sm (.mp (shE z'.sh))).set g' (lgO z'.log ex')).set v (vwO f mk sm z'.floor z'.now (.vec 31 g' 0 z'.log.length)):=by
   rw[aW,aW,aW,aW]
   funext j
   by_cases h1:j=v
   ·subst h1;rw[aH,aH]
   ·rw[aI _ _ _ _ h1,aI _ _ _ _ h1]
    by_cases h2:j=g'
    ·subst h2;rw[aH,aH]
    ·rw[aI _ _ _ _ h2,aI _ _ _ _ h2]
     by_cases h3:j=sm
     ·subst h3;rw[aH,aH]
     ·rw[aI _ _ _ _ h3,aI _ _ _ _ h3]
      by_cases h4:j=f
      ·subst h4;rw[aH,aH]
      ·rw[aI _ _ _ _ h4,aI _ _ _ _ h4]
       by_cases h5:j=g
       ·subst h5
        have hb0:bkS m l q b B [] j=none:=by simp only[bB];exact⟨G4,G3,G2,G1,rfl⟩
        have hj:vwS m l q b B f fl d sm j v mk z ex j=some (lgO z.log ex):=(aI _ _ _ _ h1).trans (aH _ _ _)
        simp only[St.over,St.minus,St.del,hb0,if_true]
        rw[hj]
       ·have hvw:vwS m l q b B f fl d sm g v mk z ex j=bkS m l q b B [] j:=by
         show(((_:St).set v _):St) j=_
         rw[aI _ _ _ _ h1,aI _ _ _ _ h5,aI _ _ _ _ h3]
         exact aI _ _ _ _ h4
        simp only[St.over,St.minus,St.del,hvw,if_neg h5]
        cases hb:bkS m l q b B [] j with
        | none=>rfl
        | some o=>exact(hle j o (hvw.trans hb)).symm
  rw[e]
  refine hk r d' g' ex' hV ?_
  by_cases h5:g'=g
  ·simp[St.del,h5]
  ·rcases hf g' (lgO z'.log ex') (by simp[St.set,Ne.symm v7]) with h|⟨o',h⟩
   ·simp[St.del,h5,h]
   ·simp[St.set,St.none,h5,Ne.symm v7,g1,g2,g3,g4,g5,g6] at h
theorem vC{g n:Nat}(xs:List (List MV))(hn:n+1≤1000000)(hx:n+1≤xs.length) :
  aA Tryz.prog 98 [.vec 31 g 0 (n+1)] (St.none.set g (.row 128 31 xs)) (fun r σ'=>∃q,r=.vec 31 q 0 (n+1)∧q≠g∧σ'=(St.none.set g (.row 128 31 xs)).set q (.row 128 31 (xs.take (n+1)))):=by
 refine aA.less (Q':=fun r σ'=>∃q,r=.vec 31 q 0 (n+1)∧q≠g∧((St.none.set g (.row 128 31 xs)).set q (.row 128 31 (xs.take (n+1)))).le σ') ?_ fun v σ' ⟨q,h1,h2,h3⟩=>⟨_,h3,q,h1,h2,rfl⟩
 refine(aA.kO 8 [.tmp 2] Tryz.func98 rfl rfl rfl rfl ?_)
 have hl:(xs.take (n+1)).length=n+1:=by rw[List.length_take];omega
 refine gL (lB ?_)
 repeat' (first|(with_reducible first|(refine wN fun _ hnl=>?_;revert hnl;(repeat refine wS fun _ _=>?_);intro hnl)|refine wE ?_|(refine wK ?_ ?_<;>intro h)|(refine wB ?_ ?_<;>intro h<;>simp only[h]))|simp(maxSteps:=4000000) (disch:=first|exact ddL|fail) only[go_sem,simprocAttr,FXs])
 refine iV (gL (gL (kC [_] _ [] rfl rfl ?_)))
 repeat' (first|(with_reducible first|(refine wN fun _ hnl=>?_;revert hnl;(repeat refine wS fun _ _=>?_);intro hnl)|refine wE ?_|(refine wK ?_ ?_<;>intro h)|(refine wB ?_ ?_<;>intro h<;>simp only[h]))|simp(maxSteps:=4000000) (disch:=first|exact ddL|fail) only[go_sem,simprocAttr,FXs])
 refine iV (BQ (t:=77) (el:=128) (n:=n) (l:=g) (lo:=0) (e:=31) rfl (by rw[K7]) rfl ?_)
 show R _
 repeat' (first|(with_reducible first|(refine wN fun _ hnl=>?_;revert hnl;(repeat refine wS fun _ _=>?_);intro hnl)|refine wE ?_|(refine wK ?_ ?_<;>intro h)|(refine wB ?_ ?_<;>intro h<;>simp only[h]))|simp(maxSteps:=4000000) (disch:=first|exact ddL|fail) only[go_sem,simprocAttr,FXs])
 refine iV (lB ?_)
 repeat' (first|(with_reducible first|(refine wN fun _ hnl=>?_;revert hnl;(repeat refine wS fun _ _=>?_);intro hnl)|refine wE ?_|(refine wK ?_ ?_<;>intro h)|(refine wB ?_ ?_<;>intro h<;>simp only[h]))|simp(maxSteps:=4000000) (disch:=first|exact ddL|fail) only[go_sem,simprocAttr,FXs])
 refine iV (lB ?_)
 repeat' (first|(with_reducible first|(refine wN fun _ hnl=>?_;revert hnl;(repeat refine wS fun _ _=>?_);intro hnl)|refine wE ?_|(refine wK ?_ ?_<;>intro h)|(refine wB ?_ ?_<;>intro h<;>simp only[h]))|simp(maxSteps:=4000000) (disch:=first|exact ddL|fail) only[go_sem,simprocAttr,FXs,hl])
 exact⟨_,rfl,by assumption,St.le_refl _⟩
theorem HD{P:Program}{g0:FuncId}{ms:List MV}{σ:St}{g:Nat}{og o:aO}{u:Nat→MV}{k:MV→St→Prop}(hg:σ g=some og)(h:aA P g0 ms (St.none.set g og) fun r σ'=>∃q,r=u q∧q≠g∧σ'=(St.none.set g og).set q o)(hk:∀q,σ q=none→R (bF (u q) (σ.set q o) k)):R (cN P g0 ms σ k) :=
 bM h (St.aC (St.none_le _) hg) fun r σ' hv hf=>by
  obtain⟨q,rfl,hq,rfl⟩:=hv
  have e:((St.none.set g og).set q o).over (σ.minus (St.none.set g og))=σ.set q o:=by
   rw[aW]
   congr 1
   funext j
   by_cases h1:j=g
   ·subst h1;simp[St.over,St.set,hg]
   ·simp[St.over,St.set,St.none,St.minus,h1]
  rw[e]
  refine hk q ?_
  rcases hf q o (aH _ _ _) with h|⟨o',h⟩
  ·exact h
  ·rw[aI _ _ _ _ hq] at h;cases h
theorem BD{v g:Nat}(hvg:v≠g)(f sm:Nat)(mk:UInt32)(floor now:Int)(log:List TU)(hl:log.length≤1000)(ex:List (List MV)) :
  aA Tryz.prog 29 [.ptr v 0 0] ((St.none.set g (lgO log ex)).set v (vwO f mk sm floor now (.vec 31 g 0 log.length))) (fun r σ'=>r=.lst 31 (log.map TU.c) false∧σ'=(St.none.set g (lgO log ex)).set v (vwO f mk sm floor now (.vec 31 g 0 log.length))):=by
 have hgv:=Ne.symm hvg
 refine aA.Hh (aA.body 10 [.tmp 2] Tryz.func29 rfl rfl rfl rfl ?_)
 cases log with
 | nil =>
  have he:aA Tryz.prog 98 [.lst 31 [] false] St.none (fun r _=>r=.lst 31 [] true):=oB wM Az
  repeat' (first|(with_reducible first|(refine wN fun _ hnl=>?_;revert hnl;(repeat refine wS fun _ _=>?_);intro hnl)|refine wE ?_|(refine wK ?_ ?_<;>intro h)|(refine wB ?_ ?_<;>intro h<;>simp only[h]))|simp(maxSteps:=4000000) (disch:=first|exact ddL|fail) only[go_sem,simprocAttr,Tryz.f29,FXs])
  refine mV [.lst 31 [] false] he (.lst0 _) rfl (fun i m m' h1 h2=>?_) ?_
  ·match i with
   | 0 =>
    simp only[List.getElem?_cons_zero,Option.some.injEq] at h1 h2
    subst h1
    subst h2
    have:=View.vec (σ:=(St.none.set g (lgO [] ex)).set v (vwO f mk sm floor now (.vec 31 g 0 0))) (l:=g) (lo:=0) (n:=0) (t:=128) (e:=31) (xs:=([]:List TU).map TU.c++ex) (by rw[aI _ _ _ _ hgv];exact aH _ _ _) (Nat.zero_le _)
    simpa using this
   | i+1=>simp at h1
  repeat' (first|(with_reducible first|(refine wN fun _ hnl=>?_;revert hnl;(repeat refine wS fun _ _=>?_);intro hnl)|refine wE ?_|(refine wK ?_ ?_<;>intro h)|(refine wB ?_ ?_<;>intro h<;>simp only[h]))|simp(maxSteps:=4000000) (disch:=first|exact ddL|fail) only[go_sem,simprocAttr])
  exact⟨St.none,St.none_le _,St.le_refl _,fun k o hk=>rfl,.tight _ _⟩
 | cons x L =>
  have hm:(L.map TU.c).length=L.length:=List.length_map _
  have hk:=vC (g:=g) (n:=L.length) ((x::L).map TU.c++ex) (by simp only[List.length_cons] at hl;omega) (by simp)
  rw[List.take_left' (by simp)] at hk
  repeat' (first|(with_reducible first|(refine wN fun _ hnl=>?_;revert hnl;(repeat refine wS fun _ _=>?_);intro hnl)|refine wE ?_|(refine wK ?_ ?_<;>intro h)|(refine wB ?_ ?_<;>intro h<;>simp only[h]))|simp(maxSteps:=4000000) (disch:=first|exact ddL|fail) only[go_sem,simprocAttr,Tryz.f29,FXs])
  refine HD (aI _ _ _ _ hgv |>.trans (aH _ _ _)) hk fun q hq=>?_
  repeat' (first|(with_reducible first|(refine wN fun _ hnl=>?_;revert hnl;(repeat refine wS fun _ _=>?_);intro hnl)|refine wE ?_|(refine wK ?_ ?_<;>intro h)|(refine wB ?_ ?_<;>intro h<;>simp only[h]))|simp(maxSteps:=4000000) (disch:=first|exact ddL|fail) only[go_sem,simprocAttr])
  exact⟨St.none.set q _,St.aC (St.none_le _) (aH _ _ _),St.lM (St.le_refl _) hq,fun k o hk=>(aI _ _ _ _ fun e=>by subst e;rw[hq] at hk;cases hk).trans rfl,.vecAll (aH _ _ _) (by simp only[List.length_cons,hm])⟩
end

section
set_option maxRecDepth 100000
set_option maxHeartbeats 8000000
theorem KC:(ED.mk 1 0 0 evP).c=.int .i64 1::.int .i64 0::.int .i64 0::.int .u32 256::.int .u32 2::fc f80:=rfl
theorem KD:(ED.mk 2 1 0 evW).c=.int .i64 2::.int .i64 1::.int .i64 0::.int .u32 256::.int .u32 1::fc f80:=rfl
theorem JH{m l b:Nat}(hlm:l≠m)(hbm:b≠m)(hbl:b≠l)(D g:MV) :
  aA Tryz.prog 17 [.ptr b 0 0,.agg (.int .i64 1::.int .i64 0::.int .i64 0::.int .u32 256::.int .u32 2::fc f80)] (mlb m l b (.mp (cEs [])) (shO 1 m D) (bA 0 l g)) (fun v σ'=>v=.tup [.lst 2 ([((1:Int),(1:Int))].map chC) false,.int .i64 0]∧σ'=(((mlb m l b (.mp (cEs [])) (shO 1 m D) (bA 0 l g)).set m (.mp (cEs [ev1]))).set l (shO 2 m D)).set b (bA 1 l g)):=by
 rw[←KC]
 refine(EH (nx:=1) (sq:=0) hlm hbm hbl D g [] evP (by decide +kernel) (by decide) (by decide) (by decide) (by simp) (by decide) (by decide)).mono ?_
 rintro v σ' ⟨q1,q2⟩
 exact⟨q1,q2.trans JY⟩
theorem JI{m l q b:Nat}(D:mX m l q b)(g:MV) :
  aA Tryz.prog 17 [.ptr b 0 0,.agg (.int .i64 2::.int .i64 1::.int .i64 0::.int .u32 256::.int .u32 1::fc f80)] ((shS 2 m l q [ev1] [] []).set b (bA 1 l g)) (fun v σ'=>v=.tup [.lst 2 ([((2:Int),(1:Int))].map chC) false,.int .i64 0]∧σ'=((((shS 2 m l q [ev1] [] []).set b (bA 1 l g)).set m (.mp (cEs [ev2]))).set l (shO 2 m (.vec 3 q 0 0))).set b (bA 2 l g)):=by
 rw[←KD]
 refine(EI (nx:=2) (sq:=1) D [ev1] (List.pairwise_singleton _ _) [] (by decide) [] g 1 evW (by decide +kernel) (c:=ev1) (by decide +kernel) (by decide +kernel) (by decide +kernel) (by decide) (by decide) (by decide) (by decide)).mono ?_
 rintro v σ' ⟨q1,q2⟩
 refine⟨q1,q2.trans ?_⟩
 obtain⟨d1,d2,d3,d4,d5,d6⟩:=D
 have hw:wrC [ev1] 1 (dN ev1 evW)=[ev2]:=rfl
 rw[hw]
 funext j
 by_cases h1:j=b
 ·subst h1;simp[St.set]
 ·by_cases h2:j=l
  ·subst h2;simp[St.set,h1,Ne.symm d3]
  ·by_cases h3:j=q
   ·subst h3;simp[St.set,h1,h2,d2]
   ·by_cases h4:j=m
    ·subst h4;simp[St.set,h1,h2,h3]
    ·simp[St.set,h1,h2,h3,h4]
theorem H3{m l q b n:Nat}(D:mX m l q b)(hn:n≠m∧n≠l∧n≠q∧n≠b) :
  aA Tryz.prog 15 [.ptr b 0 0,.vec 5 n 0 1,.int .u32 256] ((bkS m l q b bk1 []).set n (.row 121 5 [evN.c])) (fun r σ'=>∃f sm g v d,jT m l q b f sm g v∧r=.ptr v 0 0∧σ'=vwS m l q b bk1 f [evN] d sm g v 256 Dc []) :=
 zJ (B:=bk1) (mk:=256) ⟨by decide,by decide,by decide,by decide,by decide +kernel,by decide +kernel,by decide,by decide,by decide +kernel⟩ (by decide) (fun g hg=>by cases hg) D hn pK (by decide)
theorem H0{m l q b f sm g v:Nat}(V:jT m l q b f sm g v)(d:Bool)(ex:List (List MV)):aA Tryz.prog 18 [.ptr v 0 0,.ptr b 0 0,.lst 2 ([((1:Int),(1:Int))].map chC) false] (vwS m l q b tW f [evN] d sm g v 256 Dc ex) (fun _ σ'=>∃d' g' ex',jT m l q b f sm g' v∧σ'=vwS m l q b tW f [evN] d' sm g' v 256 wW ex'):=by
 have h:=oL HY (by decide) (fun g hg=>by cases hg) (by decide) pK (mk:=256) V d Dc (by decide) ex [(1,1)] (by decide) false
 rw[Ft] at h
 exact h
theorem H2{m l q b f sm g v:Nat}(V:jT m l q b f sm g v)(d:Bool)(ex:List (List MV)):aA Tryz.prog 18 [.ptr v 0 0,.ptr b 0 0,.lst 2 ([((2:Int),(1:Int))].map chC) false] (vwS m l q b tX f [evN] d sm g v 256 wW ex) (fun _ σ'=>∃d' g' ex',jT m l q b f sm g' v∧σ'=vwS m l q b tX f [evN] d' sm g' v 256 AF ex'):=by
 have h:=oL HZ (by decide) (fun g hg=>by cases hg) (by decide) pK (mk:=256) V d wW (by decide) ex [(2,1)] (by decide) false
 rw[Fu] at h
 exact h
theorem JJ:∃X1 X2:List MV,AF.log.map TU.c=[.int .i64 1::.int .i64 1::.int .i64 0::.int .i64 1::X1,.int .i64 2::.int .i64 1::.int .i64 1::.int .i64 0::X2]:=by
 refine⟨(fT ev1 256).c,ca0.c,?_⟩
 show[(gC 1 0 1 (fT ev1 256) true).c,(gC 2 1 1 (fT ca0 256) false).c]=_
 rw[show(gC 1 0 1 (fT ev1 256) true).c=.int .i64 1::.int .i64 1::.int .i64 0::.int .i64 (gC 1 0 1 (fT ev1 256) true).new::(fT ev1 256).c from rfl,JK]
 rfl
theorem tR:aA Tryz.prog 13 [] St.none (fun r _=>r=.bool true):=by
 refine aA.dF (aA.body 66 [.tmp 0] Tryz.func13 rfl rfl rfl rfl ?_)
 have hnew:aA Tryz.prog 60 [] St.none _:=vY
 repeat' (first|((refine Je hnew ?_;intro m l q b hm hl hq hb D;clear hm hl hq hb;simp only[bk1,List.map_nil,List.length_nil];have D':=D;obtain⟨d1,d2,d3,d4,d5,d6⟩:=D;have e1:=Ne.symm d1;have e2:=Ne.symm d2;have e3:=Ne.symm d3;have e4:=Ne.symm d4;have e5:=Ne.symm d5;have e6:=Ne.symm d6))|(with_reducible first|(refine wT ?_;(first|((fail_if_success (have:=nl1));refine wN fun nl1 hnl=>?_)|refine wN fun _ hnl=>?_);revert hnl;(repeat refine wS fun _ _=>?_);intro hnl)|refine wE ?_|(refine wK ?_ ?_<;>intro h)|(refine wB ?_ ?_<;>intro h<;>simp only[h]))|simp(maxSteps:=4000000) (disch:=first|exact ddL|fail) only[go_sem,simprocAttr,Tryz.f13,FXs])
 have n1:nl1≠m:=by assumption
 have n2:nl1≠l:=by assumption
 have n3:nl1≠q:=by assumption
 have n4:nl1≠b:=by assumption
 refine HG (H3 D' ⟨n1,n2,n3,n4⟩) (St.aC (JE (by simp[St.set, *,bk1]) (by simp[St.set, *,bk1]) (by simp[St.set, *,bk1]) (by simp[St.set, *,bk1])) (aH _ _ _)) (by simp only[bB];exact⟨n4,n3,n2,n1,rfl⟩) fun f sm g v d V hf hs hg hv=>?_
 clear hf hs hg hv
 have VV:=V
 obtain⟨-,⟨f1,f2,f3,f4⟩,⟨s1,s2,s3,s4,s5⟩,⟨g1,g2,g3,g4,g5,g6⟩,⟨v1,v2,v3,v4,v5,v6,v7⟩⟩:=V
 have f1':=Ne.symm f1
 have f2':=Ne.symm f2
 have f3':=Ne.symm f3
 have f4':=Ne.symm f4
 have s1':=Ne.symm s1
 have s2':=Ne.symm s2
 have s3':=Ne.symm s3
 have s4':=Ne.symm s4
 have s5':=Ne.symm s5
 have g1':=Ne.symm g1
 have g2':=Ne.symm g2
 have g3':=Ne.symm g3
 have g4':=Ne.symm g4
 have g5':=Ne.symm g5
 have g6':=Ne.symm g6
 have v1':=Ne.symm v1
 have v2':=Ne.symm v2
 have v3':=Ne.symm v3
 have v4':=Ne.symm v4
 have v5':=Ne.symm v5
 have v6':=Ne.symm v6
 have v7':=Ne.symm v7
 repeat' (first|(with_reducible first|(refine wT ?_;(first|((fail_if_success (have:=nl1));refine wN fun nl1 hnl=>?_)|refine wN fun _ hnl=>?_);revert hnl;(repeat refine wS fun _ _=>?_);intro hnl)|refine wE ?_|(refine wK ?_ ?_<;>intro h)|(refine wB ?_ ?_<;>intro h<;>simp only[h]))|simp(maxSteps:=4000000) (disch:=first|exact ddL|fail) only[go_sem,simprocAttr,FXs])
 refine HF (JH d1 d4 d5 (.vec 3 q 0 0) (.lst 2 [] false)) (JZ (by simp[St.set, *]) (by simp[St.set, *]) (by simp[St.set, *])) ?_
 repeat' (first|(with_reducible first|(refine wT ?_;(first|((fail_if_success (have:=nl1));refine wN fun nl1 hnl=>?_)|refine wN fun _ hnl=>?_);revert hnl;(repeat refine wS fun _ _=>?_);intro hnl)|refine wE ?_|(refine wK ?_ ?_<;>intro h)|(refine wB ?_ ?_<;>intro h<;>simp only[h]))|simp(maxSteps:=4000000) (disch:=first|exact ddL|fail) only[go_sem,simprocAttr,FXs])
 refine HH VV (H0 VV d []) (Jy (by show _=some (aO.mp (cEs [ev1]));simp[St.set, *]) (by show _=some (shO 2 m (.vec 3 q 0 0));simp[St.set, *]) (by show _=some (aO.row 197 3 []);simp[St.set, *]) (by show _=some (bA 1 l (.lst 2 [] false));simp[St.set, *]) (by simp[St.set, *]) (by simp[St.set, *]) (by simp[St.set, *]) (by simp[St.set, *])) fun r1 dd1 g' ex1 V1 hg'=>?_
 clear hg'
 have VV1:=V1
 obtain⟨-,-,-,⟨w1,w2,w3,w4,w5,w6⟩,⟨-,-,-,-,-,-,w7⟩⟩:=V1
 have w1':=Ne.symm w1
 have w2':=Ne.symm w2
 have w3':=Ne.symm w3
 have w4':=Ne.symm w4
 have w5':=Ne.symm w5
 have w6':=Ne.symm w6
 have w7':=Ne.symm w7
 repeat' (first|(with_reducible first|(refine wT ?_;(first|((fail_if_success (have:=nl1));refine wN fun nl1 hnl=>?_)|refine wN fun _ hnl=>?_);revert hnl;(repeat refine wS fun _ _=>?_);intro hnl)|refine wE ?_|(refine wK ?_ ?_<;>intro h)|(refine wB ?_ ?_<;>intro h<;>simp only[h]))|simp(maxSteps:=4000000) (disch:=first|exact ddL|fail) only[go_sem,simprocAttr,FXs])
 refine HF (JI D' (.lst 2 [] false)) (St.aC (St.aC (St.aC (St.aC (St.none_le _) (by simp[St.set, *])) (by show _=some (shO 2 m (.vec 3 q 0 0));simp[St.set, *])) (by show _=some (aO.row 197 3 []);simp[St.set, *])) (by simp[St.set, *])) ?_
 repeat' (first|(with_reducible first|(refine wT ?_;(first|((fail_if_success (have:=nl1));refine wN fun nl1 hnl=>?_)|refine wN fun _ hnl=>?_);revert hnl;(repeat refine wS fun _ _=>?_);intro hnl)|refine wE ?_|(refine wK ?_ ?_<;>intro h)|(refine wB ?_ ?_<;>intro h<;>simp only[h]))|simp(maxSteps:=4000000) (disch:=first|exact ddL|fail) only[go_sem,simprocAttr,FXs])
 refine HH VV1 (H2 VV1 dd1 ex1) (Jy (by show _=some (aO.mp (cEs [ev2]));simp[St.set, *]) (by show _=some (shO 2 m (.vec 3 q 0 0));simp[St.set, *]) (by show _=some (aO.row 197 3 []);simp[St.set, *]) (by show _=some (bA 2 l (.lst 2 [] false));simp[St.set, *]) (by simp[St.set, *]) (by simp[St.set, *]) (by simp[St.set, *]) (by simp[St.set, *])) fun r2 dd2 k ex2 V2 hk=>?_
 clear hk
 have VV2:=V2
 obtain⟨-,-,-,⟨u1,u2,u3,u4,u5,u6⟩,⟨-,-,-,-,-,-,u7⟩⟩:=V2
 have u1':=Ne.symm u1
 have u2':=Ne.symm u2
 have u3':=Ne.symm u3
 have u4':=Ne.symm u4
 have u5':=Ne.symm u5
 have u6':=Ne.symm u6
 have u7':=Ne.symm u7
 repeat' (first|(with_reducible first|(refine wT ?_;(first|((fail_if_success (have:=nl1));refine wN fun nl1 hnl=>?_)|refine wN fun _ hnl=>?_);revert hnl;(repeat refine wS fun _ _=>?_);intro hnl)|refine wE ?_|(refine wK ?_ ?_<;>intro h)|(refine wB ?_ ?_<;>intro h<;>simp only[h]))|simp(maxSteps:=4000000) (disch:=first|exact ddL|fail) only[go_sem,simprocAttr,FXs])
 obtain⟨X1,X2,hX⟩:=JJ
 have hlog:=BD u7 f sm 256 AF.floor AF.now AF.log (by decide) ex2
 rw[hX] at hlog
 refine dW hlog (St.aC (St.aC (St.none_le _) (by simp[St.set, *])) (by simp[St.set, *])) ?_
 repeat' (first|(with_reducible first|(refine wT ?_;(first|((fail_if_success (have:=nl1));refine wN fun nl1 hnl=>?_)|refine wN fun _ hnl=>?_);revert hnl;(repeat refine wS fun _ _=>?_);intro hnl)|refine wE ?_|(refine wK ?_ ?_<;>intro h)|(refine wB ?_ ?_<;>intro h<;>simp only[h]))|simp(maxSteps:=4000000) (disch:=first|exact ddL|fail) only[go_sem,simprocAttr,FXs])
 all_goals first|exact⟨_,St.le_refl _,rfl⟩|exact⟨_,St.le_refl _⟩|trace_state
end
end Go.Proofs.YtppdgejjmhdjhaaGreatDoor
