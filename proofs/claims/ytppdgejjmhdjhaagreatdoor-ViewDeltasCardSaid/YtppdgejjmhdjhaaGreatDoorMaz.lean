/- Parts of the proof; conditions: as its theorems name them. -/
import Derived.Test.YtppdgejjmhdjhaaGreatDoorMay
import Derived.Lib.LaidTab
import Derived.Test.YtppdgejjmhdjhaaGreatDoorRows
import Derived.LaidMore
import Derived.MakeChecks
import Derived.Lib.LazyBuf
set_option linter.unusedVariables false
set_option linter.unusedSimpArgs false
set_option maxHeartbeats 8000000
set_option maxRecDepth 100000
namespace Go.Proofs.YtppdgejjmhdjhaaGreatDoor
section
open Go.ChangeShapes Go.WideShapes Go.RowKit
abbrev F0:List (String × DataW Unit):=[("math/bits.deBruijn32tab",Rows.laid_math_bits_deBruijn32tab)]
theorem WB:Tryz.prog.globalNamed "math/bits.deBruijn32tab" = some 0:=by kernel_rfl
theorem Xv:(Tryz.prog.globals[0]?).map (·.type)=some 325:=by kernel_rfl
theorem XJ:Tryz.prog.underlying 325=some (.array 32 5):=by kernel_rfl
theorem uU8:Tryz.prog.underlying 5=some (.int .u8):=by kernel_rfl
theorem cU8:Tryz.prog.cellsOf 5=1:=by kernel_rfl
theorem Xl:Tryz.prog.cellsOf 325=32:=by kernel_rfl
theorem IP:∀W:World,W.ShapedOpen Tryz.prog→laidMetH Tryz.prog F0 W→UW W:=fun W hsh h=>by
 rw[MakeChecks.laidMetH_plain _ _ _ (by kernel_rfl)] at h
 have ht:Go.Lib.TabIs Tryz.prog W "math/bits.deBruijn32tab" .u8 dbT:=Go.Lib.tabIs_of_head WB Xv XJ uU8 cU8 Xl h
 refine⟨fun g i v hv=>?_,Bp W hsh⟩
 by_cases hg:g=0
 ·subst hg
  rw[UA,Option.map_eq_some_iff] at hv
  obtain⟨n,hn,rfl⟩:=hv
  have hi:=(List.getElem?_eq_some_iff.1 hn).1
  rw[ht.cell WB i hi]
  simp[List.getD,hn]
 ·unfold GT at hv
  rw[if_neg hg] at hv
  cases hv
theorem Pp(os:Os)(args:Array Value):laidMetH Tryz.prog F0 ((World.doorLaid Tryz.prog 40 os).forCall (fun _ _=>0) ⟨#[],args,[]⟩).memory :=
 laidMetH_of_parts3 (fuel:=8) (laidMet_of_run' 8 (by kernel_rfl) (by kernel_rfl)) (by kernel_rfl) (by kernel_rfl)
end

section
def evP:PA:=⟨256,2,f80⟩
def evW:PA:=⟨256,1,f80⟩
def ev1:CA:=bY 1 evP
def ev2:CA:=cV ev1 evW
def Du:BK:=⟨1,2,[ev1],[],[]⟩
def Dv:BK:=⟨2,2,[ev2],[],[]⟩
theorem SV:BkR Du:=⟨by decide,by decide,by decide,by decide,by decide +kernel,by decide +kernel,by decide,by decide,by decide +kernel⟩
theorem SW:BkR Dv:=⟨by decide,by decide,by decide,by decide,by decide +kernel,by decide +kernel,by decide,by decide,by decide +kernel⟩
def evN:ND:=⟨3,1,va0⟩
theorem zU:cR [evN]=0:=by decide +kernel
theorem Mz:jG Du [evN] 1=(ev1,true):=by
 have h1:eR Du.gr [evN] ev1=true:=by rw[A0 zU];decide +kernel
 have h2:bB Du.cards Du.dead 1=(ev1,0):=by decide +kernel
 unfold jG
 rw[h2]
 exact if_pos ⟨rfl,h1⟩
theorem MA:jG Dv [evN] 1=(ca0,false):=by
 have h1:eR Dv.gr [evN] ev2=false:=by rw[A0 zU];decide +kernel
 have h2:bB Dv.cards Dv.dead 1=(ev2,0):=by decide +kernel
 unfold jG
 rw[h2]
 exact if_neg fun h=>by rw[h1] at h;cases h.2
def My:VS:=⟨[],0,0,[]⟩
def Fw:VS:=⟨[(1,1)],0,1,[iP 1 0 1 (eB ev1 256) true]⟩
def IG:VS:=⟨[],0,2,[iP 1 0 1 (eB ev1 256) true,iP 2 1 1 (eB ca0 256) false]⟩
theorem Pq:eF Du [evN] 256 My [(1,1)]=Fw:=by
 show iO Du [evN] 256 My 1 1=_
 unfold iO
 rw[Mz]
 have h:(iP 1 0 1 (eB ev1 256) true).new=1:=by decide +kernel
 have hv:ev1.ver=1:=by decide +kernel
 simp[My,Fw,shG,shP,kW,gG,h,hv]
theorem Pr:eF Dv [evN] 256 Fw [(2,1)]=IG:=by
 show iO Dv [evN] 256 Fw 2 1=_
 unfold iO
 rw[MA]
 have h:(iP 2 1 1 (eB ca0 256) false).new=0:=rfl
 simp[Fw,IG,shG,shD,kW,gG,h]
theorem Vb:(iP 1 0 1 (eB ev1 256) true).new=1:=by decide +kernel
end

section
theorem Kw{P:Program}{o:Oper}{f:FR}{σ:St}{k:MV→St→Prop}{t t' el:TypeId}{x:Operand}(ho:o.op=.binOp .eql t x (.const (.slice none 0 0)) t')(ht:(td P t).k=.slice el){e l lo n:Nat}(hx:aE f x=.vec e l lo (n+1))(hk:k (.bool false) σ):sop P o f σ k:=by
 intro Φ w ac K Q' hi hr hK
 have rx:=aI hr x
 rw[hx] at rx
 generalize hv:ac.eval x=vx at rx
 obtain⟨ad,cap,p,rfl,hp,hpe,hcap,hncap,hR⟩:=rx.dR
 rcases hR with⟨R,hb,rfl⟩|h
 ·refine bJ (v:=.bool false) (w':=w) ?_ (hK _ (.bool false) _ Φ w (.bool _) hi (.refl _ _ _) hk)
  have hc:ac.eval (.const (.slice none 0 0))=.slice none 0 0:=rfl
  have h1:=Go.run_eql_slice_nil (P:=P) w t el (some ⟨R,p.bo+lo * p.e,none⟩) (n+1) cap (aW ht)
  unfold execOp
  simp only[ho,hv,hc,Sem.run_bind,r9,h1,Sem.run_pure,Result.andThen_ok]
  rfl
 ·omega
end

section
abbrev shV(cs:List CA):List (Int × Int):=cs.map fun c=>(c.id,c.ver)
theorem Uv(cs:List CA):vEs cs=shE (shV cs):=by
 unfold vEs shE shV
 rw[List.map_map];rfl
theorem xU{B:BK}(hb:BkR B)(h3:B.gr.length≤1000000)(h4:∀g,g∈B.gr→g.mem.length≤1000000){m l q b:Nat}(D:dM m l q b){fl:List ND}(hp:cR fl=0)(tt:Bool){mk:UInt32}(hm:mk.toNat≤511) :
  aA Tryz.prog 15 [.ptr b 0 0,.lst 5 (fl.map ND.c) tt,.int .u32 (mk.toNat:Int)] (bkS m l q b B []) (fun r σ'=>∃f sm g v d,kZ m l q b f sm g v∧r=.ptr v 0 0∧σ'=vwS m l q b B f fl d sm g v mk ⟨shV (shC B fl),B.sq,B.sq,[]⟩ []):=by
 refine aA.gh ((Ki hb h3 h4 D [] hp tt hm).mono ?_)
 rintro _ _ ⟨ρ,hfr,rfl,f,sm,v,d,⟨n1,n2,n3⟩,rfl,rfl⟩
 have hf:=hfr f (flD fl d) (by simp[St.set,Ne.symm n1,Ne.symm n2])
 have hs:=hfr sm (.mp (vEs (shC B fl))) (by simp[St.set,Ne.symm n3])
 have hv:=hfr v _ (aD _ _ _)
 simp only[aV] at hf hs hv
 obtain⟨f1,f2,f3,f4,-⟩:=hf
 obtain⟨s1,s2,s3,s4,-⟩:=hs
 obtain⟨v1,v2,v3,v4,-⟩:=hv
 rw[bE,bE,bE,dC]
 refine Gh.LG (b:=v) (t:=133) (e:=6) (pre:=[.ptr f 0 0,.int .u32 (mk.toNat:Int),.mapv sm,.int .i64 B.sq,.int .i64 B.sq]) (post:=[]) 128 31 (aD _ _ _) fun g hg=>?_
 simp only[aV] at hg
 obtain⟨g1,g2,g3,g4,g5,g6,g7,-⟩:=hg
 refine .done ⟨_,rfl,f,sm,g,v,d,⟨D,⟨f4,f3,f2,f1⟩,⟨s4,s3,s2,s1,n1⟩,⟨g7,g6,g5,g4,g3,g2⟩,⟨v4,v3,v2,v1,n2,n3,Ne.symm g1⟩⟩,rfl,?_⟩
 rw[Uv]
 funext j
 by_cases h1:j=g
 ·subst h1;simp[St.set,g1,lgO]
 ·by_cases h2:j=v
  ·subst h2;simp[St.set,h1]
  ·simp[St.set,h1,h2]
theorem Hs{B:BK}(hb:BkR B)(h3:B.gr.length≤1000000)(h4:∀g,g∈B.gr→g.mem.length≤1000000){m l q b n:Nat}(D:dM m l q b)(hn:n≠m∧n≠l∧n≠q∧n≠b){x:ND}(hp:cR [x]=0){mk:UInt32}(hm:mk.toNat≤511) :
  aA Tryz.prog 15 [.ptr b 0 0,.vec 5 n 0 1,.int .u32 (mk.toNat:Int)] ((bkS m l q b B []).set n (.row 121 5 [x.c])) (fun r σ'=>∃f sm g v d,kZ m l q b f sm g v∧r=.ptr v 0 0∧σ'=vwS m l q b B f [x] d sm g v mk ⟨shV (shC B [x]),B.sq,B.sq,[]⟩ []):=by
 have hn0:bkS m l q b B [] n=none:=by simp only[aV];exact⟨hn.2.2.2,hn.2.2.1,hn.2.1,hn.1,rfl⟩
 refine aA.pre (ms':=[.ptr b 0 0,.lst 5 ([x].map ND.c) false,.int .u32 (mk.toNat:Int)]) rfl (bA.freeze (St.none.set n (.row 121 5 [x.c])) (St.aB (St.none_le _) (aD _ _ _)) (St.bM (St.le_refl _) hn0) (fun k o hk=>?_) (fun p hp=>?_)) (xU hb h3 h4 D hp false hm)
 ·rw[aG _ _ _ _ (fun e=>by subst e;rw[hn0] at hk;cases hk)];rfl
 ·simp only[iG,List.mem_cons,List.not_mem_nil,or_false] at hp
  rcases hp with rfl|rfl|rfl
  ·exact .same _
  ·exact View.vecAll (aD _ _ _) rfl
  ·exact .same _
theorem Sw{P:Program}{g0:FuncId}{ms:List MV}{σ:St}{m l q b n:Nat}{on:aT}{B:BK}{fl:List ND}{mk:UInt32}{z:VS}{k:MV→St→Prop}{u:Nat→MV}
 (h:aA P g0 ms ((bkS m l q b B []).set n on) fun r σ'=>∃f sm g v d,kZ m l q b f sm g v∧r=u v∧σ'=vwS m l q b B f fl d sm g v mk z [])(hle:((bkS m l q b B []).set n on).le σ)(hn:bkS m l q b B [] n=none)
 (hk:∀f sm g v d,kZ m l q b f sm g v→(σ.del n) f=none→(σ.del n) sm=none→(σ.del n) g=none→(σ.del n) v=none→R (bT (u v) (((((σ.del n).set f (flD fl d)).set sm (.mp (shE z.sh))).set g (lgO z.log [])).set v (vwO f mk sm z.floor z.now (.vec 31 g 0 z.log.length))) k)):R (cW P g0 ms σ k) :=
 bK h hle fun r σ' hv hf=>by
  obtain⟨f,sm,g,v,d,V,rfl,rfl⟩:=hv
  have hV:=V
  obtain⟨D,⟨f1,f2,f3,f4⟩,⟨s1,s2,s3,s4,s5⟩,⟨g1,g2,g3,g4,g5,g6⟩,⟨v1,v2,v3,v4,v5,v6,v7⟩⟩:=V
  have e:(vwS m l q b B f fl d sm g v mk z []).over (σ.minus ((bkS m l q b B []).set n on))=((((σ.del n).set f (flD fl d)).set sm (.mp (shE z.sh))).set g (lgO z.log [])).set v (vwO f mk sm z.floor z.now (.vec 31 g 0 z.log.length)):=by
   rw[bE,bE,bE,bE]
   congr 4
   funext j
   by_cases h1:j=n
   ·subst h1
    simp only[St.over,St.minus,St.del,hn,aD]
    simp
   ·simp only[St.over,St.minus,St.del,aG _ _ _ _ h1,if_neg h1]
    cases hb:bkS m l q b B [] j with
    | none=>rfl
    | some o=>exact(hle j o (by rw[aG _ _ _ _ h1];exact hb)).symm
  have hfree:∀j o,vwS m l q b B f fl d sm g v mk z [] j=some o→(j≠m∧j≠l∧j≠q∧j≠b)→(σ.del n) j=none:=fun j o hj hne=>by
   by_cases h1:j=n
   ·simp[St.del,h1]
   ·rcases hf j o hj with h|⟨o',h⟩
    ·simp[St.del,h1,h]
    ·rw[aG _ _ _ _ h1] at h
     obtain⟨j1,j2,j3,j4⟩:=hne
     simp[St.set,St.none,j1,j2,j3,j4] at h
  rw[e]
  refine hk f sm g v d hV (hfree f (flD fl d) ?_ ⟨f1,f2,f3,f4⟩) (hfree sm (.mp (shE z.sh)) ?_ ⟨s1,s2,s3,s4⟩) (hfree g (lgO z.log []) ?_ ⟨g1,g2,g3,g4⟩) (hfree v _ (aD _ _ _) ⟨v1,v2,v3,v4⟩)
  ·simp[St.set,Ne.symm v5,Ne.symm g5,Ne.symm s5]
  ·simp[St.set,Ne.symm v6,Ne.symm g6]
  ·simp[St.set,Ne.symm v7]
theorem Sy{P:Program}{g0:FuncId}{ms:List MV}{σ:St}{m l q b f sm g v:Nat}{B:BK}{fl:List ND}{d:Bool}{mk:UInt32}{z z':VS}{ex:List (List MV)}{k:MV→St→Prop}(V:kZ m l q b f sm g v)
 (h:aA P g0 ms (vwS m l q b B f fl d sm g v mk z ex) fun _ σ'=>∃d' g' ex',kZ m l q b f sm g' v∧σ'=vwS m l q b B f fl d' sm g' v mk z' ex')(hle:(vwS m l q b B f fl d sm g v mk z ex).le σ)
 (hk:∀r d' g' ex',kZ m l q b f sm g' v→(σ.del g) g'=none→R (bT r (((((σ.del g).set f (flD fl d')).set sm (.mp (shE z'.sh))).set g' (lgO z'.log ex')).set v (vwO f mk sm z'.floor z'.now (.vec 31 g' 0 z'.log.length))) k)):R (cW P g0 ms σ k) :=
 bK h hle fun r σ' hv hf=>by
  obtain⟨d',g',ex',V',rfl⟩:=hv
  have hV:=V'
  obtain⟨D,⟨f1,f2,f3,f4⟩,⟨s1,s2,s3,s4,s5⟩,⟨g1,g2,g3,g4,g5,g6⟩,⟨v1,v2,v3,v4,v5,v6,v7⟩⟩:=V'
  obtain⟨-,-,-,⟨G1,G2,G3,G4,G5,G6⟩,⟨-,-,-,-,-,-,w7⟩⟩:=V
  have e:(vwS m l q b B f fl d' sm g' v mk z' ex').over (σ.minus (vwS m l q b B f fl d sm g v mk z ex))=((((σ.del g).set f (flD fl d')).set sm (.mp (shE z'.sh))).set g' (lgO z'.log ex')).set v (vwO f mk sm z'.floor z'.now (.vec 31 g' 0 z'.log.length)):=by
   rw[bE,bE,bE,bE]
   funext j
   by_cases h1:j=v
   ·subst h1;rw[aD,aD]
   ·rw[aG _ _ _ _ h1,aG _ _ _ _ h1]
    by_cases h2:j=g'
    ·subst h2;rw[aD,aD]
    ·rw[aG _ _ _ _ h2,aG _ _ _ _ h2]
     by_cases h3:j=sm
     ·subst h3;rw[aD,aD]
     ·rw[aG _ _ _ _ h3,aG _ _ _ _ h3]
      by_cases h4:j=f
      ·subst h4;rw[aD,aD]
      ·rw[aG _ _ _ _ h4,aG _ _ _ _ h4]
       by_cases h5:j=g
       ·subst h5
        have hb0:bkS m l q b B [] j=none:=by simp only[aV];exact⟨G4,G3,G2,G1,rfl⟩
        have hj:vwS m l q b B f fl d sm j v mk z ex j=some (lgO z.log ex):=(aG _ _ _ _ h1).trans (aD _ _ _)
        simp only[St.over,St.minus,St.del,hb0,if_true]
        rw[hj]
       ·have hvw:vwS m l q b B f fl d sm g v mk z ex j=bkS m l q b B [] j:=by
         show(((_:St).set v _):St) j=_
         rw[aG _ _ _ _ h1,aG _ _ _ _ h5,aG _ _ _ _ h3]
         exact aG _ _ _ _ h4
        simp only[St.over,St.minus,St.del,hvw,if_neg h5]
        cases hb:bkS m l q b B [] j with
        | none=>rfl
        | some o=>exact(hle j o (hvw.trans hb)).symm
  rw[e]
  refine hk r d' g' ex' hV ?_
  by_cases h5:g'=g
  ·simp[St.del,h5]
  ·rcases hf g' (lgO z'.log ex') (by simp[St.set,Ne.symm v7]) with h|⟨o',h⟩
   ·simp[St.del,h5,h]
   ·simp[St.set,St.none,h5,Ne.symm v7,g1,g2,g3,g4,g5,g6] at h
theorem Eo{g n:Nat}(xs:List (List MV))(hn:n+1≤1000000)(hx:n+1≤xs.length) :
  aA Tryz.prog 98 [.vec 31 g 0 (n+1)] (St.none.set g (.row 128 31 xs)) (fun r σ'=>∃q,r=.vec 31 q 0 (n+1)∧q≠g∧σ'=(St.none.set g (.row 128 31 xs)).set q (.row 128 31 (xs.take (n+1)))):=by
 refine aA.less (Q':=fun r σ'=>∃q,r=.vec 31 q 0 (n+1)∧q≠g∧((St.none.set g (.row 128 31 xs)).set q (.row 128 31 (xs.take (n+1)))).le σ') ?_ fun v σ' ⟨q,h1,h2,h3⟩=>⟨_,h3,q,h1,h2,rfl⟩
 refine(aA.gW 8 [.tmp 2] Tryz.func98 rfl rfl rfl rfl ?_)
 have hl:(xs.take (n+1)).length=n+1:=by rw[List.length_take];omega
 refine a8 (b5 ?_)
 repeat' first|refine wZ1 @FXs ?_|fail
 refine bL (a8 (a8 (bQ [_] _ [] rfl rfl ?_)))
 repeat' first|refine wZ1 @FXs ?_|fail
 refine bL (Kw (t:=77) (el:=128) (n:=n) (l:=g) (lo:=0) (e:=31) rfl (by rw[W8]) rfl ?_)
 show R _
 repeat' first|refine wZ1 @FXs ?_|fail
 refine bL (b5 ?_)
 repeat' first|refine wZ1 @FXs ?_|fail
 refine bL (b5 ?_)
 repeat' first|(refine wO ?_;intros)|refine wZ2 @FXs @hl ?_|fail
 exact⟨_,rfl,by assumption,St.le_refl _⟩
theorem Ss{P:Program}{g0:FuncId}{ms:List MV}{σ:St}{g:Nat}{og o:aT}{u:Nat→MV}{k:MV→St→Prop}(hg:σ g=some og)(h:aA P g0 ms (St.none.set g og) fun r σ'=>∃q,r=u q∧q≠g∧σ'=(St.none.set g og).set q o)(hk:∀q,σ q=none→R (bT (u q) (σ.set q o) k)):R (cW P g0 ms σ k) :=
 bK h (St.aB (St.none_le _) hg) fun r σ' hv hf=>by
  obtain⟨q,rfl,hq,rfl⟩:=hv
  have e:((St.none.set g og).set q o).over (σ.minus (St.none.set g og))=σ.set q o:=by
   rw[bE]
   congr 1
   funext j
   by_cases h1:j=g
   ·subst h1;simp[St.over,St.set,hg]
   ·simp[St.over,St.set,St.none,St.minus,h1]
  rw[e]
  refine hk q ?_
  rcases hf q o (aD _ _ _) with h|⟨o',h⟩
  ·exact h
  ·rw[aG _ _ _ _ hq] at h;cases h
theorem Kh{v g:Nat}(hvg:v≠g)(f sm:Nat)(mk:UInt32)(floor now:Int)(log:List TU)(hl:log.length≤1000)(ex:List (List MV)) :
  aA Tryz.prog 29 [.ptr v 0 0] ((St.none.set g (lgO log ex)).set v (vwO f mk sm floor now (.vec 31 g 0 log.length))) (fun r σ'=>r=.lst 31 (log.map TU.c) false∧σ'=(St.none.set g (lgO log ex)).set v (vwO f mk sm floor now (.vec 31 g 0 log.length))):=by
 have hgv:=Ne.symm hvg
 refine aA.C0 (mB 10 [.tmp 2] Tryz.func29 ?_)
 cases log with
 | nil =>
  have he:aA Tryz.prog 98 [.lst 31 [] false] St.none (fun r _=>r=.lst 31 [] true):=kG Fl Iz
  repeat' first|refine wZ2 @Tryz.f29.eq_1 @FXs ?_|fail
  refine uW [.lst 31 [] false] he (.lst0 _) rfl (fun i m m' h1 h2=>?_) ?_
  ·match i with
   | 0 =>
    simp only[List.getElem?_cons_zero,Option.some.injEq] at h1 h2
    subst h1
    subst h2
    have:=View.vec (σ:=(St.none.set g (lgO [] ex)).set v (vwO f mk sm floor now (.vec 31 g 0 0))) (l:=g) (lo:=0) (n:=0) (t:=128) (e:=31) (xs:=([]:List TU).map TU.c++ex) (by rw[aG _ _ _ _ hgv];exact aD _ _ _) (Nat.zero_le _)
    simpa using this
   | i+1=>simp at h1
  repeat' first|refine wZ0 ?_|fail
  exact⟨St.none,St.none_le _,St.le_refl _,fun k o hk=>rfl,.tight _ _⟩
 | cons x L =>
  have hm:(L.map TU.c).length=L.length:=List.length_map _
  have hk:=Eo (g:=g) (n:=L.length) ((x::L).map TU.c++ex) (by simp only[List.length_cons] at hl;omega) (by simp)
  rw[List.take_left' (by simp)] at hk
  repeat' first|refine wZ2 @Tryz.f29.eq_1 @FXs ?_|fail
  refine Ss (aG _ _ _ _ hgv |>.trans (aD _ _ _)) hk fun q hq=>?_
  repeat' first|refine wZ0 ?_|fail
  exact⟨St.none.set q _,St.aB (St.none_le _) (aD _ _ _),St.bM (St.le_refl _) hq,fun k o hk=>(aG _ _ _ _ fun e=>by subst e;rw[hq] at hk;cases hk).trans rfl,.vecAll (aD _ _ _) (by simp only[List.length_cons,hm])⟩
end

section
theorem Sv{P:Program}{g:FuncId}{ms:List MV}{σ τ:St}{m l b:Nat}{om ol ob:aT}{r:MV}{k:MV→St→Prop}(h:aA P g ms τ fun v σ'=>v=r∧σ'=((τ.set m om).set l ol).set b ob)(hle:τ.le σ)(hk:R (bT r (((σ.set m om).set l ol).set b ob) k)):R (cW P g ms σ k) :=
 bK h hle fun v σ' hv _=>by
  obtain⟨rfl,rfl⟩:=hv
  rw[bE,bE,bE,sK hle];exact hk
abbrev mlb(m l b:Nat)(om ol ob:aT):St:=((St.none.set m om).set l ol).set b ob
theorem Vu{m l b:Nat}{om ol ob om' ol' ob':aT}:mlb m l b om' ol' ob'=(((mlb m l b om ol ob).set m om').set l ol').set b ob':=by
 funext j
 by_cases h1:j=b
 ·simp[St.set,h1]
 ·by_cases h2:j=l
  ·simp[St.set,h1,h2]
  ·by_cases h3:j=m<;>simp[St.set,h1,h2,h3]
theorem Vv{σ:St}{m l b:Nat}{om ol ob:aT}(hm:σ m=some om)(hl:σ l=some ol)(hb:σ b=some ob):(mlb m l b om ol ob).le σ:=St.aB (St.aB (St.aB (St.none_le _) hm) hl) hb
end

section
theorem Wx:(ED.mk 1 0 0 evP).c=.int .i64 1::.int .i64 0::.int .i64 0::.int .u32 256::.int .u32 2::fc f80:=rfl
theorem Wy:(ED.mk 2 1 0 evW).c=.int .i64 2::.int .i64 1::.int .i64 0::.int .u32 256::.int .u32 1::fc f80:=rfl
theorem U8{m l b:Nat}(hlm:l≠m)(hbm:b≠m)(hbl:b≠l)(D g:MV) :
  aA Tryz.prog 17 [.ptr b 0 0,.agg (.int .i64 1::.int .i64 0::.int .i64 0::.int .u32 256::.int .u32 2::fc f80)] (mlb m l b (.mp (cEs [])) (shO 1 m D) (bG 0 l g)) (fun v σ'=>v=.tup [.lst 2 ([((1:Int),(1:Int))].map chC) false,.int .i64 0]∧σ'=(((mlb m l b (.mp (cEs [])) (shO 1 m D) (bG 0 l g)).set m (.mp (cEs [ev1]))).set l (shO 2 m D)).set b (bG 1 l g)):=by
 rw[←Wx]
 refine(Oe (nx:=1) (sq:=0) hlm hbm hbl D g [] evP dK (by decide) (by decide) (by decide) (by simp) (by decide) (by decide)).mono ?_
 rintro v σ' ⟨q1,q2⟩
 exact⟨q1,q2.trans Vu⟩
theorem U9{m l q b:Nat}(D:dM m l q b)(g:MV) :
  aA Tryz.prog 17 [.ptr b 0 0,.agg (.int .i64 2::.int .i64 1::.int .i64 0::.int .u32 256::.int .u32 1::fc f80)] ((shS 2 m l q [ev1] [] []).set b (bG 1 l g)) (fun v σ'=>v=.tup [.lst 2 ([((2:Int),(1:Int))].map chC) false,.int .i64 0]∧σ'=((((shS 2 m l q [ev1] [] []).set b (bG 1 l g)).set m (.mp (cEs [ev2]))).set l (shO 2 m (.vec 3 q 0 0))).set b (bG 2 l g)):=by
 rw[←Wy]
 refine(Of (nx:=2) (sq:=1) D [ev1] (List.pairwise_singleton _ _) [] (by decide) [] g 1 evW dK (c:=ev1) dK dK dK (by decide) (by decide) (by decide) (by decide)).mono ?_
 rintro v σ' ⟨q1,q2⟩
 refine⟨q1,q2.trans ?_⟩
 obtain⟨d1,d2,d3,d4,d5,d6⟩:=D
 have hw:wrC [ev1] 1 (cV ev1 evW)=[ev2]:=rfl
 rw[hw]
 funext j
 by_cases h1:j=b
 ·subst h1;simp[St.set]
 ·by_cases h2:j=l
  ·subst h2;simp[St.set,h1,Ne.symm d3]
  ·by_cases h3:j=q
   ·subst h3;simp[St.set,h1,h2,d2]
   ·by_cases h4:j=m
    ·subst h4;simp[St.set,h1,h2,h3]
    ·simp[St.set,h1,h2,h3,h4]
theorem SZ{m l q b n:Nat}(D:dM m l q b)(hn:n≠m∧n≠l∧n≠q∧n≠b) :
  aA Tryz.prog 15 [.ptr b 0 0,.vec 5 n 0 1,.int .u32 256] ((bkS m l q b bk1 []).set n (.row 121 5 [evN.c])) (fun r σ'=>∃f sm g v d,kZ m l q b f sm g v∧r=.ptr v 0 0∧σ'=vwS m l q b bk1 f [evN] d sm g v 256 My []) :=
 Hs (B:=bk1) (mk:=256) ⟨by decide,by decide,by decide,by decide,by decide +kernel,by decide +kernel,by decide,by decide,by decide +kernel⟩ (by decide) (fun g hg=>by cases hg) D hn zU (by decide)
theorem SX{m l q b f sm g v:Nat}(V:kZ m l q b f sm g v)(d:Bool)(ex:List (List MV)):aA Tryz.prog 18 [.ptr v 0 0,.ptr b 0 0,.lst 2 ([((1:Int),(1:Int))].map chC) false] (vwS m l q b Du f [evN] d sm g v 256 My ex) (fun _ σ'=>∃d' g' ex',kZ m l q b f sm g' v∧σ'=vwS m l q b Du f [evN] d' sm g' v 256 Fw ex'):=by
 have h:=qC SV (by decide) (fun g hg=>by cases hg) (by decide) zU (mk:=256) V d My (by decide) ex [(1,1)] (by decide) false
 rw[Pq] at h
 exact h
theorem SY{m l q b f sm g v:Nat}(V:kZ m l q b f sm g v)(d:Bool)(ex:List (List MV)):aA Tryz.prog 18 [.ptr v 0 0,.ptr b 0 0,.lst 2 ([((2:Int),(1:Int))].map chC) false] (vwS m l q b Dv f [evN] d sm g v 256 Fw ex) (fun _ σ'=>∃d' g' ex',kZ m l q b f sm g' v∧σ'=vwS m l q b Dv f [evN] d' sm g' v 256 IG ex'):=by
 have h:=qC SW (by decide) (fun g hg=>by cases hg) (by decide) zU (mk:=256) V d Fw (by decide) ex [(2,1)] (by decide) false
 rw[Pr] at h
 exact h
theorem Va:∃X1 X2:List MV,IG.log.map TU.c=[.int .i64 1::.int .i64 1::.int .i64 0::.int .i64 1::X1,.int .i64 2::.int .i64 1::.int .i64 1::.int .i64 0::X2]:=by
 refine⟨(eB ev1 256).c,ca0.c,?_⟩
 show[(iP 1 0 1 (eB ev1 256) true).c,(iP 2 1 1 (eB ca0 256) false).c]=_
 rw[show(iP 1 0 1 (eB ev1 256) true).c=.int .i64 1::.int .i64 1::.int .i64 0::.int .i64 (iP 1 0 1 (eB ev1 256) true).new::(eB ev1 256).c from rfl,Vb]
 rfl
theorem Dg:aA Tryz.prog 13 [] St.none (fun r _=>r=.bool true):=by
 refine aA.bS (mB 66 [.tmp 0] Tryz.func13 ?_)
 have hnew:aA Tryz.prog 60 [] St.none _:=xG
 repeat' first|((refine LV hnew ?_;intro m l q b hm hl hq hb D;clear hm hl hq hb;simp only[bk1,List.map_nil,List.length_nil];have D':=D;obtain⟨d1,d2,d3,d4,d5,d6⟩:=D;have e1:=Ne.symm d1;have e2:=Ne.symm d2;have e3:=Ne.symm d3;have e4:=Ne.symm d4;have e5:=Ne.symm d5;have e6:=Ne.symm d6))|(refine wM ?_;(first|(have _:=nl1)|(intro nl1));intros)|refine wZ2 @Tryz.f13.eq_1 @FXs ?_|fail
 have n1:nl1≠m:=by assumption
 have n2:nl1≠l:=by assumption
 have n3:nl1≠q:=by assumption
 have n4:nl1≠b:=by assumption
 refine Sw (SZ D' ⟨n1,n2,n3,n4⟩) (St.aB (UZ (by simp[St.set, *,bk1]) (by simp[St.set, *,bk1]) (by simp[St.set, *,bk1]) (by simp[St.set, *,bk1])) (aD _ _ _)) (by simp only[aV];exact⟨n4,n3,n2,n1,rfl⟩) fun f sm g v d V hf hs hg hv=>?_
 clear hf hs hg hv
 have VV:=V
 obtain⟨-,⟨f1,f2,f3,f4⟩,⟨s1,s2,s3,s4,s5⟩,⟨g1,g2,g3,g4,g5,g6⟩,⟨v1,v2,v3,v4,v5,v6,v7⟩⟩:=V
 have f1':=Ne.symm f1
 have f2':=Ne.symm f2
 have f3':=Ne.symm f3
 have f4':=Ne.symm f4
 have s1':=Ne.symm s1
 have s2':=Ne.symm s2
 have s3':=Ne.symm s3
 have s4':=Ne.symm s4
 have s5':=Ne.symm s5
 have g1':=Ne.symm g1
 have g2':=Ne.symm g2
 have g3':=Ne.symm g3
 have g4':=Ne.symm g4
 have g5':=Ne.symm g5
 have g6':=Ne.symm g6
 have v1':=Ne.symm v1
 have v2':=Ne.symm v2
 have v3':=Ne.symm v3
 have v4':=Ne.symm v4
 have v5':=Ne.symm v5
 have v6':=Ne.symm v6
 have v7':=Ne.symm v7
 repeat' first|refine wZ1 @FXs ?_|fail
 refine Sv (U8 d1 d4 d5 (.vec 3 q 0 0) (.lst 2 [] false)) (Vv sS sS sS) ?_
 repeat' first|refine wZ1 @FXs ?_|fail
 refine Sy VV (SX VV d []) (UT (by show _=some (aT.mp (cEs [ev1]));simp[St.set, *]) (by show _=some (shO 2 m (.vec 3 q 0 0));simp[St.set, *]) (by show _=some (aT.row 197 3 []);simp[St.set, *]) (by show _=some (bG 1 l (.lst 2 [] false));simp[St.set, *]) sS sS sS sS) fun r1 dd1 g' ex1 V1 hg'=>?_
 clear hg'
 have VV1:=V1
 obtain⟨-,-,-,⟨w1,w2,w3,w4,w5,w6⟩,⟨-,-,-,-,-,-,w7⟩⟩:=V1
 have w1':=Ne.symm w1
 have w2':=Ne.symm w2
 have w3':=Ne.symm w3
 have w4':=Ne.symm w4
 have w5':=Ne.symm w5
 have w6':=Ne.symm w6
 have w7':=Ne.symm w7
 repeat' first|refine wZ1 @FXs ?_|fail
 refine Sv (U9 D' (.lst 2 [] false)) (St.aB (St.aB (St.aB (St.aB (St.none_le _) sS) (by show _=some (shO 2 m (.vec 3 q 0 0));simp[St.set, *])) (by show _=some (aT.row 197 3 []);simp[St.set, *])) sS) ?_
 repeat' first|refine wZ1 @FXs ?_|fail
 refine Sy VV1 (SY VV1 dd1 ex1) (UT (by show _=some (aT.mp (cEs [ev2]));simp[St.set, *]) (by show _=some (shO 2 m (.vec 3 q 0 0));simp[St.set, *]) (by show _=some (aT.row 197 3 []);simp[St.set, *]) (by show _=some (bG 2 l (.lst 2 [] false));simp[St.set, *]) sS sS sS sS) fun r2 dd2 k ex2 V2 hk=>?_
 clear hk
 have VV2:=V2
 obtain⟨-,-,-,⟨u1,u2,u3,u4,u5,u6⟩,⟨-,-,-,-,-,-,u7⟩⟩:=V2
 have u1':=Ne.symm u1
 have u2':=Ne.symm u2
 have u3':=Ne.symm u3
 have u4':=Ne.symm u4
 have u5':=Ne.symm u5
 have u6':=Ne.symm u6
 have u7':=Ne.symm u7
 repeat' first|refine wZ1 @FXs ?_|fail
 obtain⟨X1,X2,hX⟩:=Va
 have hlog:=Kh u7 f sm 256 IG.floor IG.now IG.log (by decide) ex2
 rw[hX] at hlog
 refine b6 hlog (St.aB (St.aB (St.none_le _) sS) sS) ?_
 repeat' first|refine wZ1 @FXs ?_|fail
 all_goals first|exact⟨_,St.le_refl _,rfl⟩|exact⟨_,St.le_refl _⟩|trace_state
end

section
theorem Rk{l:List Int}{x:Int}(hu:UpI l):UpI (jE l x):=by
 unfold jE
 split
 ·exact hu
 ·have h0:UpI (l.map id):=by rw[List.map_id];exact hu
  have:=Lh (f:=id) (l:=l) (x:=x) h0 (by rw[List.map_id];assumption) (v:=x) rfl
  rw[List.map_id,List.map_id] at this
  exact this
theorem Eu{l:List Int}{x y:Int}:y∈jE l x↔y=x∨y∈l:=by
 unfold jE
 split
 ·rename_i h
  exact⟨.inr,fun q=>q.elim (fun e=>e ▸ h) fun q=>q⟩
 ·exact Lp
theorem Dq{l:List Int}{x:Int}(hu:UpI l):UpI (dF l x):=hu.filter _
theorem pH{l:List Int}{x y:Int}:y∈dF l x↔y∈l∧y≠x:=by
 unfold dF
 rw[List.mem_filter]
 simp
theorem fQ{l:List GR}(hu:UpI (l.map GR.no)){g:Int}(hg:g∈l.map GR.no):∃y,y∈l∧y.no=g∧bH l g=y.mem∧l[aR (l.map GR.no) g]?=some y:=by
 obtain⟨y,h1,h2,h3,h4⟩:=pQ (f:=GR.no) hu hg
 exact⟨y,h4,h2,by unfold bH;rw[h3];rfl,h1⟩
theorem pL{cs:List CA}{ds:List DE}{id:Int}(h:(bB cs ds id).2=0):(bB cs ds id).1∈cs∧(bB cs ds id).1.id=id:=by
 unfold bB at h ⊢
 split
 ·rename_i c hc
  have:=List.find?_some hc
  exact⟨List.mem_of_find?_eq_some hc,by simpa using this⟩
 ·rename_i hc
  rw[hc] at h
  simp only at h
  split at h<;>omega
theorem H5(p:F8):∀(L:List Nat) (f:F8),(∀i,i∈L→i<8)→(∀i,i<8→fF (f.get i)=true)→(∀i,i<8→fF (p.get i)=true)→∀i,i<8→fF ((fD f p L).get i)=true
 | [],f,_,h,_,i,hi=>h i hi
 | k::L,f,hL,h,hp,i,hi=>by
  show fF ((fD (f.set k (p.get k)) p L).get i)=true
  have hk:=hL k (List.mem_cons_self ..)
  refine H5 p L _ (fun j hj=>hL j (List.mem_cons_of_mem _ hj)) (fun j hj=>?_) hp i hi
  rw[F8.Lb _ _ _ _ hk]
  split
  ·exact hp k hk
  ·exact h j hj
theorem G0{p:PA}(h:bI p=0):p.mask.toNat≤511∧p.lab.toNat<65536∧∀i,i<8→fF (p.f.get i)=true:=by
 unfold bI at h
 split at h
 ·omega
 ·split at h
  ·omega
  ·split at h
   ·rename_i h1 h2 h3
    refine⟨by omega,by omega,fun i hi=>?_⟩
    have:=List.all_eq_true.1 h3 i (List.mem_range.2 hi)
    rw[Bool.and_eq_true] at this
    exact this.1
   ·omega
theorem Gm{c:CA}{p:PA}(hp:bI p=0)(h1:1≤c.id)(h2:c.id<1073741824)(h3:0≤c.ver)(h4:c.ver≤1099511627776)(h5:c.lab.toNat<65536)(h6:c.f.l.all fF=true):hJ (cV c p)=true:=by
 obtain⟨p1,p2,p3⟩:=G0 hp
 unfold hJ cV mM big
 simp only[Bool.and_eq_true,decide_eq_true_eq]
 refine⟨⟨h1,h2,by split<;>omega,by split<;>omega,by split<;>omega⟩,?_⟩
 exact(F8.KO _ _).2 (H5 p.f _ c.f (fun i=>tA) ((F8.KO _ _).1 h6) p3)
theorem Pw{p:PA}(hp:bI p=0){n:Int}(h1:1≤n)(h2:n<1073741824):hJ (bY n p)=true :=
 Gm hp h1 h2 (show(0:Int)≤0 by decide) (show(0:Int)≤1099511627776 by decide) (show(0:UInt32).toNat<65536 by decide) (show f80.l.all fF=true by decide +kernel)
theorem fI{c:CA}(h:hJ c=true):(1≤c.id∧c.id<1073741824∧1≤c.ver∧c.ver≤1099511627776∧c.lab.toNat<65536)∧c.f.l.all fF=true:=by
 unfold hJ mM big at h
 simpa only[Bool.and_eq_true,decide_eq_true_eq] using h
theorem nE{nx:Int}:∀{last:Int} {cs:List CA},j0 nx last cs=true↔UpI (cs.map CA.id)∧∀c,c∈cs→hJ c=true∧last<c.id∧c.id<nx
 | last,[]=>⟨fun _=>⟨.nil,fun c hc=>absurd hc List.not_mem_nil⟩,fun _=>rfl⟩
 | last,x::l=>by
  unfold j0
  simp only[Bool.and_eq_true,decide_eq_true_eq]
  rw[nE (last:=x.id) (cs:=l),List.map_cons,show UpI (x.id::l.map CA.id)↔_ from List.pairwise_cons]
  constructor
  ·rintro⟨⟨h1,h2,h3⟩,h4,h5⟩
   refine⟨⟨fun y hy=>?_,h4⟩,fun c hc=>?_⟩
   ·obtain⟨c,hc,rfl⟩:=List.mem_map.1 hy
    exact(h5 c hc).2.1
   ·rcases List.mem_cons.1 hc with rfl|hc
    ·exact⟨h1,h2,h3⟩
    ·have:=h5 c hc
     exact⟨this.1,by omega,this.2.2⟩
  ·rintro⟨⟨h1,h2⟩,h3⟩
   obtain⟨q1,q2,q3⟩:=h3 x (List.mem_cons_self ..)
   refine⟨⟨q1,q2,q3⟩,h2,fun c hc=>?_⟩
   have:=h3 c (List.mem_cons_of_mem _ hc)
   exact⟨this.1,h1 c.id (List.mem_map.2 ⟨c,hc,rfl⟩),this.2.2⟩
theorem qQ{nx:Int}{cs:List CA}:∀{pre ds:List DE},zR nx cs pre ds=true↔(∀d,d∈ds→(1≤d.id∧d.id<nx∧1≤d.ver∧d.ver≤1099511627776∧0≤d.sq∧d.sq≤1099511627776)∧d.id∉cs.map CA.id∧∀e,e∈pre→e.id≠d.id∧e.sq≤d.sq)∧ds.Pairwise (fun e d=>e.id≠d.id∧e.sq≤d.sq)
 | pre,[]=>⟨fun _=>⟨fun d hd=>absurd hd List.not_mem_nil,.nil⟩,fun _=>rfl⟩
 | pre,x::l=>by
  unfold zR Wv big
  simp only[Bool.and_eq_true,decide_eq_true_eq,List.all_eq_true]
  rw[qQ (pre:=pre++[x]) (ds:=l),List.pairwise_cons]
  constructor
  ·rintro⟨⟨⟨h1,h2⟩,h3⟩,h4,h5⟩
   refine⟨fun d hd=>?_,fun d hd=>(h4 d hd).2.2 x (by simp),h5⟩
   rcases List.mem_cons.1 hd with rfl|hd
   ·exact⟨h1,h2,h3⟩
   ·have:=h4 d hd
    exact⟨this.1,this.2.1,fun e he=>this.2.2 e (List.mem_append.2 (.inl he))⟩
  ·rintro⟨h1,h2,h3⟩
   obtain⟨q1,q2,q3⟩:=h1 x (List.mem_cons_self ..)
   refine⟨⟨⟨q1,q2⟩,q3⟩,fun d hd=>?_,h3⟩
   have:=h1 d (List.mem_cons_of_mem _ hd)
   refine⟨this.1,this.2.1,fun e he=>?_⟩
   rcases List.mem_append.1 he with he|he
   ·exact this.2.2 e he
   ·rw[List.mem_singleton] at he
    subst he
    exact h2 d hd
theorem yO{b:BK}(h1:1≤b.nx)(h2:b.nx≤1073741824)(h3:b.cards.length≤48)(h4:b.dead.length≤40)(h5:UpI (b.cards.map CA.id))(h6:∀c,c∈b.cards→hJ c=true∧c.id<b.nx)
 (h7:∀d,d∈b.dead→(1≤d.id∧d.id<b.nx∧1≤d.ver∧d.ver≤1099511627776∧0≤d.sq∧d.sq≤b.sq)∧d.id∉b.cards.map CA.id)(h8:b.dead.Pairwise (fun e d=>e.id≠d.id∧e.sq≤d.sq))(h9:0≤b.sq)(h10:b.sq≤1099511627776)
 (h11:UpI (b.gr.map GR.no))(h12:∀g,g∈b.gr→(0≤g.no∧g.no<16)∧UpI g.mem∧∀x,x∈g.mem→x∈b.cards.map CA.id):BkW b:=by
 have hc:j0 b.nx 0 b.cards=true:=nE.2 ⟨h5,fun c hc=>⟨(h6 c hc).1,by have:=(fI (h6 c hc).1).1;omega,(h6 c hc).2⟩⟩
 have hm:∀g,g∈b.gr→∀x,x∈g.mem→1≤x∧x<1073741824:=fun g hg x hx=>by
  obtain⟨c,hc,rfl⟩:=List.mem_map.1 ((h12 g hg).2.2 x hx)
  have:=(fI (h6 c hc).1).1
  omega
 refine Wt ?_
 unfold L9 VN big mM
 simp only[Bool.and_eq_true,decide_eq_true_eq,List.all_eq_true]
 refine⟨⟨⟨⟨⟨⟨h1,h2,h3,h4⟩,hc,?_⟩,h9,h10⟩,UG h11 fun g hg=>?_⟩,fun d hd=>(h7 d hd).1.2.2.2.2.2⟩,fun g hg=>?_⟩
 ·refine qQ.2 ⟨fun d hd=>?_,h8⟩
  obtain⟨q1,q2⟩:=h7 d hd
  exact⟨by omega,q2,fun e he=>absurd he List.not_mem_nil⟩
 ·obtain⟨q1,q2,q3⟩:=h12 g hg
  exact⟨by omega,q1.1,q1.2,PJ q2 fun x hx=>by have:=hm g hg x hx;omega⟩
 ·unfold iB
  refine List.filter_eq_nil_iff.2 fun x hx=>?_
  simpa using(h12 g hg).2.2 x hx
end

section
theorem lQ{B:BK}{x:ED}{e:Int}(h:doT B x=(e,B,[])):doB B x=B:=by
 unfold doB
 rw[h]
 simp
theorem V5{cs:List CA}{id:Int}{x:CA}(h:x.id=id):(wrC cs id x).map CA.id=cs.map CA.id:=by
 unfold wrC
 rw[List.map_map]
 refine List.map_congr_left fun c _=>?_
 simp only[Function.comp]
 split
 ·rename_i e;rw[h,e]
 ·rfl
theorem pU{B:BK}(hb:BkW B)(g:Int):(bH B.gr g).length≤48:=by
 unfold bH
 cases h:B.gr.find? fun x=>decide (x.no=g) with
 | none=>simp
 | some x=>exact hb.nm x (List.mem_of_find?_eq_some h)
theorem tT{B:BK}(hb:BkW B)(g:Int):UpI (bH B.gr g)∧∀x,x∈bH B.gr g→x∈B.cards.map CA.id:=by
 unfold bH
 cases h:B.gr.find? fun x=>decide (x.no=g) with
 | none=>exact⟨.nil,fun x hx=>absurd hx List.not_mem_nil⟩
 | some y=>exact⟨hb.upm y (List.mem_of_find?_eq_some h),hb.mem y (List.mem_of_find?_eq_some h)⟩
theorem BkW.cds{B:BK}(hb:BkW B):∀c,c∈B.cards→hJ c=true∧c.id<B.nx:=fun c hc=>by
 have:=(nE.1 hb.cok).2 c hc
 exact⟨this.1,this.2.2⟩
theorem BkW.dds{B:BK}(hb:BkW B):∀d,d∈B.dead→(1≤d.id∧d.id<B.nx∧1≤d.ver∧d.ver≤1099511627776∧0≤d.sq∧d.sq≤B.sq)∧d.id∉B.cards.map CA.id:=fun d hd=>by
 have:=(qQ.1 hb.dok).1 d hd
 have h:=hb.dsq d hd
 exact⟨by omega,this.2.1⟩
theorem BkW.dps{B:BK}(hb:BkW B):B.dead.Pairwise (fun e d=>e.id≠d.id∧e.sq≤d.sq):=(qQ.1 hb.dok).2
theorem BkW.grs{B:BK}(hb:BkW B):∀g,g∈B.gr→(0≤g.no∧g.no<16)∧UpI g.mem∧∀x,x∈g.mem→x∈B.cards.map CA.id:=fun g hg=>⟨hb.gno g hg,hb.upm g hg,hb.mem g hg⟩
theorem lG{l:List GR}{g:Int}{m:List Int}:(eW l g m).map GR.no=l.map GR.no:=by
 unfold eW
 rw[List.map_map]
 refine List.map_congr_left fun c _=>?_
 simp only[Function.comp]
 split
 ·rename_i e;exact e.symm
 ·rfl
theorem VC{l:List GR}{id:Int}:(lvG l id).map GR.no=l.map GR.no:=by
 unfold lvG
 rw[List.map_map];rfl
theorem BkW.Ro{B:BK}(hb:BkW B){sq:Int}(h1:B.sq≤sq)(h2:sq≤1099511627776){gr:List GR}(h11:UpI (gr.map GR.no))(h12:∀g,g∈gr→(0≤g.no∧g.no<16)∧UpI g.mem∧∀x,x∈g.mem→x∈B.cards.map CA.id):BkW ⟨sq,B.nx,B.cards,B.dead,gr⟩ :=
 yO hb.nx1 hb.nx2 hb.nc hb.nd hb.ups hb.cds (fun d hd=>by have:=hb.dds d hd;exact⟨⟨this.1.1,this.1.2.1,this.1.2.2.1,this.1.2.2.2.1,this.1.2.2.2.2.1,by have:=this.1.2.2.2.2.2;simp only;omega⟩,this.2⟩) hb.dps (by have:=hb.sq1;simp only;omega) h2 h11 h12
theorem EM{B:BK}(hb:BkW B){g:Int}{m:List Int}(hg:0≤g∧g<16)(hm:UpI m∧∀x,x∈m→x∈B.cards.map CA.id):∀y,y∈eW B.gr g m→(0≤y.no∧y.no<16)∧UpI y.mem∧∀x,x∈y.mem→x∈B.cards.map CA.id:=fun y hy=>by
 obtain⟨z,hz,rfl⟩:=List.mem_map.1 hy
 split
 ·exact⟨hg,hm⟩
 ·exact hb.grs z hz
theorem bP{x:ED}(h:aQ x=0):1≤x.kd∧x.kd≤7∧(0≤x.gr∧x.gr<16)∧(edI x.kd=true→1≤x.id∧x.id<1073741824)∧(edP x.kd=true→bI x.p=0):=by
 unfold aQ mM at h
 split at h
 ·omega
 ·split at h
  ·omega
  ·split at h
   ·omega
   ·rename_i h1 h2 h3
    refine⟨by omega,by omega,by omega,fun q=>?_,fun q=>?_⟩
    ·have:¬(x.id<1∨1073741824≤x.id):=fun hn=>h3 (.inr (.inr ⟨q,hn⟩))
     omega
    ·rw[if_pos q] at h
     exact h
theorem doW{B:BK}(hb:BkW B)(x:ED):BkW (doB B x):=by
 by_cases he:aQ x=0
 rotate_left
 ·rw[lQ (x:=x) (e:=aQ x) (by unfold doT;rw[if_pos he])];exact hb
 by_cases hs:1099511627676<B.sq
 ·rw[lQ (x:=x) (e:=8) (by unfold doT;rw[if_neg (by simpa using he),if_pos hs])];exact hb
 obtain⟨e1,e2,e3,e4,e5⟩:=bP he
 have hsq1:=hb.sq1
 unfold doB doT
 rw[if_neg (by simpa using he),if_neg hs]
 have same:BkW { B with sq:=B.sq+(([]:List Int).length:Int) }:=by
  have:({ B with sq:=B.sq+(([]:List Int).length:Int) }:BK)=B:=by simp
  rw[this];exact hb
 by_cases k1:x.kd=1
 ·rw[if_pos k1]
  split
  ·exact same
  ·rename_i hf
   have hp:=e5 (by rw[k1];rfl)
   have hn1:=hb.nx1
   refine yO (by simp only;omega) (by simp only;omega) (by simp only[List.length_append,List.length_singleton];omega) hb.nd ?_ (fun c hc=>?_) (fun d hd=>?_) hb.dps (by simp only[List.length_singleton];omega) (by simp only[List.length_singleton];omega) hb.upg (fun g hg=>?_)
   ·simp only[List.map_append,List.map_cons,List.map_nil]
    refine List.pairwise_append.2 ⟨hb.ups,List.pairwise_singleton _ _,fun a ha b hb'=>?_⟩
    obtain⟨c,hc,rfl⟩:=List.mem_map.1 ha
    rw[List.mem_singleton] at hb'
    subst hb'
    exact(hb.cds c hc).2
   ·rcases List.mem_append.1 hc with hc|hc
    ·have:=hb.cds c hc
     exact⟨this.1,by simp only;omega⟩
    ·rw[List.mem_singleton] at hc
     subst hc
     exact⟨Pw hp hn1 oM,by show B.nx<B.nx+1;omega⟩
   ·obtain⟨q1,q2⟩:=hb.dds d hd
    refine⟨by simp only[List.length_singleton];omega,fun hm=>?_⟩
    simp only[List.map_append,List.map_cons,List.map_nil,List.mem_append,List.mem_singleton] at hm
    rcases hm with hm|hm
    ·exact q2 hm
    ·have:(bY B.nx x.p).id=B.nx:=rfl
     omega
   ·obtain⟨q1,q2,q3⟩:=hb.grs g hg
    exact⟨q1,q2,fun y hy=>by simp only[List.map_append];exact List.mem_append.2 (.inl (q3 y hy))⟩
 rw[if_neg k1]
 by_cases k2:x.kd=2
 ·rw[if_pos k2]
  split
  ·exact same
  ·split
   ·exact same
   ·rename_i h1 h2
    have hp:=e5 (by rw[k2];rfl)
    have hi:=e4 (by rw[k2];rfl)
    obtain⟨g1,g2⟩:=pL (Classical.not_not.1 h1)
    obtain⟨c,hc⟩:∃c,(bB B.cards B.dead x.id).1=c:=⟨_,rfl⟩
    rw[hc] at g1 g2 h2 ⊢
    obtain⟨⟨p1,p2,p3,p4,p5⟩,p6⟩:=fI (hb.cds c g1).1
    have hok:=Gm hp p1 p2 oM p4 p5 p6
    have hid:(cV c x.p).id=x.id:=g2
    have hids:=V5 (cs:=B.cards) hid
    refine yO hb.nx1 hb.nx2 (by simp only[wrC,List.length_map];exact hb.nc) hb.nd (by simp only;rw[hids];exact hb.ups) (fun y hy=>?_) (fun d hd=>?_) hb.dps (by simp only[List.length_singleton];omega) (by simp only[List.length_singleton];omega) hb.upg (fun g hg=>?_)
    ·obtain⟨z,hz,rfl⟩:=List.mem_map.1 hy
     split
     ·exact⟨hok,by rw[hid,←g2];exact(hb.cds c g1).2⟩
     ·exact hb.cds z hz
    ·obtain⟨q1,q2⟩:=hb.dds d hd
     exact⟨by simp only[List.length_singleton];omega,by simp only;rw[hids];exact q2⟩
    ·simp only;rw[hids];exact hb.grs g hg
 rw[if_neg k2]
 by_cases k3:x.kd=3
 ·rw[if_pos k3]
  split
  ·exact same
  ·rename_i h1
   obtain⟨g1,g2⟩:=pL (Classical.not_not.1 h1)
   obtain⟨c,hc⟩:∃c,(bB B.cards B.dead x.id).1=c:=⟨_,rfl⟩
   rw[hc] at g1 g2 ⊢
   obtain⟨⟨p1,p2,p3,p4,p5⟩,p6⟩:=fI (hb.cds c g1).1
   have hmem:∀y,y∈(B.cards.filter fun z=>!decide (z.id=x.id)).map CA.id↔y∈B.cards.map CA.id∧y≠x.id:=fun y=>by
    constructor
    ·intro hy
     obtain⟨z,hz,rfl⟩:=List.mem_map.1 hy
     obtain⟨z1,z2⟩:=List.mem_filter.1 hz
     exact⟨List.mem_map.2 ⟨z,z1,rfl⟩,by simpa using z2⟩
    ·rintro⟨hy,hne⟩
     obtain⟨z,hz,rfl⟩:=List.mem_map.1 hy
     exact List.mem_map.2 ⟨z,List.mem_filter.2 ⟨hz,by simpa using hne⟩,rfl⟩
   have hd2:∀d,d∈B.dead++[⟨x.id,c.ver,B.sq+1⟩]→(1≤d.id∧d.id<B.nx∧1≤d.ver∧d.ver≤1099511627776∧0≤d.sq∧d.sq≤B.sq+1)∧d.id∉(B.cards.filter fun z=>!decide (z.id=x.id)).map CA.id:=fun d hd=>by
    rcases List.mem_append.1 hd with hd|hd
    ·obtain⟨q1,q2⟩:=hb.dds d hd
     exact⟨by omega,fun h=>q2 ((hmem _).1 h).1⟩
    ·rw[List.mem_singleton] at hd
     subst hd
     have:=(hb.cds c g1).2
     exact⟨by simp only;omega,fun h=>((hmem _).1 h).2 rfl⟩
   have hp2:(B.dead++[(⟨x.id,c.ver,B.sq+1⟩:DE)]).Pairwise (fun e d=>e.id≠d.id∧e.sq≤d.sq):=by
    refine List.pairwise_append.2 ⟨hb.dps,List.pairwise_singleton _ _,fun a ha b hb'=>?_⟩
    rw[List.mem_singleton] at hb'
    subst hb'
    obtain⟨q1,q2⟩:=hb.dds a ha
    exact⟨fun h=>q2 (by rw[h];exact List.mem_map.2 ⟨c,g1,g2⟩),by simp only;omega⟩
   have hnd:=hb.nd
   have hcap:(∀d,d∈o9 (B.dead++[⟨x.id,c.ver,B.sq+1⟩])→d∈B.dead++[⟨x.id,c.ver,B.sq+1⟩])∧(o9 (B.dead++[⟨x.id,c.ver,B.sq+1⟩])).length≤40∧(o9 (B.dead++[⟨x.id,c.ver,B.sq+1⟩])).Pairwise (fun e d=>e.id≠d.id∧e.sq≤d.sq):=by
    unfold o9
    split
    ·refine⟨fun d hd=>List.mem_of_mem_drop hd,?_,hp2.sublist (List.drop_sublist _ _)⟩
     simp only[List.length_drop,List.length_append,List.length_singleton]
     omega
    ·exact⟨fun d hd=>hd,by omega,hp2⟩
   obtain⟨w1,w2,w3⟩:=hcap
   refine yO hb.nx1 hb.nx2 (Nat.le_trans (List.length_filter_le _ _) hb.nc) w2 ?_ (fun y hy=>hb.cds y (List.mem_filter.1 hy).1) (fun d hd=>?_) w3 (by simp only[List.length_singleton];omega) (by simp only[List.length_singleton];omega) (by simp only;rw[VC];exact hb.upg) (fun g hg=>?_)
   ·exact hb.ups.sublist (List.Sublist.map _ List.filter_sublist)
   ·have:=hd2 d (w1 d hd)
    exact⟨by simp only[List.length_singleton];omega,this.2⟩
   ·obtain⟨z,hz,rfl⟩:=List.mem_map.1 hg
    obtain⟨q1,q2,q3⟩:=hb.grs z hz
    refine⟨q1,Dq q2,fun y hy=>?_⟩
    obtain⟨y1,y2⟩:=pH.1 hy
    exact(hmem y).2 ⟨q3 y y1,y2⟩
 rw[if_neg k3]
 by_cases k4:x.kd=4
 ·rw[if_pos k4]
  split
  ·exact same
  ·rename_i hn
   refine hb.Ro (by simp only[List.length_singleton];omega) (by simp only[List.length_singleton];omega) (Lh hb.upg hn rfl) fun g hg=>?_
   rcases Lp.1 hg with rfl|hg
   ·exact⟨e3,.nil,fun y hy=>absurd hy List.not_mem_nil⟩
   ·exact hb.grs g hg
 rw[if_neg k4]
 by_cases k5:x.kd=5
 ·rw[if_pos k5]
  split
  ·have:=pU hb x.gr
   refine hb.Ro (by simp only[List.length_append,List.length_singleton];omega) (by simp only[List.length_append,List.length_singleton];omega) (hb.upg.sublist (List.Sublist.map _ List.filter_sublist)) fun g hg=>hb.grs g (List.mem_filter.1 hg).1
  ·exact same
 rw[if_neg k5]
 obtain⟨m1,m2⟩:=tT hb x.gr
 by_cases k6:x.kd=6
 ·rw[if_pos k6]
  split
  ·exact same
  ·split
   ·exact same
   ·split
    ·exact same
    ·rename_i h1 h2 h3
     obtain⟨g1,g2⟩:=pL (Classical.not_not.1 h1)
     refine hb.Ro (by simp only[List.length_singleton];omega) (by simp only[List.length_singleton];omega) (by rw[lG];exact hb.upg) (EM hb e3 ⟨Rk m1,fun y hy=>?_⟩)
     rcases Eu.1 hy with rfl|hy
     ·exact List.mem_map.2 ⟨_,g1,g2⟩
     ·exact m2 y hy
 ·rw[if_neg k6]
  split
  ·exact same
  ·split
   ·exact same
   ·exact hb.Ro (by simp only[List.length_singleton];omega) (by simp only[List.length_singleton];omega) (by rw[lG];exact hb.upg) (EM hb e3 ⟨Dq m1,fun y hy=>m2 y (pH.1 hy).1⟩)
end

section
theorem BO{l:Nat}(xs:List (List MV))(hx:xs.length≤1000000)(i:Nat)(hi:i<xs.length) :
  aA Tryz.prog 265 [.vec 1 l 0 xs.length,.int .i64 (i:Int),.int .i64 ((i:Int)+1)] (St.none.set l (.row 3 1 xs)) (fun r σ'=>∃q ex,r=.vec 1 q 0 (xs.length - 1)∧σ'=St.none.set q (.row 3 1 (xs.take i++xs.drop (i+1)++ex))):=by
 obtain⟨n,hn⟩:∃n,xs.length=n:=⟨_,rfl⟩
 rw[hn] at hx hi ⊢
 refine(aA.gW 33 [.tmp 6] Tryz.func265 rfl rfl rfl rfl ?_)
 refine a8 (b5 ?_)
 repeat' first|refine wZ1 @FXs ?_|fail
 refine bL (a8 (bQ [_,_,_,_,_] _ [] rfl rfl ?_))
 repeat' first|refine wZ1 @FXs ?_|fail
 refine bL (A6 rfl (by rw[B3]) (by rw[td3]) rfl rfl rfl rfl oM oM oM oM ?_)
 show R _
 repeat' first|refine wZ1 @FXs ?_|fail
 refine bL (b5 ?_)
 repeat' first|(refine wO ?_;intros)|refine wZ1 @FXs ?_|fail
 have e1:min (n - (i+1)) (xs.length - (i+1))=n - (i+1):=by omega
 have e2:i+(n - (i+1))=n - 1:=by omega
 have e3:(xs.drop (i+1)).take (n - (i+1))=xs.drop (i+1):=List.take_of_length_le (by rw[List.length_drop];omega)
 have e4:(xs.take i++xs.drop (i+1)).length=n - 1:=by rw[List.length_append,List.length_take,List.length_drop];omega
 rw[e1,e2,e3]
 refine⟨_,List.replicate (n - (n - 1)) [.int .i64 0]++((xs.take i++xs.drop (i+1))++xs.drop (n - 1)).drop (n - 1+(List.replicate (n - (n - 1)) [MV.int .i64 0]).length),rfl,?_⟩
 congr 2
 unfold bC
 rw[List.take_append_of_le_length oM,List.take_of_length_le oM,List.append_assoc]
end

section
theorem BN{l:Nat}(xs:List (List MV))(hx:xs.length≤1000000)(i:Nat)(hi:i<xs.length) :
  aA Tryz.prog 220 [.vec 2 l 0 xs.length,.int .i64 (i:Int),.int .i64 ((i:Int)+1)] (St.none.set l (.row 200 2 xs)) (fun r σ'=>∃q ex,r=.vec 2 q 0 (xs.length - 1)∧σ'=St.none.set q (.row 200 2 (xs.take i++xs.drop (i+1)++ex))):=by
 obtain⟨n,hn⟩:∃n,xs.length=n:=⟨_,rfl⟩
 rw[hn] at hx hi ⊢
 refine(aA.gW 33 [.tmp 6] Tryz.func220 rfl rfl rfl rfl ?_)
 refine a8 (b5 ?_)
 repeat' first|refine wZ1 @FXs ?_|fail
 refine bL (a8 (bQ [_,_,_,_,_] _ [] rfl rfl ?_))
 repeat' first|refine wZ1 @FXs ?_|fail
 refine bL (A6 rfl (by rw[B2]) (by rw[mX]) rfl rfl rfl rfl oM oM oM oM ?_)
 show R _
 repeat' first|refine wZ1 @FXs ?_|fail
 refine bL (b5 ?_)
 repeat' first|(refine wO ?_;intros)|refine wZ1 @FXs ?_|fail
 have e1:min (n - (i+1)) (xs.length - (i+1))=n - (i+1):=by omega
 have e2:i+(n - (i+1))=n - 1:=by omega
 have e3:(xs.drop (i+1)).take (n - (i+1))=xs.drop (i+1):=List.take_of_length_le (by rw[List.length_drop];omega)
 have e4:(xs.take i++xs.drop (i+1)).length=n - 1:=by rw[List.length_append,List.length_take,List.length_drop];omega
 rw[e1,e2,e3]
 refine⟨_,List.replicate (n - (n - 1)) [.int .i64 0,.aM]++((xs.take i++xs.drop (i+1))++xs.drop (n - 1)).drop (n - 1+(List.replicate (n - (n - 1)) [MV.int .i64 0,.aM]).length),rfl,?_⟩
 congr 2
 unfold bC
 rw[List.take_append_of_le_length oM,List.take_of_length_le oM,List.append_assoc]
end
end Go.Proofs.YtppdgejjmhdjhaaGreatDoor
