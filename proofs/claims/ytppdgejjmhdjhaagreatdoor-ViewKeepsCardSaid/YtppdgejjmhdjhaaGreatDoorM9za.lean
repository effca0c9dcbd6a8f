/- Parts of the proof; conditions: as its theorems name them. -/
import Derived.Test.YtppdgejjmhdjhaaGreatDoorM9y
import Derived.Test.YtppdgejjmhdjhaaGreatDoorM9z
import Derived.Lib.LazyBuf
set_option linter.unusedVariables false
set_option linter.unusedSimpArgs false
set_option maxHeartbeats 8000000
set_option maxRecDepth 100000
namespace Go.Proofs.YtppdgejjmhdjhaaGreatDoor
section
def evP:PA:=⟨256,2,f80⟩
def evW:PA:=⟨256,1,f80⟩
def ev1:CA:=cA 1 evP
def ev2:CA:=dB ev1 evW
def Df:BK:=⟨1,2,[ev1],[],[]⟩
def Dg:BK:=⟨2,2,[ev2],[],[]⟩
theorem SP:BkR Df:=⟨by decide,by decide,by decide,by decide,by decide +kernel,by decide +kernel,by decide,by decide,by decide +kernel⟩
theorem SQ:BkR Dg:=⟨by decide,by decide,by decide,by decide,by decide +kernel,by decide +kernel,by decide,by decide,by decide +kernel⟩
def evN:ND:=⟨3,1,va0⟩
theorem zR:bS [evN]=0:=by decide +kernel
theorem Mq:jF Df [evN] 1=(ev1,true):=by
 have h1:dW Df.gr [evN] ev1=true:=by rw[AW zR];decide +kernel
 have h2:bD Df.cards Df.dead 1=(ev1,0):=by decide +kernel
 unfold jF
 rw[h2]
 exact if_pos ⟨rfl,h1⟩
theorem Mr:jF Dg [evN] 1=(ca0,false):=by
 have h1:dW Dg.gr [evN] ev2=false:=by rw[AW zR];decide +kernel
 have h2:bD Dg.cards Dg.dead 1=(ev2,0):=by decide +kernel
 unfold jF
 rw[h2]
 exact if_neg fun h=>by rw[h1] at h;cases h.2
def Mp:VS:=⟨[],0,0,[]⟩
def E7:VS:=⟨[(1,1)],0,1,[gE 1 0 1 (fL ev1 256) true]⟩
def IC:VS:=⟨[],0,2,[gE 1 0 1 (fL ev1 256) true,gE 2 1 1 (fL ca0 256) false]⟩
theorem Po:fG Df [evN] 256 Mp [(1,1)]=E7:=by
 show iQ Df [evN] 256 Mp 1 1=_
 unfold iQ
 rw[Mq]
 have h:(gE 1 0 1 (fL ev1 256) true).new=1:=by decide +kernel
 have hv:ev1.ver=1:=by decide +kernel
 simp[Mp,E7,shG,shP,mL,gY,h,hv]
theorem Pp:fG Dg [evN] 256 E7 [(2,1)]=IC:=by
 show iQ Dg [evN] 256 E7 2 1=_
 unfold iQ
 rw[Mr]
 have h:(gE 2 1 1 (fL ca0 256) false).new=0:=rfl
 simp[E7,IC,shG,shD,mL,gY,h]
theorem UZ:(gE 1 0 1 (fL ev1 256) true).new=1:=by decide +kernel
end

section
theorem Kp{P:Program}{o:Oper}{f:FR}{σ:St}{k:MV→St→Prop}{t t' el:TypeId}{x:Operand}(ho:o.op=.binOp .eql t x (.const (.slice none 0 0)) t')(ht:(td P t).k=.slice el){e l lo n:Nat}(hx:aH f x=.vec e l lo (n+1))(hk:k (.bool false) σ):sop P o f σ k:=by
 intro Φ w ac K Q' hi hr hK
 have rx:=aJ hr x
 rw[hx] at rx
 generalize hv:ac.eval x=vx at rx
 obtain⟨ad,cap,p,rfl,hp,hpe,hcap,hncap,hR⟩:=rx.dU
 rcases hR with⟨R,hb,rfl⟩|h
 ·refine bL (v:=.bool false) (w':=w) ?_ (hK _ (.bool false) _ Φ w (.bool _) hi (.refl _ _ _) hk)
  have hc:ac.eval (.const (.slice none 0 0))=.slice none 0 0:=rfl
  have h1:=Go.run_eql_slice_nil (P:=P) w t el (some ⟨R,p.bo+lo * p.e,none⟩) (n+1) cap (aY ht)
  unfold execOp
  simp only[ho,hv,hc,Sem.run_bind,sC,h1,Sem.run_pure,Result.andThen_ok]
  rfl
 ·omega
end

section
abbrev shV(cs:List CA):List (Int × Int):=cs.map fun c=>(c.id,c.ver)
theorem Um(cs:List CA):vEs cs=shE (shV cs):=by
 unfold vEs shE shV
 rw[List.map_map];rfl
theorem xS{B:BK}(hb:BkR B)(h3:B.gr.length≤1000000)(h4:∀g,g∈B.gr→g.mem.length≤1000000){m l q b:Nat}(D:dQ m l q b){fl:List ND}(hp:bS fl=0)(tt:Bool){mk:UInt32}(hm:mk.toNat≤511) :
  aA Tryz.prog 15 [.ptr b 0 0,.lst 5 (fl.map ND.c) tt,.int .u32 (mk.toNat:Int)] (bkS m l q b B []) (fun r σ'=>∃f sm g v d,kT m l q b f sm g v∧r=.ptr v 0 0∧σ'=vwS m l q b B f fl d sm g v mk ⟨shV (shC B fl),B.sq,B.sq,[]⟩ []):=by
 refine aA.gh ((Ka hb h3 h4 D [] hp tt hm).mono ?_)
 rintro _ _ ⟨ρ,hfr,rfl,f,sm,v,d,⟨n1,n2,n3⟩,rfl,rfl⟩
 have hf:=hfr f (flD fl d) (by simp[St.set,Ne.symm n1,Ne.symm n2])
 have hs:=hfr sm (.mp (vEs (shC B fl))) (by simp[St.set,Ne.symm n3])
 have hv:=hfr v _ (aD _ _ _)
 simp only[aU] at hf hs hv
 obtain⟨f1,f2,f3,f4,-⟩:=hf
 obtain⟨s1,s2,s3,s4,-⟩:=hs
 obtain⟨v1,v2,v3,v4,-⟩:=hv
 rw[bE,bE,bE,dC]
 refine Gh.Lw (b:=v) (t:=133) (e:=6) (pre:=[.ptr f 0 0,.int .u32 (mk.toNat:Int),.mapv sm,.int .i64 B.sq,.int .i64 B.sq]) (post:=[]) 128 31 (aD _ _ _) fun g hg=>?_
 simp only[aU] at hg
 obtain⟨g1,g2,g3,g4,g5,g6,g7,-⟩:=hg
 refine .done ⟨_,rfl,f,sm,g,v,d,⟨D,⟨f4,f3,f2,f1⟩,⟨s4,s3,s2,s1,n1⟩,⟨g7,g6,g5,g4,g3,g2⟩,⟨v4,v3,v2,v1,n2,n3,Ne.symm g1⟩⟩,rfl,?_⟩
 rw[Um]
 funext j
 by_cases h1:j=g
 ·subst h1;simp[St.set,g1,lgO]
 ·by_cases h2:j=v
  ·subst h2;simp[St.set,h1]
  ·simp[St.set,h1,h2]
theorem Hi{B:BK}(hb:BkR B)(h3:B.gr.length≤1000000)(h4:∀g,g∈B.gr→g.mem.length≤1000000){m l q b n:Nat}(D:dQ m l q b)(hn:n≠m∧n≠l∧n≠q∧n≠b){x:ND}(hp:bS [x]=0){mk:UInt32}(hm:mk.toNat≤511) :
  aA Tryz.prog 15 [.ptr b 0 0,.vec 5 n 0 1,.int .u32 (mk.toNat:Int)] ((bkS m l q b B []).set n (.row 121 5 [x.c])) (fun r σ'=>∃f sm g v d,kT m l q b f sm g v∧r=.ptr v 0 0∧σ'=vwS m l q b B f [x] d sm g v mk ⟨shV (shC B [x]),B.sq,B.sq,[]⟩ []):=by
 have hn0:bkS m l q b B [] n=none:=by simp only[aU];exact⟨hn.2.2.2,hn.2.2.1,hn.2.1,hn.1,rfl⟩
 refine aA.pre (ms':=[.ptr b 0 0,.lst 5 ([x].map ND.c) false,.int .u32 (mk.toNat:Int)]) rfl (aV.freeze (St.none.set n (.row 121 5 [x.c])) (St.aB (St.none_le _) (aD _ _ _)) (St.bQ (St.le_refl _) hn0) (fun k o hk=>?_) (fun p hp=>?_)) (xS hb h3 h4 D hp false hm)
 ·rw[aF _ _ _ _ (fun e=>by subst e;rw[hn0] at hk;cases hk)];rfl
 ·simp only[gZ,List.mem_cons,List.not_mem_nil,or_false] at hp
  rcases hp with rfl|rfl|rfl
  ·exact .same _
  ·exact View.vecAll (aD _ _ _) rfl
  ·exact .same _
theorem Su{P:Program}{g0:FuncId}{ms:List MV}{σ:St}{m l q b n:Nat}{on:aW}{B:BK}{fl:List ND}{mk:UInt32}{z:VS}{k:MV→St→Prop}{u:Nat→MV}
 (h:aA P g0 ms ((bkS m l q b B []).set n on) fun r σ'=>∃f sm g v d,kT m l q b f sm g v∧r=u v∧σ'=vwS m l q b B f fl d sm g v mk z [])(hle:((bkS m l q b B []).set n on).le σ)(hn:bkS m l q b B [] n=none)
 (hk:∀f sm g v d,kT m l q b f sm g v→(σ.del n) f=none→(σ.del n) sm=none→(σ.del n) g=none→(σ.del n) v=none→R (bY (u v) (((((σ.del n).set f (flD fl d)).set sm (.mp (shE z.sh))).set g (lgO z.log [])).set v (vwO f mk sm z.floor z.now (.vec 31 g 0 z.log.length))) k)):R (cU P g0 ms σ k) :=
 bJ h hle fun r σ' hv hf=>by
  obtain⟨f,sm,g,v,d,V,rfl,rfl⟩:=hv
  have hV:=V
  obtain⟨D,⟨f1,f2,f3,f4⟩,⟨s1,s2,s3,s4,s5⟩,⟨g1,g2,g3,g4,g5,g6⟩,⟨v1,v2,v3,v4,v5,v6,v7⟩⟩:=V
  have e:(vwS m l q b B f fl d sm g v mk z []).over (σ.minus ((bkS m l q b B []).set n on))=((((σ.del n).set f (flD fl d)).set sm (.mp (shE z.sh))).set g (lgO z.log [])).set v (vwO f mk sm z.floor z.now (.vec 31 g 0 z.log.length)):=by
   rw[bE,bE,bE,bE]
   congr 4
   funext j
   by_cases h1:j=n
   ·subst h1
    simp only[St.over,St.minus,St.del,hn,aD]
    simp
   ·simp only[St.over,St.minus,St.del,aF _ _ _ _ h1,if_neg h1]
    cases hb:bkS m l q b B [] j with
    | none=>rfl
    | some o=>exact(hle j o (by rw[aF _ _ _ _ h1];exact hb)).symm
  have hfree:∀j o,vwS m l q b B f fl d sm g v mk z [] j=some o→(j≠m∧j≠l∧j≠q∧j≠b)→(σ.del n) j=none:=fun j o hj hne=>by
   by_cases h1:j=n
   ·simp[St.del,h1]
   ·rcases hf j o hj with h|⟨o',h⟩
    ·simp[St.del,h1,h]
    ·rw[aF _ _ _ _ h1] at h
     obtain⟨j1,j2,j3,j4⟩:=hne
     simp[St.set,St.none,j1,j2,j3,j4] at h
  rw[e]
  refine hk f sm g v d hV (hfree f (flD fl d) ?_ ⟨f1,f2,f3,f4⟩) (hfree sm (.mp (shE z.sh)) ?_ ⟨s1,s2,s3,s4⟩) (hfree g (lgO z.log []) ?_ ⟨g1,g2,g3,g4⟩) (hfree v _ (aD _ _ _) ⟨v1,v2,v3,v4⟩)
  ·simp[St.set,Ne.symm v5,Ne.symm g5,Ne.symm s5]
  ·simp[St.set,Ne.symm v6,Ne.symm g6]
  ·simp[St.set,Ne.symm v7]
theorem Sv{P:Program}{g0:FuncId}{ms:List MV}{σ:St}{m l q b f sm g v:Nat}{B:BK}{fl:List ND}{d:Bool}{mk:UInt32}{z z':VS}{ex:List (List MV)}{k:MV→St→Prop}(V:kT m l q b f sm g v)
 (h:aA P g0 ms (vwS m l q b B f fl d sm g v mk z ex) fun _ σ'=>∃d' g' ex',kT m l q b f sm g' v∧σ'=vwS m l q b B f fl d' sm g' v mk z' ex')(hle:(vwS m l q b B f fl d sm g v mk z ex).le σ)
 (hk:∀r d' g' ex',kT m l q b f sm g' v→(σ.del g) g'=none→R (bY r (((((σ.del g).set f (flD fl d')).set sm (.mp (shE z'.sh))).set g' (lgO z'.log ex')).set v (vwO f mk sm z'.floor z'.now (.vec 31 g' 0 z'.log.length))) k)):R (cU P g0 ms σ k) :=
 bJ h hle fun r σ' hv hf=>by
  obtain⟨d',g',ex',V',rfl⟩:=hv
  have hV:=V'
  obtain⟨D,⟨f1,f2,f3,f4⟩,⟨s1,s2,s3,s4,s5⟩,⟨g1,g2,g3,g4,g5,g6⟩,⟨v1,v2,v3,v4,v5,v6,v7⟩⟩:=V'
  obtain⟨-,-,-,⟨G1,G2,G3,G4,G5,G6⟩,⟨-,-,-,-,-,-,w7⟩⟩:=V
  have e:(vwS m l q b B f fl d' sm g' v mk z' ex').over (σ.minus (vwS m l q b B f fl d sm g v mk z ex))=((((σ.del g).set f (flD fl d')).set sm (.mp (shE z'.sh))).set g' (lgO z'.log ex')).set v (vwO f mk sm z'.floor z'.now (.vec 31 g' 0 z'.log.length)):=by
   rw[bE,bE,bE,bE]
   funext j
   by_cases h1:j=v
   ·subst h1;rw[aD,aD]
   ·rw[aF _ _ _ _ h1,aF _ _ _ _ h1]
    by_cases h2:j=g'
    ·subst h2;rw[aD,aD]
    ·rw[aF _ _ _ _ h2,aF _ _ _ _ h2]
     by_cases h3:j=sm
     ·subst h3;rw[aD,aD]
     ·rw[aF _ _ _ _ h3,aF _ _ _ _ h3]
      by_cases h4:j=f
      ·subst h4;rw[aD,aD]
      ·rw[aF _ _ _ _ h4,aF _ _ _ _ h4]
       by_cases h5:j=g
       ·subst h5
        have hb0:bkS m l q b B [] j=none:=by simp only[aU];exact⟨G4,G3,G2,G1,rfl⟩
        have hj:vwS m l q b B f fl d sm j v mk z ex j=some (lgO z.log ex):=(aF _ _ _ _ h1).trans (aD _ _ _)
        simp only[St.over,St.minus,St.del,hb0,if_true]
        rw[hj]
       ·have hvw:vwS m l q b B f fl d sm g v mk z ex j=bkS m l q b B [] j:=by
         show(((_:St).set v _):St) j=_
         rw[aF _ _ _ _ h1,aF _ _ _ _ h5,aF _ _ _ _ h3]
         exact aF _ _ _ _ h4
        simp only[St.over,St.minus,St.del,hvw,if_neg h5]
        cases hb:bkS m l q b B [] j with
        | none=>rfl
        | some o=>exact(hle j o (hvw.trans hb)).symm
  rw[e]
  refine hk r d' g' ex' hV ?_
  by_cases h5:g'=g
  ·simp[St.del,h5]
  ·rcases hf g' (lgO z'.log ex') (by simp[St.set,Ne.symm v7]) with h|⟨o',h⟩
   ·simp[St.del,h5,h]
   ·simp[St.set,St.none,h5,Ne.symm v7,g1,g2,g3,g4,g5,g6] at h
theorem D7{g n:Nat}(xs:List (List MV))(hn:n+1≤1000000)(hx:n+1≤xs.length) :
  aA Tryz.prog 98 [.vec 31 g 0 (n+1)] (St.none.set g (.row 128 31 xs)) (fun r σ'=>∃q,r=.vec 31 q 0 (n+1)∧q≠g∧σ'=(St.none.set g (.row 128 31 xs)).set q (.row 128 31 (xs.take (n+1)))):=by
 refine aA.less (Q':=fun r σ'=>∃q,r=.vec 31 q 0 (n+1)∧q≠g∧((St.none.set g (.row 128 31 xs)).set q (.row 128 31 (xs.take (n+1)))).le σ') ?_ fun v σ' ⟨q,h1,h2,h3⟩=>⟨_,h3,q,h1,h2,rfl⟩
 refine(aA.iB 8 [.tmp 2] Tryz.func98 rfl rfl rfl rfl ?_)
 have hl:(xs.take (n+1)).length=n+1:=by rw[List.length_take];omega
 refine bA (cB ?_)
 repeat' first|refine wZ1 @FXs ?_|fail
 refine bO (bA (bA (bX [_] _ [] rfl rfl ?_)))
 repeat' first|refine wZ1 @FXs ?_|fail
 refine bO (Kp (t:=77) (el:=128) (n:=n) (l:=g) (lo:=0) (e:=31) rfl (by rw[WU]) rfl ?_)
 show R _
 repeat' first|refine wZ1 @FXs ?_|fail
 refine bO (cB ?_)
 repeat' first|refine wZ1 @FXs ?_|fail
 refine bO (cB ?_)
 repeat' first|(refine wO ?_;intros)|refine wZ2 @FXs @hl ?_|fail
 exact⟨_,rfl,by assumption,St.le_refl _⟩
theorem Sp{P:Program}{g0:FuncId}{ms:List MV}{σ:St}{g:Nat}{og o:aW}{u:Nat→MV}{k:MV→St→Prop}(hg:σ g=some og)(h:aA P g0 ms (St.none.set g og) fun r σ'=>∃q,r=u q∧q≠g∧σ'=(St.none.set g og).set q o)(hk:∀q,σ q=none→R (bY (u q) (σ.set q o) k)):R (cU P g0 ms σ k) :=
 bJ h (St.aB (St.none_le _) hg) fun r σ' hv hf=>by
  obtain⟨q,rfl,hq,rfl⟩:=hv
  have e:((St.none.set g og).set q o).over (σ.minus (St.none.set g og))=σ.set q o:=by
   rw[bE]
   congr 1
   funext j
   by_cases h1:j=g
   ·subst h1;simp[St.over,St.set,hg]
   ·simp[St.over,St.set,St.none,St.minus,h1]
  rw[e]
  refine hk q ?_
  rcases hf q o (aD _ _ _) with h|⟨o',h⟩
  ·exact h
  ·rw[aF _ _ _ _ hq] at h;cases h
theorem AG{v g:Nat}(hvg:v≠g)(f sm:Nat)(mk:UInt32)(floor now:Int)(log:List TU)(hl:log.length≤1000)(ex:List (List MV)) :
  aA Tryz.prog 29 [.ptr v 0 0] ((St.none.set g (lgO log ex)).set v (vwO f mk sm floor now (.vec 31 g 0 log.length))) (fun r σ'=>r=.lst 31 (log.map TU.c) false∧σ'=(St.none.set g (lgO log ex)).set v (vwO f mk sm floor now (.vec 31 g 0 log.length))):=by
 have hgv:=Ne.symm hvg
 refine aA.CR (mB 10 [.tmp 2] Tryz.func29 ?_)
 cases log with
 | nil =>
  have he:aA Tryz.prog 98 [.lst 31 [] false] St.none (fun r _=>r=.lst 31 [] true):=kA EZ Ir
  repeat' first|refine wZ2 @Tryz.f29.eq_1 @FXs ?_|fail
  refine nQ [.lst 31 [] false] he (.lst0 _) rfl (fun i m m' h1 h2=>?_) ?_
  ·match i with
   | 0 =>
    simp only[List.getElem?_cons_zero,Option.some.injEq] at h1 h2
    subst h1
    subst h2
    have:=View.vec (σ:=(St.none.set g (lgO [] ex)).set v (vwO f mk sm floor now (.vec 31 g 0 0))) (l:=g) (lo:=0) (n:=0) (t:=128) (e:=31) (xs:=([]:List TU).map TU.c++ex) (by rw[aF _ _ _ _ hgv];exact aD _ _ _) (Nat.zero_le _)
    simpa using this
   | i+1=>simp at h1
  repeat' first|refine wZ0 ?_|fail
  exact⟨St.none,St.none_le _,St.le_refl _,fun k o hk=>rfl,.tight _ _⟩
 | cons x L =>
  have hm:(L.map TU.c).length=L.length:=List.length_map _
  have hk:=D7 (g:=g) (n:=L.length) ((x::L).map TU.c++ex) (by simp only[List.length_cons] at hl;omega) (by simp)
  rw[List.take_left' (by simp)] at hk
  repeat' first|refine wZ2 @Tryz.f29.eq_1 @FXs ?_|fail
  refine Sp (aF _ _ _ _ hgv |>.trans (aD _ _ _)) hk fun q hq=>?_
  repeat' first|refine wZ0 ?_|fail
  exact⟨St.none.set q _,St.aB (St.none_le _) (aD _ _ _),St.bQ (St.le_refl _) hq,fun k o hk=>(aF _ _ _ _ fun e=>by subst e;rw[hq] at hk;cases hk).trans rfl,.vecAll (aD _ _ _) (by simp only[List.length_cons,hm])⟩
end

section
def gT(l:List Int)(x:Int):List Int:=if x∈l then l else l.take (aQ l x)++x::l.drop (aQ l x)
def dF(l:List Int)(x:Int):List Int:=l.filter fun y=>!decide (y=x)
def vZ(l:List GR)(g:Int):List GR:=l.take (aQ (l.map GR.no) g)++⟨g,[]⟩::l.drop (aQ (l.map GR.no) g)
def mS(l:List GR)(g:Int):List GR:=l.filter fun x=>!decide (x.no=g)
def bI(l:List GR)(g:Int):List Int:=((l.find? fun x=>decide (x.no=g)).map GR.mem).getD []
def fK(l:List GR)(g:Int)(m:List Int):List GR:=l.map fun x=>if x.no=g then⟨g,m⟩ else x
def lvG(l:List GR)(id:Int):List GR:=l.map fun x=>⟨x.no,dF x.mem id⟩
def pC(l:List DE):List DE:=if 40<l.length then l.drop 1 else l
def doT(B:BK)(x:ED):Int × BK × List Int :=
 if aR x≠0 then(aR x,B,[])
 else if 1099511627676<B.sq then(8,B,[])
 else if x.kd=1 then(if 48≤B.cards.length∨1073741824≤B.nx then(8,B,[]) else(0,{ B with nx:=B.nx+1,cards:=B.cards++[cA B.nx x.p] },[B.nx]))
 else if x.kd=2 then(if (bD B.cards B.dead x.id).2≠0 then((bD B.cards B.dead x.id).2,B,[]) else if 1099511627776≤(bD B.cards B.dead x.id).1.ver then(8,B,[])
  else(0,{ B with cards:=wrC B.cards x.id (dB (bD B.cards B.dead x.id).1 x.p) },[x.id]))
 else if x.kd=3 then(if (bD B.cards B.dead x.id).2≠0 then((bD B.cards B.dead x.id).2,B,[])
  else(0,{ B with cards:=B.cards.filter (fun c=>!decide (c.id=x.id)),dead:=pC (B.dead++[⟨x.id,(bD B.cards B.dead x.id).1.ver,B.sq+1⟩]),gr:=lvG B.gr x.id },[x.id]))
 else if x.kd=4 then(if x.gr∈B.gr.map GR.no then(7,B,[]) else(0,{ B with gr:=vZ B.gr x.gr },[0]))
 else if x.kd=5 then(if x.gr∈B.gr.map GR.no then(0,{ B with gr:=mS B.gr x.gr },bI B.gr x.gr++[0]) else(6,B,[]))
 else if x.kd=6 then(if (bD B.cards B.dead x.id).2≠0 then((bD B.cards B.dead x.id).2,B,[]) else if x.gr∉B.gr.map GR.no then(6,B,[]) else if x.id∈bI B.gr x.gr then(7,B,[])
  else(0,{ B with gr:=fK B.gr x.gr (gT (bI B.gr x.gr) x.id) },[x.id]))
 else(if x.gr∉B.gr.map GR.no then(6,B,[]) else if x.id∉bI B.gr x.gr then(6,B,[]) else(0,{ B with gr:=fK B.gr x.gr (dF (bI B.gr x.gr) x.id) },[x.id]))
def doB(B:BK)(x:ED):BK:={ (doT B x).2.1 with sq:=B.sq+((doT B x).2.2.length:Int) }
def doE(B:BK)(x:ED):Int:=(doT B x).1
def doC(B:BK)(x:ED):List Int:=(doT B x).2.2
def cV:Int→List Int→List (Int × Int)
 | _,[]=>[]
 | s,i::r=>(s+1,i)::cV (s+1) r
theorem Ey:∀(s:Int) (l:List Int),(cV s l).map chC=dA s l
 | _,[]=>rfl
 | s,i::r=>by rw[cV,dA,List.map_cons,Ey]
theorem Sj{a b:Int}:∀{l:List Int},UpI l→(∀x,x∈l→a≤x∧x<b)→(l.length:Int)≤max (b - a) 0
 | [],_,_=>by simp only[List.length_nil];omega
 | x::l,h,hb=>by
  have h1:=(List.pairwise_cons.1 h)
  have hx:=hb x (List.mem_cons_self ..)
  have:=Sj (a:=x+1) (b:=b) h1.2 fun y hy=>⟨by have:=h1.1 y hy;omega,(hb y (List.mem_cons_of_mem _ hy)).2⟩
  rw[List.length_cons]
  omega
theorem LI:∀{a b:List Int},UpI a→UpI b→(∀x,x∈a→x∈b)→a.length≤b.length
 | [],b,_,_,_=>by simp
 | x::a,[],_,_,h=>absurd (h x (List.mem_cons_self ..)) List.not_mem_nil
 | x::a,y::b,ha,hb,h=>by
  have h1:=List.pairwise_cons.1 ha
  have h2:=List.pairwise_cons.1 hb
  rw[List.length_cons,List.length_cons]
  refine Nat.succ_le_succ (LI h1.2 h2.2 fun z hz=>?_)
  have hxz:=h1.1 z hz
  rcases List.mem_cons.1 (h z (List.mem_cons_of_mem _ hz)) with rfl|q
  ·rcases List.mem_cons.1 (h x (List.mem_cons_self ..)) with rfl|q
   ·omega
   ·have:=h2.1 x q;omega
  ·exact q
theorem Px:∀{last:Int} {l:List GR},iN last l=true→UpI (l.map GR.no)∧(∀g,g∈l→last<g.no∧0≤g.no∧g.no<16∧rQ 0 g.mem=true)
 | _,[],_=>⟨.nil,fun g hg=>absurd hg List.not_mem_nil⟩
 | last,x::l,h=>by
  unfold iN at h
  simp only[Bool.and_eq_true,decide_eq_true_eq] at h
  obtain⟨⟨⟨h1,h2,h3⟩,h4⟩,h5⟩:=h
  obtain⟨i1,i2⟩:=Px h5
  refine⟨List.pairwise_cons.2 ⟨fun y hy=>?_,i1⟩,fun g hg=>?_⟩
  ·obtain⟨g,hg,rfl⟩:=List.mem_map.1 hy
   exact(i2 g hg).1
  ·rcases List.mem_cons.1 hg with rfl|hg
   ·exact⟨h1,h2,h3,h4⟩
   ·have:=i2 g hg
    exact⟨by omega,this.2⟩
theorem Uy:∀{last:Int} {l:List GR},UpI (l.map GR.no)→(∀g,g∈l→last<g.no∧0≤g.no∧g.no<16∧rQ 0 g.mem=true)→iN last l=true
 | _,[],_,_=>rfl
 | last,x::l,h,h'=>by
  obtain⟨i1,i2⟩:=List.pairwise_cons.1 h
  obtain⟨h1,h2,h3,h4⟩:=h' x (List.mem_cons_self ..)
  unfold iN
  simp only[Bool.and_eq_true,decide_eq_true_eq]
  refine⟨⟨⟨h1,h2,h3⟩,h4⟩,Uy i2 fun g hg=>?_⟩
  have:=h' g (List.mem_cons_of_mem _ hg)
  exact⟨i1 g.no (List.mem_map.2 ⟨g,hg,rfl⟩),this.2⟩
theorem PH:∀{last:Int} {l:List Int},UpI l→(∀x,x∈l→last<x∧1≤x∧x<1073741824)→rQ last l=true
 | _,[],_,_=>rfl
 | last,x::l,h,h'=>by
  obtain⟨i1,i2⟩:=List.pairwise_cons.1 h
  obtain⟨h1,h2,h3⟩:=h' x (List.mem_cons_self ..)
  unfold rQ mG
  simp only[Bool.and_eq_true,decide_eq_true_eq]
  refine⟨⟨h1,h2,h3⟩,PH i2 fun y hy=>?_⟩
  have:=h' y (List.mem_cons_of_mem _ hy)
  exact⟨i1 y hy,this.2⟩
structure BkW (b:BK):Prop extends BkR b where
 ups:UpI (b.cards.map CA.id)
 dsq:∀d,d∈b.dead→d.sq≤b.sq
 mem:∀g,g∈b.gr→∀x,x∈g.mem→x∈b.cards.map CA.id
 upg:UpI (b.gr.map GR.no)
 gno:∀g,g∈b.gr→0≤g.no∧g.no<16
 upm:∀g,g∈b.gr→UpI g.mem
 mid:∀g,g∈b.gr→∀x,x∈g.mem→1≤x∧x<1073741824
 ng:b.gr.length≤16
 nm:∀g,g∈b.gr→g.mem.length≤48
theorem Wj{b:BK}(h:L3 b=true):BkW b:=by
 have hr:=O0 h
 unfold L3 at h
 simp only[Bool.and_eq_true,decide_eq_true_eq,List.all_eq_true] at h
 obtain⟨⟨-,h1⟩,h2⟩:=h
 have hu:=Sg hr.cok
 obtain⟨g1,g2⟩:=Px hr.gok
 have hm:∀g,g∈b.gr→∀x,x∈g.mem→x∈b.cards.map CA.id:=fun g hg x hx=>Classical.byContradiction fun hn=>by
  have hin:x∈iH g.mem (b.cards.map CA.id):=List.mem_filter.2 ⟨hx,by simpa using hn⟩
  rw[h2 g hg] at hin
  cases hin
 have hi:∀g,g∈b.gr→UpI g.mem:=fun g hg=>(EG (g2 g hg).2.2.2).1
 refine { toBkR:=hr,ups:=hu,dsq:=h1,mem:=hm,upg:=g1,gno:=fun g hg=>⟨(g2 g hg).2.1,(g2 g hg).2.2.1⟩,upm:=hi,mid:=fun g hg x hx=>((EG (g2 g hg).2.2.2).2 x hx).2,ng:=?_,nm:=fun g hg=>?_ }
 ·have:=Sj (a:=0) (b:=16) g1 fun x hx=>by
   obtain⟨g,hg,rfl⟩:=List.mem_map.1 hx
   exact⟨(g2 g hg).2.1,(g2 g hg).2.2.1⟩
  rw[List.length_map] at this
  omega
 ·have:=LI (hi g hg) hu (hm g hg)
  rw[List.length_map] at this
  have:=hr.nc
  omega
end

section
section
variable {α:Type} {f:α→Int}
theorem qX{x:Int}:∀{l:List α},UpI (l.map f)→(∀y,y∈l.take (aQ (l.map f) x)→f y<x)∧∀y,y∈l.drop (aQ (l.map f) x)→x≤f y
 | [],_=>⟨fun y hy=>by simp[aQ] at hy,fun y hy=>by simp[aQ] at hy⟩
 | z::l,h=>by
  obtain⟨h1,h2⟩:=List.pairwise_cons.1 h
  obtain⟨i1,i2⟩:=qX (x:=x) h2
  by_cases hz:f z<x
  ·have e:aQ ((z::l).map f) x=aQ (l.map f) x+1:=by simp[aQ,hz]
   rw[e,List.take_succ_cons,List.drop_succ_cons]
   refine⟨fun y hy=>?_,i2⟩
   rcases List.mem_cons.1 hy with rfl|hy
   ·exact hz
   ·exact i1 y hy
  ·have e:aQ ((z::l).map f) x=0:=by
    unfold aQ
    rw[List.length_eq_zero_iff,List.filter_eq_nil_iff]
    intro y hy
    rcases List.mem_cons.1 hy with rfl|hy
    ·simpa using hz
    ·have:=h1 y hy
     simp;omega
   rw[e,List.take_zero,List.drop_zero]
   refine⟨fun y hy=>absurd hy List.not_mem_nil,fun y hy=>?_⟩
   rcases List.mem_cons.1 hy with rfl|hy
   ·omega
   ·have:=h1 (f y) (List.mem_map.2 ⟨y,hy,rfl⟩)
    omega
theorem o9(l:List Int)(x:Int):aQ l x≤l.length:=List.length_filter_le _ _
theorem nG{x:Int}{l:List α}(hu:UpI (l.map f))(hx:x∈l.map f):∃y a b,l=a++y::b∧f y=x∧a.length=aQ (l.map f) x∧(∀z,z∈a→f z<x)∧∀z,z∈b→x<f z:=by
 obtain⟨y,hy,rfl⟩:=List.mem_map.1 hx
 obtain⟨a,b,rfl⟩:=List.append_of_mem hy
 rw[List.map_append,List.map_cons] at hu
 obtain⟨u1,u2,u3⟩:=List.pairwise_append.1 hu
 obtain⟨u4,u5⟩:=List.pairwise_cons.1 u2
 have ha:∀z,z∈a→f z<f y:=fun z hz=>u3 (f z) (List.mem_map.2 ⟨z,hz,rfl⟩) (f y) (List.mem_cons_self ..)
 have hb:∀z,z∈b→f y<f z:=fun z hz=>u4 (f z) (List.mem_map.2 ⟨z,hz,rfl⟩)
 refine⟨y,a,b,rfl,rfl,?_,ha,hb⟩
 unfold aQ
 rw[List.map_append,List.map_cons,List.filter_append,List.filter_eq_self.2,List.filter_eq_nil_iff.2,List.append_nil,List.length_map]
 ·intro z hz
  rcases List.mem_cons.1 hz with rfl|hz
  ·simp
  ·obtain⟨w,hw,rfl⟩:=List.mem_map.1 hz
   have:=hb w hw
   simp;omega
 ·intro z hz
  obtain⟨w,hw,rfl⟩:=List.mem_map.1 hz
  simpa using ha w hw
theorem oC{x:Int}{l:List α}(hu:UpI (l.map f))(hx:x∈l.map f):∃y,l[aQ (l.map f) x]?=some y∧f y=x∧l.find? (fun z=>decide (f z=x))=some y∧y∈l:=by
 obtain⟨y,a,b,e,hy,hl,ha,hb⟩:=nG hu hx
 refine⟨y,by rw[←hl,e];simp,hy,?_,by rw[e];simp⟩
 rw[e,List.find?_append,List.find?_eq_none.2 fun z hz=>by have:=ha z hz;simp;omega]
 simp[hy]
theorem Fw{x:Int}{l:List α}(hx:x∉l.map f):l.find? (fun z=>decide (f z=x))=none :=
 List.find?_eq_none.2 fun z hz=>by
  have:f z≠x:=fun h=>hx (List.mem_map.2 ⟨z,hz,h⟩)
  simpa using this
theorem yU{x:Int}{l:List α}(hu:UpI (l.map f))(hx:x∈l.map f):l.filter (fun z=>!decide (f z=x))=l.take (aQ (l.map f) x)++l.drop (aQ (l.map f) x+1):=by
 obtain⟨y,a,b,e,hy,hl,ha,hb⟩:=nG hu hx
 have e1:l.take (aQ (l.map f) x)=a:=by rw[←hl];rw[e];simp
 have e2:l.drop (aQ (l.map f) x+1)=b:=by rw[←hl];rw[e];simp
 rw[e1,e2,e,List.filter_append,List.filter_cons,List.filter_eq_self.2,List.filter_eq_self.2]
 ·simp[hy]
 ·intro z hz
  have:=hb z hz
  simp;omega
 ·intro z hz
  have:=ha z hz
  simp;omega
theorem Bo{x:Int}{l:List α}(hx:x∉l.map f):l.filter (fun z=>!decide (f z=x))=l :=
 List.filter_eq_self.2 fun z hz=>by
  have:f z≠x:=fun h=>hx (List.mem_map.2 ⟨z,hz,h⟩)
  simpa using this
theorem yV{x:Int}{l:List α}(hu:UpI (l.map f))(hx:x∈l.map f)(v:α):l.map (fun z=>if f z=x then v else z)=l.set (aQ (l.map f) x) v:=by
 obtain⟨y,a,b,e,hy,hl,ha,hb⟩:=nG hu hx
 rw[←hl]
 rw[e,List.map_append,List.map_cons,if_pos hy,List.set_append_right _ _ (Nat.le_refl _),Nat.sub_self,List.set_cons_zero]
 have e1:a.map (fun z=>if f z=x then v else z)=a:=(List.map_congr_left fun z hz=>if_neg (by have:=ha z hz;omega)).trans (List.map_id' a)
 have e2:b.map (fun z=>if f z=x then v else z)=b:=(List.map_congr_left fun z hz=>if_neg (by have:=hb z hz;omega)).trans (List.map_id' b)
 rw[e1,e2]
theorem Lb{x:Int}{l:List α}(hu:UpI (l.map f))(hx:x∉l.map f){v:α}(hv:f v=x):UpI ((l.take (aQ (l.map f) x)++v::l.drop (aQ (l.map f) x)).map f):=by
 obtain⟨h1,h2⟩:=qX (x:=x) hu
 have e:=List.take_append_drop (aQ (l.map f) x) l
 generalize aQ (l.map f) x=k at h1 h2 e ⊢
 rw[←e,List.map_append] at hu
 obtain⟨u1,u2,u3⟩:=List.pairwise_append.1 hu
 rw[List.map_append,List.map_cons,hv]
 have h3:∀y,y∈(l.drop k).map f→x<y:=fun y hy=>by
  obtain⟨z,hz,rfl⟩:=List.mem_map.1 hy
  have:=h2 z hz
  have hne:f z≠x:=fun h=>hx (List.mem_map.2 ⟨z,List.mem_of_mem_drop hz,h⟩)
  omega
 have h4:∀y,y∈(l.take k).map f→y<x:=fun y hy=>by
  obtain⟨z,hz,rfl⟩:=List.mem_map.1 hy
  exact h1 z hz
 refine List.pairwise_append.2 ⟨u1,List.pairwise_cons.2 ⟨h3,u2⟩,fun y hy z hz=>?_⟩
 rcases List.mem_cons.1 hz with rfl|hz
 ·exact h4 y hy
 ·exact u3 y hy z hz
theorem Lj{l:List α}{k:Nat}{v z:α}:z∈l.take k++v::l.drop k↔z=v∨z∈l:=by
 have e:=List.take_append_drop k l
 constructor
 ·intro h
  rcases List.mem_append.1 h with h|h
  ·exact .inr (List.mem_of_mem_take h)
  ·rcases List.mem_cons.1 h with h|h
   ·exact .inl h
   ·exact .inr (List.mem_of_mem_drop h)
 ·rintro(rfl|h)
  ·simp
  ·rw[←e] at h
   rcases List.mem_append.1 h with h|h
   ·exact List.mem_append.2 (.inl h)
   ·exact List.mem_append.2 (.inr (List.mem_cons_of_mem _ h))
end
end

section
theorem Ri{l:List Int}{x:Int}(hu:UpI l):UpI (gT l x):=by
 unfold gT
 split
 ·exact hu
 ·have h0:UpI (l.map id):=by rw[List.map_id];exact hu
  have:=Lb (f:=id) (l:=l) (x:=x) h0 (by rw[List.map_id];assumption) (v:=x) rfl
  rw[List.map_id,List.map_id] at this
  exact this
theorem Eb{l:List Int}{x y:Int}:y∈gT l x↔y=x∨y∈l:=by
 unfold gT
 split
 ·rename_i h
  exact⟨.inr,fun q=>q.elim (fun e=>e ▸ h) fun q=>q⟩
 ·exact Lj
theorem Dc{l:List Int}{x:Int}(hu:UpI l):UpI (dF l x):=hu.filter _
theorem pK{l:List Int}{x y:Int}:y∈dF l x↔y∈l∧y≠x:=by
 unfold dF
 rw[List.mem_filter]
 simp
theorem gJ{l:List GR}(hu:UpI (l.map GR.no)){g:Int}(hg:g∈l.map GR.no):∃y,y∈l∧y.no=g∧bI l g=y.mem∧l[aQ (l.map GR.no) g]?=some y:=by
 obtain⟨y,h1,h2,h3,h4⟩:=oC (f:=GR.no) hu hg
 exact⟨y,h4,h2,by unfold bI;rw[h3];rfl,h1⟩
theorem sG{cs:List CA}{ds:List DE}{id:Int}(h:(bD cs ds id).2=0):(bD cs ds id).1∈cs∧(bD cs ds id).1.id=id:=by
 unfold bD at h ⊢
 split
 ·rename_i c hc
  have:=List.find?_some hc
  exact⟨List.mem_of_find?_eq_some hc,by simpa using this⟩
 ·rename_i hc
  rw[hc] at h
  simp only at h
  split at h<;>omega
theorem HX(p:F8):∀(L:List Nat) (f:F8),(∀i,i∈L→i<8)→(∀i,i<8→fH (f.get i)=true)→(∀i,i<8→fH (p.get i)=true)→∀i,i<8→fH ((fD f p L).get i)=true
 | [],f,_,h,_,i,hi=>h i hi
 | k::L,f,hL,h,hp,i,hi=>by
  show fH ((fD (f.set k (p.get k)) p L).get i)=true
  have hk:=hL k (List.mem_cons_self ..)
  refine HX p L _ (fun j hj=>hL j (List.mem_cons_of_mem _ hj)) (fun j hj=>?_) hp i hi
  rw[F8.KZ _ _ _ _ hk]
  split
  ·exact hp k hk
  ·exact h j hj
theorem GJ{p:PA}(h:bH p=0):p.mask.toNat≤511∧p.lab.toNat<65536∧∀i,i<8→fH (p.f.get i)=true:=by
 unfold bH at h
 split at h
 ·omega
 ·split at h
  ·omega
  ·split at h
   ·rename_i h1 h2 h3
    refine⟨by omega,by omega,fun i hi=>?_⟩
    have:=List.all_eq_true.1 h3 i (List.mem_range.2 hi)
    rw[Bool.and_eq_true] at this
    exact this.1
   ·omega
theorem FX{c:CA}{p:PA}(hp:bH p=0)(h1:1≤c.id)(h2:c.id<1073741824)(h3:0≤c.ver)(h4:c.ver≤1099511627776)(h5:c.lab.toNat<65536)(h6:c.f.l.all fH=true):iE (dB c p)=true:=by
 obtain⟨p1,p2,p3⟩:=GJ hp
 unfold iE dB mG big
 simp only[Bool.and_eq_true,decide_eq_true_eq]
 refine⟨⟨h1,h2,by split<;>omega,by split<;>omega,by split<;>omega⟩,?_⟩
 exact(F8.KD _ _).2 (HX p.f _ c.f (fun i=>tH) ((F8.KD _ _).1 h6) p3)
theorem Pv{p:PA}(hp:bH p=0){n:Int}(h1:1≤n)(h2:n<1073741824):iE (cA n p)=true :=
 FX hp h1 h2 (show(0:Int)≤0 by decide) (show(0:Int)≤1099511627776 by decide) (show(0:UInt32).toNat<65536 by decide) (show f80.l.all fH=true by decide +kernel)
theorem fN{c:CA}(h:iE c=true):(1≤c.id∧c.id<1073741824∧1≤c.ver∧c.ver≤1099511627776∧c.lab.toNat<65536)∧c.f.l.all fH=true:=by
 unfold iE mG big at h
 simpa only[Bool.and_eq_true,decide_eq_true_eq] using h
theorem vH{nx:Int}:∀{last:Int} {cs:List CA},jV nx last cs=true↔UpI (cs.map CA.id)∧∀c,c∈cs→iE c=true∧last<c.id∧c.id<nx
 | last,[]=>⟨fun _=>⟨.nil,fun c hc=>absurd hc List.not_mem_nil⟩,fun _=>rfl⟩
 | last,x::l=>by
  unfold jV
  simp only[Bool.and_eq_true,decide_eq_true_eq]
  rw[vH (last:=x.id) (cs:=l),List.map_cons,show UpI (x.id::l.map CA.id)↔_ from List.pairwise_cons]
  constructor
  ·rintro⟨⟨h1,h2,h3⟩,h4,h5⟩
   refine⟨⟨fun y hy=>?_,h4⟩,fun c hc=>?_⟩
   ·obtain⟨c,hc,rfl⟩:=List.mem_map.1 hy
    exact(h5 c hc).2.1
   ·rcases List.mem_cons.1 hc with rfl|hc
    ·exact⟨h1,h2,h3⟩
    ·have:=h5 c hc
     exact⟨this.1,by omega,this.2.2⟩
  ·rintro⟨⟨h1,h2⟩,h3⟩
   obtain⟨q1,q2,q3⟩:=h3 x (List.mem_cons_self ..)
   refine⟨⟨q1,q2,q3⟩,h2,fun c hc=>?_⟩
   have:=h3 c (List.mem_cons_of_mem _ hc)
   exact⟨this.1,h1 c.id (List.mem_map.2 ⟨c,hc,rfl⟩),this.2.2⟩
theorem qQ{nx:Int}{cs:List CA}:∀{pre ds:List DE},zN nx cs pre ds=true↔(∀d,d∈ds→(1≤d.id∧d.id<nx∧1≤d.ver∧d.ver≤1099511627776∧0≤d.sq∧d.sq≤1099511627776)∧d.id∉cs.map CA.id∧∀e,e∈pre→e.id≠d.id∧e.sq≤d.sq)∧ds.Pairwise (fun e d=>e.id≠d.id∧e.sq≤d.sq)
 | pre,[]=>⟨fun _=>⟨fun d hd=>absurd hd List.not_mem_nil,.nil⟩,fun _=>rfl⟩
 | pre,x::l=>by
  unfold zN Wl big
  simp only[Bool.and_eq_true,decide_eq_true_eq,List.all_eq_true]
  rw[qQ (pre:=pre++[x]) (ds:=l),List.pairwise_cons]
  constructor
  ·rintro⟨⟨⟨h1,h2⟩,h3⟩,h4,h5⟩
   refine⟨fun d hd=>?_,fun d hd=>(h4 d hd).2.2 x (by simp),h5⟩
   rcases List.mem_cons.1 hd with rfl|hd
   ·exact⟨h1,h2,h3⟩
   ·have:=h4 d hd
    exact⟨this.1,this.2.1,fun e he=>this.2.2 e (List.mem_append.2 (.inl he))⟩
  ·rintro⟨h1,h2,h3⟩
   obtain⟨q1,q2,q3⟩:=h1 x (List.mem_cons_self ..)
   refine⟨⟨⟨q1,q2⟩,q3⟩,fun d hd=>?_,h3⟩
   have:=h1 d (List.mem_cons_of_mem _ hd)
   refine⟨this.1,this.2.1,fun e he=>?_⟩
   rcases List.mem_append.1 he with he|he
   ·exact this.2.2 e he
   ·rw[List.mem_singleton] at he
    subst he
    exact h2 d hd
theorem yO{b:BK}(h1:1≤b.nx)(h2:b.nx≤1073741824)(h3:b.cards.length≤48)(h4:b.dead.length≤40)(h5:UpI (b.cards.map CA.id))(h6:∀c,c∈b.cards→iE c=true∧c.id<b.nx)
 (h7:∀d,d∈b.dead→(1≤d.id∧d.id<b.nx∧1≤d.ver∧d.ver≤1099511627776∧0≤d.sq∧d.sq≤b.sq)∧d.id∉b.cards.map CA.id)(h8:b.dead.Pairwise (fun e d=>e.id≠d.id∧e.sq≤d.sq))(h9:0≤b.sq)(h10:b.sq≤1099511627776)
 (h11:UpI (b.gr.map GR.no))(h12:∀g,g∈b.gr→(0≤g.no∧g.no<16)∧UpI g.mem∧∀x,x∈g.mem→x∈b.cards.map CA.id):BkW b:=by
 have hc:jV b.nx 0 b.cards=true:=vH.2 ⟨h5,fun c hc=>⟨(h6 c hc).1,by have:=(fN (h6 c hc).1).1;omega,(h6 c hc).2⟩⟩
 have hm:∀g,g∈b.gr→∀x,x∈g.mem→1≤x∧x<1073741824:=fun g hg x hx=>by
  obtain⟨c,hc,rfl⟩:=List.mem_map.1 ((h12 g hg).2.2 x hx)
  have:=(fN (h6 c hc).1).1
  omega
 refine Wj ?_
 unfold L3 VD big mG
 simp only[Bool.and_eq_true,decide_eq_true_eq,List.all_eq_true]
 refine⟨⟨⟨⟨⟨⟨h1,h2,h3,h4⟩,hc,?_⟩,h9,h10⟩,Uy h11 fun g hg=>?_⟩,fun d hd=>(h7 d hd).1.2.2.2.2.2⟩,fun g hg=>?_⟩
 ·refine qQ.2 ⟨fun d hd=>?_,h8⟩
  obtain⟨q1,q2⟩:=h7 d hd
  exact⟨by omega,q2,fun e he=>absurd he List.not_mem_nil⟩
 ·obtain⟨q1,q2,q3⟩:=h12 g hg
  exact⟨by omega,q1.1,q1.2,PH q2 fun x hx=>by have:=hm g hg x hx;omega⟩
 ·unfold iH
  refine List.filter_eq_nil_iff.2 fun x hx=>?_
  simpa using(h12 g hg).2.2 x hx
end

section
def eQ(l:List TU):List Int:=l.foldl (fun a t=>gT a t.id) []
def kN:List TU→Int→Option Int
 | [],_=>none
 | t::l,id=>if t.id=id then some t.old else kN l id
def fT:List TU→Int→Option TU
 | [],_=>none
 | t::l,id=>match fT l id with
  | some v=>some v
  | none=>if t.id=id then some t else none
def kO(old:Int)(t:TU):Option IT :=
 if old=t.new then none else if old=0 then some ⟨1,t.card⟩ else if t.new=0 then some ⟨2,{ ca0 with id:=t.id }⟩ else some ⟨3,t.card⟩
def itS(l:List TU)(id:Int):List IT:=match kN l id,fT l id with
 | some o,some t=>(kO o t).toList
 | _,_=>[]
def lW(l:List TU):List IT:=(eQ l).flatMap (itS l)
def upS(l:List TU)(from_ to_ cur:Int):List TU:=l.filter fun t=>decide (from_<t.sq∧t.sq≤to_∧t.id≤cur)
def mU(l:List TU)(pg:Nat):Nat→Nat
 | 0=>0
 | n+1=>if (lW (l.take (n+1))).length≤pg then n+1 else mU l pg n
def pgN(page:Int):Nat:=(max page 0).toNat
def zM(l:List TU)(now:Int)(n:Nat):List IT × Int:=(lW (l.take n),if n=l.length then now else(l.getD n tuZ).sq - 1)
def tN(l:List TU)(from_ now cur page:Int):List IT × Int :=
 zM (upS l from_ now cur) now (mU (upS l from_ now cur) (pgN page) (upS l from_ now cur).length)
def TOk(t:TU):Prop:=t.new≠0→t.card.id=t.id
theorem jJ(l:List TU)(t:TU):eQ (l++[t])=gT (eQ l) t.id:=by
 unfold eQ
 rw[List.foldl_append];rfl
theorem mM{α:Type}{P:List α→Prop}(h0:P [])(h1:∀l x,P l→P (l++[x])):∀l,P l:=fun l=>by
 have:∀n,n≤l.length→P (l.take n):=fun n=>by
  induction n with
  | zero=>intro _;exact h0
  | succ n ih =>
   intro h
   obtain⟨x,hx⟩:=bW l (by omega:n<l.length)
   rw[aP hx]
   exact h1 _ _ (ih oM)
 have h:=this l.length (Nat.le_refl _)
 rwa [List.take_length] at h
theorem Dm:∀l:List TU,UpI (eQ l):=mM .nil fun l x h=>by rw[jJ];exact Ri h
theorem nC{id:Int}:∀l:List TU,id∈eQ l↔id∈l.map TU.id:=mM (by simp[eQ]) fun l x h=>by
 rw[jJ,Eb,h,List.map_append]
 simp[or_comm]
theorem lI:∀(l:List TU) (x:TU) (id:Int),kN (l++[x]) id=(kN l id).or (if x.id=id then some x.old else none)
 | [],x,id=>by simp[kN]
 | t::l,x,id=>by
  rw[List.cons_append,kN,kN,lI l x id]
  split<;>simp
theorem fO:∀(l:List TU) (x:TU) (id:Int),fT (l++[x]) id=if x.id=id then some x else fT l id
 | [],x,id=>by simp[fT]
 | t::l,x,id=>by
  rw[List.cons_append,fT,fO l x id,fT]
  by_cases h:x.id=id
  ·rw[if_pos h,if_pos h]
  ·rw[if_neg h,if_neg h]
theorem lH:∀{l:List TU} {id:Int},kN l id=none↔id∉l.map TU.id
 | [],id=>by simp[kN]
 | t::l,id=>by
  rw[kN]
  by_cases h:t.id=id
  ·simp[h]
  ·have h':¬id=t.id:=fun e=>h e.symm
   rw[if_neg h,lH,List.map_cons,List.mem_cons]
   simp[h']
theorem oE{id:Int}:∀l:List TU,fT l id=none↔id∉l.map TU.id:=mM (by simp[fT]) fun l x h=>by
 rw[fO,List.map_append]
 by_cases e:x.id=id
 ·rw[if_pos e];simp[e]
 ·have e':¬id=x.id:=fun q=>e q.symm
  rw[if_neg e,h];simp[e']
theorem vS{id:Int}{t:TU}:∀l:List TU,fT l id=some t→t∈l∧t.id=id:=mM (by simp[fT]) fun l x h=>by
 rw[fO]
 by_cases e:x.id=id
 ·rw[if_pos e]
  rintro h
  cases h
  exact⟨by simp,e⟩
 ·rw[if_neg e]
  intro q
  exact⟨List.mem_append.2 (.inl (h q).1),(h q).2⟩
theorem Aq{id:Int}:∀l:List TU,fF l id=(fT l id).map TU.new:=mM rfl fun l x h=>by
 rw[jP,fO]
 split
 ·rfl
 ·exact h
theorem Dq(l:List TU)(id:Int):(itS l id).length≤1:=by
 unfold itS
 split
 ·unfold kO
  split
  ·simp
  ·split
   ·simp
   ·split<;>simp
 ·simp
theorem U9{l:List TU}(hl:∀t,t∈l→TOk t){id:Int}{x:IT}(hx:x∈itS l id):x.c.id=id:=by
 unfold itS at hx
 split at hx
 ·rename_i o t ho ht
  obtain⟨h1,h2⟩:=vS l ht
  have:=hl t h1
  unfold kO at hx
  split at hx
  ·simp at hx
  ·split at hx
   ·rename_i q1 q2
    simp only[Option.toList_some,List.mem_singleton] at hx
    subst hx
    simp only
    rw[this oM,h2]
   ·split at hx
    ·simp only[Option.toList_some,List.mem_singleton] at hx
     subst hx
     exact h2
    ·rename_i q3
     simp only[Option.toList_some,List.mem_singleton] at hx
     subst hx
     simp only
     rw[this q3,h2]
 ·simp at hx
theorem Gz(l:List TU):(lW l).length≤(eQ l).length:=by
 unfold lW
 generalize eQ l=ids
 induction ids with
 | nil=>simp
 | cons a r ih =>
  rw[List.flatMap_cons,List.length_append,List.length_cons]
  have:=Dq l a
  omega
theorem tW:∀l:List TU,(eQ l).length≤l.length:=mM (Nat.le_refl _) fun l x h=>by
 rw[jJ,List.length_append,List.length_singleton]
 unfold gT
 split
 ·omega
 ·rw[List.length_append,List.length_cons,List.length_take,List.length_drop]
  omega
theorem QT:lW []=[]:=rfl
theorem Pr{f:Int→List IT}(hf:∀i x,x∈f i→x.c.id=i){ids:List Int}(hu:UpI ids){id:Int}(hn:id∉ids){x:IT}(hx:f id=[x]) :
  (gT ids id).flatMap f=(ids.flatMap f).take (((ids.take (aQ ids id)).flatMap f).length)++x::(ids.flatMap f).drop (((ids.take (aQ ids id)).flatMap f).length)∧(∀y,y∈(ids.flatMap f).take (((ids.take (aQ ids id)).flatMap f).length)→y.c.id<id)∧∀y,y∈(ids.flatMap f).drop (((ids.take (aQ ids id)).flatMap f).length)→id<y.c.id:=by
 have e:ids.flatMap f=(ids.take (aQ ids id)).flatMap f++(ids.drop (aQ ids id)).flatMap f:=by rw[←List.flatMap_append,List.take_append_drop]
 have hu':UpI (ids.map _root_.id):=by rw[List.map_id];exact hu
 obtain⟨b1,b2⟩:=qX (f:=_root_.id) (x:=id) hu'
 rw[List.map_id] at b1 b2
 rw[e,List.take_left' rfl,List.drop_left' rfl]
 refine⟨?_,fun y hy=>?_,fun y hy=>?_⟩
 ·unfold gT
  rw[if_neg hn,List.flatMap_append,List.flatMap_cons,hx]
  rfl
 ·obtain⟨i,hi,hy⟩:=List.mem_flatMap.1 hy
  rw[hf i y hy]
  exact b1 i hi
 ·obtain⟨i,hi,hy⟩:=List.mem_flatMap.1 hy
  rw[hf i y hy]
  have:=b2 i hi
  have hne:i≠id:=fun q=>hn (q ▸ List.mem_of_mem_drop hi)
  simp only[_root_.id] at this
  omega
theorem Mt{f:Int→List IT}{ids:List Int}{id:Int}(hx:f id=[]):(gT ids id).flatMap f=ids.flatMap f:=by
 unfold gT
 split
 ·rfl
 ·rw[List.flatMap_append,List.flatMap_cons,hx,List.nil_append,←List.flatMap_append,List.take_append_drop]
theorem qT(l:List TU)(pg n:Nat):mU l pg (n+1)=if (lW (l.take (n+1))).length≤pg then n+1 else mU l pg n:=rfl
theorem KU(l:List TU)(pg:Nat):∀n,mU l pg n≤n
 | 0=>Nat.le_refl _
 | n+1=>by
  unfold mU
  split
  ·exact Nat.le_refl _
  ·exact Nat.le_succ_of_le (KU l pg n)
end

section
theorem lN{B:BK}{x:ED}{e:Int}(h:doT B x=(e,B,[])):doB B x=B:=by
 unfold doB
 rw[h]
 simp
theorem VR{cs:List CA}{id:Int}{x:CA}(h:x.id=id):(wrC cs id x).map CA.id=cs.map CA.id:=by
 unfold wrC
 rw[List.map_map]
 refine List.map_congr_left fun c _=>?_
 simp only[Function.comp]
 split
 ·rename_i e;rw[h,e]
 ·rfl
theorem pV{B:BK}(hb:BkW B)(g:Int):(bI B.gr g).length≤48:=by
 unfold bI
 cases h:B.gr.find? fun x=>decide (x.no=g) with
 | none=>simp
 | some x=>exact hb.nm x (List.mem_of_find?_eq_some h)
theorem Af{B:BK}(hb:BkW B)(g:Int):UpI (bI B.gr g)∧∀x,x∈bI B.gr g→x∈B.cards.map CA.id:=by
 unfold bI
 cases h:B.gr.find? fun x=>decide (x.no=g) with
 | none=>exact⟨.nil,fun x hx=>absurd hx List.not_mem_nil⟩
 | some y=>exact⟨hb.upm y (List.mem_of_find?_eq_some h),hb.mem y (List.mem_of_find?_eq_some h)⟩
theorem BkW.cds{B:BK}(hb:BkW B):∀c,c∈B.cards→iE c=true∧c.id<B.nx:=fun c hc=>by
 have:=(vH.1 hb.cok).2 c hc
 exact⟨this.1,this.2.2⟩
theorem BkW.dds{B:BK}(hb:BkW B):∀d,d∈B.dead→(1≤d.id∧d.id<B.nx∧1≤d.ver∧d.ver≤1099511627776∧0≤d.sq∧d.sq≤B.sq)∧d.id∉B.cards.map CA.id:=fun d hd=>by
 have:=(qQ.1 hb.dok).1 d hd
 have h:=hb.dsq d hd
 exact⟨by omega,this.2.1⟩
theorem BkW.dps{B:BK}(hb:BkW B):B.dead.Pairwise (fun e d=>e.id≠d.id∧e.sq≤d.sq):=(qQ.1 hb.dok).2
theorem BkW.grs{B:BK}(hb:BkW B):∀g,g∈B.gr→(0≤g.no∧g.no<16)∧UpI g.mem∧∀x,x∈g.mem→x∈B.cards.map CA.id:=fun g hg=>⟨hb.gno g hg,hb.upm g hg,hb.mem g hg⟩
theorem oI{l:List GR}{g:Int}{m:List Int}:(fK l g m).map GR.no=l.map GR.no:=by
 unfold fK
 rw[List.map_map]
 refine List.map_congr_left fun c _=>?_
 simp only[Function.comp]
 split
 ·rename_i e;exact e.symm
 ·rfl
theorem Vq{l:List GR}{id:Int}:(lvG l id).map GR.no=l.map GR.no:=by
 unfold lvG
 rw[List.map_map];rfl
theorem BkW.Rk{B:BK}(hb:BkW B){sq:Int}(h1:B.sq≤sq)(h2:sq≤1099511627776){gr:List GR}(h11:UpI (gr.map GR.no))(h12:∀g,g∈gr→(0≤g.no∧g.no<16)∧UpI g.mem∧∀x,x∈g.mem→x∈B.cards.map CA.id):BkW ⟨sq,B.nx,B.cards,B.dead,gr⟩ :=
 yO hb.nx1 hb.nx2 hb.nc hb.nd hb.ups hb.cds (fun d hd=>by have:=hb.dds d hd;exact⟨⟨this.1.1,this.1.2.1,this.1.2.2.1,this.1.2.2.2.1,this.1.2.2.2.2.1,by have:=this.1.2.2.2.2.2;simp only;omega⟩,this.2⟩) hb.dps (by have:=hb.sq1;simp only;omega) h2 h11 h12
theorem Es{B:BK}(hb:BkW B){g:Int}{m:List Int}(hg:0≤g∧g<16)(hm:UpI m∧∀x,x∈m→x∈B.cards.map CA.id):∀y,y∈fK B.gr g m→(0≤y.no∧y.no<16)∧UpI y.mem∧∀x,x∈y.mem→x∈B.cards.map CA.id:=fun y hy=>by
 obtain⟨z,hz,rfl⟩:=List.mem_map.1 hy
 split
 ·exact⟨hg,hm⟩
 ·exact hb.grs z hz
theorem bU{x:ED}(h:aR x=0):1≤x.kd∧x.kd≤7∧(0≤x.gr∧x.gr<16)∧(edI x.kd=true→1≤x.id∧x.id<1073741824)∧(edP x.kd=true→bH x.p=0):=by
 unfold aR mG at h
 split at h
 ·omega
 ·split at h
  ·omega
  ·split at h
   ·omega
   ·rename_i h1 h2 h3
    refine⟨by omega,by omega,by omega,fun q=>?_,fun q=>?_⟩
    ·have:¬(x.id<1∨1073741824≤x.id):=fun hn=>h3 (.inr (.inr ⟨q,hn⟩))
     omega
    ·rw[if_pos q] at h
     exact h
theorem doW{B:BK}(hb:BkW B)(x:ED):BkW (doB B x):=by
 by_cases he:aR x=0
 rotate_left
 ·rw[lN (x:=x) (e:=aR x) (by unfold doT;rw[if_pos he])];exact hb
 by_cases hs:1099511627676<B.sq
 ·rw[lN (x:=x) (e:=8) (by unfold doT;rw[if_neg (by simpa using he),if_pos hs])];exact hb
 obtain⟨e1,e2,e3,e4,e5⟩:=bU he
 have hsq1:=hb.sq1
 unfold doB doT
 rw[if_neg (by simpa using he),if_neg hs]
 have same:BkW { B with sq:=B.sq+(([]:List Int).length:Int) }:=by
  have:({ B with sq:=B.sq+(([]:List Int).length:Int) }:BK)=B:=by simp
  rw[this];exact hb
 by_cases k1:x.kd=1
 ·rw[if_pos k1]
  split
  ·exact same
  ·rename_i hf
   have hp:=e5 (by rw[k1];rfl)
   have hn1:=hb.nx1
   refine yO (by simp only;omega) (by simp only;omega) (by simp only[List.length_append,List.length_singleton];omega) hb.nd ?_ (fun c hc=>?_) (fun d hd=>?_) hb.dps (by simp only[List.length_singleton];omega) (by simp only[List.length_singleton];omega) hb.upg (fun g hg=>?_)
   ·simp only[List.map_append,List.map_cons,List.map_nil]
    refine List.pairwise_append.2 ⟨hb.ups,List.pairwise_singleton _ _,fun a ha b hb'=>?_⟩
    obtain⟨c,hc,rfl⟩:=List.mem_map.1 ha
    rw[List.mem_singleton] at hb'
    subst hb'
    exact(hb.cds c hc).2
   ·rcases List.mem_append.1 hc with hc|hc
    ·have:=hb.cds c hc
     exact⟨this.1,by simp only;omega⟩
    ·rw[List.mem_singleton] at hc
     subst hc
     exact⟨Pv hp hn1 oM,by show B.nx<B.nx+1;omega⟩
   ·obtain⟨q1,q2⟩:=hb.dds d hd
    refine⟨by simp only[List.length_singleton];omega,fun hm=>?_⟩
    simp only[List.map_append,List.map_cons,List.map_nil,List.mem_append,List.mem_singleton] at hm
    rcases hm with hm|hm
    ·exact q2 hm
    ·have:(cA B.nx x.p).id=B.nx:=rfl
     omega
   ·obtain⟨q1,q2,q3⟩:=hb.grs g hg
    exact⟨q1,q2,fun y hy=>by simp only[List.map_append];exact List.mem_append.2 (.inl (q3 y hy))⟩
 rw[if_neg k1]
 by_cases k2:x.kd=2
 ·rw[if_pos k2]
  split
  ·exact same
  ·split
   ·exact same
   ·rename_i h1 h2
    have hp:=e5 (by rw[k2];rfl)
    have hi:=e4 (by rw[k2];rfl)
    obtain⟨g1,g2⟩:=sG (Classical.not_not.1 h1)
    obtain⟨c,hc⟩:∃c,(bD B.cards B.dead x.id).1=c:=⟨_,rfl⟩
    rw[hc] at g1 g2 h2 ⊢
    obtain⟨⟨p1,p2,p3,p4,p5⟩,p6⟩:=fN (hb.cds c g1).1
    have hok:=FX hp p1 p2 oM p4 p5 p6
    have hid:(dB c x.p).id=x.id:=g2
    have hids:=VR (cs:=B.cards) hid
    refine yO hb.nx1 hb.nx2 (by simp only[wrC,List.length_map];exact hb.nc) hb.nd (by simp only;rw[hids];exact hb.ups) (fun y hy=>?_) (fun d hd=>?_) hb.dps (by simp only[List.length_singleton];omega) (by simp only[List.length_singleton];omega) hb.upg (fun g hg=>?_)
    ·obtain⟨z,hz,rfl⟩:=List.mem_map.1 hy
     split
     ·exact⟨hok,by rw[hid,←g2];exact(hb.cds c g1).2⟩
     ·exact hb.cds z hz
    ·obtain⟨q1,q2⟩:=hb.dds d hd
     exact⟨by simp only[List.length_singleton];omega,by simp only;rw[hids];exact q2⟩
    ·simp only;rw[hids];exact hb.grs g hg
 rw[if_neg k2]
 by_cases k3:x.kd=3
 ·rw[if_pos k3]
  split
  ·exact same
  ·rename_i h1
   obtain⟨g1,g2⟩:=sG (Classical.not_not.1 h1)
   obtain⟨c,hc⟩:∃c,(bD B.cards B.dead x.id).1=c:=⟨_,rfl⟩
   rw[hc] at g1 g2 ⊢
   obtain⟨⟨p1,p2,p3,p4,p5⟩,p6⟩:=fN (hb.cds c g1).1
   have hmem:∀y,y∈(B.cards.filter fun z=>!decide (z.id=x.id)).map CA.id↔y∈B.cards.map CA.id∧y≠x.id:=fun y=>by
    constructor
    ·intro hy
     obtain⟨z,hz,rfl⟩:=List.mem_map.1 hy
     obtain⟨z1,z2⟩:=List.mem_filter.1 hz
     exact⟨List.mem_map.2 ⟨z,z1,rfl⟩,by simpa using z2⟩
    ·rintro⟨hy,hne⟩
     obtain⟨z,hz,rfl⟩:=List.mem_map.1 hy
     exact List.mem_map.2 ⟨z,List.mem_filter.2 ⟨hz,by simpa using hne⟩,rfl⟩
   have hd2:∀d,d∈B.dead++[⟨x.id,c.ver,B.sq+1⟩]→(1≤d.id∧d.id<B.nx∧1≤d.ver∧d.ver≤1099511627776∧0≤d.sq∧d.sq≤B.sq+1)∧d.id∉(B.cards.filter fun z=>!decide (z.id=x.id)).map CA.id:=fun d hd=>by
    rcases List.mem_append.1 hd with hd|hd
    ·obtain⟨q1,q2⟩:=hb.dds d hd
     exact⟨by omega,fun h=>q2 ((hmem _).1 h).1⟩
    ·rw[List.mem_singleton] at hd
     subst hd
     have:=(hb.cds c g1).2
     exact⟨by simp only;omega,fun h=>((hmem _).1 h).2 rfl⟩
   have hp2:(B.dead++[(⟨x.id,c.ver,B.sq+1⟩:DE)]).Pairwise (fun e d=>e.id≠d.id∧e.sq≤d.sq):=by
    refine List.pairwise_append.2 ⟨hb.dps,List.pairwise_singleton _ _,fun a ha b hb'=>?_⟩
    rw[List.mem_singleton] at hb'
    subst hb'
    obtain⟨q1,q2⟩:=hb.dds a ha
    exact⟨fun h=>q2 (by rw[h];exact List.mem_map.2 ⟨c,g1,g2⟩),by simp only;omega⟩
   have hnd:=hb.nd
   have hcap:(∀d,d∈pC (B.dead++[⟨x.id,c.ver,B.sq+1⟩])→d∈B.dead++[⟨x.id,c.ver,B.sq+1⟩])∧(pC (B.dead++[⟨x.id,c.ver,B.sq+1⟩])).length≤40∧(pC (B.dead++[⟨x.id,c.ver,B.sq+1⟩])).Pairwise (fun e d=>e.id≠d.id∧e.sq≤d.sq):=by
    unfold pC
    split
    ·refine⟨fun d hd=>List.mem_of_mem_drop hd,?_,hp2.sublist (List.drop_sublist _ _)⟩
     simp only[List.length_drop,List.length_append,List.length_singleton]
     omega
    ·exact⟨fun d hd=>hd,by omega,hp2⟩
   obtain⟨w1,w2,w3⟩:=hcap
   refine yO hb.nx1 hb.nx2 (Nat.le_trans (List.length_filter_le _ _) hb.nc) w2 ?_ (fun y hy=>hb.cds y (List.mem_filter.1 hy).1) (fun d hd=>?_) w3 (by simp only[List.length_singleton];omega) (by simp only[List.length_singleton];omega) (by simp only;rw[Vq];exact hb.upg) (fun g hg=>?_)
   ·exact hb.ups.sublist (List.Sublist.map _ List.filter_sublist)
   ·have:=hd2 d (w1 d hd)
    exact⟨by simp only[List.length_singleton];omega,this.2⟩
   ·obtain⟨z,hz,rfl⟩:=List.mem_map.1 hg
    obtain⟨q1,q2,q3⟩:=hb.grs z hz
    refine⟨q1,Dc q2,fun y hy=>?_⟩
    obtain⟨y1,y2⟩:=pK.1 hy
    exact(hmem y).2 ⟨q3 y y1,y2⟩
 rw[if_neg k3]
 by_cases k4:x.kd=4
 ·rw[if_pos k4]
  split
  ·exact same
  ·rename_i hn
   refine hb.Rk (by simp only[List.length_singleton];omega) (by simp only[List.length_singleton];omega) (Lb hb.upg hn rfl) fun g hg=>?_
   rcases Lj.1 hg with rfl|hg
   ·exact⟨e3,.nil,fun y hy=>absurd hy List.not_mem_nil⟩
   ·exact hb.grs g hg
 rw[if_neg k4]
 by_cases k5:x.kd=5
 ·rw[if_pos k5]
  split
  ·have:=pV hb x.gr
   refine hb.Rk (by simp only[List.length_append,List.length_singleton];omega) (by simp only[List.length_append,List.length_singleton];omega) (hb.upg.sublist (List.Sublist.map _ List.filter_sublist)) fun g hg=>hb.grs g (List.mem_filter.1 hg).1
  ·exact same
 rw[if_neg k5]
 obtain⟨m1,m2⟩:=Af hb x.gr
 by_cases k6:x.kd=6
 ·rw[if_pos k6]
  split
  ·exact same
  ·split
   ·exact same
   ·split
    ·exact same
    ·rename_i h1 h2 h3
     obtain⟨g1,g2⟩:=sG (Classical.not_not.1 h1)
     refine hb.Rk (by simp only[List.length_singleton];omega) (by simp only[List.length_singleton];omega) (by rw[oI];exact hb.upg) (Es hb e3 ⟨Ri m1,fun y hy=>?_⟩)
     rcases Eb.1 hy with rfl|hy
     ·exact List.mem_map.2 ⟨_,g1,g2⟩
     ·exact m2 y hy
 ·rw[if_neg k6]
  split
  ·exact same
  ·split
   ·exact same
   ·exact hb.Rk (by simp only[List.length_singleton];omega) (by simp only[List.length_singleton];omega) (by rw[oI];exact hb.upg) (Es hb e3 ⟨Dc m1,fun y hy=>m2 y (pK.1 hy).1⟩)
end

section
theorem BM{l:Nat}(xs:List (List MV))(hx:xs.length≤1000000)(i:Nat)(hi:i<xs.length) :
  aA Tryz.prog 265 [.vec 1 l 0 xs.length,.int .i64 (i:Int),.int .i64 ((i:Int)+1)] (St.none.set l (.row 3 1 xs)) (fun r σ'=>∃q ex,r=.vec 1 q 0 (xs.length - 1)∧σ'=St.none.set q (.row 3 1 (xs.take i++xs.drop (i+1)++ex))):=by
 obtain⟨n,hn⟩:∃n,xs.length=n:=⟨_,rfl⟩
 rw[hn] at hx hi ⊢
 refine(aA.iB 33 [.tmp 6] Tryz.func265 rfl rfl rfl rfl ?_)
 refine bA (cB ?_)
 repeat' first|refine wZ1 @FXs ?_|fail
 refine bO (bA (bX [_,_,_,_,_] _ [] rfl rfl ?_))
 repeat' first|refine wZ1 @FXs ?_|fail
 refine bO (A2 rfl (by rw[BY]) (by rw[td3]) rfl rfl rfl rfl oM oM oM oM ?_)
 show R _
 repeat' first|refine wZ1 @FXs ?_|fail
 refine bO (cB ?_)
 repeat' first|(refine wO ?_;intros)|refine wZ1 @FXs ?_|fail
 have e1:min (n - (i+1)) (xs.length - (i+1))=n - (i+1):=by omega
 have e2:i+(n - (i+1))=n - 1:=by omega
 have e3:(xs.drop (i+1)).take (n - (i+1))=xs.drop (i+1):=List.take_of_length_le (by rw[List.length_drop];omega)
 have e4:(xs.take i++xs.drop (i+1)).length=n - 1:=by rw[List.length_append,List.length_take,List.length_drop];omega
 rw[e1,e2,e3]
 refine⟨_,List.replicate (n - (n - 1)) [.int .i64 0]++((xs.take i++xs.drop (i+1))++xs.drop (n - 1)).drop (n - 1+(List.replicate (n - (n - 1)) [MV.int .i64 0]).length),rfl,?_⟩
 congr 2
 unfold bB
 rw[List.take_append_of_le_length oM,List.take_of_length_le oM,List.append_assoc]
end

section
theorem BJ{l:Nat}(xs:List (List MV))(hx:xs.length≤1000000)(i:Nat)(hi:i<xs.length) :
  aA Tryz.prog 220 [.vec 2 l 0 xs.length,.int .i64 (i:Int),.int .i64 ((i:Int)+1)] (St.none.set l (.row 200 2 xs)) (fun r σ'=>∃q ex,r=.vec 2 q 0 (xs.length - 1)∧σ'=St.none.set q (.row 200 2 (xs.take i++xs.drop (i+1)++ex))):=by
 obtain⟨n,hn⟩:∃n,xs.length=n:=⟨_,rfl⟩
 rw[hn] at hx hi ⊢
 refine(aA.iB 33 [.tmp 6] Tryz.func220 rfl rfl rfl rfl ?_)
 refine bA (cB ?_)
 repeat' first|refine wZ1 @FXs ?_|fail
 refine bO (bA (bX [_,_,_,_,_] _ [] rfl rfl ?_))
 repeat' first|refine wZ1 @FXs ?_|fail
 refine bO (A2 rfl (by rw[BX]) (by rw[mQ]) rfl rfl rfl rfl oM oM oM oM ?_)
 show R _
 repeat' first|refine wZ1 @FXs ?_|fail
 refine bO (cB ?_)
 repeat' first|(refine wO ?_;intros)|refine wZ1 @FXs ?_|fail
 have e1:min (n - (i+1)) (xs.length - (i+1))=n - (i+1):=by omega
 have e2:i+(n - (i+1))=n - 1:=by omega
 have e3:(xs.drop (i+1)).take (n - (i+1))=xs.drop (i+1):=List.take_of_length_le (by rw[List.length_drop];omega)
 have e4:(xs.take i++xs.drop (i+1)).length=n - 1:=by rw[List.length_append,List.length_take,List.length_drop];omega
 rw[e1,e2,e3]
 refine⟨_,List.replicate (n - (n - 1)) [.int .i64 0,.aN]++((xs.take i++xs.drop (i+1))++xs.drop (n - 1)).drop (n - 1+(List.replicate (n - (n - 1)) [MV.int .i64 0,.aN]).length),rfl,?_⟩
 congr 2
 unfold bB
 rw[List.take_append_of_le_length oM,List.take_of_length_le oM,List.append_assoc]
end
end Go.Proofs.YtppdgejjmhdjhaaGreatDoor
