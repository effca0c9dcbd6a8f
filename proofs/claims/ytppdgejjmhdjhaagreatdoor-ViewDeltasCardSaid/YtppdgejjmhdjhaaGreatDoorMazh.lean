/- Parts of the proof; conditions: as its theorems name them. -/
import Derived.Test.YtppdgejjmhdjhaaGreatDoorMazd
import Derived.Test.YtppdgejjmhdjhaaGreatDoorMazg
set_option linter.unusedVariables false
set_option linter.unusedSimpArgs false
set_option maxHeartbeats 8000000
set_option maxRecDepth 100000
namespace Go.Proofs.YtppdgejjmhdjhaaGreatDoor
section
def gK(g:Int)(W:BK)(x:Int × Int):BK:=⟨x.1,W.nx,W.cards,W.dead,mT W.gr g x.2⟩
def H7(B:BK)(g:Int)(l:List (Int × Int)):BK:=l.foldl (gK g) B
theorem uN(g:Int):∀(l:List (Int × Int)) (B:BK) (x:Int × Int),cX B g (l++[x])=cX B g l++[gK g (H7 B g l) x]
 | [],B,x=>rfl
 | y::l,B,x=>by
  rw[List.cons_append,cX,cX,uN g l,List.cons_append];rfl
theorem OQ(g:Int)(l:List (Int × Int))(B:BK)(x:Int × Int):H7 B g (l++[x])=gK g (H7 B g l) x:=by
 unfold H7
 rw[List.foldl_append];rfl
theorem mW(g:Int):∀(l:List (Int × Int)) (B:BK),(cX B g l).length=l.length
 | [],_=>rfl
 | y::l,B=>by rw[cX,List.length_cons,List.length_cons,mW g l]
theorem l8:∀(s:Int) (l:List Int),(cT s l).length=l.length
 | _,[]=>rfl
 | s,i::l=>by rw[cT,List.length_cons,List.length_cons,l8]
theorem LN:∀(s:Int) (l:List Int) (x:Int × Int),x∈cT s l→s<x.1∧x.1≤s+(l.length:Int)∧x.2∈l
 | _,[],x,h=>by cases h
 | s,i::l,x,h=>by
  rw[cT] at h
  rw[List.length_cons]
  rcases List.mem_cons.1 h with rfl|h
  ·exact⟨by simp only;omega,by simp only;omega,List.mem_cons_self ..⟩
  ·have:=LN (s+1) l x h
   exact⟨by omega,by omega,List.mem_cons_of_mem _ this.2.2⟩
theorem HX{B:BK}{x:ED}(hb:BkW B):(cJ B x).length=(cT B.sq (doC B x)).length:=by
 unfold cJ
 rcases iV hb x [] with⟨e1,e2,-⟩|⟨e1,i,e2,-⟩|⟨e1,e2,-⟩
 ·rw[if_pos e1,e2];rfl
 ·rw[if_neg (by simpa using e1),e2];rfl
 ·rw[if_neg (by simpa using e1),List.length_append,mW,List.length_dropLast,l8,e2]
  simp
theorem VJ{W:BK}(hw:BkW W){g:Int}(hg:0≤g∧g<16){x:Int × Int}(h1:W.sq≤x.1)(h2:x.1≤1099511627776):BkW (gK g W x):=by
 unfold gK
 refine hw.Ro h1 h2 ?_ ?_
 ·unfold mT
  split
  ·rw[lG];exact hw.upg
  ·exact hw.upg
 ·unfold mT
  split
  ·obtain⟨m1,m2⟩:=tT hw g
   exact EM hw hg ⟨Dq m1,fun y hy=>m2 y (pH.1 hy).1⟩
  ·exact hw.grs
theorem V4{g:Int}(hg:0≤g∧g<16):∀(l:List Int) (s:Int) (W:BK),BkW W→W.sq≤s→s+(l.length:Int)≤1099511627776→(∀n,BkW (H7 W g ((cT s l).take n)))∧∀Z,Z∈cX W g (cT s l)→BkW Z
 | [],s,W,hw,h1,h2=>⟨fun n=>by simpa[cT,H7] using hw,fun Z hZ=>by cases hZ⟩
 | i::l,s,W,hw,h1,h2=>by
  rw[List.length_cons] at h2
  have hq:BkW (gK g W (s+1,i)):=VJ hw hg (by simp only;omega) (by simp only;omega)
  obtain⟨r1,r2⟩:=V4 hg l (s+1) (gK g W (s+1,i)) hq (by show s+1≤s+1;omega) oM
  rw[cT]
  refine⟨fun n=>?_,fun Z hZ=>?_⟩
  ·cases n with
   | zero=>exact hw
   | succ n=>rw[List.take_succ_cons];exact r1 n
  ·rw[cX] at hZ
   rcases List.mem_cons.1 hZ with rfl|hZ
   ·exact hq
   ·exact r2 Z hZ
theorem wX(s:Int):∀(l:List Int) (x:Int),(cT s (l++[x])).dropLast=cT s l
 | [],x=>rfl
 | i::l,x=>by
  rw[List.cons_append,cT,List.dropLast_cons_of_ne_nil (by cases l<;>simp[cT]),wX (s+1) l x,cT]
theorem KU{B:BK}(hb:BkW B){x:ED}(h0:doE B x=0):∃l,(cT B.sq (doC B x)).dropLast=cT B.sq l∧l.length+1=(doC B x).length∧(∀i,i∈l→1≤i∧i<1073741824)∧B.sq+(l.length:Int)≤1099511627776:=by
 have hsq:=(doW hb x).sq2
 have hs:=IE B x
 rcases iV hb x [] with⟨e1,-⟩|⟨e1,i,e2,-⟩|⟨e1,e2,e3,-⟩
 ·exact absurd h0 e1
 ·exact⟨[],by rw[e2];rfl,by rw[e2];rfl,fun i hi=>(by cases hi),(by have:=hb.sq2;simp only[List.length_nil];omega)⟩
 ·obtain⟨y,hy,-,hym,-⟩:=fQ hb.upg e3
  refine⟨bH B.gr x.gr,by rw[e2];exact wX _ _ _,by rw[e2,List.length_append];rfl,fun i hi=>?_,?_⟩
  ·rw[hym] at hi;exact hb.mid y hy i hi
  ·rw[hs,e2,List.length_append] at hsq
   simp only[List.length_singleton] at hsq
   omega
theorem KV{B:BK}{x:ED}(h0:doE B x=0):0≤x.gr∧x.gr<16:=by
 refine(bP ?_).2.2.1
 refine Classical.byContradiction fun he=>?_
 unfold doE doT at h0
 rw[if_pos he] at h0
 exact he h0
theorem OI{B:BK}(hb:BkW B){x:ED}:∀Z,Z∈cJ B x→BkW Z:=by
 unfold cJ
 by_cases h0:doE B x=0
 ·rw[if_neg (by simpa using h0)]
  obtain⟨l,h1,-,-,h4⟩:=KU hb h0
  intro Z hZ
  rcases List.mem_append.1 hZ with hZ|hZ
  ·rw[h1] at hZ
   exact(V4 (KV h0) l B.sq B hb (Int.le_refl _) h4).2 Z hZ
  ·rw[List.mem_singleton] at hZ;subst hZ;exact doW hb x
 ·rw[if_pos h0];intro Z hZ;cases hZ
end

section
theorem Bf{σ:St}{a a' b c:MV}(h:View σ a a'):View σ (.tup [a,b,c]) (.tup [a',b,c]):=.tup rfl fun i m m' hm hm'=>by
 match i with
 | 0=>simp at hm hm';subst hm;subst hm';exact h
 | 1=>simp at hm hm';subst hm;subst hm';exact .same _
 | 2=>simp at hm hm';subst hm;subst hm';exact .same _
 | i+3=>simp at hm
noncomputable def U6(z:VS)(from_ cur page:Int):MV:=if from_<z.floor∨z.now<from_ then .tup [.lst 28 [] false,.int .i64 0,.bool false] else .tup [.lst 28 ((zQ z.log from_ z.now cur page).1.map IT.k) false,.int .i64 (zQ z.log from_ z.now cur page).2,.bool true]
theorem Ev{g v:Nat}(hvg:v≠g)(f sm:Nat)(mk:UInt32){z:VS}(hz:LInv z)(hnw:z.now≤1099511627776)(ex:List (List MV))(from_ cur page:Int) :
  aA Tryz.prog 21 [.ptr v 0 0,.int .i64 from_,.int .i64 cur,.int .i64 page] ((St.none.set g (lgO z.log ex)).set v (vwO f mk sm z.floor z.now (.vec 31 g 0 z.log.length))) (fun r σ'=>r=U6 z from_ cur page∧σ'=(St.none.set g (lgO z.log ex)).set v (vwO f mk sm z.floor z.now (.vec 31 g 0 z.log.length))):=by
 have hgv:=Ne.symm hvg
 have hlen:=hz.len
 have hct:=JS g z.log oM ex from_ z.now cur page hz.idb (fun t ht=>by have:=hz.sqb t ht;have:=hz.now t ht;omega) (U3 z.log hz.up hz.now hz.ch)
 unfold U6
 refine aA.RL (Q:=fun σ'=>σ'=(St.none.set g (lgO z.log ex)).set v (vwO f mk sm z.floor z.now (.vec 31 g 0 z.log.length))) (mB 48 [.tmp 8,.tmp 9,.tmp 10] Tryz.func21 ?_)
 have hgs:∀{σ':St} {w r:MV},((St.none.set g (lgO z.log ex)).set v (vwO f mk sm z.floor z.now (.vec 31 g 0 z.log.length))).le σ'→View St.none w r→∃τ σv:St,τ=(St.none.set g (lgO z.log ex)).set v (vwO f mk sm z.floor z.now (.vec 31 g 0 z.log.length))∧σv.le σ'∧τ.le σ'∧(∀k o,τ k=some o→σv k=none)∧View σv w r:=fun h hv=>⟨_,St.none,rfl,St.none_le _,h,fun _ _ _=>rfl,hv⟩
 by_cases h1:from_<z.floor
 ·rw[if_pos (.inl h1)]
  repeat' first|(refine wO ?_;intros)|(refine wY ?_ ?_<;>intro h)|refine wZ2 @Tryz.f21.eq_1 @FXs ?_|exact wC2 @Tryz.f21.eq_1 @FXs|fail
  all_goals first|exact hgs (St.le_refl _) (Bf (.nil _ _))|(exfalso;omega)
 ·by_cases h2:z.now<from_
  ·rw[if_pos (.inr h2)]
   repeat' first|(refine wO ?_;intros)|(refine wY ?_ ?_<;>intro h)|refine wZ2 @Tryz.f21.eq_1 @FXs ?_|exact wC2 @Tryz.f21.eq_1 @FXs|fail
   all_goals first|exact hgs (St.le_refl _) (Bf (.nil _ _))|(exfalso;omega)
  ·rw[if_neg oM]
   obtain⟨⟨X,to_⟩,hX⟩:∃X,zQ z.log from_ z.now cur page=X:=⟨_,rfl⟩
   rw[hX] at hct ⊢
   simp only at hct ⊢
   obtain⟨C,k1⟩:=kw1 89 ⟨[g],fun w=>w=.tup [.lst 28 (X.map IT.k) false,.int .i64 to_],none⟩
   repeat' first|(refine wO ?_;intros)|(refine wY ?_ ?_<;>intro h)|refine wZ2 @Tryz.f21.eq_1 @FXs ?_|exact wC2 @Tryz.f21.eq_1 @FXs|fail
   all_goals (try (exfalso;omega))
   refine aJ mixed dK C ?_
   repeat' first|(refine mO [g] [lgO z.log ex] (k1 _) sS hct ?_)|(refine wO ?_;intros)|(refine wY ?_ ?_<;>intro h)|refine wZ1 @FXs ?_|exact wC1 @FXs|fail
   all_goals exact hgs (le2 sS sS) (.same _)
end

section
structure zD (A A':BK):Prop where
 nx:A.nx≤A'.nx
 cds:∀c',c'∈A'.cards→c'.id<A.nx→∃c,c∈A.cards∧c.id=c'.id∧c.ver≤c'.ver∧(c.ver=c'.ver→c=c')
theorem pW{A A':BK}(h1:A'.nx=A.nx)(h2:A'.cards=A.cards):zD A A':=⟨by rw[h1];exact Int.le_refl _,fun c hc _=>⟨c,h2 ▸ hc,rfl,Int.le_refl _,fun _=>rfl⟩⟩
theorem NC{A B C:BK}(h1:zD A B)(h2:zD B C):zD A C:=by
 refine⟨Int.le_trans h1.nx h2.nx,fun c hc hl=>?_⟩
 obtain⟨b,b1,b2,b3,b4⟩:=h2.cds c hc (by have:=h1.nx;omega)
 obtain⟨a,a1,a2,a3,a4⟩:=h1.cds b b1 oM
 exact⟨a,a1,by omega,by omega,fun e=>by rw[a4 oM,b4 oM]⟩
def We(fl:List ND)(A A':BK)(i:Int):Prop :=
 zD A A'∧A'.sq=A.sq+1∧(∀j,j≠i∨i=0→shown A' fl j=shown A fl j)∧(bR A fl i=bR A' fl i→shown A' fl i=shown A fl i)
def KN(fl:List ND):BK→List BK→List (Int × Int)→Prop
 | _,[],[]=>True
 | A,n::S,p::P=>p.1=n.sq∧We fl A n p.2∧KN fl n S P
 | _,_,_=>False
theorem TM{A A':BK}(hA:BkW A)(h:zD A A'){c c':CA}(h1:c∈A.cards)(h2:c'∈A'.cards)(hi:c.id=c'.id)(hv:c.ver=c'.ver):c=c':=by
 have hl:=((nE.1 hA.cok).2 c h1).2.2
 obtain⟨d,d1,d2,d3,d4⟩:=h.cds c' h2 oM
 have:=qW (f:=CA.id) hA.ups h1 d1 oM
 subst this
 exact d4 hv
theorem C7{A A':BK}(hA:BkW A)(hA':BkW A')(hm:zD A A'){fl:List ND}{i:Int}(h:bR A fl i=bR A' fl i):shown A' fl i=shown A fl i:=by
 cases h1:shown A fl i with
 | none =>
  cases h2:shown A' fl i with
  | none=>rfl
  | some c'=>exact absurd (h.symm.trans (jX h1)) (y8 hA' (by rw[h2];rfl))
 | some c =>
  cases h2:shown A' fl i with
  | none=>exact absurd (h.trans (jX h2)) (y8 hA (by rw[h1];rfl))
  | some c' =>
   obtain⟨m1,e1⟩:=jV h1
   obtain⟨m2,e2⟩:=jV h2
   unfold bR at h
   rw[h1,h2,Option.getD_some,Option.getD_some] at h
   rw[TM hA hm m1 m2 (e1.trans e2.symm) h]
theorem Po{B:BK}(hb:BkW B)(x:ED):zD B (doB B x):=by
 have one:∀{e:Int} {B':BK} {l:List Int},doT B x=(e,B',l)→(doB B x).cards=B'.cards∧(doB B x).nx=B'.nx:=fun h=>by unfold doB;rw[h];exact⟨rfl,rfl⟩
 have same:∀{e:Int} {B':BK} {l:List Int},doT B x=(e,B',l)→B'.cards=B.cards→B'.nx=B.nx→zD B (doB B x):=fun h h1 h2=>pW ((one h).2.trans h2) ((one h).1.trans h1)
 have hT:doT B x=doT B x:=rfl
 conv at hT=>rhs;unfold doT
 by_cases he:aQ x=0
 rotate_left
 ·rw[if_pos he] at hT;exact same hT rfl rfl
 rw[if_neg (by simpa using he)] at hT
 by_cases hs:1099511627676<B.sq
 ·rw[if_pos hs] at hT;exact same hT rfl rfl
 rw[if_neg hs] at hT
 by_cases k1:x.kd=1
 ·rw[if_pos k1] at hT
  split at hT
  ·exact same hT rfl rfl
  ·obtain⟨o1,o2⟩:=one hT
   refine⟨by rw[o2];simp only;omega,fun c' h2 hl=>?_⟩
   rw[o1] at h2
   rcases List.mem_append.1 h2 with h2|h2
   ·exact⟨c',h2,rfl,Int.le_refl _,fun _=>rfl⟩
   ·rw[List.mem_singleton] at h2
    have h4:c'.id=B.nx:=by rw[h2];rfl
    omega
 rw[if_neg k1] at hT
 by_cases k2:x.kd=2
 ·rw[if_pos k2] at hT
  split at hT
  ·exact same hT rfl rfl
  ·rename_i q1
   split at hT
   ·exact same hT rfl rfl
   ·rename_i q2
    obtain⟨o1,o2⟩:=one hT
    refine⟨by rw[o2];exact Int.le_refl _,fun c' h2 hl=>?_⟩
    rw[o1] at h2
    obtain⟨g1,g2⟩:=pL (Classical.not_not.1 q1)
    obtain⟨y,hy,e⟩:=List.mem_map.1 h2
    by_cases k:y.id=x.id
    ·rw[if_pos k] at e
     have hvv:c'.ver=(bB B.cards B.dead x.id).1.ver+1:=by
      rw[←e]
      unfold cV big
      simp only
      rw[if_pos oM]
     refine⟨_,g1,by rw[←e];rfl,by omega,fun q=>by omega⟩
    ·rw[if_neg k] at e
     subst e
     exact⟨y,hy,rfl,Int.le_refl _,fun _=>rfl⟩
 rw[if_neg k2] at hT
 by_cases k3:x.kd=3
 ·rw[if_pos k3] at hT
  split at hT
  ·exact same hT rfl rfl
  ·obtain⟨o1,o2⟩:=one hT
   refine⟨by rw[o2];exact Int.le_refl _,fun c' h2 hl=>?_⟩
   rw[o1] at h2
   exact⟨c',(List.mem_filter.1 h2).1,rfl,Int.le_refl _,fun _=>rfl⟩
 rw[if_neg k3] at hT
 by_cases k4:x.kd=4
 ·rw[if_pos k4] at hT
  split at hT<;>exact same hT rfl rfl
 rw[if_neg k4] at hT
 by_cases k5:x.kd=5
 ·rw[if_pos k5] at hT
  split at hT<;>exact same hT rfl rfl
 rw[if_neg k5] at hT
 by_cases k6:x.kd=6
 ·rw[if_pos k6] at hT
  split at hT
  ·exact same hT rfl rfl
  ·split at hT
   ·exact same hT rfl rfl
   ·split at hT<;>exact same hT rfl rfl
 ·rw[if_neg k6] at hT
  split at hT
  ·exact same hT rfl rfl
  ·split at hT<;>exact same hT rfl rfl
theorem zN{F:BK}{fl:List ND}{g:Int}:∀(ms:List Int) (B:BK),F.cards=B.cards→F.nx=B.nx→UpI (B.gr.map GR.no)→g∈B.gr.map GR.no→bH B.gr g=ms→UpI ms→(∀m,m∈ms→1≤m∧m<1073741824)→F.gr=mC B.gr g→F.sq=B.sq+((ms.length+1:Nat):Int)→(∀c,c∈B.cards→1≤c.ver) →
  KN fl B (cX B g (cT B.sq ms)++[F]) (cT B.sq (ms++[0]))
 | [],B,hc,hnx,hu,hg,hm,_,_,hF,hs,_=>by
  have hx:∀x,x∈B.gr→x.no=g→x.mem=[]:=fun x hx e=>by rw[←oG hu hx,e,hm]
  have hsame:∀j,shown F fl j=shown B fl j:=fun j=>jU (by rw[hc]) (by rw[hF];exact DC fun x h e=>by rw[hx x h e];exact List.not_mem_nil)
  have hs':F.sq=B.sq+1:=by rw[hs];simp
  exact⟨hs'.symm,⟨pW hnx hc,hs',fun j _=>hsame j,fun _=>hsame 0⟩,trivial⟩
 | m::r,B,hc,hnx,hu,hg,hm,hum,hmb,hF,hs,hv=>by
  obtain⟨u1,u2⟩:=List.pairwise_cons.1 hum
  have hq:mT B.gr g m=eW B.gr g r:=by
   unfold mT
   rw[if_pos ⟨hg,by rw[hm];exact List.mem_cons_self ..⟩,hm,Cf hum]
  obtain⟨B',hB'⟩:∃B':BK,B'=⟨B.sq+1,B.nx,B.cards,B.dead,mT B.gr g m⟩:=⟨_,rfl⟩
  have hgr':B'.gr=eW B.gr g r:=by rw[hB'];exact hq
  have hcd':B'.cards=B.cards:=by rw[hB']
  have hsq':B'.sq=B.sq+1:=by rw[hB']
  have hnx':B'.nx=B.nx:=by rw[hB']
  have hBj:∀j,j≠m→shown B' fl j=shown B fl j:=fun j hj=>jU (by rw[hcd']) (by
   rw[hgr']
   refine DF fun x hx e=>?_
   rw[←oG hu hx,e,hm,List.mem_cons]
   exact⟨.inr,fun h=>h.resolve_left hj⟩)
  have hm0:=hmb m (List.mem_cons_self ..)
  have key:=zN (fl:=fl) (F:=F) (g:=g) r B' (by rw[hcd',hc]) (by rw[hnx'];exact hnx) (by rw[hgr',lG];exact hu) (by rw[hgr',lG];exact hg) (by rw[hgr',Al hu hg]) u2 (fun y hy=>hmb y (List.mem_cons_of_mem _ hy)) (by rw[hgr',Dk,hF]) (by rw[hs,hsq',List.length_cons];omega) (by rw[hcd'];exact hv)
  rw[hsq'] at key
  rw[cT,List.cons_append,cT,cX,←hB',List.cons_append]
  refine⟨hsq'.symm,⟨pW hnx' hcd',hsq',fun j hj=>hBj j (by simp only at hj;omega),fun h=>?_⟩,key⟩
  simp only at h ⊢
  have hf:∀(X:BK) (c:CA),shown X fl m=some c→X.cards.find? (fun c=>decide (c.id=m))=some c:=fun X c h=>by
   unfold shown at h
   split at h
   ·cases h
   ·split at h
    ·cases h;assumption
    ·cases h
  have hpos:∀(X:BK) (c:CA),X.cards=B.cards→shown X fl m=some c→bR X fl m≠0:=fun X c hX h=>by
   unfold bR
   rw[h,Option.getD_some]
   have:=hv c (hX ▸ (jV h).1)
   omega
  cases h1:shown B fl m with
  | none =>
   cases h2:shown B' fl m with
   | none=>rfl
   | some c'=>exact absurd (h.symm.trans (jX h1)) (hpos B' c' hcd' h2)
  | some c =>
   cases h2:shown B' fl m with
   | none=>exact absurd (h.trans (jX h2)) (hpos B c rfl h1)
   | some c' =>
    have e1:=hf B c h1
    have e2:=hf B' c' h2
    rw[hcd',e1] at e2
    exact e2.symm
theorem Mw{B:BK}(hb:BkW B)(fl:List ND)(x:ED):KN fl B (cJ B x) (cT B.sq (doC B x)):=by
 have hw:=doW hb x
 have hsq:=IE B x
 rcases iV hb x fl with⟨e1,e2,e3⟩|⟨e1,i,e2,e3,e4⟩|⟨e1,e2,e3,e4⟩
 ·unfold cJ
  rw[if_pos e1,e2]
  trivial
 ·unfold cJ
  rw[e2] at hsq
  rw[if_neg (by simpa using e1),e2]
  have hsq':(doB B x).sq=B.sq+1:=by rw[hsq];simp
  exact⟨hsq'.symm,⟨Po hb x,hsq',e4,fun h=>C7 hb hw (Po hb x) h⟩,trivial⟩
 ·obtain⟨m1,m2⟩:=tT hb x.gr
  obtain⟨y,hy,-,hym,-⟩:=fQ hb.upg e3
  have k:=zN (F:=doB B x) (fl:=fl) (g:=x.gr) (bH B.gr x.gr) B (by rw[e4]) (by rw[e4]) hb.upg e3 rfl m1 (fun m hm=>by rw[hym] at hm;exact hb.mid y hy m hm) (by rw[e4]) (by rw[e4]) (fun c hc=>by
   have:=(fI ((nE.1 hb.cok).2 c hc).1).1
   omega)
  unfold cJ
  rw[if_neg (by simpa using e1),e2,wX]
  exact k
theorem ET{B:BK}(hb:BkW B)(x:ED):(cJ B x).getLastD B=doB B x:=by
 unfold cJ
 by_cases h0:doE B x=0
 ·rw[if_neg (by simpa using h0)]
  simp
 ·rw[if_pos h0]
  rcases iV hb x [] with⟨-,-,e3⟩|⟨e1,-⟩|⟨e1,-⟩
  ·rw[e3];rfl
  ·exact absurd e1 h0
  ·exact absurd e1 h0
structure u9 (fl:List ND) (mk:UInt32) (f0:Int) (all:List BK) (z:VS):Prop where
 pos:0<all.length
 sq:∀(k:Nat) (A:BK),all[k]?=some A→A.sq=f0+(k:Int)
 mon:∀(i j:Nat) (A A':BK),i≤j→all[i]?=some A→all[j]?=some A'→zD A A'
 now:z.now=f0+(all.length:Int) - 1
 flo:f0≤z.floor∧z.floor≤z.now
 up:UpI (z.log.map TU.sq)
 low:∀t,t∈z.log→z.floor<t.sq∧t.sq≤z.now
 tru:∀t,t∈z.log→∀(k:Nat) (A A':BK),all[k]?=some A→all[k+1]?=some A'→t.sq=f0+(k:Int)+1→t.old=bR A fl t.id∧t.new=bR A' fl t.id∧(t.new≠0→t.card=eB ((shown A' fl t.id).getD ca0) mk)
 tel:∀(k:Nat) (A A':BK) (id:Int),all[k]?=some A→all[k+1]?=some A'→z.floor<f0+(k:Int)+1→shown A' fl id≠shown A fl id→∃t,t∈z.log∧t.sq=f0+(k:Int)+1∧t.id=id
theorem Pk(fl:List ND)(mk:UInt32)(B:BK)(z:VS)(h1:z.log=[])(h2:z.floor=B.sq)(h3:z.now=B.sq):u9 fl mk B.sq [B] z:=by
 have hat:∀k A,([B]:List BK)[k]?=some A→k=0∧A=B:=fun k A h=>by
  match k with
  | 0=>simp at h;exact⟨rfl,h.symm⟩
  | k+1=>simp at h
 refine⟨by simp,fun k A h=>?_,fun i j A A' _ h1 h2=>by rw[(hat i A h1).2,(hat j A' h2).2];exact pW rfl rfl,by rw[h3];simp,by rw[h2,h3];omega,by rw[h1];exact .nil,fun t ht=>absurd ht (by rw[h1];exact List.not_mem_nil),fun t ht=>absurd ht (by rw[h1];exact List.not_mem_nil),fun k A A' id h h'=>?_⟩
 ·obtain⟨rfl,rfl⟩:=hat k A h;simp
 ·have:=(hat (k+1) A' h').1;omega
theorem OO(B:BK)(fl:List ND)(mk:UInt32)(old seq id:Int):(jH B fl mk old seq id).old=old∧(jH B fl mk old seq id).sq=seq∧(jH B fl mk old seq id).id=id:=⟨rfl,rfl,rfl⟩
theorem KF{B:BK}{fl:List ND}{mk:UInt32}{old seq id:Int}(h:(jH B fl mk old seq id).new≠0):(jH B fl mk old seq id).card=eB ((shown B fl id).getD ca0) mk:=by
 unfold jH iP at h ⊢
 cases hs:shown B fl id with
 | none=>rw[hs] at h;exact absurd rfl h
 | some c=>rfl
theorem s9{α:Type}{l:List α}{x y:α}{k:Nat}(h:(l++[x])[k]?=some y):l[k]?=some y∨k=l.length∧y=x:=by
 rcases Nat.lt_trichotomy k l.length with q|q|q
 ·rw[List.getElem?_append_left q] at h;exact .inl h
 ·rw[List.getElem?_append_right oM,q,Nat.sub_self] at h
  simp at h
  exact .inr ⟨q,h.symm⟩
 ·rw[List.getElem?_append_right oM] at h
  obtain⟨n,hn⟩:∃n,k - l.length=n+1:=⟨k - l.length - 1,by omega⟩
  rw[hn] at h
  simp at h
theorem JO(floor:Int)(log:List TU)(t:TU)(hu:UpI ((log++[t]).map TU.sq))(hl:∀u,u∈log++[t]→floor<u.sq) :
  floor≤kW floor log t∧(∀u,u∈gG log t→u∈log++[t]∧kW floor log t<u.sq)∧(∀u,u∈log++[t]→kW floor log t<u.sq→u∈gG log t):=by
 unfold kW gG
 split
 ·exact⟨Int.le_refl _,fun u hu=>⟨hu,hl u hu⟩,fun u hu _=>hu⟩
 ·cases hL:log++[t] with
  | nil=>simp at hL
  | cons y r =>
   rw[hL] at hu hl
   rw[List.map_cons] at hu
   obtain⟨u1,u2⟩:=List.pairwise_cons.1 hu
   rw[List.headD_cons,List.drop_succ_cons,List.drop_zero]
   refine⟨by have:=hl y (List.mem_cons_self ..);omega,fun u hu=>⟨List.mem_cons_of_mem _ hu,u1 u.sq (List.mem_map.2 ⟨u,hu,rfl⟩)⟩,fun u hu hlt=>?_⟩
   rcases List.mem_cons.1 hu with rfl|h
   ·omega
   ·exact h
theorem Ms{fl:List ND}{mk:UInt32}{f0:Int}{all:List BK}{z:VS}(h:u9 fl mk f0 all z){was now:BK}(hl:all[all.length - 1]?=some was){i:Int}(hs:We fl was now i):u9 fl mk f0 (all++[now]) (nU was now fl mk z now.sq i):=by
 obtain⟨s0,s1,s2,s3⟩:=hs
 have hpos:=h.pos
 have hws:=h.sq _ _ hl
 have hnw:=h.now
 have hnsq:now.sq=f0+(all.length:Int):=by rw[s1,hws];omega
 have hsq:∀(k:Nat) (A:BK),(all++[now])[k]?=some A→A.sq=f0+(k:Int):=fun k A hk=>by
  rcases s9 hk with hk|⟨rfl,rfl⟩
  ·exact h.sq k A hk
  ·exact hnsq
 have hmon:∀(i j:Nat) (A A':BK),i≤j→(all++[now])[i]?=some A→(all++[now])[j]?=some A'→zD A A':=fun i j A A' hij h1 h2=>by
  rcases s9 h1 with g1|⟨e1,w1⟩
  ·have l1:=(List.getElem?_eq_some_iff.1 g1).1
   rcases s9 h2 with g2|⟨e2,w2⟩
   ·exact h.mon i j A A' hij g1 g2
   ·rw[w2];exact NC (h.mon i _ A was oM g1 hl) s0
  ·rcases s9 h2 with g2|⟨e2,w2⟩
   ·have:=(List.getElem?_eq_some_iff.1 g2).1;omega
   ·rw[w1,w2];exact pW rfl rfl
 have hpair:∀(k:Nat) (A A':BK),(all++[now])[k]?=some A→(all++[now])[k+1]?=some A'→(all[k]?=some A∧all[k+1]?=some A')∨(k=all.length - 1∧A=was∧A'=now):=fun k A A' h1 h2=>by
  have l2:=(List.getElem?_eq_some_iff.1 h2).1
  rw[List.length_append,List.length_singleton] at l2
  rw[List.getElem?_append_left oM] at h1
  rcases s9 h2 with h2|⟨e1,rfl⟩
  ·exact .inl ⟨h1,h2⟩
  ·refine .inr ⟨by omega,?_,rfl⟩
   rw[show k=all.length - 1 by omega,hl] at h1
   cases h1;rfl
 have hlen:((all++[now]).length:Int)=(all.length:Int)+1:=by simp
 have hflo:=h.flo
 have hlowk:∀t,t∈z.log→∀k:Nat,k=all.length - 1→t.sq=f0+(k:Int)+1→False:=fun t ht k hk e=>by
  have:=(h.low t ht).2
  omega
 by_cases hv:i=0∨bR was fl i=bR now fl i
 ·have hall:∀j,shown now fl j=shown was fl j:=fun j=>by
   by_cases e:j=i
   ·rcases hv with hv|hv
    ·exact s2 j (.inr hv)
    ·rw[e];exact s3 hv
   ·exact s2 j (.inl e)
  have he:(nU was now fl mk z now.sq i).floor=z.floor∧(nU was now fl mk z now.sq i).now=now.sq∧(nU was now fl mk z now.sq i).log=z.log:=by
   unfold nU
   by_cases h0:i=0
   ·rw[if_pos h0];exact⟨rfl,rfl,rfl⟩
   ·rw[if_neg h0]
    have hv:=hv.resolve_left h0
    refine⟨?_,rfl,?_⟩<;>simp only[if_pos hv]
  obtain⟨e1,e2,e3⟩:=he
  refine⟨by rw[List.length_append];omega,hsq,hmon,by rw[e2,hlen];omega,by rw[e1,e2];omega,by rw[e3];exact h.up,fun t ht=>?_,fun t ht k A A' h1 h2 e=>?_,fun k A A' id h1 h2 hf hne=>?_⟩
  ·rw[e3] at ht
   have:=h.low t ht
   rw[e1,e2];omega
  ·rw[e3] at ht
   rcases hpair k A A' h1 h2 with⟨p1,p2⟩|⟨p1,rfl,rfl⟩
   ·exact h.tru t ht k A A' p1 p2 e
   ·exact(hlowk t ht k p1 e).elim
  ·rw[e1] at hf
   rw[e3]
   rcases hpair k A A' h1 h2 with⟨p1,p2⟩|⟨p1,rfl,rfl⟩
   ·exact h.tel k A A' id p1 p2 hf hne
   ·exact absurd (hall id) hne
 ·have h0:i≠0:=fun e=>hv (.inl e)
  have hv:¬bR was fl i=bR now fl i:=fun e=>hv (.inr e)
  obtain⟨T,hT⟩:∃T,jH now fl mk (bR was fl i) now.sq i=T:=⟨_,rfl⟩
  have he:(nU was now fl mk z now.sq i).floor=kW z.floor z.log T∧(nU was now fl mk z now.sq i).now=now.sq∧(nU was now fl mk z now.sq i).log=gG z.log T:=by
   unfold nU
   rw[if_neg h0]
   refine⟨?_,rfl,?_⟩<;>simp only[if_neg hv,hT]
  obtain⟨e1,e2,e3⟩:=he
  obtain⟨t1,t2,t3⟩:=OO now fl mk (bR was fl i) now.sq i
  have t4:=xB now fl mk (bR was fl i) now.sq i
  have t5:=KF (B:=now) (fl:=fl) (mk:=mk) (old:=bR was fl i) (seq:=now.sq) (id:=i)
  rw[hT] at t1 t2 t3 t4 t5
  have hup:UpI ((z.log++[T]).map TU.sq):=by
   rw[List.map_append]
   refine uU.2 ⟨h.up,fun y hy=>?_⟩
   obtain⟨u,hu,rfl⟩:=List.mem_map.1 hy
   have:=(h.low u hu).2
   rw[t2];omega
  have hin:∀u,u∈z.log++[T]→u∈z.log∨u=T:=fun u hu=>by simpa using hu
  obtain⟨n1,n2,n3⟩:=JO z.floor z.log T hup fun u hu=>by
   rcases hin u hu with hu|rfl
   ·exact(h.low u hu).1
   ·rw[t2];omega
  have hle:∀u,u∈z.log++[T]→u.sq≤now.sq:=fun u hu=>by
   rcases hin u hu with hu|rfl
   ·have:=(h.low u hu).2;omega
   ·omega
  refine⟨by rw[List.length_append];omega,hsq,hmon,by rw[e2,hlen];omega,?_,?_,fun t ht=>?_,fun t ht k A A' h1 h2 e=>?_,fun k A A' id h1 h2 hf hne=>?_⟩
  ·rw[e1,e2]
   exact⟨by omega,GS oM hle⟩
  ·rw[e3];exact hup.sublist (CQ.map TU.sq)
  ·rw[e3] at ht
   rw[e1,e2]
   exact⟨(n2 t ht).2,hle t (n2 t ht).1⟩
  ·rw[e3] at ht
   rcases hin t (n2 t ht).1 with ht|rfl
   ·rcases hpair k A A' h1 h2 with⟨p1,p2⟩|⟨p1,rfl,rfl⟩
    ·exact h.tru t ht k A A' p1 p2 e
    ·exact(hlowk t ht k p1 e).elim
   ·rw[t2,hnsq] at e
    obtain rfl:k=all.length - 1:=by omega
    rcases hpair _ A A' h1 h2 with⟨p1,p2⟩|⟨p1,rfl,rfl⟩
    ·have:=(List.getElem?_eq_some_iff.1 p2).1;omega
    ·rw[t3]
     exact⟨t1,t4,t5⟩
  ·rw[e1] at hf
   rw[e3]
   rcases hpair k A A' h1 h2 with⟨p1,p2⟩|⟨rfl,rfl,rfl⟩
   ·obtain⟨t,q1,q2,q3⟩:=h.tel k A A' id p1 p2 oM hne
    exact⟨t,n3 t (by simp[q1]) oM,q2,q3⟩
   ·have hid:id=i:=Classical.byContradiction fun q=>hne (s2 id (.inl q))
    refine⟨T,n3 T (by simp) (by rw[t2,hnsq];omega),by rw[t2,hnsq];omega,by rw[t3,hid]⟩
theorem Ce{fl:List ND}{mk:UInt32}{f0:Int}:∀{S:List BK} {P:List (Int × Int)} {all:List BK} {z:VS} {was:BK},u9 fl mk f0 all z→all[all.length - 1]?=some was→KN fl was S P→u9 fl mk f0 (all++S) (Ch fl mk z was S P)∧(all++S)[(all++S).length - 1]?=some (S.getLastD was)
 | [],[],all,z,was,h,hl,_=>by rw[List.append_nil];exact⟨h,hl⟩
 | n::S,p::P,all,z,was,h,hl,hr=>by
  obtain⟨r1,r2,r3⟩:=hr
  have key:=Ce (Ms h hl r2) (by rw[List.length_append,List.length_singleton,Nat.add_sub_cancel,List.getElem?_append_right (Nat.le_refl _),Nat.sub_self];rfl) r3
  rw[List.append_assoc,List.singleton_append] at key
  rw[Ch,List.getLastD_cons,r1]
  exact key
 | [],p::P,_,_,_,_,_,hr=>hr.elim
 | n::S,[],_,_,_,_,_,hr=>hr.elim
theorem Mr{fl:List ND}{mk:UInt32}{f0:Int}{all:List BK}{z w:VS}(h3:zE z w)(h:u9 fl mk f0 all w):u9 fl mk f0 all z:=by
 obtain⟨a1,a2,a3⟩:=h3
 obtain⟨h1,h2,h0,h4,h5,h6,h7,h8,h9⟩:=h
 exact⟨h1,h2,h0,by rw[a2];exact h4,by rw[a1,a2];exact h5,by rw[a3];exact h6,by rw[a1,a2,a3];exact h7,by rw[a3];exact h8,by rw[a1,a3];exact h9⟩
end

section
def lkC(cs:List CA)(j:Int):Option CA:=cs.find? fun c=>decide (c.id=j)
theorem Ag{cs:List CA}{j:Int}{c:CA}(h:lkC cs j=some c):c∈cs∧c.id=j:=⟨List.mem_of_find?_eq_some h,by simpa using List.find?_some h⟩
theorem P1{cs:List CA}(hu:UpI (cs.map CA.id)){c:CA}(h:c∈cs):lkC cs c.id=some c:=by
 cases hk:lkC cs c.id with
 | none=>exact absurd (by simp) (List.find?_eq_none.1 hk c h)
 | some d =>
  obtain⟨h1,h2⟩:=Ag hk
  rw[qW (f:=CA.id) hu h1 h h2]
theorem LU:∀{a b:List CA},UpI (a.map CA.id)→UpI (b.map CA.id)→(∀c,c∈a↔c∈b)→a=b
 | [],[],_,_,_=>rfl
 | [],y::b,_,_,h=>absurd ((h y).2 (List.mem_cons_self ..)) List.not_mem_nil
 | x::a,[],_,_,h=>absurd ((h x).1 (List.mem_cons_self ..)) List.not_mem_nil
 | x::a,y::b,ha,hb,h=>by
  obtain⟨a1,a2⟩:=List.pairwise_cons.1 ha
  obtain⟨b1,b2⟩:=List.pairwise_cons.1 hb
  have ha':∀c,c∈a→x.id<c.id:=fun c hc=>a1 c.id (List.mem_map.2 ⟨c,hc,rfl⟩)
  have hb':∀c,c∈b→y.id<c.id:=fun c hc=>b1 c.id (List.mem_map.2 ⟨c,hc,rfl⟩)
  have hxy:x=y:=by
   rcases List.mem_cons.1 ((h x).1 (List.mem_cons_self ..)) with e|e
   ·exact e
   ·rcases List.mem_cons.1 ((h y).2 (List.mem_cons_self ..)) with e'|e'
    ·exact e'.symm
    ·have:=hb' x e;have:=ha' y e';omega
  subst hxy
  rw[LU a2 b2 fun c=>?_]
  constructor
  ·intro hc
   rcases List.mem_cons.1 ((h c).1 (List.mem_cons_of_mem _ hc)) with rfl|e
   ·have:=ha' c hc;omega
   ·exact e
  ·intro hc
   rcases List.mem_cons.1 ((h c).2 (List.mem_cons_of_mem _ hc)) with rfl|e
   ·have:=hb' c hc;omega
   ·exact e
theorem Vo{a b:List CA}(ha:UpI (a.map CA.id))(hb:UpI (b.map CA.id))(h:∀j,lkC a j=lkC b j):a=b :=
 LU ha hb fun c=>⟨fun hc=>(Ag ((h c.id).symm.trans (P1 ha hc))).1,fun hc=>(Ag ((h c.id).trans (P1 hb hc))).1⟩
def nB(cs:List CA)(id:Int):Nat:=(cs.takeWhile fun c=>decide (c.id<id)).length
def nP(cs:List CA)(x:IT):List CA × Bool :=
 if x.kd=1 then(cs.take (nB cs x.c.id)++x.c::cs.drop (nB cs x.c.id),!(cs[nB cs x.c.id]?).any fun c=>decide (c.id=x.c.id))
 else if (cs[nB cs x.c.id]?).any (fun c=>decide (c.id=x.c.id))=true then
  (cs.take (nB cs x.c.id)++(if x.kd=3 then[x.c] else[])++cs.drop (nB cs x.c.id+1),true)
 else([],false)
def dB:List CA→List IT→List CA × Bool
 | cs,[]=>(cs,true)
 | cs,x::l=>if (nP cs x).2=true then dB (nP cs x).1 l else([],false)
theorem Aw:∀(cs:List CA) (id:Int),UpI (cs.map CA.id)→(∀c,c∈cs.take (nB cs id)→c.id<id)∧(∀c,c∈cs.drop (nB cs id)→id≤c.id)∧nB cs id≤cs.length
 | [],id,_=>by simp[nB]
 | x::l,id,hu=>by
  obtain⟨u1,u2⟩:=List.pairwise_cons.1 hu
  obtain⟨h1,h2,h3⟩:=Aw l id u2
  unfold nB at h1 h2 h3 ⊢
  by_cases hx:x.id<id
  ·rw[List.takeWhile_cons,if_pos (decide_eq_true hx),List.length_cons]
   refine⟨fun c hc=>?_,fun c hc=>?_,by rw[List.length_cons];omega⟩
   ·rw[List.take_succ_cons] at hc
    rcases List.mem_cons.1 hc with rfl|hc
    ·exact hx
    ·exact h1 c hc
   ·rw[List.drop_succ_cons] at hc
    exact h2 c hc
  ·rw[List.takeWhile_cons,if_neg (by simpa using hx)]
   refine⟨fun c hc=>by simp at hc,fun c hc=>?_,by simp⟩
   simp only[List.length_nil,List.drop_zero] at hc
   rcases List.mem_cons.1 hc with rfl|hc
   ·omega
   ·have:=u1 c.id (List.mem_map.2 ⟨c,hc,rfl⟩);omega
theorem Se{cs:List CA}(hu:UpI (cs.map CA.id))(id:Int):(cs[nB cs id]?).any (fun c=>decide (c.id=id))=(lkC cs id).isSome:=by
 obtain⟨h1,h2,h3⟩:=Aw cs id hu
 cases hk:lkC cs id with
 | none =>
  have hn:=List.find?_eq_none.1 hk
  cases hc:cs[nB cs id]? with
  | none=>rfl
  | some c =>
   have:=hn c (List.mem_of_getElem? hc)
   simp only[decide_eq_true_eq] at this
   simp[this]
 | some c =>
  obtain⟨m1,m2⟩:=Ag hk
  have hd:c∈cs.drop (nB cs id):=by
   rw[←List.take_append_drop (nB cs id) cs] at m1
   rcases List.mem_append.1 m1 with m|m
   ·have:=h1 c m;omega
   ·exact m
  cases hc:cs.drop (nB cs id) with
  | nil=>rw[hc] at hd;cases hd
  | cons y r =>
   have hy:cs[nB cs id]?=some y:=by
    have:=congrArg (fun l=>l[0]?) hc
    simpa using this
   have hyd:y∈cs.drop (nB cs id):=by rw[hc];exact List.mem_cons_self ..
   have hge:=h2 y hyd
   rw[hc] at hd
   rcases List.mem_cons.1 hd with rfl|hd'
   ·rw[hy];simp[m2]
   ·have hud:UpI ((cs.drop (nB cs id)).map CA.id):=hu.sublist ((List.drop_sublist _ _).map _)
    rw[hc] at hud
    have:=(List.pairwise_cons.1 hud).1 c.id (List.mem_map.2 ⟨c,hd',rfl⟩)
    omega
theorem Af(a b:List CA)(j:Int):lkC (a++b) j=(lkC a j).or (lkC b j):=List.find?_append
theorem yU(c:CA)(b:List CA)(j:Int):lkC (c::b) j=if c.id=j then some c else lkC b j:=by
 unfold lkC
 rw[List.find?_cons]
 by_cases h:c.id=j<;>simp[h]
theorem P2{cs:List CA}{j:Int}(h:∀c,c∈cs→c.id≠j):lkC cs j=none:=List.find?_eq_none.2 fun c hc=>by simpa using h c hc
theorem Ob{cs:List CA}(hu:UpI (cs.map CA.id)){x:IT}(hx:x.kd=1∧lkC cs x.c.id=none∨x.kd≠1∧(lkC cs x.c.id).isSome=true) :
  (nP cs x).2=true∧UpI ((nP cs x).1.map CA.id)∧∀j,lkC (nP cs x).1 j=if j=x.c.id then(if x.kd=1∨x.kd=3 then some x.c else none) else lkC cs j:=by
 obtain⟨h1,h2,h3⟩:=Aw cs x.c.id hu
 have ht:=Se hu x.c.id
 obtain⟨n,hn⟩:∃n,nB cs x.c.id=n:=⟨_,rfl⟩
 unfold nP
 rw[hn] at h1 h2 h3 ht ⊢
 have hup:∀{a b:List CA},cs=a++b→∀{m:List CA},m.Sublist b→(∀c,c∈a→c.id<x.c.id)→(∀c,c∈m→x.c.id<c.id)→∀o:List CA,(o=[x.c]∨o=[])→UpI ((a++o++m).map CA.id):=fun {a b} e {m} hm ha hb o ho=>by
  rw[e,List.map_append] at hu
  obtain⟨p1,p2,p3⟩:=List.pairwise_append.1 hu
  have p2':UpI (m.map CA.id):=List.Pairwise.sublist (hm.map _) p2
  rw[List.map_append,List.map_append]
  refine List.pairwise_append.2 ⟨List.pairwise_append.2 ⟨p1,?_,fun u hu v hv=>?_⟩,p2',fun u hu v hv=>?_⟩
  ·rcases ho with rfl|rfl
   ·exact List.pairwise_singleton _ _
   ·exact .nil
  ·obtain⟨c,hc,rfl⟩:=List.mem_map.1 hu
   rcases ho with rfl|rfl
   ·simp at hv;subst hv;exact ha c hc
   ·simp at hv
  ·obtain⟨d,hd,rfl⟩:=List.mem_map.1 hv
   rcases List.mem_append.1 hu with hu|hu
   ·obtain⟨c,hc,rfl⟩:=List.mem_map.1 hu
    have:=ha c hc;have:=hb d hd;omega
   ·rcases ho with rfl|rfl
    ·simp at hu;subst hu;exact hb d hd
    ·simp at hu
 have hcs:=List.take_append_drop n cs
 rcases hx with⟨k1,k2⟩|⟨k1,k2⟩
 ·rw[if_pos k1]
  rw[k2] at ht
  have hne:∀c,c∈cs→c.id≠x.c.id:=fun c hc e=>by
   have:=List.find?_eq_none.1 k2 c hc
   simp[e] at this
  refine⟨by simp only;rw[ht];rfl,?_,fun j=>?_⟩
  ·have:=hup (a:=cs.take n) (b:=cs.drop n) hcs.symm (List.Sublist.refl _) h1 (fun c hc=>by have:=h2 c hc;have:=hne c (List.mem_of_mem_drop hc);omega) [x.c] (.inl rfl)
   simpa using this
  ·simp only
   rw[Af,yU]
   by_cases e:j=x.c.id
   ·rw[if_pos e,if_pos e.symm,if_pos (.inl k1),P2 fun c hc=>by have:=h1 c hc;omega];rfl
   ·rw[if_neg e,if_neg fun q=>e q.symm,←Af,hcs]
 ·rw[if_neg k1]
  rw[k2] at ht
  rw[if_pos ht]
  cases hc:cs[n]? with
  | none=>rw[hc] at ht;cases ht
  | some y =>
   rw[hc] at ht
   have hy:y.id=x.c.id:=by simpa using ht
   have hd:cs.drop n=y::cs.drop (n+1):=Dp hc
   have hlt:∀c,c∈cs.drop (n+1)→x.c.id<c.id:=fun c hc'=>by
    have hud:UpI ((cs.drop n).map CA.id):=hu.sublist ((List.drop_sublist _ _).map _)
    rw[hd] at hud
    have:=(List.pairwise_cons.1 hud).1 c.id (List.mem_map.2 ⟨c,hc',rfl⟩)
    omega
   refine⟨rfl,hup (a:=cs.take n) (b:=cs.drop n) hcs.symm (by rw[hd];exact List.sublist_cons_self _ _) h1 hlt _ (by split<;>simp),fun j=>?_⟩
   simp only
   rw[Af,Af]
   have e0:lkC cs j=(lkC (cs.take n) j).or (if y.id=j then some y else lkC (cs.drop (n+1)) j):=by rw[←yU,←hd,←Af,hcs]
   by_cases e:j=x.c.id
   ·subst e
    rw[if_pos rfl,P2 (cs:=cs.take n) fun c hc=>by have:=h1 c hc;omega,P2 (cs:=cs.drop (n+1)) fun c hc=>by have:=hlt c hc;omega]
    by_cases k3:x.kd=3
    ·rw[if_pos k3,if_pos (.inr k3),yU,if_pos rfl];rfl
    ·rw[if_neg k3,if_neg fun h=>h.elim k1 k3];rfl
   ·rw[if_neg e,e0,if_neg (show ¬y.id=j from fun q=>e (by rw[←q,hy]))]
    have:lkC (if x.kd=3 then[x.c] else[]) j=none:=by
     split
     ·rw[yU,if_neg fun q=>e q.symm];rfl
     ·rfl
    rw[this,Option.or_none]
structure SH (cs out:List CA) (l:List IT):Prop where
 up:UpI (l.map fun x=>x.c.id)
 one:∀x,x∈l→(x.kd=1∧lkC cs x.c.id=none∧lkC out x.c.id=some x.c)∨(x.kd=3∧(lkC cs x.c.id).isSome=true∧lkC out x.c.id=some x.c)∨(x.kd=2∧(lkC cs x.c.id).isSome=true∧lkC out x.c.id=none)
 rest:∀j,j∉l.map (fun x=>x.c.id)→lkC cs j=lkC out j
theorem CJ:∀{l:List IT} {cs out:List CA},UpI (cs.map CA.id)→UpI (out.map CA.id)→SH cs out l→dB cs l=(out,true)
 | [],cs,out,h1,h2,h=>by
  rw[dB,Vo h1 h2 fun j=>h.rest j List.not_mem_nil]
 | x::l,cs,out,h1,h2,h=>by
  have hx:=h.one x (List.mem_cons_self ..)
  have hup:=h.up
  rw[List.map_cons] at hup
  obtain⟨u1,u2⟩:=List.pairwise_cons.1 hup
  obtain⟨o1,o2,o3⟩:=Ob h1 (x:=x) (hx.elim (fun q=>.inl ⟨q.1,q.2.1⟩) fun q=>q.elim (fun q=>.inr ⟨by omega,q.2.1⟩) fun q=>.inr ⟨by omega,q.2.1⟩)
  rw[dB,if_pos o1]
  refine CJ o2 h2 ⟨u2,fun y hy=>?_,fun j hj=>?_⟩
  ·have hne:y.c.id≠x.c.id:=by have:=u1 y.c.id (List.mem_map.2 ⟨y,hy,rfl⟩);omega
   rw[o3,if_neg hne]
   exact h.one y (List.mem_cons_of_mem _ hy)
  ·rw[o3]
   by_cases e:j=x.c.id
   ·subst e
    rw[if_pos rfl]
    rcases hx with⟨a,-,b⟩|⟨a,-,b⟩|⟨a,-,b⟩
    ·rw[if_pos (.inl a),b]
    ·rw[if_pos (.inr a),b]
    ·rw[if_neg oM,b]
   ·rw[if_neg e]
    refine h.rest j fun hm=>?_
    rw[List.map_cons] at hm
    rcases List.mem_cons.1 hm with hm|hm
    ·exact e hm
    ·exact hj hm
theorem Aa{B:BK}(hb:BkW B)(fl:List ND)(mk:UInt32)(cur:Int):UpI ((eO B fl mk cur).map CA.id):=by
 unfold eO
 rw[List.map_map]
 exact hb.ups.sublist (List.Sublist.map _ List.filter_sublist)
theorem RT{B:BK}(hb:BkW B){fl:List ND}{c:CA}(h1:c∈B.cards)(h2:eR B.gr fl c=true):shown B fl c.id=some c:=by
 unfold shown
 have:B.cards.find? (fun d=>decide (d.id=c.id))=some c:=P1 hb.ups h1
 rw[this]
 simp only
 rw[if_pos h2]
theorem RS{B:BK}{fl:List ND}{id:Int}{c:CA}(h:shown B fl id=some c):c∈B.cards∧c.id=id∧eR B.gr fl c=true:=by
 obtain⟨h1,h2⟩:=jV h
 refine⟨h1,h2,?_⟩
 unfold shown at h
 split at h
 ·cases h
 ·split at h
  ·cases h;assumption
  ·cases h
theorem tK{B:BK}(hb:BkW B)(fl:List ND)(mk:UInt32)(cur j:Int):lkC (eO B fl mk cur) j=if j≤cur then(shown B fl j).map fun c=>eB c mk else none:=by
 have hu:=Aa hb fl mk cur
 cases hk:lkC (eO B fl mk cur) j with
 | some d =>
  obtain⟨m1,m2⟩:=Ag hk
  unfold eO at m1
  obtain⟨c,hc,rfl⟩:=List.mem_map.1 m1
  obtain⟨c1,c2⟩:=List.mem_filter.1 hc
  simp only[Bool.and_eq_true,decide_eq_true_eq] at c2
  have hcj:c.id=j:=m2
  rw[if_pos oM,←hcj,RT hb c1 c2.2];rfl
 | none =>
  by_cases hj:j≤cur
  ·rw[if_pos hj]
   cases hs:shown B fl j with
   | none=>rfl
   | some c =>
    obtain⟨s1,s2,s3⟩:=RS hs
    have hm:eB c mk∈eO B fl mk cur:=List.mem_map.2 ⟨c,List.mem_filter.2 ⟨s1,by simp only[Bool.and_eq_true,decide_eq_true_eq];exact⟨by omega,s3⟩⟩,rfl⟩
    have:=List.find?_eq_none.1 hk (eB c mk) hm
    exact absurd (show decide ((eB c mk).id=j)=true from decide_eq_true s2) this
  ·rw[if_neg hj]
theorem Sj{s n c:Int}(hs:s≤n):∀l:List TU,UpI (l.map TU.sq)→∃m:List TU,upS l s (n+1) c=upS l s n c++m∧((m=[]∧∀t,t∈l→t.sq=n+1→c<t.id)∨∃t,m=[t]∧t∈l∧t.sq=n+1∧t.id≤c) :=
 lI (fun _=>⟨[],rfl,.inl ⟨rfl,fun t ht=>by cases ht⟩⟩) fun l x ih hu=>by
  rw[List.map_append,List.map_cons,List.map_nil,uU] at hu
  obtain⟨m,h1,h2⟩:=ih hu.1
  have hlt:∀t,t∈l→t.sq<x.sq:=fun t ht=>hu.2 t.sq (List.mem_map.2 ⟨t,ht,rfl⟩)
  rw[uT,uT]
  by_cases e:x.sq=n+1
  ·have hm:m=[]:=by
    rcases h2 with⟨h2,-⟩|⟨t,-,h3,h4,-⟩
    ·exact h2
    ·have:=hlt t h3;omega
   rw[hm,List.append_nil] at h1
   by_cases hc:x.id≤c
   ·rw[if_pos ⟨by omega,by omega,hc⟩,if_neg oM,h1]
    exact⟨[x],rfl,.inr ⟨x,rfl,by simp,e,hc⟩⟩
   ·rw[if_neg oM,if_neg oM,h1]
    refine⟨[],by simp,.inl ⟨rfl,fun t ht he=>?_⟩⟩
    rcases List.mem_append.1 ht with ht|ht
    ·have:=hlt t ht;omega
    ·simp at ht;subst ht;omega
  ·by_cases hq:s<x.sq∧x.sq≤n+1∧x.id≤c
   ·have hm:m=[]:=by
     rcases h2 with⟨h2,-⟩|⟨t,-,h3,h4,-⟩
     ·exact h2
     ·have:=hlt t h3;omega
    rw[hm,List.append_nil] at h1
    rw[if_pos hq,if_pos oM,h1]
    refine⟨[],by simp,.inl ⟨rfl,fun t ht he=>?_⟩⟩
    rcases List.mem_append.1 ht with ht|ht
    ·have:=hlt t ht;omega
    ·simp at ht;subst ht;omega
   ·rw[if_neg hq,if_neg oM]
    refine⟨m,h1,?_⟩
    rcases h2 with⟨h2,h3⟩|⟨t,h2,h3,h4,h5⟩
    ·refine .inl ⟨h2,fun t ht he=>?_⟩
     rcases List.mem_append.1 ht with ht|ht
     ·exact h3 t ht he
     ·simp at ht;subst ht;omega
    ·exact .inr ⟨t,h2,by simp[h3],h4,h5⟩
theorem C4{fl:List ND}{mk:UInt32}{f0:Int}{all:List BK}{z:VS}(h:u9 fl mk f0 all z){a:Nat}{A:BK}(ha:all[a]?=some A)(hfa:z.floor≤f0+(a:Int)){cur id:Int}(hid:id≤cur) :
  ∀(d:Nat) (A':BK),all[a+d]?=some A'→(jQ (upS z.log (f0+(a:Int)) (f0+(a:Int)+(d:Int)) cur) id=none→shown A' fl id=shown A fl id) ∧
   (∀o,jQ (upS z.log (f0+(a:Int)) (f0+(a:Int)+(d:Int)) cur) id=some o→o=bR A fl id) ∧
   ∀t,iK (upS z.log (f0+(a:Int)) (f0+(a:Int)+(d:Int)) cur) id=some t→t.new=bR A' fl id∧(t.new≠0→t.card=eB ((shown A' fl id).getD ca0) mk)
 | 0,A',hA=>by
  rw[Nat.add_zero,ha] at hA
  cases hA
  have:upS z.log (f0+(a:Int)) (f0+(a:Int)+((0:Nat):Int)) cur=[]:=List.filter_eq_nil_iff.2 fun u _=>by simp only[decide_eq_true_eq];omega
  rw[this]
  exact⟨fun _=>rfl,fun o ho=>(by cases ho),fun t ht=>(by cases ht)⟩
 | d+1,A'',hA=>by
  have hlt:=(List.getElem?_eq_some_iff.1 hA).1
  obtain⟨A',hA'⟩:=bU all (show a+d<all.length by omega)
  obtain⟨i1,i2,i3⟩:=C4 h ha hfa hid d A' hA'
  obtain⟨m,m1,m2⟩:=Sj (s:=f0+(a:Int)) (n:=f0+(a:Int)+(d:Int)) (c:=cur) oM z.log h.up
  have e:f0+(a:Int)+((d+1:Nat):Int)=f0+(a:Int)+(d:Int)+1:=by omega
  have hk:f0+((a+d:Nat):Int)+1=f0+(a:Int)+(d:Int)+1:=by omega
  rw[e,m1]
  obtain⟨U,hU⟩:∃U,upS z.log (f0+(a:Int)) (f0+(a:Int)+(d:Int)) cur=U:=⟨_,rfl⟩
  rw[hU] at i1 i2 i3 ⊢
  have hsame:(∀t,t∈z.log→t.sq=f0+(a:Int)+(d:Int)+1→t.id≠id)→shown A'' fl id=shown A' fl id:=fun hn=>Classical.byContradiction fun hne=>by
   obtain⟨t,t1,t2,t3⟩:=h.tel (a+d) A' A'' id hA' (by rw[Nat.add_assoc];exact hA) oM hne
   exact hn t t1 oM t3
  have hver:shown A'' fl id=shown A' fl id→bR A'' fl id=bR A' fl id:=fun q=>by unfold bR;rw[q]
  rcases m2 with⟨rfl,m3⟩|⟨t,rfl,t1,t2,t3⟩
  ·have hs:=hsame fun t ht he hi=>by have:=m3 t ht he;omega
   rw[List.append_nil,hver hs,hs]
   exact⟨i1,i2,i3⟩
  ·obtain⟨q1,q2,q3⟩:=h.tru t t1 (a+d) A' A'' hA' (by rw[Nat.add_assoc];exact hA) oM
   rw[jR,fK]
   by_cases ht:t.id=id
   ·subst ht
    rw[if_pos rfl,if_pos rfl]
    refine⟨fun ho=>?_,fun o ho=>?_,fun u hu=>?_⟩
    ·cases hO:jQ U t.id<;>rw[hO] at ho<;>cases ho
    ·cases hO:jQ U t.id with
     | none =>
      rw[hO] at ho
      have ho:t.old=o:=by simpa using ho
      rw[←ho,q1]
      unfold bR
      rw[i1 hO]
     | some o' =>
      rw[hO] at ho
      have ho:o'=o:=by simpa using ho
      rw[←ho]
      exact i2 o' hO
    ·cases hu
     exact⟨q2,q3⟩
   ·have hs:=hsame fun u hu he hi=>by
     have:=qW (f:=TU.sq) h.up hu t1 oM
     subst this
     exact ht hi
    rw[if_neg ht,if_neg ht,Option.or_none,hver hs,hs]
    exact⟨i1,i2,i3⟩
theorem Lv{U:List TU}(hU:∀t,t∈U→TOk t){x:IT}:x∈lZ U↔x∈itS U x.c.id:=by
 unfold lZ
 constructor
 ·intro h
  obtain⟨i,-,hi⟩:=List.mem_flatMap.1 h
  rw[IW hU hi]
  exact hi
 ·intro h
  refine List.mem_flatMap.2 ⟨x.c.id,?_,h⟩
  refine(pN U).2 (Classical.byContradiction fun q=>?_)
  rw[PO q] at h
  cases h
theorem N3{fl:List ND}{mk:UInt32}{f0:Int}{all:List BK}{z:VS}(h:u9 fl mk f0 all z)(hz:LInv z)(hW:∀A,A∈all→BkW A){a d:Nat}{A A':BK}(ha:all[a]?=some A)(hd:all[a+d]?=some A')(hfa:z.floor≤f0+(a:Int))(cur:Int) :
  SH (eO A fl mk cur) (eO A' fl mk cur) (lZ (upS z.log (f0+(a:Int)) (f0+(a:Int)+(d:Int)) cur)):=by
 have hA:=hW A (List.mem_of_getElem? ha)
 have hA':=hW A' (List.mem_of_getElem? hd)
 have hsay:=fun(id:Int) (hid:id≤cur)=>C4 h ha hfa hid d A' hd
 have hUc:∀t,t∈upS z.log (f0+(a:Int)) (f0+(a:Int)+(d:Int)) cur→TOk t∧t.id≤cur:=fun t ht=>by
  have:=EZ.1 ht
  exact⟨hz.tok t this.1,this.2.2.2⟩
 obtain⟨U,hU⟩:∃U,upS z.log (f0+(a:Int)) (f0+(a:Int)+(d:Int)) cur=U:=⟨_,rfl⟩
 rw[hU] at hUc ⊢
 simp only[hU] at hsay
 have hUt:∀t,t∈U→TOk t:=fun t ht=>(hUc t ht).1
 have hpos:∀{B:BK},BkW B→∀id,bR B fl id=0→shown B fl id=none:=fun hB id h0=>by
  cases hs:shown _ fl id with
  | none=>rfl
  | some c=>exact absurd h0 (y8 hB (by rw[hs];rfl))
 have hsome:∀{B:BK} (id:Int),bR B fl id≠0→∃c,shown B fl id=some c:=fun id h0=>by
  cases hs:shown _ fl id with
  | none=>exact absurd (jX hs) h0
  | some c=>exact⟨c,rfl⟩
 refine⟨K7 (fun i x hx=>IW hUt hx) (DJ U) (DG U),fun x hx=>?_,fun j hj=>?_⟩
 ·have hx':=(Lv hUt).1 hx
  unfold itS at hx'
  split at hx'
  ·rename_i o t ho ht
   obtain⟨l1,l2⟩:=Cw U ht
   have hid:x.c.id≤cur:=by have:=(hUc t l1).2;omega
   obtain⟨s1,s2,s3⟩:=hsay x.c.id hid
   have ho':=s2 o ho
   obtain⟨n1,n2⟩:=s3 t ht
   rw[tK hA,tK hA',if_pos hid,if_pos hid]
   unfold kU at hx'
   split at hx'
   ·simp at hx'
   ·rename_i q1
    split at hx'
    ·rename_i q2
     simp only[Option.toList_some,List.mem_singleton] at hx'
     have hn:t.new≠0:=by omega
     obtain⟨c,hc⟩:=hsome (B:=A') x.c.id (by rw[←n1];exact hn)
     refine .inl ⟨by rw[hx'],by rw[hpos hA x.c.id (by rw[←ho',q2])];rfl,?_⟩
     have hxc:x.c=t.card:=by rw[hx']
     rw[hc,Option.getD_some] at n2
     rw[hc,Option.map_some,hxc,n2 hn]
    ·rename_i q2
     obtain⟨c0,hc0⟩:=hsome (B:=A) x.c.id (by rw[←ho'];exact q2)
     split at hx'
     ·rename_i q3
      simp only[Option.toList_some,List.mem_singleton] at hx'
      refine .inr (.inr ⟨by rw[hx'],by rw[hc0];rfl,?_⟩)
      rw[hpos hA' x.c.id (by rw[←n1,q3])];rfl
     ·rename_i q3
      simp only[Option.toList_some,List.mem_singleton] at hx'
      obtain⟨c,hc⟩:=hsome (B:=A') x.c.id (by rw[←n1];exact q3)
      refine .inr (.inl ⟨by rw[hx'],by rw[hc0];rfl,?_⟩)
      have hxc:x.c=t.card:=by rw[hx']
      rw[hc,Option.getD_some] at n2
      rw[hc,Option.map_some,hxc,n2 q3]
  ·cases hx'
 ·rw[tK hA,tK hA']
  by_cases hjc:j≤cur
  ·rw[if_pos hjc,if_pos hjc]
   obtain⟨s1,s2,s3⟩:=hsay j hjc
   have hnil:itS U j=[]:=by
    cases hI:itS U j with
    | nil=>rfl
    | cons y r =>
     have hy:y∈itS U j:=by rw[hI];exact List.mem_cons_self ..
     have e:=IW hUt hy
     refine absurd (List.mem_map.2 ⟨y,(Lv hUt).2 (by rw[e];exact hy),e⟩) hj
   cases hO:jQ U j with
   | none=>rw[s1 hO]
   | some o =>
    cases hL:iK U j with
    | none =>
     have:=(sD U).1 hL
     rw[iL.2 this] at hO
     cases hO
    | some t =>
     have ho:=s2 o hO
     obtain⟨n1,n2⟩:=s3 t hL
     unfold itS at hnil
     rw[hO,hL] at hnil
     simp only at hnil
     unfold kU at hnil
     have heq:o=t.new:=by
      refine Classical.byContradiction fun q=>?_
      rw[if_neg q] at hnil
      split at hnil
      ·cases hnil
      ·split at hnil<;>cases hnil
     exact congrArg (Option.map _) (C7 hA hA' (h.mon a (a+d) A A' oM ha hd) (by rw[←ho,←n1,heq])).symm
  ·rw[if_neg hjc,if_neg hjc]
end

section
theorem II{U:List TU}(hu:UpI (U.map TU.sq)){n:Nat}{t:TU}(hn:U[n]?=some t):U.filter (fun u=>decide (u.sq≤t.sq - 1))=U.take n:=by
 have e:U=U.take n++t::U.drop (n+1):=by rw[←Dp hn,List.take_append_drop]
 rw[e,List.map_append,List.map_cons] at hu
 obtain⟨p1,p2,p3⟩:=List.pairwise_append.1 hu
 obtain⟨q1,q2⟩:=List.pairwise_cons.1 p2
 have hlt:∀u,u∈U.take n→u.sq<t.sq:=fun u h=>p3 u.sq (List.mem_map.2 ⟨u,h,rfl⟩) t.sq (List.mem_cons_self ..)
 have hgt:∀u,u∈U.drop (n+1)→t.sq<u.sq:=fun u h=>q1 u.sq (List.mem_map.2 ⟨u,h,rfl⟩)
 conv=>lhs;rw[e]
 rw[List.filter_append,List.filter_cons,if_neg (by simp only[decide_eq_true_eq];omega),List.filter_eq_self.2 fun u h=>by have:=hlt u h;simp only[decide_eq_true_eq];omega,List.filter_eq_nil_iff.2 fun u h=>by have:=hgt u h;simp only[decide_eq_true_eq];omega,List.append_nil]
theorem Ur(l:List TU){a n m c:Int}(h:m≤n):upS l a m c=(upS l a n c).filter fun u=>decide (u.sq≤m):=by
 unfold upS
 rw[List.filter_filter]
 refine List.filter_congr fun u _=>?_
 rw[←Bool.decide_and]
 exact decide_eq_decide.2 oM
theorem Pj{z:VS}(hz:LInv z){frm:Int}(h2:frm≤z.now)(cur page:Int) :
  ∃to,zQ z.log frm z.now cur page=(lZ (upS z.log frm to cur),to)∧frm≤to∧to≤z.now∧(0<page→to=frm→frm=z.now)∧((lZ (upS z.log frm to cur)).length:Int)≤max page 0:=by
 unfold zQ Fo
 have hm:∀u,u∈upS z.log frm z.now cur→frm<u.sq∧u.sq≤z.now:=fun u hu=>by
  have:=EZ.1 hu
  exact⟨this.2.1,this.2.2.1⟩
 have hup:UpI ((upS z.log frm z.now cur).map TU.sq):=hz.up.sublist (List.Sublist.map _ List.filter_sublist)
 have hcut:=fun m (h:m≤z.now)=>Ur z.log (a:=frm) (c:=cur) h
 obtain⟨U,hU⟩:∃U,upS z.log frm z.now cur=U:=⟨_,rfl⟩
 simp only[hU] at hm hup hcut ⊢
 have hle:=Dy U (pgN page) U.length
 have hfit:=Cl U (pgN page) U.length
 have hov:=Cm U (pgN page) U.length 1
 obtain⟨n,hn⟩:∃n,nF U (pgN page) U.length=n:=⟨_,rfl⟩
 rw[hn] at hle hfit hov ⊢
 have hpg:((pgN page:Nat):Int)=max page 0:=by unfold pgN;omega
 by_cases he:n=U.length
 ·refine⟨z.now,?_,h2,Int.le_refl _,fun _ h=>h.symm,?_⟩
  ·rw[if_pos he,he,List.take_length,hU]
  ·rw[he,List.take_length] at hfit
   rw[hU];omega
 ·obtain⟨t,ht⟩:=bU U (show n<U.length by omega)
  have h1:=hm t (List.mem_of_getElem? ht)
  have hd:U.getD n tuZ=t:=by rw[List.getD_eq_getElem?_getD,ht];rfl
  have hc:=hcut (t.sq - 1) oM
  rw[II hup ht] at hc
  refine⟨t.sq - 1,by rw[if_neg he,hd,hc],by omega,by omega,fun hp e=>?_,by rw[hc];omega⟩
  have hn1:1≤n:=Classical.byContradiction fun q=>by
   have h3:=hov oM oM
   have h4:=Ay (U.take 1)
   have h5:=tM (U.take 1)
   rw[List.length_take] at h5
   unfold pgN at h3
   omega
  obtain⟨u,hu⟩:=bU U (show 0<U.length by omega)
  have h6:=(hm u (List.mem_of_getElem? hu)).1
  have h7:u.sq<t.sq:=by
   have q1:=(List.getElem?_eq_some_iff.1 hu)
   have q2:=(List.getElem?_eq_some_iff.1 ht)
   obtain⟨q1,rfl⟩:=q1
   obtain⟨q2,rfl⟩:=q2
   exact List.pairwise_iff_getElem.1 (List.pairwise_map.1 hup) 0 n q1 q2 oM
  omega
theorem Mp{fl:List ND}{mk:UInt32}{f0:Int}{all:List BK}{z:VS}(h:u9 fl mk f0 all z)(hz:LInv z)(hW:∀A,A∈all→BkW A){frm:Int}(h1:z.floor≤frm)(h2:frm≤z.now)(cur page:Int) :
  ∃l to A A',zQ z.log frm z.now cur page=(l,to)∧frm≤to∧to≤z.now∧(0<page→to=frm→frm=z.now)∧(l.length:Int)≤max page 0∧all[(frm - f0).toNat]?=some A∧all[(to - f0).toNat]?=some A'∧BkW A∧BkW A'∧SH (eO A fl mk cur) (eO A' fl mk cur) l:=by
 obtain⟨to,c1,c2,c3,c4,c5⟩:=Pj hz h2 cur page
 have hf:=h.flo
 have hn:=h.now
 have hp:=h.pos
 obtain⟨A,hA⟩:=bU all (show(frm - f0).toNat<all.length by omega)
 obtain⟨A',hA'⟩:=bU all (show(to - f0).toNat<all.length by omega)
 have e:(to - f0).toNat=(frm - f0).toNat+(to - frm).toNat:=by omega
 have k:=N3 h hz hW hA (by rw[←e];exact hA') oM cur
 rw[show f0+(((frm - f0).toNat:Nat):Int)=frm by omega,show frm+(((to - frm).toNat:Nat):Int)=to by omega] at k
 exact⟨_,to,A,A',c1,c2,c3,c4,c5,hA,hA',hW A (List.mem_of_getElem? hA),hW A' (List.mem_of_getElem? hA'),k⟩
theorem NP{cs out:List CA}{l:List IT}(h:SH cs out l){x:IT}(hx:x∈l) :
  decide (x.kd=1)=(!(lkC cs x.c.id).isSome&&(lkC out x.c.id).isSome)∧decide (x.kd=2)=((lkC cs x.c.id).isSome&&!(lkC out x.c.id).isSome)∧decide (x.kd=3)=((lkC cs x.c.id).isSome&&(lkC out x.c.id).isSome):=by
 rcases h.one x hx with⟨a,b,c⟩|⟨a,b,c⟩|⟨a,b,c⟩<;>rw[a,c]
 ·rw[b];simp
 ·rw[b];simp
 ·rw[b];simp
theorem Mq{W:BK}(hb:BkW W){fl:List ND}{mk:UInt32}{f0:Int}{all:List BK}{z:VS}(h:u9 fl mk f0 all z)(hl:all[all.length - 1]?=some W)(hA:∀A,A∈all→BkW A)(hz:L2 W fl z)(x:ED) :
  L2 (doB W x) fl (eF (doB W x) fl mk z (cT W.sq (doC W x)))∧u9 fl mk f0 (all++cJ W x) (eF (doB W x) fl mk z (cT W.sq (doC W x)))∧(all++cJ W x)[(all++cJ W x).length - 1]?=some (doB W x)∧∀A,A∈all++cJ W x→BkW A:=by
 obtain⟨e1,e2⟩:=Mx hb hz (mk:=mk) (w:=z) ⟨rfl,rfl,rfl⟩ x
 obtain⟨d1,d2⟩:=Ce h hl (Mw hb fl x)
 rw[ET hb] at d2
 exact⟨e1,Mr e2 d1,d2,fun A hA'=>(List.mem_append.1 hA').elim (hA A) (OI hb A)⟩
end
end Go.Proofs.YtppdgejjmhdjhaaGreatDoor
