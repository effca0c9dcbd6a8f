/- Parts of the proof, joined; conditions: those that its theorems name. -/
import Derived.Test.YtppdgejjmhdjhaaGreatDoorMbq
import Derived.Test.YtppdgejjmhdjhaaGreatDoorMbr
set_option linter.unusedVariables false
set_option linter.unusedSimpArgs false
set_option maxHeartbeats 4000000
namespace Go.Proofs.YtppdgejjmhdjhaaGreatDoor
section
set_option maxRecDepth 100000
set_option maxHeartbeats 4000000
def B7(op:Int):FuncId:=if op=1 then 251 else if op=3 then 252 else if op=4 then 254 else if op=5 then 255 else if op=6 then 256 else if op=7 then 257 else if op=8 then 259 else if op=9 then 260 else 262
def B6(x:ND):List MV:=if 3≤x.op∧x.op≤9 then[.cptr x.c] else[]
def Gn(x:ND):MV:=.fn (.func (B7 x.op)) [] (B6 x)
theorem HO(x:ND):aA Tryz.prog 205 [.agg x.c] St.none (fun r _=>r=Gn x):=by
 refine aA.seen (aA.body 28 [.tmp 2] Tryz.func205 rfl rfl rfl rfl ?_)
 unfold Gn B7 B6
 have ho:x.op=1∨x.op=3∨x.op=4∨x.op=5∨x.op=6∨x.op=7∨x.op=8∨x.op=9∨(¬x.op=1∧¬x.op=3∧¬x.op=4∧¬x.op=5∧¬x.op=6∧¬x.op=7∧¬x.op=8∧¬x.op=9):=by omega
 rcases ho with h|h|h|h|h|h|h|h|⟨h1,h3,h4,h5,h6,h7,h8,h9⟩
 all_goals try simp(config:={ decide:=true }) only[h,if_true,if_false]
 ·repeat' (first|(with_reducible first|(refine wN fun _ hnl=>?_;revert hnl;(repeat refine wS fun _ _=>?_);intro hnl)|refine wE ?_|(refine wK ?_ ?_<;>intro h)|(refine wB ?_ ?_<;>intro h<;>simp only[h]))|simp(maxSteps:=4000000) (disch:=first|exact ddL|fail) only[go_sem,simprocAttr,Tryz.f205,h])
  exact .same _
 iterate 7
  ·repeat' (first|(with_reducible first|(refine wN fun _ hnl=>?_;revert hnl;(repeat refine wS fun _ _=>?_);intro hnl)|refine wE ?_|(refine wK ?_ ?_<;>intro h)|(refine wB ?_ ?_<;>intro h<;>simp only[h]))|simp(maxSteps:=4000000) (disch:=first|exact ddL|fail) only[go_sem,simprocAttr,Tryz.f205,h])
   exact .fn rfl (gB (.ptr (aJ _ _ _) (by simp)))
 ·rw[if_neg h1,if_neg h3,if_neg h4,if_neg h5,if_neg h6,if_neg h7,if_neg h8,if_neg h9,if_neg (by omega)]
  repeat' (first|(with_reducible first|(refine wN fun _ hnl=>?_;revert hnl;(repeat refine wS fun _ _=>?_);intro hnl)|refine wE ?_|(refine wK ?_ ?_<;>intro h)|(refine wB ?_ ?_<;>intro h<;>simp only[h]))|simp(maxSteps:=4000000) (disch:=first|exact ddL|fail) only[go_sem,simprocAttr,Tryz.f205,h1,h3,h4,h5,h6,h7,h8,h9])
  exact .same _
abbrev mA(c:CA):CD:=⟨c.id,c.ver,c.lab.toNat,c.f.l⟩
theorem Pg(c:CA)(g:Int):aA Tryz.prog 251 [.cptr c.c,.int .u32 g] St.none (fun r _=>r=.bool true):=by
 refine(aA.body 5 [.tmp 4] Tryz.func251 rfl rfl rfl rfl ?_)
 repeat' (first|(with_reducible first|(refine wN fun _ hnl=>?_;revert hnl;(repeat refine wS fun _ _=>?_);intro hnl)|refine wE ?_|(refine wK ?_ ?_<;>intro h)|(refine wB ?_ ?_<;>intro h<;>simp only[h]))|simp(maxSteps:=4000000) (disch:=first|exact ddL|fail) only[go_sem,simprocAttr,Tryz.f251])
theorem Pq(c:CA)(g:Int):aA Tryz.prog 262 [.cptr c.c,.int .u32 g] St.none (fun r _=>r=.bool false):=by
 refine(aA.body 5 [.tmp 4] Tryz.func262 rfl rfl rfl rfl ?_)
 repeat' (first|(with_reducible first|(refine wN fun _ hnl=>?_;revert hnl;(repeat refine wS fun _ _=>?_);intro hnl)|refine wE ?_|(refine wK ?_ ?_<;>intro h)|(refine wB ?_ ?_<;>intro h<;>simp only[h]))|simp(maxSteps:=4000000) (disch:=first|exact ddL|fail) only[go_sem,simprocAttr,Tryz.f262])
theorem Ph(c:CA)(g:Int)(x:ND){n:Nat}(hx:x.n=n)(hn:n<32):aA Tryz.prog 252 [.cptr c.c,.int .u32 g,.cptr x.c] St.none (fun r _=>r=.bool (hasB c.lab.toNat x.n)):=by
 refine(aA.body 13 [.tmp 5] Tryz.func252 rfl rfl rfl rfl ?_)
 have h:=vG c.lab.toNat n c.lab.toNat_lt hn
 rw[hx]
 obtain⟨C,c1⟩:∃C:bR,∀ms,C 253 ms=some ⟨[],fun v=>v=.bool (hasB c.lab.toNat n),none⟩:=⟨fnF [(253,⟨[],fun v=>v=.bool (hasB c.lab.toNat n),none⟩)],fun _=>bO⟩
 repeat' (first|((with_reducible refine aK mixed ?chk C ?_);(case chk=>decide +kernel))|(with_reducible refine aI (c1 _) h ?_)|(with_reducible first|(refine wN fun _ hnl=>?_;revert hnl;(repeat refine wS fun _ _=>?_);intro hnl)|refine wE ?_|(refine wK ?_ ?_<;>intro h)|(refine wB ?_ ?_<;>intro h<;>simp only[h]))|simp(maxSteps:=4000000) (disch:=first|exact ddL|fail) only[go_sem,simprocAttr,Tryz.f252,hx,FYs])
theorem Pj(c:CA)(g:Nat)(hg:g<4294967296)(x:ND){n:Nat}(hx:x.n=n)(hn:n<32):aA Tryz.prog 254 [.cptr c.c,.int .u32 (g:Int),.cptr x.c] St.none (fun r _=>r=.bool (hasB g x.n)):=by
 refine(aA.body 10 [.tmp 5] Tryz.func254 rfl rfl rfl rfl ?_)
 have h:=vG g n hg hn
 rw[hx]
 repeat' (first|(with_reducible first|refine up h ?_)|(with_reducible first|(refine wN fun _ hnl=>?_;revert hnl;(repeat refine wS fun _ _=>?_);intro hnl)|refine wE ?_|(refine wK ?_ ?_<;>intro h)|(refine wB ?_ ?_<;>intro h<;>simp only[h]))|simp(maxSteps:=4000000) (disch:=first|exact ddL|fail) only[go_sem,simprocAttr,Tryz.f254,hx])
theorem Pk(c:CA)(g:Int)(x:ND){k:Nat}(hx:x.n=k)(hk:k<8):aA Tryz.prog 255 [.cptr c.c,.int .u32 g,.cptr x.c] St.none (fun r _=>r=.bool (!decide ((c.f.get k).kd=0))):=by
 refine(aA.body 15 [.tmp 5] Tryz.func255 rfl rfl rfl rfl ?_)
 have hdr:(fc c.f).drop (k * 3)=.int .i64 (c.f.get k).kd::.int .i64 (c.f.get k).n::.str (c.f.get k).s::(fc c.f).drop ((k+1) * 3):=gV (f:=c.f) hk
 repeat' (first|(with_reducible first|(refine wN fun _ hnl=>?_;revert hnl;(repeat refine wS fun _ _=>?_);intro hnl)|refine wE ?_|(refine wK ?_ ?_<;>intro h)|(refine wB ?_ ?_<;>intro h<;>simp only[h]))|simp(maxSteps:=4000000) (disch:=first|exact ddL|fail) only[go_sem,simprocAttr,Tryz.f255,hx,FYs,hdr])
 all_goals first|done|(simp;done)|skip
theorem Pm(c:CA)(g:Int)(x:ND){k:Nat}(hx:x.n=k)(hk:k<8):aA Tryz.prog 256 [.cptr c.c,.int .u32 g,.cptr x.c] St.none (fun r _=>r=.bool (decide (c.f.get k=x.v))):=by
 refine(aA.body 16 [.tmp 5] Tryz.func256 rfl rfl rfl rfl ?_)
 have hat:=oB (f:=c.f) hk
 repeat' (first|(with_reducible first|(refine wN fun _ hnl=>?_;revert hnl;(repeat refine wS fun _ _=>?_);intro hnl)|refine wE ?_|(refine wK ?_ ?_<;>intro h)|(refine wB ?_ ?_<;>intro h<;>simp only[h]))|simp(maxSteps:=4000000) (disch:=first|exact ddL|fail) only[go_sem,simprocAttr,Tryz.f256,hx,FYs,hat])
 exact zR
theorem Pn(c:CA)(g:Int)(x:ND){k:Nat}(hx:x.n=k)(hk:k<8):aA Tryz.prog 257 [.cptr c.c,.int .u32 g,.cptr x.c] St.none (fun r _=>r=.bool (gU (c.f.get k) x.v)):=by
 refine(aA.body 16 [.tmp 5] Tryz.func257 rfl rfl rfl rfl ?_)
 have hat:=oB (f:=c.f) hk
 have h:=sB (c.f.get k) x.v
 obtain⟨C,c1⟩:∃C:bR,∀ms,C 258 ms=some ⟨[],fun v=>v=.bool (gU (c.f.get k) x.v),none⟩:=⟨fnF [(258,⟨[],fun v=>v=.bool (gU (c.f.get k) x.v),none⟩)],fun _=>bO⟩
 repeat' (first|((with_reducible refine aK mixed ?chk C ?_);(case chk=>decide +kernel))|(with_reducible refine aI (c1 _) h ?_)|(with_reducible first|(refine wN fun _ hnl=>?_;revert hnl;(repeat refine wS fun _ _=>?_);intro hnl)|refine wE ?_|(refine wK ?_ ?_<;>intro h)|(refine wB ?_ ?_<;>intro h<;>simp only[h]))|simp(maxSteps:=4000000) (disch:=first|exact ddL|fail) only[go_sem,simprocAttr,Tryz.f257,hx,FYs,hat])
theorem Po(c:CA)(g:Int)(x:ND){k:Nat}(hx:x.n=k)(hk:k<8):aA Tryz.prog 259 [.cptr c.c,.int .u32 g,.cptr x.c] St.none (fun r _=>r=.bool (gU x.v (c.f.get k))):=by
 refine(aA.body 16 [.tmp 5] Tryz.func259 rfl rfl rfl rfl ?_)
 have hat:=oB (f:=c.f) hk
 have h:=sB x.v (c.f.get k)
 obtain⟨C,c1⟩:∃C:bR,∀ms,C 258 ms=some ⟨[],fun v=>v=.bool (gU x.v (c.f.get k)),none⟩:=⟨fnF [(258,⟨[],fun v=>v=.bool (gU x.v (c.f.get k)),none⟩)],fun _=>bO⟩
 repeat' (first|((with_reducible refine aK mixed ?chk C ?_);(case chk=>decide +kernel))|(with_reducible refine aI (c1 _) h ?_)|(with_reducible first|(refine wN fun _ hnl=>?_;revert hnl;(repeat refine wS fun _ _=>?_);intro hnl)|refine wE ?_|(refine wK ?_ ?_<;>intro h)|(refine wB ?_ ?_<;>intro h<;>simp only[h]))|simp(maxSteps:=4000000) (disch:=first|exact ddL|fail) only[go_sem,simprocAttr,Tryz.f259,hx,FYs,hat])
theorem Pp(c:CA)(g:Int)(x:ND){k:Nat}(hx:x.n=k)(hk:k<8)(h1:(c.f.get k).s.size≤1000000)(h2:x.v.s.size≤1000000):aA Tryz.prog 260 [.cptr c.c,.int .u32 g,.cptr x.c] St.none (fun r _=>r=.bool (iS (c.f.get k) x.v)):=by
 refine(aA.body 16 [.tmp 5] Tryz.func260 rfl rfl rfl rfl ?_)
 have hat:=oB (f:=c.f) hk
 have h:=C3 (c.f.get k) x.v h1 h2
 obtain⟨C,c1⟩:∃C:bR,∀ms,C 261 ms=some ⟨[],fun v=>v=.bool (iS (c.f.get k) x.v),none⟩:=⟨fnF [(261,⟨[],fun v=>v=.bool (iS (c.f.get k) x.v),none⟩)],fun _=>bO⟩
 repeat' (first|((with_reducible refine aK mixed ?chk C ?_);(case chk=>decide +kernel))|(with_reducible refine aI (c1 _) h ?_)|(with_reducible first|(refine wN fun _ hnl=>?_;revert hnl;(repeat refine wS fun _ _=>?_);intro hnl)|refine wE ?_|(refine wK ?_ ?_<;>intro h)|(refine wB ?_ ?_<;>intro h<;>simp only[h]))|simp(maxSteps:=4000000) (disch:=first|exact ddL|fail) only[go_sem,simprocAttr,Tryz.f260,hx,FYs,hat])
theorem Pr(c:CA)(hc:∀k,(c.f.get k).s.size≤1000000)(g:Nat)(hg:g<4294967296)(x:ND)(hx:eG x=true):aA Tryz.prog (B7 x.op) ([.cptr c.c,.int .u32 (g:Int)]++B6 x) St.none (fun r _=>r=.bool (bW (mA c) g x)):=by
 have hxs:=zF hx
 have ho:x.op=1∨x.op=3∨x.op=4∨x.op=5∨x.op=6∨x.op=7∨x.op=8∨x.op=9∨(¬x.op=1∧¬x.op=3∧¬x.op=4∧¬x.op=5∧¬x.op=6∧¬x.op=7∧¬x.op=8∧¬x.op=9):=by omega
 have hn:3≤x.op→x.op≤9→0≤x.n∧x.n<16∧(5≤x.op→x.n<8):=fun h1 h2=>by
  have h:=hx
  have e:x.op=3∨x.op=4∨x.op=5∨x.op=6∨x.op=7∨x.op=8∨x.op=9:=by omega
  rcases e with e|e|e|e|e|e|e<;>simp[eG,e] at h<;>omega
 have hnat:3≤x.op→x.op≤9→∃k:Nat,x.n=k∧k<16∧(5≤x.op→k<8):=fun h1 h2=>by
  obtain⟨q1,q2,q3⟩:=hn h1 h2
  exact⟨x.n.toNat,by omega,by omega,fun h=>by have:=q3 h;omega⟩
 unfold B7 B6 bW
 rcases ho with h|h|h|h|h|h|h|h|⟨h1,h3,h4,h5,h6,h7,h8,h9⟩
 ·simp(config:={ decide:=true }) only[h,if_true,if_false]
  exact Pg c g
 ·obtain⟨k,e,h16,_⟩:=hnat (by omega) (by omega)
  simp(config:={ decide:=true }) only[h,if_true,if_false]
  exact Ph c g x e (by omega)
 ·obtain⟨k,e,h16,_⟩:=hnat (by omega) (by omega)
  simp(config:={ decide:=true }) only[h,if_true,if_false]
  exact Pj c g hg x e (by omega)
 ·obtain⟨k,e,_,h8⟩:=hnat (by omega) (by omega)
  simp(config:={ decide:=true }) only[h,if_true,if_false]
  have:=Pk c g x e (h8 (by omega))
  rw[show x.n.toNat=k by omega]
  exact this
 ·obtain⟨k,e,_,h8⟩:=hnat (by omega) (by omega)
  simp(config:={ decide:=true }) only[h,if_true,if_false]
  have:=Pm c g x e (h8 (by omega))
  rw[show x.n.toNat=k by omega]
  exact this
 ·obtain⟨k,e,_,h8⟩:=hnat (by omega) (by omega)
  simp(config:={ decide:=true }) only[h,if_true,if_false]
  have:=Pn c g x e (h8 (by omega))
  rw[show x.n.toNat=k by omega]
  exact this
 ·obtain⟨k,e,_,h8⟩:=hnat (by omega) (by omega)
  simp(config:={ decide:=true }) only[h,if_true,if_false]
  have:=Po c g x e (h8 (by omega))
  rw[show x.n.toNat=k by omega]
  exact this
 ·obtain⟨k,e,_,h8⟩:=hnat (by omega) (by omega)
  simp(config:={ decide:=true }) only[h,if_true,if_false]
  have:=Pp c g x e (h8 (by omega)) (hc k) hxs
  rw[show x.n.toNat=k by omega]
  exact this
 ·rw[if_neg h1,if_neg h3,if_neg h4,if_neg h5,if_neg h6,if_neg h7,if_neg h8,if_neg h9,if_neg (by omega),if_neg h1,if_neg h3,if_neg h4,if_neg h5,if_neg h6,if_neg h7,if_neg h8,if_neg h9]
  exact Pq c g
end

section
def fL:Int→List Int→Bool
 | _,[]=>true
 | last,x::l=>decide (last<x∧1≤x∧x<eU)&&fL x l
def dK:Int→List GR→Bool
 | _,[]=>true
 | last,g::l=>decide (last<g.no∧0≤g.no∧g.no<16)&&fL 0 g.mem&&dK g.no l
def b9(a b:List Int):List Int:=a.filter fun x=>!decide (x∈b)
def grF(id:Int)(s:Nat)(g:GR):Nat:=if id∈g.mem then s ||| 2 ^ g.no.toNat else s
def grB(l:List GR)(id:Int):Nat:=l.foldl (grF id) 0
def dH(nx:Int):Int→List CA→Bool
 | _,[]=>true
 | last,c::l=>cW c&&decide (last<c.id∧c.id<nx)&&dH nx c.id l
def JU(nx:Int)(cs:List CA)(pre:List DE)(d:DE):Bool :=
 decide (1≤d.id∧d.id<nx∧1≤d.ver∧d.ver≤big∧0≤d.sq∧d.sq≤big)&&decide (d.id∉cs.map CA.id)&&pre.all fun e=>decide (e.id≠d.id∧e.sq≤d.sq)
def fR(nx:Int)(cs:List CA):List DE→List DE→Bool
 | _,[]=>true
 | pre,d::l=>JU nx cs pre d&&fR nx cs (pre++[d]) l
def nY(nx:Int)(cs:List CA)(ds:List DE):Bool :=
 decide (1≤nx∧nx≤eU∧cs.length≤48∧ds.length≤40)&&(dH nx 0 cs&&fR nx cs [] ds)
def kG(b:BK):Bool :=
 nY b.nx b.cards b.dead&&decide (0≤b.sq∧b.sq≤big)&&dK (-1) b.gr&&(b.dead.all fun d=>decide (d.sq≤b.sq))&&b.gr.all fun g=>decide (b9 g.mem (b.cards.map CA.id)=[])
def iV(f:F8)(m:Nat):Nat→F8
 | 0=>f80
 | i+1=>if bit m i=true then(iV f m i).set i (f.get i) else iV f m i
def N4(f:F8)(m:Nat):F8:=iV f m 8
def cC(c:CA)(m:UInt32):CA:=⟨c.id,c.ver,if bit m.toNat 8=true then c.lab else 0,N4 c.f m.toNat⟩
def wZ(t:TU):Bool :=
 decide (1≤t.sq∧t.sq≤big∧1≤t.id∧t.id<eU∧0≤t.old∧t.old≤big∧0≤t.new∧t.new≤big∧t.old≠t.new)&&if t.new=0 then decide (t.card=ca0) else cW t.card&&decide (t.card.id=t.id∧t.card.ver=t.new)
def cJ:List TU→Int→Option Int
 | [],_=>none
 | t::l,id=>match cJ l id with
  | some v=>some v
  | none=>if t.id=id then some t.new else none
def oK:List TU→Int
 | []=>0
 | [t]=>t.sq
 | _::t::l=>oK (t::l)
def FH(pre:List TU)(t:TU):Bool:=wZ t&&decide (oK pre<t.sq)&&decide ((cJ pre t.id).getD t.old=t.old)
def eR:List TU→List TU→Bool
 | _,[]=>true
 | pre,t::l=>FH pre t&&eR (pre++[t]) l
open Classical in
noncomputable def nA(fl:List ND):T:=if h:∃t:T,Good t∧fl=t.fl then h.choose else .leaf nd0
noncomputable def dG(gr:List GR)(fl:List ND)(c:CA):Bool:=(nA fl).sem (bW (mA c) (grB gr c.id))
noncomputable def shown(b:BK)(fl:List ND)(id:Int):Option CA :=
 match b.cards.find? (fun c=>decide (c.id=id)) with
 | none=>none
 | some c=>if dG b.gr fl c=true then some c else none
noncomputable def nE(b:BK)(fl:List ND)(id:Int):Int:=((shown b fl id).getD ca0).ver
noncomputable def oT(b:BK)(fl:List ND)(m:UInt32)(cur:Int):List CA:=(b.cards.filter fun c=>decide (c.id≤cur)&&dG b.gr fl c).map fun c=>cC c m
noncomputable def Es(b:BK)(fl:List ND):List Int:=(b.cards.filter (dG b.gr fl)).map CA.id
noncomputable def zB(b:BK)(fl:List ND)(m:UInt32)(log:List TU):Bool :=
 (List.range log.length).all fun i=>decide (cC (log.getD i tuZ).card m=(log.getD i tuZ).card)&&(decide ((cJ (log.drop (i+1)) (log.getD i tuZ).id)≠none) || decide (nE b fl (log.getD i tuZ).id=(log.getD i tuZ).new))
noncomputable def eA(b:BK)(fl:List ND)(m:UInt32)(floor:Int)(log:List TU):Bool :=
 decide (bF fl=0)&&decide (m.toNat≤511)&&decide (0≤floor∧floor≤b.sq∧log.length≤40)&&eR [] log&&decide (log≠[]→floor<(log.getD 0 tuZ).sq∧(log.getD (log.length - 1) tuZ).sq≤b.sq)&&zB b fl m log
theorem tA{fl:List ND}(h:bF fl=0):Good (nA fl)∧(nA fl).fl=fl∧fl.length≤31:=by
 obtain⟨h1,h2,h3,h4,h5⟩:=(C6 fl).1 h
 have hf:Mz fl=true:=by
  unfold Mz
  rw[h4,decide_eq_true h3,decide_eq_true ⟨h2,by omega⟩]
  rfl
 obtain⟨t,ok,e,_,hn⟩:=JZ hf
 have hex:∃t:T,Good t∧fl=t.fl:=⟨t,⟨ok,fun x hx=>hn x (by rw[e];exact hx)⟩,e⟩
 unfold nA
 rw[dif_pos hex]
 exact⟨hex.choose_spec.1,hex.choose_spec.2.symm,h1⟩
theorem Gk{id:Int}:∀(pre:List GR) (g:GR) (r:List GR) (lo:Int) (s:Nat),-1≤lo→s<2 ^ (lo+1).toNat→dK lo (pre++g::r)=true→pre.foldl (grF id) s<2 ^ g.no.toNat
 | [],g,r,lo,s,h0,hs,h=>by
  simp only[List.nil_append,dK,Bool.and_eq_true,decide_eq_true_eq] at h
  exact Nat.lt_of_lt_of_le hs (Nat.pow_le_pow_right (by omega) (by omega))
 | x::pre,g,r,lo,s,h0,hs,h=>by
  simp only[List.cons_append,dK,Bool.and_eq_true,decide_eq_true_eq] at h
  obtain⟨⟨⟨h1,h2,h3⟩,h4⟩,h5⟩:=h
  rw[List.foldl_cons]
  refine Gk pre g r x.no _ (by omega) ?_ h5
  have hlt:s<2 ^ x.no.toNat:=Nat.lt_of_lt_of_le hs (Nat.pow_le_pow_right (by omega) (by omega))
  have e:(x.no+1).toNat=x.no.toNat+1:=by omega
  rw[e]
  have hp:2 ^ x.no.toNat<2 ^ (x.no.toNat+1):=Nat.pow_lt_pow_right (by omega) (by omega)
  unfold grF
  split
  ·exact Nat.or_lt_two_pow (by omega) hp
  ·omega
theorem BN:∀(pre:List GR) (g:GR) (r:List GR) (lo:Int),dK lo (pre++g::r)=true→0≤g.no∧g.no<16∧fL 0 g.mem=true
 | [],g,r,lo,h=>by
  simp only[List.nil_append,dK,Bool.and_eq_true,decide_eq_true_eq] at h
  exact⟨h.1.1.2.1,h.1.1.2.2,h.1.2⟩
 | x::pre,g,r,lo,h=>by
  simp only[List.cons_append,dK,Bool.and_eq_true,decide_eq_true_eq] at h
  exact BN pre g r x.no h.2
theorem mX{α:Type}(l:List α){i:Nat}{x:α}(h:l[i]?=some x):l=l.take i++x::l.drop (i+1):=by
 have hi:i<l.length:=(List.getElem?_eq_some_iff.1 h).1
 have e:=(List.getElem?_eq_some_iff.1 h).2
 conv=>lhs;rw[←List.take_append_drop i l,List.drop_eq_getElem_cons hi,e]
theorem aV{α:Type}{l:List α}{i:Nat}{x:α}(h:l[i]?=some x):l.take (i+1)=l.take i++[x]:=by
 rw[List.take_add_one,h];rfl
theorem dT{α:Type}{l:List α}{i:Nat}{x:α}(h:l[i]?=some x):l.drop i=x::l.drop (i+1):=by
 have hi:i<l.length:=(List.getElem?_eq_some_iff.1 h).1
 have e:=(List.getElem?_eq_some_iff.1 h).2
 rw[List.drop_eq_getElem_cons hi,e]
theorem Al{l:List GR}(h:dK (-1) l=true){i:Nat}{g:GR}(hi:l[i]?=some g)(id:Int):grB (l.take i) id<2 ^ g.no.toNat∧0≤g.no∧g.no<16∧fL 0 g.mem=true:=by
 rw[mX l hi] at h
 exact⟨Gk _ g _ (-1) 0 (by omega) (by simp) h,BN _ g _ _ h⟩
theorem uA{l:List GR}{i:Nat}{g:GR}(hi:l[i]?=some g)(id:Int):grB (l.take (i+1)) id=grF id (grB (l.take i) id) g:=by
 rw[aV hi,grB,List.foldl_append];rfl
theorem bB{α:Type}{l:List α}{f:α→List MV}{i:Nat}{x:α}(h:l[i]?=some x):(l.map f).getD i []=f x:=by
 rw[List.getD_eq_getElem?_getD,List.getElem?_map,h];rfl
theorem bI{α:Type}(l:List α){i:Nat}(h:i<l.length):∃x,l[i]?=some x:=⟨_,List.getElem?_eq_getElem h⟩
theorem J8{l:List Int}{i:Nat}{x:Int}(h:l[i]?=some x)(hn:x∉l.take i):l.idxOf x=i:=by
 have hi:i<l.length:=(List.getElem?_eq_some_iff.1 h).1
 rw[mX l h,List.idxOf_append,if_neg hn,List.idxOf_cons_self,List.length_take]
 omega
def fW(l:List Int)(x:Int):Int:=if x∈l then(l.idxOf x:Int) else -1
theorem vJ{l:List Int}{x:Int}:(fW l x<0)=(x∉l):=propext (by unfold fW;split<;>simp[*])
theorem cZ{α:Type}{l:List α}{i:Nat}{x:α}(h:l[i]?=some x):x∈l:=List.mem_of_getElem? h
theorem gY{α:Type}{l:List α}{f:α→Int}{i:Nat}{x:α}(h:l[i]?=some x):(l.map f)[i]?=some (f x):=by rw[List.getElem?_map,h];rfl
theorem iK{nx:Int}:∀{last:Int} {l:List CA},dH nx last l=true→(∀c,c∈l→cW c=true∧last<c.id∧c.id<nx)∧l.Pairwise (fun a b=>a.id<b.id)
 | _,[],_=>⟨by simp,.nil⟩
 | last,x::l,h=>by
  simp only[dH,Bool.and_eq_true,decide_eq_true_eq] at h
  obtain⟨⟨h1,h2,h3⟩,h4⟩:=h
  obtain⟨i1,i2⟩:=iK h4
  refine⟨fun c hc=>?_,List.pairwise_cons.2 ⟨fun c hc=>(i1 c hc).2.1,i2⟩⟩
  rcases List.mem_cons.1 hc with rfl|hc
  ·exact⟨h1,h2,h3⟩
  ·obtain⟨a,b,c'⟩:=i1 c hc
   exact⟨a,by omega,c'⟩
structure BkR (b:BK):Prop where
 nx1:1≤b.nx
 nx2:b.nx≤1073741824
 nc:b.cards.length≤48
 nd:b.dead.length≤40
 cok:dH b.nx 0 b.cards=true
 dok:fR b.nx b.cards [] b.dead=true
 sq1:0≤b.sq
 sq2:b.sq≤1099511627776
 gok:dK (-1) b.gr=true
theorem JK{b:BK}(h:kG b=true):BkR b:=by
 unfold kG nY big eU at h
 simp only[Bool.and_eq_true,decide_eq_true_eq] at h
 obtain⟨⟨⟨⟨⟨⟨h1,h2,h3,h4⟩,h5,h6⟩,h7,h8⟩,h9⟩,-⟩,-⟩:=h
 exact⟨h1,h2,h3,h4,h5,h6,h7,h8,h9⟩
theorem pN{b:BK}(h:BkR b){c:CA}(hc:c∈b.cards):cW c=true∧0<c.id∧c.id<1073741824:=by
 obtain⟨h1,h2,h3⟩:=(iK h.cok).1 c hc
 exact⟨h1,h2,by have:=h.nx2;omega⟩
theorem tL{c:CA}(h:cW c=true):∀v,v∈c.f.l→v.s.size≤1000000:=fun v hv=>by
 unfold cW at h
 rw[Bool.and_eq_true] at h
 exact pI (List.all_eq_true.1 h.2 v hv)
theorem Gj{gr:List GR}(h:dK (-1) gr=true)(id:Int):grB gr id<65536:=by
 have hlast:∀i,i≤gr.length→grB (gr.take i) id<65536:=fun i hi=>by
  cases i with
  | zero=>simp[grB]
  | succ i =>
   obtain⟨g,hg⟩:=bI gr (by omega:i<gr.length)
   obtain⟨h1,h2,h3,_⟩:=Al h hg id
   rw[uA hg]
   have e:2 ^ g.no.toNat<2 ^ 16:=Nat.pow_lt_pow_right (by omega) (by omega)
   unfold grF
   split
   ·exact Nat.or_lt_two_pow (n:=16) (Nat.lt_trans h1 e) e
   ·exact Nat.lt_trans h1 e
 have:=hlast gr.length (Nat.le_refl _)
 rwa [List.take_length] at this
theorem Ht{l:List CA}{id:Int}{i:Nat}(h:∀c,c∈l.take i→c.id≠id){c:CA}(hc:l[i]?=some c)(he:c.id=id):l.find? (fun c=>decide (c.id=id))=some c:=by
 rw[mX l hc,List.find?_append]
 have:(l.take i).find? (fun c=>decide (c.id=id))=none:=List.find?_eq_none.2 fun x hx=>by simpa using h x hx
 rw[this]
 simp[he]
end

section
set_option maxRecDepth 100000
set_option maxHeartbeats 4000000
theorem eH{σ:St}{q:Nat}{t:TypeId}{e n:Nat}{xs ex:List (List MV)}(hq:σ q=some (.row t e (xs++ex)))(hn:n=xs.length):View σ (.vec e q 0 n) (.lst e xs false):=by
 subst hn
 have:=View.vec (σ:=σ) (lo:=0) (n:=xs.length) hq (by rw[List.length_append];omega)
 rw[List.drop_zero,List.take_left] at this
 exact this
def cD(l:List Int)(i:Nat)(z:Int):Int:=if i=0 then z else l.getD (i - 1) 0
theorem fU{l:List Int}{i:Nat}{x z:Int}(h:l[i]?=some x):cD l (i+1) z=x:=by
 unfold cD
 rw[if_neg (by omega),Nat.add_sub_cancel,List.getD_eq_getElem?_getD,h];rfl
theorem s8{α:Type}{l:List α}{i:Nat}(hi:i≤l.length)(h0:0<i):∃y,l[i - 1]?=some y:=bI l (by omega)
theorem I9(l:List Int)(tt:Bool)(hl:l.length≤1000000):aA Tryz.prog 187 [.lst 1 (l.map aP) tt] St.none (fun r _=>r=.bool (fL 0 l)):=by
 refine aA.bZ (aA.body 38 [.tmp 2] Tryz.func187 rfl rfl rfl rfl ?_)
 repeat' (first|(with_reducible first|(refine wN fun _ hnl=>?_;revert hnl;(repeat refine wS fun _ _=>?_);intro hnl)|refine wE ?_|(refine wK ?_ ?_<;>intro h)|(refine wB ?_ ?_<;>intro h<;>simp only[h]))|simp(maxSteps:=4000000) (disch:=first|decide|assumption|omega|(simp only[wL];omega)) only[go_sem,simprocAttr,Tryz.f187])
 refine aF (α:=Nat) (fun i=>⟨38,[(3,.int .i64 (i:Int)),(0,.lst 1 (l.map aP) tt)],[]⟩) (fun _=>St.none) (fun i=>i≤l.length∧fL 0 l=fL (cD l i 0) (l.drop i)) (fun i=>l.length - i) (.of (.less ?_ (St.le_refl _)) ⟨0,rfl,rfl,Nat.zero_le _,rfl⟩) ?_
 ·simp(maxSteps:=4000000) (disch:=first|decide|assumption|omega|(simp only[wL];omega)) only[go_sem,simprocAttr,aC,aB]
  all_goals rfl
 ·rintro i ⟨hi,hq⟩
  by_cases hlt:i<l.length
  ·obtain⟨x,hx⟩:=bI l hlt
   rw[dT hx,fL] at hq
   have hat:=bB (f:=aP) hx
   have hnext:=fU hx (z:=0)
   have hto:((i:Int) - 1).toNat=i - 1:=by omega
   have hl0:i=0→cD l i 0=0:=fun h=>if_pos h
   have hl1:0<i→∃y,(l.map aP).getD (i - 1) []=aP y∧cD l i 0=y:=fun h=>by
    obtain⟨y,hy⟩:=s8 hi h
    refine⟨y,bB hy,?_⟩
    unfold cD
    rw[if_neg (by omega),List.getD_eq_getElem?_getD,hy];rfl
   obtain⟨last,hlast⟩:∃k,cD l i 0=k:=⟨_,rfl⟩
   obtain⟨res,hres⟩:∃b,fL 0 l=b:=⟨_,rfl⟩
   rw[hlast] at hq hl0 hl1
   unfold eU at hq
   rw[hres] at hq ⊢
   by_cases hr:last<x∧1≤x∧x<1073741824
   ·rw[decide_eq_true hr,Bool.true_and] at hq
    obtain⟨hr1,hr2,hr3⟩:=hr
    rcases Nat.eq_zero_or_pos i with hi0|hi0
    ·repeat' (first|(with_reducible first|(refine wN fun _ hnl=>?_;revert hnl;(repeat refine wS fun _ _=>?_);intro hnl)|refine wE ?_|(refine wK ?_ ?_<;>intro h)|(refine wB ?_ ?_<;>intro h<;>simp only[h]))|simp(maxSteps:=4000000) (disch:=first|decide|assumption|omega|(simp only[wL];omega)) only[go_sem,simprocAttr,hat,hto])
     all_goals (try (exfalso;omega))
     all_goals
      refine .of (.less ?_ (St.none_le _)) ⟨i+1,rfl,rfl,⟨by omega,by rw[hnext];exact hq⟩,by omega⟩
      simp(maxSteps:=4000000) (disch:=first|decide|assumption|omega|(simp only[wL];omega)) only[go_sem,simprocAttr,aC,aB]
      all_goals rfl
    ·obtain⟨y,hy,hly⟩:=hl1 hi0
     repeat' (first|(with_reducible first|(refine wN fun _ hnl=>?_;revert hnl;(repeat refine wS fun _ _=>?_);intro hnl)|refine wE ?_|(refine wK ?_ ?_<;>intro h)|(refine wB ?_ ?_<;>intro h<;>simp only[h]))|simp(maxSteps:=4000000) (disch:=first|decide|assumption|omega|(simp only[wL];omega)) only[go_sem,simprocAttr,hat,hto,hy])
     all_goals (try (exfalso;omega))
     all_goals
      refine .of (.less ?_ (St.none_le _)) ⟨i+1,rfl,rfl,⟨by omega,by rw[hnext];exact hq⟩,by omega⟩
      simp(maxSteps:=4000000) (disch:=first|decide|assumption|omega|(simp only[wL];omega)) only[go_sem,simprocAttr,aC,aB]
      all_goals rfl
   ·rw[decide_eq_false hr,Bool.false_and] at hq
    rw[hq]
    rcases Nat.eq_zero_or_pos i with hi0|hi0
    ·have:=hl0 hi0
     repeat' (first|(with_reducible first|(refine wN fun _ hnl=>?_;revert hnl;(repeat refine wS fun _ _=>?_);intro hnl)|refine wE ?_|(refine wK ?_ ?_<;>intro h)|(refine wB ?_ ?_<;>intro h<;>simp only[h]))|simp(maxSteps:=4000000) (disch:=first|decide|assumption|omega|(simp only[wL];omega)) only[go_sem,simprocAttr,hat,hto])
     all_goals first|exact⟨_,St.le_refl _,rfl⟩|exact⟨_,St.le_refl _⟩|(exfalso;omega)
    ·obtain⟨y,hy,hly⟩:=hl1 hi0
     repeat' (first|(with_reducible first|(refine wN fun _ hnl=>?_;revert hnl;(repeat refine wS fun _ _=>?_);intro hnl)|refine wE ?_|(refine wK ?_ ?_<;>intro h)|(refine wB ?_ ?_<;>intro h<;>simp only[h]))|simp(maxSteps:=4000000) (disch:=first|decide|assumption|omega|(simp only[wL];omega)) only[go_sem,simprocAttr,hat,hto,hy])
     all_goals first|exact⟨_,St.le_refl _,rfl⟩|exact⟨_,St.le_refl _⟩|(exfalso;omega)
  ·have:i=l.length:=by omega
   subst this
   rw[hq,List.drop_length,fL]
   repeat' (first|(with_reducible first|(refine wN fun _ hnl=>?_;revert hnl;(repeat refine wS fun _ _=>?_);intro hnl)|refine wE ?_|(refine wK ?_ ?_<;>intro h)|(refine wB ?_ ?_<;>intro h<;>simp only[h]))|simp(maxSteps:=4000000) (disch:=first|decide|assumption|omega|(simp only[wL];omega)) only[go_sem,simprocAttr])
   all_goals first|exact⟨_,St.le_refl _,rfl⟩|exact⟨_,St.le_refl _⟩
theorem sE(l:List Int)(tt:Bool)(hl:l.length≤1000000)(x:Int):aA Tryz.prog 158 [.lst 1 (l.map aP) tt,.int .i64 x] St.none (fun r _=>r=.bool (decide (x∈l))):=by
 refine aA.bZ (aA.body 18 [.tmp 4] Tryz.func158 rfl rfl rfl rfl ?_)
 repeat' (first|(with_reducible first|(refine wN fun _ hnl=>?_;revert hnl;(repeat refine wS fun _ _=>?_);intro hnl)|refine wE ?_|(refine wK ?_ ?_<;>intro h)|(refine wB ?_ ?_<;>intro h<;>simp only[h]))|simp(maxSteps:=4000000) (disch:=first|decide|assumption|omega|(simp only[wL];omega)) only[go_sem,simprocAttr,Tryz.f158])
 refine aF (α:=Nat) (fun i=>⟨18,[(5,.int .i64 (i:Int)),(0,.lst 1 (l.map aP) tt),(1,.int .i64 x)],[]⟩) (fun _=>St.none) (fun i=>i≤l.length∧x∉l.take i) (fun i=>l.length - i) (.of (.less ?_ (St.le_refl _)) ⟨0,rfl,rfl,Nat.zero_le _,by simp⟩) ?_
 ·simp(maxSteps:=4000000) (disch:=first|decide|assumption|omega|(simp only[wL];omega)) only[go_sem,simprocAttr,aC,aB]
  all_goals rfl
 ·rintro i ⟨hi,hq⟩
  by_cases hlt:i<l.length
  ·obtain⟨y,hy⟩:=bI l hlt
   have hat:=bB (f:=aP) hy
   have hmem:=List.mem_of_getElem? hy
   have hnext:x≠y→x∉l.take (i+1):=fun h=>by
    rw[aV hy,List.mem_append,List.mem_singleton]
    exact not_or.2 ⟨hq,h⟩
   by_cases he:y=x
   ·subst he
    rw[decide_eq_true hmem]
    repeat' (first|(with_reducible first|(refine wN fun _ hnl=>?_;revert hnl;(repeat refine wS fun _ _=>?_);intro hnl)|refine wE ?_|(refine wK ?_ ?_<;>intro h)|(refine wB ?_ ?_<;>intro h<;>simp only[h]))|simp(maxSteps:=4000000) (disch:=first|decide|assumption|omega|(simp only[wL];omega)) only[go_sem,simprocAttr,hat])
    all_goals first|exact⟨_,St.le_refl _,rfl⟩|exact⟨_,St.le_refl _⟩
   ·repeat' (first|(with_reducible first|(refine wN fun _ hnl=>?_;revert hnl;(repeat refine wS fun _ _=>?_);intro hnl)|refine wE ?_|(refine wK ?_ ?_<;>intro h)|(refine wB ?_ ?_<;>intro h<;>simp only[h]))|simp(maxSteps:=4000000) (disch:=first|decide|assumption|omega|(simp only[wL];omega)) only[go_sem,simprocAttr,hat])
    all_goals (try (exfalso;omega))
    all_goals
     refine .of (.less ?_ (St.none_le _)) ⟨i+1,rfl,rfl,⟨by omega,hnext (Ne.symm he)⟩,by omega⟩
     simp(maxSteps:=4000000) (disch:=first|decide|assumption|omega|(simp only[wL];omega)) only[go_sem,simprocAttr,aC,aB]
     all_goals rfl
  ·have:i=l.length:=by omega
   subst this
   rw[List.take_length] at hq
   rw[decide_eq_false hq]
   repeat' (first|(with_reducible first|(refine wN fun _ hnl=>?_;revert hnl;(repeat refine wS fun _ _=>?_);intro hnl)|refine wE ?_|(refine wK ?_ ?_<;>intro h)|(refine wB ?_ ?_<;>intro h<;>simp only[h]))|simp(maxSteps:=4000000) (disch:=first|decide|assumption|omega|(simp only[wL];omega)) only[go_sem,simprocAttr])
   all_goals first|exact⟨_,St.le_refl _,rfl⟩|exact⟨_,St.le_refl _⟩
theorem Cr{a b:List Int}{i:Nat}{x:Int}(h:a[i]?=some x):b9 (a.take (i+1)) b=b9 (a.take i) b++if x∈b then[] else[x]:=by
 unfold b9
 rw[aV h,List.filter_append,List.filter_cons]
 by_cases hb:x∈b<;>simp[hb]
theorem EV(a b:List Int):(b9 a b).length≤a.length:=List.length_filter_le _ _
theorem Dn(a b:List Int)(ta tb:Bool)(ha:a.length≤1000000)(hb:b.length≤1000000):aA Tryz.prog 110 [.lst 1 (a.map aP) ta,.lst 1 (b.map aP) tb] St.none (fun r _=>r=.lst 1 ((b9 a b).map aP) false):=by
 refine aA.seen (aA.body 29 [.tmp 4] Tryz.func110 rfl rfl rfl rfl ?_)
 repeat' (first|(with_reducible first|(refine wT ?_;(first|((fail_if_success (have:=nl1));refine wN fun nl1 hnl=>?_)|((fail_if_success (have:=nl2));refine wN fun nl2 hnl=>?_)|((fail_if_success (have:=nl3));refine wN fun nl3 hnl=>?_)|refine wN fun _ hnl=>?_);revert hnl;(repeat refine wS fun _ _=>?_);intro hnl)|refine wE ?_|(refine wK ?_ ?_<;>intro h)|(refine wB ?_ ?_<;>intro h<;>simp only[h]))|simp(maxSteps:=4000000) (disch:=first|decide|assumption|omega|(simp only[wL];omega)) only[go_sem,simprocAttr,Tryz.f110])
 refine aF (α:=Nat × Nat × List (List MV)) (fun s=>⟨29,[(6,.int .i64 (s.1:Int)),(5,.vec 1 s.2.1 0 (b9 (a.take s.1) b).length),(0,.lst 1 (a.map aP) ta),(1,.lst 1 (b.map aP) tb)],[]⟩)
  (fun s=>St.none.set s.2.1 (.row 3 1 ((b9 (a.take s.1) b).map aP++s.2.2))) (fun s=>s.1≤a.length) (fun s=>a.length - s.1) ?_ ?_
 ·refine .of (.less ?_ (St.le_refl _)) ⟨(0,nl1,[]),rfl,by simp[b9],Nat.zero_le _⟩
  simp(maxSteps:=4000000) (disch:=first|decide|assumption|omega|(simp only[wL];omega)) only[go_sem,simprocAttr,aC,aB]
  all_goals first|rfl|(simp[b9,aB];done)
 ·rintro⟨i,q,ex⟩ hi
  simp only at hi ⊢
  by_cases hlt:i<a.length
  ·obtain⟨x,hx⟩:=bI a hlt
   have hat:=bB (f:=aP) hx
   have hh:=sE b tb hb x
   have hsn:=Cr (b:=b) hx
   have hml:=EV (a.take i) b
   have htl:(a.take i).length=i:=by rw[List.length_take];omega
   rw[htl] at hml
   by_cases hm:x∈b
   ·rw[decide_eq_true hm] at hh
    rw[if_pos hm,List.append_nil] at hsn
    rw[←hsn]
    repeat' (first|(with_reducible first|refine up hh ?_)|(with_reducible first|(refine wT ?_;(first|((fail_if_success (have:=nl1));refine wN fun nl1 hnl=>?_)|((fail_if_success (have:=nl2));refine wN fun nl2 hnl=>?_)|((fail_if_success (have:=nl3));refine wN fun nl3 hnl=>?_)|refine wN fun _ hnl=>?_);revert hnl;(repeat refine wS fun _ _=>?_);intro hnl)|refine wE ?_|(refine wK ?_ ?_<;>intro h)|(refine wB ?_ ?_<;>intro h<;>simp only[h]))|simp(maxSteps:=4000000) (disch:=first|decide|assumption|omega|(simp only[wL];omega)) only[go_sem,simprocAttr,hat])
    refine .of (.less ?_ (St.le_refl _)) ⟨(i+1,q,ex),rfl,rfl,by simp only;omega,by simp only;omega⟩
    simp(maxSteps:=4000000) (disch:=first|decide|assumption|omega|(simp only[wL];omega)) only[go_sem,simprocAttr,aC,aB]
    all_goals first|rfl|(simp;done)
   ·rw[decide_eq_false hm] at hh
    rw[if_neg hm] at hsn
    obtain⟨L,hL⟩:∃L,b9 (a.take i) b=L:=⟨_,rfl⟩
    rw[hL] at hsn hml ⊢
    have htk:(L.map aP++ex).take L.length=L.map aP:=jV
    have hdr:(L.map aP++ex).drop (L.length+1)=ex.drop 1:=kI
    have hLl:(L.map aP).length=L.length:=List.length_map _
    repeat' (first|(with_reducible first|refine up hh ?_)|(with_reducible first|(refine wT ?_;(first|((fail_if_success (have:=nl1));refine wN fun nl1 hnl=>?_)|((fail_if_success (have:=nl2));refine wN fun nl2 hnl=>?_)|((fail_if_success (have:=nl3));refine wN fun nl3 hnl=>?_)|refine wN fun _ hnl=>?_);revert hnl;(repeat refine wS fun _ _=>?_);intro hnl)|refine wE ?_|(refine wK ?_ ?_<;>intro h)|(refine wB ?_ ?_<;>intro h<;>simp only[h]))|simp(maxSteps:=4000000) (disch:=first|decide|assumption|omega|(simp only[wL];omega)) only[go_sem,simprocAttr,hat,htk,hdr,hLl])
    ·have hex:ex=[]:=List.eq_nil_of_length_eq_zero (by first|omega|(simp at *;omega))
     subst hex
     refine .of (.less ?_ (σ1:=St.none.set nl3 (.row 3 1 (L.map aP++[]++[aP x]))) (St.aD (St.none_le _) (by simp[St.set, *]))) ⟨(i+1,nl3,[]),rfl,by simp[hsn],by simp only;omega,by simp only;omega⟩
     simp(maxSteps:=4000000) (disch:=first|decide|assumption|omega|(simp only[wL];omega)) only[go_sem,simprocAttr,aC,aB,hsn]
     all_goals first|rfl|(simp;done)
    ·refine .of (.less ?_ (σ1:=St.none.set nl3 (.row 3 1 (L.map aP++[aP x]++ex.drop 1))) (St.aD (St.none_le _) (by simp[St.set, *]))) ⟨(i+1,nl3,ex.drop 1),rfl,by simp[hsn],by simp only;omega,by simp only;omega⟩
     simp(maxSteps:=4000000) (disch:=first|decide|assumption|omega|(simp only[wL];omega)) only[go_sem,simprocAttr,aC,aB,hsn]
     all_goals first|rfl|(simp;done)
  ·have:i=a.length:=by omega
   subst this
   rw[List.take_length]
   repeat' (first|(with_reducible first|(refine wT ?_;(first|((fail_if_success (have:=nl1));refine wN fun nl1 hnl=>?_)|((fail_if_success (have:=nl2));refine wN fun nl2 hnl=>?_)|((fail_if_success (have:=nl3));refine wN fun nl3 hnl=>?_)|refine wN fun _ hnl=>?_);revert hnl;(repeat refine wS fun _ _=>?_);intro hnl)|refine wE ?_|(refine wK ?_ ?_<;>intro h)|(refine wB ?_ ?_<;>intro h<;>simp only[h]))|simp(maxSteps:=4000000) (disch:=first|decide|assumption|omega|(simp only[wL];omega)) only[go_sem,simprocAttr])
   exact eH (aJ _ _ _) (by simp)
end

section
set_option maxRecDepth 100000
set_option maxHeartbeats 4000000
theorem vT(l:List GR)(tt:Bool)(hl:l.length≤1000000)(hm:∀g,g∈l→g.mem.length≤1000000)(hok:dK (-1) l=true)(id:Int):aA Tryz.prog 91 [.lst 2 (l.map GR.c) tt,.int .i64 id] St.none (fun r _=>r=.int .u32 (grB l id:Int)):=by
 refine aA.bZ (aA.body 28 [.tmp 4] Tryz.func91 rfl rfl rfl rfl ?_)
 repeat' (first|(with_reducible first|(refine wN fun _ hnl=>?_;revert hnl;(repeat refine wS fun _ _=>?_);intro hnl)|refine wE ?_|(refine wK ?_ ?_<;>intro h)|(refine wB ?_ ?_<;>intro h<;>simp only[h]))|simp(maxSteps:=4000000) (disch:=first|decide|assumption|omega|(simp only[wL];omega)) only[go_sem,simprocAttr,Tryz.f91])
 refine aF (α:=Nat) (fun i=>⟨28,[(6,.int .i64 (i:Int)),(5,.int .u32 (grB (l.take i) id:Int)),(0,.lst 2 (l.map GR.c) tt),(1,.int .i64 id)],[]⟩) (fun _=>St.none) (fun i=>i≤l.length) (fun i=>l.length - i) (.of (.less ?_ (St.le_refl _)) ⟨0,rfl,rfl,Nat.zero_le _⟩) ?_
 ·simp(maxSteps:=4000000) (disch:=first|decide|assumption|omega|(simp only[wL];omega)) only[go_sem,simprocAttr,aC,aB]
  all_goals first|rfl|(simp[grB,aB];done)
 ·rintro i hi
  by_cases hlt:i<l.length
  ·obtain⟨g,hg⟩:=bI l hlt
   have hat:=bB (f:=GR.c) hg
   have hsn:=uA hg id
   obtain⟨h1,h2,h3,h4⟩:=Al hok hg id
   have hh:=sE g.mem false (hm g (cZ hg)) id
   obtain⟨k,hk⟩:∃k:Nat,g.no=k:=⟨g.no.toNat,by omega⟩
   rw[hk] at h1 h2 h3
   rw[Int.toNat_natCast] at h1
   have hw:=Fx (grB (l.take i) id) k (by omega) h1
   unfold grF at hsn
   rw[hk,Int.toNat_natCast] at hsn
   by_cases hmem:id∈g.mem
   ·rw[if_pos hmem] at hsn
    rw[decide_eq_true hmem] at hh
    repeat' (first|(with_reducible first|refine up hh ?_|refine up hw ?_)|(with_reducible first|(refine wN fun _ hnl=>?_;revert hnl;(repeat refine wS fun _ _=>?_);intro hnl)|refine wE ?_|(refine wK ?_ ?_<;>intro h)|(refine wB ?_ ?_<;>intro h<;>simp only[h]))|simp(maxSteps:=4000000) (disch:=first|decide|assumption|omega|(simp only[wL];omega)) only[go_sem,simprocAttr,hat,hk])
    refine .of (.less ?_ (St.le_refl _)) ⟨i+1,rfl,rfl,by omega,by omega⟩
    rw[hsn]
    simp(maxSteps:=4000000) (disch:=first|decide|assumption|omega|(simp only[wL];omega)) only[go_sem,simprocAttr,aC,aB]
    all_goals first|rfl|(simp;done)
   ·rw[if_neg hmem] at hsn
    rw[decide_eq_false hmem] at hh
    repeat' (first|(with_reducible first|refine up hh ?_|refine up hw ?_)|(with_reducible first|(refine wN fun _ hnl=>?_;revert hnl;(repeat refine wS fun _ _=>?_);intro hnl)|refine wE ?_|(refine wK ?_ ?_<;>intro h)|(refine wB ?_ ?_<;>intro h<;>simp only[h]))|simp(maxSteps:=4000000) (disch:=first|decide|assumption|omega|(simp only[wL];omega)) only[go_sem,simprocAttr,hat,hk])
    refine .of (.less ?_ (St.le_refl _)) ⟨i+1,rfl,rfl,by omega,by omega⟩
    rw[hsn]
    simp(maxSteps:=4000000) (disch:=first|decide|assumption|omega|(simp only[wL];omega)) only[go_sem,simprocAttr,aC,aB]
    all_goals first|rfl|(simp;done)
  ·have:i=l.length:=by omega
   subst this
   rw[List.take_length]
   repeat' (first|(with_reducible first|(refine wN fun _ hnl=>?_;revert hnl;(repeat refine wS fun _ _=>?_);intro hnl)|refine wE ?_|(refine wK ?_ ?_<;>intro h)|(refine wB ?_ ?_<;>intro h<;>simp only[h]))|simp(maxSteps:=4000000) (disch:=first|decide|assumption|omega|(simp only[wL];omega)) only[go_sem,simprocAttr])
   all_goals first|exact⟨_,St.le_refl _,rfl⟩|exact⟨_,St.le_refl _⟩
theorem I8(l:List GR)(tt:Bool)(hl:l.length≤1000000)(hm:∀g,g∈l→g.mem.length≤1000000):aA Tryz.prog 109 [.lst 2 (l.map GR.c) tt] St.none (fun r _=>r=.bool (dK (-1) l)):=by
 refine aA.bZ (aA.body 51 [.tmp 2] Tryz.func109 rfl rfl rfl rfl ?_)
 repeat' (first|(with_reducible first|(refine wN fun _ hnl=>?_;revert hnl;(repeat refine wS fun _ _=>?_);intro hnl)|refine wE ?_|(refine wK ?_ ?_<;>intro h)|(refine wB ?_ ?_<;>intro h<;>simp only[h]))|simp(maxSteps:=4000000) (disch:=first|decide|assumption|omega|(simp only[wL];omega)) only[go_sem,simprocAttr,Tryz.f109])
 refine aF (α:=Nat) (fun i=>⟨51,[(3,.int .i64 (i:Int)),(0,.lst 2 (l.map GR.c) tt)],[]⟩) (fun _=>St.none) (fun i=>i≤l.length∧dK (-1) l=dK (cD (l.map GR.no) i (-1)) (l.drop i)) (fun i=>l.length - i) (.of (.less ?_ (St.le_refl _)) ⟨0,rfl,rfl,Nat.zero_le _,rfl⟩) ?_
 ·simp(maxSteps:=4000000) (disch:=first|decide|assumption|omega|(simp only[wL];omega)) only[go_sem,simprocAttr,aC,aB]
  all_goals rfl
 ·rintro i ⟨hi,hq⟩
  by_cases hlt:i<l.length
  ·obtain⟨x,hx⟩:=bI l hlt
   rw[dT hx,dK] at hq
   have hat:=bB (f:=GR.c) hx
   have hnext:=fU (gY (f:=GR.no) hx) (z:=-1)
   have hto:((i:Int) - 1).toNat=i - 1:=by omega
   have hl0:i=0→cD (l.map GR.no) i (-1) = -1:=fun h=>if_pos h
   have hl1:0<i→∃y:GR,(l.map GR.c).getD (i - 1) []=y.c∧cD (l.map GR.no) i (-1)=y.no:=fun h=>by
    obtain⟨y,hy⟩:=s8 hi h
    refine⟨y,bB hy,?_⟩
    unfold cD
    rw[if_neg (by omega),List.getD_eq_getElem?_getD,gY hy];rfl
   have hc:=I9 x.mem false (hm x (cZ hx))
   obtain⟨last,hlast⟩:∃k,cD (l.map GR.no) i (-1)=k:=⟨_,rfl⟩
   obtain⟨res,hres⟩:∃b,dK (-1) l=b:=⟨_,rfl⟩
   rw[hlast] at hq hl0 hl1
   rw[hres] at hq ⊢
   obtain⟨ok,hok⟩:∃b,fL 0 x.mem=b:=⟨_,rfl⟩
   rw[hok] at hc hq
   obtain⟨C,c1⟩:∃C:bR,∀ms,C 187 ms=some ⟨[],fun v=>v=.bool ok,none⟩:=⟨tV 187 (.bool ok),fun _=>gJ⟩
   by_cases hr:last<x.no∧0≤x.no∧x.no<16
   ·rw[decide_eq_true hr,Bool.true_and] at hq
    obtain⟨hr1,hr2,hr3⟩:=hr
    cases ok
    ·rw[Bool.false_and] at hq
     rw[hq]
     rcases Nat.eq_zero_or_pos i with hi0|hi0
     ·repeat' (first|((with_reducible refine aK mixed ?chk C ?_);(case chk=>decide +kernel))|(with_reducible refine aI (c1 _) hc ?_)|(with_reducible first|(refine wN fun _ hnl=>?_;revert hnl;(repeat refine wS fun _ _=>?_);intro hnl)|refine wE ?_|(refine wK ?_ ?_<;>intro h)|(refine wB ?_ ?_<;>intro h<;>simp only[h]))|simp(maxSteps:=4000000) (disch:=first|decide|assumption|omega|(simp only[wL];omega)) only[go_sem,simprocAttr,hat,hto])
      all_goals first|exact⟨_,St.le_refl _,rfl⟩|exact⟨_,St.le_refl _⟩|(exfalso;omega)
     ·obtain⟨y,hy,hly⟩:=hl1 hi0
      repeat' (first|((with_reducible refine aK mixed ?chk C ?_);(case chk=>decide +kernel))|(with_reducible refine aI (c1 _) hc ?_)|(with_reducible first|(refine wN fun _ hnl=>?_;revert hnl;(repeat refine wS fun _ _=>?_);intro hnl)|refine wE ?_|(refine wK ?_ ?_<;>intro h)|(refine wB ?_ ?_<;>intro h<;>simp only[h]))|simp(maxSteps:=4000000) (disch:=first|decide|assumption|omega|(simp only[wL];omega)) only[go_sem,simprocAttr,hat,hto,hy])
      all_goals first|exact⟨_,St.le_refl _,rfl⟩|exact⟨_,St.le_refl _⟩|(exfalso;omega)
    ·rw[Bool.true_and] at hq
     rcases Nat.eq_zero_or_pos i with hi0|hi0
     ·repeat' (first|((with_reducible refine aK mixed ?chk C ?_);(case chk=>decide +kernel))|(with_reducible refine aI (c1 _) hc ?_)|(with_reducible first|(refine wN fun _ hnl=>?_;revert hnl;(repeat refine wS fun _ _=>?_);intro hnl)|refine wE ?_|(refine wK ?_ ?_<;>intro h)|(refine wB ?_ ?_<;>intro h<;>simp only[h]))|simp(maxSteps:=4000000) (disch:=first|decide|assumption|omega|(simp only[wL];omega)) only[go_sem,simprocAttr,hat,hto])
      all_goals (try (exfalso;omega))
      all_goals
       refine .of (.less ?_ (St.none_le _)) ⟨i+1,rfl,rfl,⟨by omega,by rw[hnext];exact hq⟩,by omega⟩
       simp(maxSteps:=4000000) (disch:=first|decide|assumption|omega|(simp only[wL];omega)) only[go_sem,simprocAttr,aC,aB]
       all_goals rfl
     ·obtain⟨y,hy,hly⟩:=hl1 hi0
      repeat' (first|((with_reducible refine aK mixed ?chk C ?_);(case chk=>decide +kernel))|(with_reducible refine aI (c1 _) hc ?_)|(with_reducible first|(refine wN fun _ hnl=>?_;revert hnl;(repeat refine wS fun _ _=>?_);intro hnl)|refine wE ?_|(refine wK ?_ ?_<;>intro h)|(refine wB ?_ ?_<;>intro h<;>simp only[h]))|simp(maxSteps:=4000000) (disch:=first|decide|assumption|omega|(simp only[wL];omega)) only[go_sem,simprocAttr,hat,hto,hy])
      all_goals (try (exfalso;omega))
      all_goals
       refine .of (.less ?_ (St.none_le _)) ⟨i+1,rfl,rfl,⟨by omega,by rw[hnext];exact hq⟩,by omega⟩
       simp(maxSteps:=4000000) (disch:=first|decide|assumption|omega|(simp only[wL];omega)) only[go_sem,simprocAttr,aC,aB]
       all_goals rfl
   ·rw[decide_eq_false hr,Bool.false_and,Bool.false_and] at hq
    rw[hq]
    rcases Nat.eq_zero_or_pos i with hi0|hi0
    ·have:=hl0 hi0
     repeat' (first|((with_reducible refine aK mixed ?chk C ?_);(case chk=>decide +kernel))|(with_reducible refine aI (c1 _) hc ?_)|(with_reducible first|(refine wN fun _ hnl=>?_;revert hnl;(repeat refine wS fun _ _=>?_);intro hnl)|refine wE ?_|(refine wK ?_ ?_<;>intro h)|(refine wB ?_ ?_<;>intro h<;>simp only[h]))|simp(maxSteps:=4000000) (disch:=first|decide|assumption|omega|(simp only[wL];omega)) only[go_sem,simprocAttr,hat,hto])
     all_goals first|exact⟨_,St.le_refl _,rfl⟩|exact⟨_,St.le_refl _⟩|(exfalso;omega)
    ·obtain⟨y,hy,hly⟩:=hl1 hi0
     repeat' (first|((with_reducible refine aK mixed ?chk C ?_);(case chk=>decide +kernel))|(with_reducible refine aI (c1 _) hc ?_)|(with_reducible first|(refine wN fun _ hnl=>?_;revert hnl;(repeat refine wS fun _ _=>?_);intro hnl)|refine wE ?_|(refine wK ?_ ?_<;>intro h)|(refine wB ?_ ?_<;>intro h<;>simp only[h]))|simp(maxSteps:=4000000) (disch:=first|decide|assumption|omega|(simp only[wL];omega)) only[go_sem,simprocAttr,hat,hto,hy])
     all_goals first|exact⟨_,St.le_refl _,rfl⟩|exact⟨_,St.le_refl _⟩|(exfalso;omega)
  ·have:i=l.length:=by omega
   subst this
   rw[hq,List.drop_length,dK]
   repeat' (first|(with_reducible first|(refine wN fun _ hnl=>?_;revert hnl;(repeat refine wS fun _ _=>?_);intro hnl)|refine wE ?_|(refine wK ?_ ?_<;>intro h)|(refine wB ?_ ?_<;>intro h<;>simp only[h]))|simp(maxSteps:=4000000) (disch:=first|decide|assumption|omega|(simp only[wL];omega)) only[go_sem,simprocAttr])
   all_goals first|exact⟨_,St.le_refl _,rfl⟩|exact⟨_,St.le_refl _⟩
end
end Go.Proofs.YtppdgejjmhdjhaaGreatDoor
