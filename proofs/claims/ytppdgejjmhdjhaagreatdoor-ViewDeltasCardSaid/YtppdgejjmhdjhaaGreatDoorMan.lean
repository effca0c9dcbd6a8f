/- Parts of the proof; conditions: as its theorems name them. -/
import Derived.Test.YtppdgejjmhdjhaaGreatDoorMak
import Derived.Test.YtppdgejjmhdjhaaGreatDoorMam
set_option linter.unusedVariables false
set_option linter.unusedSimpArgs false
set_option maxHeartbeats 8000000
set_option maxRecDepth 100000
namespace Go.Proofs.YtppdgejjmhdjhaaGreatDoor
section
def tG(g:FuncId)(v:MV):cD:=fun g' _=>if g'=g then some ⟨[],fun w=>w=v,none⟩ else none
theorem fO{g:FuncId}{v:MV}{ms:List MV}:tG g v g ms=some ⟨[],fun w=>w=v,none⟩:=by simp[tG]
instance:Inhabited DE:=⟨⟨0,0,0⟩⟩
def tuZ:TU:=⟨0,0,0,0,ca0⟩
theorem Ht(a b:List CA)(hl:a.length≤1000000)(ta tb:Bool):aA Tryz.prog 25 [.lst 27 (a.map CA.c) ta,.lst 27 (b.map CA.c) tb] St.none (fun r _=>r=.bool (decide (a=b))):=by
 refine(mB 26 [.tmp 4] Tryz.func25 ?_)
 by_cases hlen:a.length=b.length
 ·repeat' first|(refine wO ?_;intros)|(refine wY ?_ ?_<;>intro h)|refine wZ1 @Tryz.f25.eq_1 ?_|exact wC1 @Tryz.f25.eq_1|fail
  refine aF (α:=Nat) (fun i=>⟨26,[(5,.int .i64 (i:Int)),(0,.lst 27 (a.map CA.c) ta),(1,.lst 27 (b.map CA.c) tb)],[]⟩) (fun _=>St.none) (fun i=>i≤a.length∧a.take i=b.take i) (fun i=>a.length - i) (.of (.less ?_ (St.le_refl _)) ⟨0,rfl,rfl,Nat.zero_le _,rfl⟩) ?_
  ·exact wW
  ·rintro i ⟨hi,hq⟩
   by_cases hlt:i<a.length
   ·have hsa:=List.take_succ_eq_append_getElem (l:=a) hlt
    have hib:i<b.length:=by omega
    have hsb:=List.take_succ_eq_append_getElem (l:=b) hib
    rw[←b9 ca0 hlt] at hsa
    rw[←b9 ca0 hib] at hsb
    have hma:=gT ca0 hlt
    have hmb:=gT ca0 hib
    obtain⟨x,hx⟩:∃x,a.getD i ca0=x:=⟨_,rfl⟩
    obtain⟨y,hy⟩:∃y,b.getD i ca0=y:=⟨_,rfl⟩
    rw[hx] at hsa hma
    rw[hy] at hsb hmb
    have hm:=Qp x y
    by_cases he:x=y
    ·rw[decide_eq_true he] at hm
     repeat' (first|(with_reducible first|(refine wN fun _ hnl=>?_;revert hnl;(repeat refine wS fun _ _=>?_);intro hnl)|refine wE ?_|(refine wK ?_ ?_<;>intro h)|(refine wB ?_ ?_<;>intro h<;>simp only[h]))|simp(maxSteps:=4000000) (disch:=first|exact ddL|fail) only[go_sem,simprocAttr,FXs,bW ca0,hx,hy,hm])
     refine .of (.less ?_ (St.le_refl _)) ⟨i+1,rfl,rfl,⟨by omega,by rw[hsa,hsb,hq,he]⟩,by omega⟩
     exact wW
    ·rw[decide_eq_false he] at hm
     have hne:¬a=b:=fun e=>he (by rw[←hx,←hy,e])
     rw[decide_eq_false hne]
     repeat' (first|(with_reducible first|(refine wN fun _ hnl=>?_;revert hnl;(repeat refine wS fun _ _=>?_);intro hnl)|refine wE ?_|(refine wK ?_ ?_<;>intro h)|(refine wB ?_ ?_<;>intro h<;>simp only[h]))|simp(maxSteps:=4000000) (disch:=first|exact ddL|fail) only[go_sem,simprocAttr,FXs,bW ca0,hx,hy,hm])
     all_goals done
   ·have:i=a.length:=by omega
    subst this
    rw[List.take_length,hlen,List.take_length] at hq
    rw[decide_eq_true hq]
    repeat' first|(refine wO ?_;intros)|(refine wY ?_ ?_<;>intro h)|refine wZ0 ?_|exact wC0|fail
    all_goals done
 ·rw[decide_eq_false fun e=>hlen (by rw[e])]
  repeat' first|(refine wO ?_;intros)|(refine wY ?_ ?_<;>intro h)|refine wZ1 @Tryz.f25.eq_1 ?_|exact wC1 @Tryz.f25.eq_1|fail
  all_goals (first|rfl|(exfalso;omega))
end

section
def F4(op:Int):FuncId:=if op=1 then 251 else if op=3 then 252 else if op=4 then 254 else if op=5 then 255 else if op=6 then 256 else if op=7 then 257 else if op=8 then 259 else if op=9 then 260 else 262
def F3(x:ND):List MV:=if 3≤x.op∧x.op≤9 then[.cptr x.c] else[]
def Lk(x:ND):MV:=.fn (.func (F4 x.op)) [] (F3 x)
theorem MZ(x:ND):aA Tryz.prog 205 [.agg x.c] St.none (fun r _=>r=Lk x):=by
 refine aA.seen (mB 28 [.tmp 2] Tryz.func205 ?_)
 unfold Lk F4 F3
 have ho:x.op=1∨x.op=3∨x.op=4∨x.op=5∨x.op=6∨x.op=7∨x.op=8∨x.op=9∨(¬x.op=1∧¬x.op=3∧¬x.op=4∧¬x.op=5∧¬x.op=6∧¬x.op=7∧¬x.op=8∧¬x.op=9):=by omega
 rcases ho with h|h|h|h|h|h|h|h|⟨h1,h3,h4,h5,h6,h7,h8,h9⟩
 all_goals try simp(config:={ decide:=true }) only[h,if_true,if_false]
 ·repeat' first|(refine wO ?_;intros)|refine wZ2 @Tryz.f205.eq_1 @h ?_|fail
  exact .same _
 iterate 7
  ·repeat' first|(refine wO ?_;intros)|refine wZ2 @Tryz.f205.eq_1 @h ?_|fail
   exact .fn rfl (xD (.ptr (aD _ _ _) (by simp)))
 ·rw[if_neg h1,if_neg h3,if_neg h4,if_neg h5,if_neg h6,if_neg h7,if_neg h8,if_neg h9,if_neg oM]
  repeat' first|(refine wO ?_;intros)|refine wZ9 @Tryz.f205.eq_1 @h1 @h3 @h4 @h5 @h6 @h7 @h8 @h9 ?_|fail
  exact .same _
abbrev pA(c:CA):CD:=⟨c.id,c.ver,c.lab.toNat,c.f.l⟩
theorem Wg(c:CA)(g:Int):aA Tryz.prog 251 [.cptr c.c,.int .u32 g] St.none (fun r _=>r=.bool true):=by
 refine(mB 5 [.tmp 4] Tryz.func251 ?_)
 repeat' first|refine wZ1 @Tryz.f251.eq_1 ?_|exact wC1 @Tryz.f251.eq_1|fail
theorem Wo(c:CA)(g:Int):aA Tryz.prog 262 [.cptr c.c,.int .u32 g] St.none (fun r _=>r=.bool false):=by
 refine(mB 5 [.tmp 4] Tryz.func262 ?_)
 repeat' first|refine wZ1 @Tryz.f262.eq_1 ?_|exact wC1 @Tryz.f262.eq_1|fail
theorem Wh(c:CA)(g:Int)(x:ND){n:Nat}(hx:x.n=n)(hn:n<32):aA Tryz.prog 252 [.cptr c.c,.int .u32 g,.cptr x.c] St.none (fun r _=>r=.bool (hasB c.lab.toNat x.n)):=by
 refine(mB 13 [.tmp 5] Tryz.func252 ?_)
 have h:=AG c.lab.toNat n c.lab.toNat_lt hn
 rw[hx]
 obtain⟨C,c1⟩:=kw1 253 ⟨[],fun v=>v=.bool (hasB c.lab.toNat n),none⟩
 repeat' first|((with_reducible refine aJ mixed ?chk C ?_);(case chk=>decide +kernel))|(with_reducible refine aH (c1 _) h ?_)|refine wZ3 @Tryz.f252.eq_1 @hx @FYs ?_|exact wC3 @Tryz.f252.eq_1 @hx @FYs|fail
theorem Wi(c:CA)(g:Nat)(hg:g<4294967296)(x:ND){n:Nat}(hx:x.n=n)(hn:n<32):aA Tryz.prog 254 [.cptr c.c,.int .u32 (g:Int),.cptr x.c] St.none (fun r _=>r=.bool (hasB g x.n)):=by
 refine(mB 10 [.tmp 5] Tryz.func254 ?_)
 have h:=AG g n hg hn
 rw[hx]
 repeat' first|(with_reducible first|refine up h ?_)|refine wZ2 @Tryz.f254.eq_1 @hx ?_|exact wC2 @Tryz.f254.eq_1 @hx|fail
theorem Wj(c:CA)(g:Int)(x:ND){k:Nat}(hx:x.n=k)(hk:k<8):aA Tryz.prog 255 [.cptr c.c,.int .u32 g,.cptr x.c] St.none (fun r _=>r=.bool (!decide ((c.f.get k).kd=0))):=by
 refine(mB 15 [.tmp 5] Tryz.func255 ?_)
 have hdr:(fc c.f).drop (k * 3)=.int .i64 (c.f.get k).kd::.int .i64 (c.f.get k).n::.str (c.f.get k).s::(fc c.f).drop ((k+1) * 3):=jK (f:=c.f) hk
 repeat' first|(refine wO ?_;intros)|refine wZ4 @Tryz.f255.eq_1 @hx @FYs @hdr ?_|exact wC4 @Tryz.f255.eq_1 @hx @FYs @hdr|fail
 all_goals first|done|(simp;done)|skip
theorem Wk(c:CA)(g:Int)(x:ND){k:Nat}(hx:x.n=k)(hk:k<8):aA Tryz.prog 256 [.cptr c.c,.int .u32 g,.cptr x.c] St.none (fun r _=>r=.bool (decide (c.f.get k=x.v))):=by
 refine(mB 16 [.tmp 5] Tryz.func256 ?_)
 have hat:=pJ (f:=c.f) hk
 repeat' first|(refine wO ?_;intros)|refine wZ4 @Tryz.f256.eq_1 @hx @FYs @hat ?_|fail
 exact C6
theorem Wl(c:CA)(g:Int)(x:ND){k:Nat}(hx:x.n=k)(hk:k<8):aA Tryz.prog 257 [.cptr c.c,.int .u32 g,.cptr x.c] St.none (fun r _=>r=.bool (kV (c.f.get k) x.v)):=by
 refine(mB 16 [.tmp 5] Tryz.func257 ?_)
 have hat:=pJ (f:=c.f) hk
 have h:=xT (c.f.get k) x.v
 obtain⟨C,c1⟩:=kw1 258 ⟨[],fun v=>v=.bool (kV (c.f.get k) x.v),none⟩
 repeat' first|((with_reducible refine aJ mixed ?chk C ?_);(case chk=>decide +kernel))|(with_reducible refine aH (c1 _) h ?_)|refine wZ4 @Tryz.f257.eq_1 @hx @FYs @hat ?_|exact wC4 @Tryz.f257.eq_1 @hx @FYs @hat|fail
theorem Wm(c:CA)(g:Int)(x:ND){k:Nat}(hx:x.n=k)(hk:k<8):aA Tryz.prog 259 [.cptr c.c,.int .u32 g,.cptr x.c] St.none (fun r _=>r=.bool (kV x.v (c.f.get k))):=by
 refine(mB 16 [.tmp 5] Tryz.func259 ?_)
 have hat:=pJ (f:=c.f) hk
 have h:=xT x.v (c.f.get k)
 obtain⟨C,c1⟩:=kw1 258 ⟨[],fun v=>v=.bool (kV x.v (c.f.get k)),none⟩
 repeat' first|((with_reducible refine aJ mixed ?chk C ?_);(case chk=>decide +kernel))|(with_reducible refine aH (c1 _) h ?_)|refine wZ4 @Tryz.f259.eq_1 @hx @FYs @hat ?_|exact wC4 @Tryz.f259.eq_1 @hx @FYs @hat|fail
theorem Wn(c:CA)(g:Int)(x:ND){k:Nat}(hx:x.n=k)(hk:k<8)(h1:(c.f.get k).s.size≤1000000)(h2:x.v.s.size≤1000000):aA Tryz.prog 260 [.cptr c.c,.int .u32 g,.cptr x.c] St.none (fun r _=>r=.bool (lT (c.f.get k) x.v)):=by
 refine(mB 16 [.tmp 5] Tryz.func260 ?_)
 have hat:=pJ (f:=c.f) hk
 have h:=Hg (c.f.get k) x.v h1 h2
 obtain⟨C,c1⟩:=kw1 261 ⟨[],fun v=>v=.bool (lT (c.f.get k) x.v),none⟩
 repeat' first|((with_reducible refine aJ mixed ?chk C ?_);(case chk=>decide +kernel))|(with_reducible refine aH (c1 _) h ?_)|refine wZ4 @Tryz.f260.eq_1 @hx @FYs @hat ?_|exact wC4 @Tryz.f260.eq_1 @hx @FYs @hat|fail
theorem Wp(c:CA)(hc:∀k,(c.f.get k).s.size≤1000000)(g:Nat)(hg:g<4294967296)(x:ND)(hx:fM x=true):aA Tryz.prog (F4 x.op) ([.cptr c.c,.int .u32 (g:Int)]++F3 x) St.none (fun r _=>r=.bool (cE (pA c) g x)):=by
 have hxs:=CP hx
 have ho:x.op=1∨x.op=3∨x.op=4∨x.op=5∨x.op=6∨x.op=7∨x.op=8∨x.op=9∨(¬x.op=1∧¬x.op=3∧¬x.op=4∧¬x.op=5∧¬x.op=6∧¬x.op=7∧¬x.op=8∧¬x.op=9):=by omega
 have hn:3≤x.op→x.op≤9→0≤x.n∧x.n<16∧(5≤x.op→x.n<8):=fun h1 h2=>by
  have h:=hx
  have e:x.op=3∨x.op=4∨x.op=5∨x.op=6∨x.op=7∨x.op=8∨x.op=9:=by omega
  rcases e with e|e|e|e|e|e|e<;>simp[fM,e] at h<;>omega
 have hnat:3≤x.op→x.op≤9→∃k:Nat,x.n=k∧k<16∧(5≤x.op→k<8):=fun h1 h2=>by
  obtain⟨q1,q2,q3⟩:=hn h1 h2
  exact⟨x.n.toNat,by omega,by omega,fun h=>by have:=q3 h;omega⟩
 unfold F4 F3 cE
 rcases ho with h|h|h|h|h|h|h|h|⟨h1,h3,h4,h5,h6,h7,h8,h9⟩
 ·simp(config:={ decide:=true }) only[h,if_true,if_false]
  exact Wg c g
 ·obtain⟨k,e,h16,_⟩:=hnat oM oM
  simp(config:={ decide:=true }) only[h,if_true,if_false]
  exact Wh c g x e oM
 ·obtain⟨k,e,h16,_⟩:=hnat oM oM
  simp(config:={ decide:=true }) only[h,if_true,if_false]
  exact Wi c g hg x e oM
 ·obtain⟨k,e,_,h8⟩:=hnat oM oM
  simp(config:={ decide:=true }) only[h,if_true,if_false]
  have:=Wj c g x e (h8 oM)
  rw[show x.n.toNat=k by omega]
  exact this
 ·obtain⟨k,e,_,h8⟩:=hnat oM oM
  simp(config:={ decide:=true }) only[h,if_true,if_false]
  have:=Wk c g x e (h8 oM)
  rw[show x.n.toNat=k by omega]
  exact this
 ·obtain⟨k,e,_,h8⟩:=hnat oM oM
  simp(config:={ decide:=true }) only[h,if_true,if_false]
  have:=Wl c g x e (h8 oM)
  rw[show x.n.toNat=k by omega]
  exact this
 ·obtain⟨k,e,_,h8⟩:=hnat oM oM
  simp(config:={ decide:=true }) only[h,if_true,if_false]
  have:=Wm c g x e (h8 oM)
  rw[show x.n.toNat=k by omega]
  exact this
 ·obtain⟨k,e,_,h8⟩:=hnat oM oM
  simp(config:={ decide:=true }) only[h,if_true,if_false]
  have:=Wn c g x e (h8 oM) (hc k) hxs
  rw[show x.n.toNat=k by omega]
  exact this
 ·rw[if_neg h1,if_neg h3,if_neg h4,if_neg h5,if_neg h6,if_neg h7,if_neg h8,if_neg h9,if_neg oM,if_neg h1,if_neg h3,if_neg h4,if_neg h5,if_neg h6,if_neg h7,if_neg h8,if_neg h9]
  exact Wo c g
end

section
def rN:Int→List Int→Bool
 | _,[]=>true
 | last,x::l=>decide (last<x∧1≤x∧x<mM)&&rN x l
def iI:Int→List GR→Bool
 | _,[]=>true
 | last,g::l=>decide (last<g.no∧0≤g.no∧g.no<16)&&rN 0 g.mem&&iI g.no l
def iB(a b:List Int):List Int:=a.filter fun x=>!decide (x∈b)
def grF(id:Int)(s:Nat)(g:GR):Nat:=if id∈g.mem then s ||| 2 ^ g.no.toNat else s
def grB(l:List GR)(id:Int):Nat:=l.foldl (grF id) 0
def j0(nx:Int):Int→List CA→Bool
 | _,[]=>true
 | last,c::l=>hJ c&&decide (last<c.id∧c.id<nx)&&j0 nx c.id l
def Wv(nx:Int)(cs:List CA)(pre:List DE)(d:DE):Bool :=
 decide (1≤d.id∧d.id<nx∧1≤d.ver∧d.ver≤big∧0≤d.sq∧d.sq≤big)&&decide (d.id∉cs.map CA.id)&&pre.all fun e=>decide (e.id≠d.id∧e.sq≤d.sq)
def zR(nx:Int)(cs:List CA):List DE→List DE→Bool
 | _,[]=>true
 | pre,d::l=>Wv nx cs pre d&&zR nx cs (pre++[d]) l
def VN(nx:Int)(cs:List CA)(ds:List DE):Bool :=
 decide (1≤nx∧nx≤mM∧cs.length≤48∧ds.length≤40)&&(j0 nx 0 cs&&zR nx cs [] ds)
def L9(b:BK):Bool :=
 VN b.nx b.cards b.dead&&decide (0≤b.sq∧b.sq≤big)&&iI (-1) b.gr&&(b.dead.all fun d=>decide (d.sq≤b.sq))&&b.gr.all fun g=>decide (iB g.mem (b.cards.map CA.id)=[])
def kX(f:F8)(m:Nat):Nat→F8
 | 0=>f80
 | i+1=>if bit m i=true then(kX f m i).set i (f.get i) else kX f m i
def UN(f:F8)(m:Nat):F8:=kX f m 8
def eB(c:CA)(m:UInt32):CA:=⟨c.id,c.ver,if bit m.toNat 8=true then c.lab else 0,UN c.f m.toNat⟩
def fS:List TU→Int→Option Int
 | [],_=>none
 | t::l,id=>match fS l id with
  | some v=>some v
  | none=>if t.id=id then some t.new else none
open Classical in
noncomputable def qK(fl:List ND):T:=if h:∃t:T,Good t∧fl=t.fl then h.choose else .leaf nd0
noncomputable def eR(gr:List GR)(fl:List ND)(c:CA):Bool:=(qK fl).sem (cE (pA c) (grB gr c.id))
noncomputable def shown(b:BK)(fl:List ND)(id:Int):Option CA :=
 match b.cards.find? (fun c=>decide (c.id=id)) with
 | none=>none
 | some c=>if eR b.gr fl c=true then some c else none
noncomputable def bR(b:BK)(fl:List ND)(id:Int):Int:=((shown b fl id).getD ca0).ver
noncomputable def eO(b:BK)(fl:List ND)(m:UInt32)(cur:Int):List CA:=(b.cards.filter fun c=>decide (c.id≤cur)&&eR b.gr fl c).map fun c=>eB c m
noncomputable def Tg(b:BK)(fl:List ND):List Int:=(b.cards.filter (eR b.gr fl)).map CA.id
theorem y6{fl:List ND}(h:cR fl=0):Good (qK fl)∧(qK fl).fl=fl∧fl.length≤31:=by
 obtain⟨h1,h2,h3,h4,h5⟩:=(Ho fl).1 h
 have hf:S7 fl=true:=by
  unfold S7
  rw[h4,decide_eq_true h3,decide_eq_true ⟨h2,by omega⟩]
  rfl
 obtain⟨t,ok,e,_,hn⟩:=Ps hf
 have hex:∃t:T,Good t∧fl=t.fl:=⟨t,⟨ok,fun x hx=>hn x (by rw[e];exact hx)⟩,e⟩
 unfold qK
 rw[dif_pos hex]
 exact⟨hex.choose_spec.1,hex.choose_spec.2.symm,h1⟩
theorem Lf{id:Int}:∀(pre:List GR) (g:GR) (r:List GR) (lo:Int) (s:Nat),-1≤lo→s<2 ^ (lo+1).toNat→iI lo (pre++g::r)=true→pre.foldl (grF id) s<2 ^ g.no.toNat
 | [],g,r,lo,s,h0,hs,h=>by
  simp only[List.nil_append,iI,Bool.and_eq_true,decide_eq_true_eq] at h
  exact Nat.lt_of_lt_of_le hs (Nat.pow_le_pow_right oM oM)
 | x::pre,g,r,lo,s,h0,hs,h=>by
  simp only[List.cons_append,iI,Bool.and_eq_true,decide_eq_true_eq] at h
  obtain⟨⟨⟨h1,h2,h3⟩,h4⟩,h5⟩:=h
  rw[List.foldl_cons]
  refine Lf pre g r x.no _ oM ?_ h5
  have hlt:s<2 ^ x.no.toNat:=Nat.lt_of_lt_of_le hs (Nat.pow_le_pow_right oM oM)
  have e:(x.no+1).toNat=x.no.toNat+1:=by omega
  rw[e]
  have hp:2 ^ x.no.toNat<2 ^ (x.no.toNat+1):=Nat.pow_lt_pow_right oM oM
  unfold grF
  split
  ·exact Nat.or_lt_two_pow oM hp
  ·omega
theorem FE:∀(pre:List GR) (g:GR) (r:List GR) (lo:Int),iI lo (pre++g::r)=true→0≤g.no∧g.no<16∧rN 0 g.mem=true
 | [],g,r,lo,h=>by
  simp only[List.nil_append,iI,Bool.and_eq_true,decide_eq_true_eq] at h
  exact⟨h.1.1.2.1,h.1.1.2.2,h.1.2⟩
 | x::pre,g,r,lo,h=>by
  simp only[List.cons_append,iI,Bool.and_eq_true,decide_eq_true_eq] at h
  exact FE pre g r x.no h.2
theorem A7{α:Type}(l:List α){i:Nat}{x:α}(h:l[i]?=some x):l=l.take i++x::l.drop (i+1):=by
 have hi:i<l.length:=(List.getElem?_eq_some_iff.1 h).1
 have e:=(List.getElem?_eq_some_iff.1 h).2
 conv=>lhs;rw[←List.take_append_drop i l,List.drop_eq_getElem_cons hi,e]
theorem aZ{α:Type}{l:List α}{i:Nat}{x:α}(h:l[i]?=some x):l.take (i+1)=l.take i++[x]:=by
 rw[List.take_add_one,h];rfl
theorem Dp{α:Type}{l:List α}{i:Nat}{x:α}(h:l[i]?=some x):l.drop i=x::l.drop (i+1):=by
 have hi:i<l.length:=(List.getElem?_eq_some_iff.1 h).1
 have e:=(List.getElem?_eq_some_iff.1 h).2
 rw[List.drop_eq_getElem_cons hi,e]
theorem IL{l:List GR}(h:iI (-1) l=true){i:Nat}{g:GR}(hi:l[i]?=some g)(id:Int):grB (l.take i) id<2 ^ g.no.toNat∧0≤g.no∧g.no<16∧rN 0 g.mem=true:=by
 rw[A7 l hi] at h
 exact⟨Lf _ g _ (-1) 0 oM (by simp) h,FE _ g _ _ h⟩
theorem z8{l:List GR}{i:Nat}{g:GR}(hi:l[i]?=some g)(id:Int):grB (l.take (i+1)) id=grF id (grB (l.take i) id) g:=by
 rw[aZ hi,grB,List.foldl_append];rfl
theorem bN{α:Type}{l:List α}{f:α→List MV}{i:Nat}{x:α}(h:l[i]?=some x):(l.map f).getD i []=f x:=by
 rw[List.getD_eq_getElem?_getD,List.getElem?_map,h];rfl
theorem bU{α:Type}(l:List α){i:Nat}(h:i<l.length):∃x,l[i]?=some x:=⟨_,List.getElem?_eq_getElem h⟩
theorem Vk{l:List Int}{i:Nat}{x:Int}(h:l[i]?=some x)(hn:x∉l.take i):l.idxOf x=i:=by
 have hi:i<l.length:=(List.getElem?_eq_some_iff.1 h).1
 rw[A7 l h,List.idxOf_append,if_neg hn,List.idxOf_cons_self,List.length_take]
 omega
def qA(l:List Int)(x:Int):Int:=if x∈l then(l.idxOf x:Int) else -1
theorem J6{l:List Int}{x:Int}:(qA l x<0)=(x∉l):=propext (by unfold qA;split<;>simp[*])
theorem dY{α:Type}{l:List α}{i:Nat}{x:α}(h:l[i]?=some x):x∈l:=List.mem_of_getElem? h
theorem P5{α:Type}{l:List α}{f:α→Int}{i:Nat}{x:α}(h:l[i]?=some x):(l.map f)[i]?=some (f x):=by rw[List.getElem?_map,h];rfl
theorem mH{nx:Int}:∀{last:Int} {l:List CA},j0 nx last l=true→(∀c,c∈l→hJ c=true∧last<c.id∧c.id<nx)∧l.Pairwise (fun a b=>a.id<b.id)
 | _,[],_=>⟨by simp,.nil⟩
 | last,x::l,h=>by
  simp only[j0,Bool.and_eq_true,decide_eq_true_eq] at h
  obtain⟨⟨h1,h2,h3⟩,h4⟩:=h
  obtain⟨i1,i2⟩:=mH h4
  refine⟨fun c hc=>?_,List.pairwise_cons.2 ⟨fun c hc=>(i1 c hc).2.1,i2⟩⟩
  rcases List.mem_cons.1 hc with rfl|hc
  ·exact⟨h1,h2,h3⟩
  ·obtain⟨a,b,c'⟩:=i1 c hc
   exact⟨a,by omega,c'⟩
structure BkR (b:BK):Prop where
 nx1:1≤b.nx
 nx2:b.nx≤1073741824
 nc:b.cards.length≤48
 nd:b.dead.length≤40
 cok:j0 b.nx 0 b.cards=true
 dok:zR b.nx b.cards [] b.dead=true
 sq1:0≤b.sq
 sq2:b.sq≤1099511627776
 gok:iI (-1) b.gr=true
theorem O2{b:BK}(h:L9 b=true):BkR b:=by
 unfold L9 VN big mM at h
 simp only[Bool.and_eq_true,decide_eq_true_eq] at h
 obtain⟨⟨⟨⟨⟨⟨h1,h2,h3,h4⟩,h5,h6⟩,h7,h8⟩,h9⟩,-⟩,-⟩:=h
 exact⟨h1,h2,h3,h4,h5,h6,h7,h8,h9⟩
theorem Dh{b:BK}(h:BkR b){c:CA}(hc:c∈b.cards):hJ c=true∧0<c.id∧c.id<1073741824:=by
 obtain⟨h1,h2,h3⟩:=(mH h.cok).1 c hc
 exact⟨h1,h2,by have:=h.nx2;omega⟩
theorem zJ{c:CA}(h:hJ c=true):∀v,v∈c.f.l→v.s.size≤1000000:=fun v hv=>by
 unfold hJ at h
 rw[Bool.and_eq_true] at h
 exact sX (List.all_eq_true.1 h.2 v hv)
theorem Le{gr:List GR}(h:iI (-1) gr=true)(id:Int):grB gr id<65536:=by
 have hlast:∀i,i≤gr.length→grB (gr.take i) id<65536:=fun i hi=>by
  cases i with
  | zero=>simp[grB]
  | succ i =>
   obtain⟨g,hg⟩:=bU gr (by omega:i<gr.length)
   obtain⟨h1,h2,h3,_⟩:=IL h hg id
   rw[z8 hg]
   have e:2 ^ g.no.toNat<2 ^ 16:=Nat.pow_lt_pow_right oM oM
   unfold grF
   split
   ·exact Nat.or_lt_two_pow (n:=16) (Nat.lt_trans h1 e) e
   ·exact Nat.lt_trans h1 e
 have:=hlast gr.length (Nat.le_refl _)
 rwa [List.take_length] at this
end

section
theorem fN{σ:St}{q:Nat}{t:TypeId}{e n:Nat}{xs ex:List (List MV)}(hq:σ q=some (.row t e (xs++ex)))(hn:n=xs.length):View σ (.vec e q 0 n) (.lst e xs false):=by
 subst hn
 have:=View.vec (σ:=σ) (lo:=0) (n:=xs.length) hq (by rw[List.length_append];omega)
 rw[List.drop_zero,List.take_left] at this
 exact this
theorem kQ(l:List Int)(tt:Bool)(hl:l.length≤1000000)(x:Int):aA Tryz.prog 158 [.lst 1 (l.map aP) tt,.int .i64 x] St.none (fun r _=>r=.bool (decide (x∈l))):=by
 refine aA.bS (mB 18 [.tmp 4] Tryz.func158 ?_)
 repeat' first|refine wZ1 @Tryz.f158.eq_1 ?_|fail
 refine aF (α:=Nat) (fun i=>⟨18,[(5,.int .i64 (i:Int)),(0,.lst 1 (l.map aP) tt),(1,.int .i64 x)],[]⟩) (fun _=>St.none) (fun i=>i≤l.length∧x∉l.take i) (fun i=>l.length - i) (.of (.less ?_ (St.le_refl _)) ⟨0,rfl,rfl,Nat.zero_le _,by simp⟩) ?_
 ·exact wW
 ·rintro i ⟨hi,hq⟩
  by_cases hlt:i<l.length
  ·obtain⟨y,hy⟩:=bU l hlt
   have hat:=bN (f:=aP) hy
   have hmem:=List.mem_of_getElem? hy
   have hnext:x≠y→x∉l.take (i+1):=fun h=>by
    rw[aZ hy,List.mem_append,List.mem_singleton]
    exact not_or.2 ⟨hq,h⟩
   by_cases he:y=x
   ·subst he
    rw[decide_eq_true hmem]
    repeat' first|refine wZ1 @hat ?_|fail
    all_goals exact lE
   ·repeat' first|refine wZ1 @hat ?_|fail
    all_goals (try (exfalso;omega))
    all_goals
     refine .of (.less ?_ (St.none_le _)) ⟨i+1,rfl,rfl,⟨by omega,hnext (Ne.symm he)⟩,by omega⟩
     exact wW
  ·have:i=l.length:=by omega
   subst this
   rw[List.take_length] at hq
   rw[decide_eq_false hq]
   repeat' first|refine wZ0 ?_|fail
   all_goals exact lE
theorem Gs{a b:List Int}{i:Nat}{x:Int}(h:a[i]?=some x):iB (a.take (i+1)) b=iB (a.take i) b++if x∈b then[] else[x]:=by
 unfold iB
 rw[aZ h,List.filter_append,List.filter_cons]
 by_cases hb:x∈b<;>simp[hb]
theorem Jq(a b:List Int):(iB a b).length≤a.length:=List.length_filter_le _ _
theorem HI(a b:List Int)(ta tb:Bool)(ha:a.length≤1000000)(hb:b.length≤1000000):aA Tryz.prog 110 [.lst 1 (a.map aP) ta,.lst 1 (b.map aP) tb] St.none (fun r _=>r=.lst 1 ((iB a b).map aP) false):=by
 refine aA.seen (mB 29 [.tmp 4] Tryz.func110 ?_)
 repeat' first|(refine wM ?_;(first|(have _:=nl1)|(intro nl1));intros)|refine wZ1 @Tryz.f110.eq_1 ?_|fail
 refine aF (α:=Nat × Nat × List (List MV)) (fun s=>⟨29,[(6,.int .i64 (s.1:Int)),(5,.vec 1 s.2.1 0 (iB (a.take s.1) b).length),(0,.lst 1 (a.map aP) ta),(1,.lst 1 (b.map aP) tb)],[]⟩)
  (fun s=>St.none.set s.2.1 (.row 3 1 ((iB (a.take s.1) b).map aP++s.2.2))) (fun s=>s.1≤a.length) (fun s=>a.length - s.1) ?_ ?_
 ·refine .of (.less ?_ (St.le_refl _)) ⟨(0,nl1,[]),rfl,by simp[iB],Nat.zero_le _⟩
  simp(maxSteps:=4000000) (disch:=first|decide|assumption|omega|(simp only[wL];omega)) only[go_sem,simprocAttr,aU,aN]
  all_goals first|rfl|(simp[iB,aN];done)
 ·rintro⟨i,q,ex⟩ hi
  simp only at hi ⊢
  by_cases hlt:i<a.length
  ·obtain⟨x,hx⟩:=bU a hlt
   have hat:=bN (f:=aP) hx
   have hh:=kQ b tb hb x
   have hsn:=Gs (b:=b) hx
   have hml:=Jq (a.take i) b
   have htl:(a.take i).length=i:=by rw[List.length_take];omega
   rw[htl] at hml
   by_cases hm:x∈b
   ·rw[decide_eq_true hm] at hh
    rw[if_pos hm,List.append_nil] at hsn
    rw[←hsn]
    repeat' first|(with_reducible first|refine up hh ?_)|refine wZ1 @hat ?_|fail
    refine .of (.less ?_ (St.le_refl _)) ⟨(i+1,q,ex),rfl,rfl,by simp only;omega,by simp only;omega⟩
    exact wW
   ·rw[decide_eq_false hm] at hh
    rw[if_neg hm] at hsn
    obtain⟨L,hL⟩:∃L,iB (a.take i) b=L:=⟨_,rfl⟩
    rw[hL] at hsn hml ⊢
    have htk:(L.map aP++ex).take L.length=L.map aP:=sU
    have hdr:(L.map aP++ex).drop (L.length+1)=ex.drop 1:=vG
    have hLl:(L.map aP).length=L.length:=List.length_map _
    repeat' first|(with_reducible first|refine up hh ?_)|(refine wM ?_;(first|(have _:=nl3)|(have _:=nl2;intro nl3)|(intro nl2));intros)|(refine wY ?_ ?_<;>intro h)|refine wZ4 @hat @htk @hdr @hLl ?_|fail
    ·have hex:ex=[]:=List.eq_nil_of_length_eq_zero (by first|omega|(simp at *;omega))
     subst hex
     refine .of (.less ?_ (σ1:=St.none.set nl3 (.row 3 1 (L.map aP++[]++[aP x]))) (St.aB (St.none_le _) sS)) ⟨(i+1,nl3,[]),rfl,by simp[hsn],by simp only;omega,by simp only;omega⟩
     simp(maxSteps:=4000000) (disch:=first|decide|assumption|omega|(simp only[wL];omega)) only[go_sem,simprocAttr,aU,aN,hsn]
     all_goals first|rfl|(simp;done)
    ·refine .of (.less ?_ (σ1:=St.none.set nl3 (.row 3 1 (L.map aP++[aP x]++ex.drop 1))) (St.aB (St.none_le _) sS)) ⟨(i+1,nl3,ex.drop 1),rfl,by simp[hsn],by simp only;omega,by simp only;omega⟩
     simp(maxSteps:=4000000) (disch:=first|decide|assumption|omega|(simp only[wL];omega)) only[go_sem,simprocAttr,aU,aN,hsn]
     all_goals first|rfl|(simp;done)
  ·have:i=a.length:=by omega
   subst this
   rw[List.take_length]
   repeat' first|refine wZ0 ?_|fail
   exact fN (aD _ _ _) (by simp)
end
end Go.Proofs.YtppdgejjmhdjhaaGreatDoor
