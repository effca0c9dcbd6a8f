/- Parts of the proof; conditions: as its theorems name them. -/
import Derived.Test.YtppdgejjmhdjhaaGreatDoorM9j
import Derived.Test.YtppdgejjmhdjhaaGreatDoorM9l
set_option linter.unusedVariables false
set_option linter.unusedSimpArgs false
set_option maxHeartbeats 8000000
set_option maxRecDepth 100000
namespace Go.Proofs.YtppdgejjmhdjhaaGreatDoor
section
def FD(op:Int):FuncId:=if op=1 then 251 else if op=3 then 252 else if op=4 then 254 else if op=5 then 255 else if op=6 then 256 else if op=7 then 257 else if op=8 then 259 else if op=9 then 260 else 262
def FC(x:ND):List MV:=if 3≤x.op∧x.op≤9 then[.cptr x.c] else[]
def Le(x:ND):MV:=.fn (.func (FD x.op)) [] (FC x)
theorem MR(x:ND):aA Tryz.prog 205 [.agg x.c] St.none (fun r _=>r=Le x):=by
 refine aA.seen (mB 28 [.tmp 2] Tryz.func205 ?_)
 unfold Le FD FC
 have ho:x.op=1∨x.op=3∨x.op=4∨x.op=5∨x.op=6∨x.op=7∨x.op=8∨x.op=9∨(¬x.op=1∧¬x.op=3∧¬x.op=4∧¬x.op=5∧¬x.op=6∧¬x.op=7∧¬x.op=8∧¬x.op=9):=by omega
 rcases ho with h|h|h|h|h|h|h|h|⟨h1,h3,h4,h5,h6,h7,h8,h9⟩
 all_goals try simp(config:={ decide:=true }) only[h,if_true,if_false]
 ·repeat' first|(refine wO ?_;intros)|refine wZ2 @Tryz.f205.eq_1 @h ?_|fail
  exact .same _
 iterate 7
  ·repeat' first|(refine wO ?_;intros)|refine wZ2 @Tryz.f205.eq_1 @h ?_|fail
   exact .fn rfl (rG (.ptr (aD _ _ _) (by simp)))
 ·rw[if_neg h1,if_neg h3,if_neg h4,if_neg h5,if_neg h6,if_neg h7,if_neg h8,if_neg h9,if_neg oM]
  repeat' first|(refine wO ?_;intros)|refine wZ9 @Tryz.f205.eq_1 @h1 @h3 @h4 @h5 @h6 @h7 @h8 @h9 ?_|fail
  exact .same _
abbrev pD(c:CA):CD:=⟨c.id,c.ver,c.lab.toNat,c.f.l⟩
theorem V5(c:CA)(g:Int):aA Tryz.prog 251 [.cptr c.c,.int .u32 g] St.none (fun r _=>r=.bool true):=by
 refine(mB 5 [.tmp 4] Tryz.func251 ?_)
 repeat' first|refine wZ1 @Tryz.f251.eq_1 ?_|exact wC1 @Tryz.f251.eq_1|fail
theorem Wd(c:CA)(g:Int):aA Tryz.prog 262 [.cptr c.c,.int .u32 g] St.none (fun r _=>r=.bool false):=by
 refine(mB 5 [.tmp 4] Tryz.func262 ?_)
 repeat' first|refine wZ1 @Tryz.f262.eq_1 ?_|exact wC1 @Tryz.f262.eq_1|fail
theorem V6(c:CA)(g:Int)(x:ND){n:Nat}(hx:x.n=n)(hn:n<32):aA Tryz.prog 252 [.cptr c.c,.int .u32 g,.cptr x.c] St.none (fun r _=>r=.bool (hasB c.lab.toNat x.n)):=by
 refine(mB 13 [.tmp 5] Tryz.func252 ?_)
 have h:=Ay c.lab.toNat n c.lab.toNat_lt hn
 rw[hx]
 obtain⟨C,c1⟩:=kw1 253 ⟨[],fun v=>v=.bool (hasB c.lab.toNat n),none⟩
 repeat' first|((with_reducible refine aI mixed ?chk C ?_);(case chk=>decide +kernel))|(with_reducible refine aG (c1 _) h ?_)|refine wZ3 @Tryz.f252.eq_1 @hx @FYs ?_|exact wC3 @Tryz.f252.eq_1 @hx @FYs|fail
theorem V7(c:CA)(g:Nat)(hg:g<4294967296)(x:ND){n:Nat}(hx:x.n=n)(hn:n<32):aA Tryz.prog 254 [.cptr c.c,.int .u32 (g:Int),.cptr x.c] St.none (fun r _=>r=.bool (hasB g x.n)):=by
 refine(mB 10 [.tmp 5] Tryz.func254 ?_)
 have h:=Ay g n hg hn
 rw[hx]
 repeat' first|(with_reducible first|refine up h ?_)|refine wZ2 @Tryz.f254.eq_1 @hx ?_|exact wC2 @Tryz.f254.eq_1 @hx|fail
theorem V8(c:CA)(g:Int)(x:ND){k:Nat}(hx:x.n=k)(hk:k<8):aA Tryz.prog 255 [.cptr c.c,.int .u32 g,.cptr x.c] St.none (fun r _=>r=.bool (!decide ((c.f.get k).kd=0))):=by
 refine(mB 15 [.tmp 5] Tryz.func255 ?_)
 have hdr:(fc c.f).drop (k * 3)=.int .i64 (c.f.get k).kd::.int .i64 (c.f.get k).n::.str (c.f.get k).s::(fc c.f).drop ((k+1) * 3):=jI (f:=c.f) hk
 repeat' first|(refine wO ?_;intros)|refine wZ4 @Tryz.f255.eq_1 @hx @FYs @hdr ?_|exact wC4 @Tryz.f255.eq_1 @hx @FYs @hdr|fail
 all_goals first|done|(simp;done)|skip
theorem V9(c:CA)(g:Int)(x:ND){k:Nat}(hx:x.n=k)(hk:k<8):aA Tryz.prog 256 [.cptr c.c,.int .u32 g,.cptr x.c] St.none (fun r _=>r=.bool (decide (c.f.get k=x.v))):=by
 refine(mB 16 [.tmp 5] Tryz.func256 ?_)
 have hat:=pM (f:=c.f) hk
 repeat' first|(refine wO ?_;intros)|refine wZ4 @Tryz.f256.eq_1 @hx @FYs @hat ?_|fail
 exact CW
theorem Wa(c:CA)(g:Int)(x:ND){k:Nat}(hx:x.n=k)(hk:k<8):aA Tryz.prog 257 [.cptr c.c,.int .u32 g,.cptr x.c] St.none (fun r _=>r=.bool (kP (c.f.get k) x.v)):=by
 refine(mB 16 [.tmp 5] Tryz.func257 ?_)
 have hat:=pM (f:=c.f) hk
 have h:=xR (c.f.get k) x.v
 obtain⟨C,c1⟩:=kw1 258 ⟨[],fun v=>v=.bool (kP (c.f.get k) x.v),none⟩
 repeat' first|((with_reducible refine aI mixed ?chk C ?_);(case chk=>decide +kernel))|(with_reducible refine aG (c1 _) h ?_)|refine wZ4 @Tryz.f257.eq_1 @hx @FYs @hat ?_|exact wC4 @Tryz.f257.eq_1 @hx @FYs @hat|fail
theorem Wb(c:CA)(g:Int)(x:ND){k:Nat}(hx:x.n=k)(hk:k<8):aA Tryz.prog 259 [.cptr c.c,.int .u32 g,.cptr x.c] St.none (fun r _=>r=.bool (kP x.v (c.f.get k))):=by
 refine(mB 16 [.tmp 5] Tryz.func259 ?_)
 have hat:=pM (f:=c.f) hk
 have h:=xR x.v (c.f.get k)
 obtain⟨C,c1⟩:=kw1 258 ⟨[],fun v=>v=.bool (kP x.v (c.f.get k)),none⟩
 repeat' first|((with_reducible refine aI mixed ?chk C ?_);(case chk=>decide +kernel))|(with_reducible refine aG (c1 _) h ?_)|refine wZ4 @Tryz.f259.eq_1 @hx @FYs @hat ?_|exact wC4 @Tryz.f259.eq_1 @hx @FYs @hat|fail
theorem Wc(c:CA)(g:Int)(x:ND){k:Nat}(hx:x.n=k)(hk:k<8)(h1:(c.f.get k).s.size≤1000000)(h2:x.v.s.size≤1000000):aA Tryz.prog 260 [.cptr c.c,.int .u32 g,.cptr x.c] St.none (fun r _=>r=.bool (lQ (c.f.get k) x.v)):=by
 refine(mB 16 [.tmp 5] Tryz.func260 ?_)
 have hat:=pM (f:=c.f) hk
 have h:=GW (c.f.get k) x.v h1 h2
 obtain⟨C,c1⟩:=kw1 261 ⟨[],fun v=>v=.bool (lQ (c.f.get k) x.v),none⟩
 repeat' first|((with_reducible refine aI mixed ?chk C ?_);(case chk=>decide +kernel))|(with_reducible refine aG (c1 _) h ?_)|refine wZ4 @Tryz.f260.eq_1 @hx @FYs @hat ?_|exact wC4 @Tryz.f260.eq_1 @hx @FYs @hat|fail
theorem We(c:CA)(hc:∀k,(c.f.get k).s.size≤1000000)(g:Nat)(hg:g<4294967296)(x:ND)(hx:fP x=true):aA Tryz.prog (FD x.op) ([.cptr c.c,.int .u32 (g:Int)]++FC x) St.none (fun r _=>r=.bool (cI (pD c) g x)):=by
 have hxs:=CC hx
 have ho:x.op=1∨x.op=3∨x.op=4∨x.op=5∨x.op=6∨x.op=7∨x.op=8∨x.op=9∨(¬x.op=1∧¬x.op=3∧¬x.op=4∧¬x.op=5∧¬x.op=6∧¬x.op=7∧¬x.op=8∧¬x.op=9):=by omega
 have hn:3≤x.op→x.op≤9→0≤x.n∧x.n<16∧(5≤x.op→x.n<8):=fun h1 h2=>by
  have h:=hx
  have e:x.op=3∨x.op=4∨x.op=5∨x.op=6∨x.op=7∨x.op=8∨x.op=9:=by omega
  rcases e with e|e|e|e|e|e|e<;>simp[fP,e] at h<;>omega
 have hnat:3≤x.op→x.op≤9→∃k:Nat,x.n=k∧k<16∧(5≤x.op→k<8):=fun h1 h2=>by
  obtain⟨q1,q2,q3⟩:=hn h1 h2
  exact⟨x.n.toNat,by omega,by omega,fun h=>by have:=q3 h;omega⟩
 unfold FD FC cI
 rcases ho with h|h|h|h|h|h|h|h|⟨h1,h3,h4,h5,h6,h7,h8,h9⟩
 ·simp(config:={ decide:=true }) only[h,if_true,if_false]
  exact V5 c g
 ·obtain⟨k,e,h16,_⟩:=hnat oM oM
  simp(config:={ decide:=true }) only[h,if_true,if_false]
  exact V6 c g x e oM
 ·obtain⟨k,e,h16,_⟩:=hnat oM oM
  simp(config:={ decide:=true }) only[h,if_true,if_false]
  exact V7 c g hg x e oM
 ·obtain⟨k,e,_,h8⟩:=hnat oM oM
  simp(config:={ decide:=true }) only[h,if_true,if_false]
  have:=V8 c g x e (h8 oM)
  rw[show x.n.toNat=k by omega]
  exact this
 ·obtain⟨k,e,_,h8⟩:=hnat oM oM
  simp(config:={ decide:=true }) only[h,if_true,if_false]
  have:=V9 c g x e (h8 oM)
  rw[show x.n.toNat=k by omega]
  exact this
 ·obtain⟨k,e,_,h8⟩:=hnat oM oM
  simp(config:={ decide:=true }) only[h,if_true,if_false]
  have:=Wa c g x e (h8 oM)
  rw[show x.n.toNat=k by omega]
  exact this
 ·obtain⟨k,e,_,h8⟩:=hnat oM oM
  simp(config:={ decide:=true }) only[h,if_true,if_false]
  have:=Wb c g x e (h8 oM)
  rw[show x.n.toNat=k by omega]
  exact this
 ·obtain⟨k,e,_,h8⟩:=hnat oM oM
  simp(config:={ decide:=true }) only[h,if_true,if_false]
  have:=Wc c g x e (h8 oM) (hc k) hxs
  rw[show x.n.toNat=k by omega]
  exact this
 ·rw[if_neg h1,if_neg h3,if_neg h4,if_neg h5,if_neg h6,if_neg h7,if_neg h8,if_neg h9,if_neg oM,if_neg h1,if_neg h3,if_neg h4,if_neg h5,if_neg h6,if_neg h7,if_neg h8,if_neg h9]
  exact Wd c g
end

section
def rQ:Int→List Int→Bool
 | _,[]=>true
 | last,x::l=>decide (last<x∧1≤x∧x<mG)&&rQ x l
def iN:Int→List GR→Bool
 | _,[]=>true
 | last,g::l=>decide (last<g.no∧0≤g.no∧g.no<16)&&rQ 0 g.mem&&iN g.no l
def iH(a b:List Int):List Int:=a.filter fun x=>!decide (x∈b)
def grF(id:Int)(s:Nat)(g:GR):Nat:=if id∈g.mem then s ||| 2 ^ g.no.toNat else s
def grB(l:List GR)(id:Int):Nat:=l.foldl (grF id) 0
def jV(nx:Int):Int→List CA→Bool
 | _,[]=>true
 | last,c::l=>iE c&&decide (last<c.id∧c.id<nx)&&jV nx c.id l
def Wl(nx:Int)(cs:List CA)(pre:List DE)(d:DE):Bool :=
 decide (1≤d.id∧d.id<nx∧1≤d.ver∧d.ver≤big∧0≤d.sq∧d.sq≤big)&&decide (d.id∉cs.map CA.id)&&pre.all fun e=>decide (e.id≠d.id∧e.sq≤d.sq)
def zN(nx:Int)(cs:List CA):List DE→List DE→Bool
 | _,[]=>true
 | pre,d::l=>Wl nx cs pre d&&zN nx cs (pre++[d]) l
def VD(nx:Int)(cs:List CA)(ds:List DE):Bool :=
 decide (1≤nx∧nx≤mG∧cs.length≤48∧ds.length≤40)&&(jV nx 0 cs&&zN nx cs [] ds)
def L3(b:BK):Bool :=
 VD b.nx b.cards b.dead&&decide (0≤b.sq∧b.sq≤big)&&iN (-1) b.gr&&(b.dead.all fun d=>decide (d.sq≤b.sq))&&b.gr.all fun g=>decide (iH g.mem (b.cards.map CA.id)=[])
def kQ(f:F8)(m:Nat):Nat→F8
 | 0=>f80
 | i+1=>if bit m i=true then(kQ f m i).set i (f.get i) else kQ f m i
def UC(f:F8)(m:Nat):F8:=kQ f m 8
def fL(c:CA)(m:UInt32):CA:=⟨c.id,c.ver,if bit m.toNat 8=true then c.lab else 0,UC c.f m.toNat⟩
def fF:List TU→Int→Option Int
 | [],_=>none
 | t::l,id=>match fF l id with
  | some v=>some v
  | none=>if t.id=id then some t.new else none
open Classical in
noncomputable def qK(fl:List ND):T:=if h:∃t:T,Good t∧fl=t.fl then h.choose else .leaf nd0
noncomputable def dW(gr:List GR)(fl:List ND)(c:CA):Bool:=(qK fl).sem (cI (pD c) (grB gr c.id))
noncomputable def shown(b:BK)(fl:List ND)(id:Int):Option CA :=
 match b.cards.find? (fun c=>decide (c.id=id)) with
 | none=>none
 | some c=>if dW b.gr fl c=true then some c else none
noncomputable def cW(b:BK)(fl:List ND)(id:Int):Int:=((shown b fl id).getD ca0).ver
noncomputable def sH(b:BK)(fl:List ND)(m:UInt32)(cur:Int):List CA:=(b.cards.filter fun c=>decide (c.id≤cur)&&dW b.gr fl c).map fun c=>fL c m
noncomputable def rI(b:BK)(fl:List ND):List Int:=(b.cards.filter (dW b.gr fl)).map CA.id
theorem y7{fl:List ND}(h:bS fl=0):Good (qK fl)∧(qK fl).fl=fl∧fl.length≤31:=by
 obtain⟨h1,h2,h3,h4,h5⟩:=(Hb fl).1 h
 have hf:S3 fl=true:=by
  unfold S3
  rw[h4,decide_eq_true h3,decide_eq_true ⟨h2,by omega⟩]
  rfl
 obtain⟨t,ok,e,_,hn⟩:=Pq hf
 have hex:∃t:T,Good t∧fl=t.fl:=⟨t,⟨ok,fun x hx=>hn x (by rw[e];exact hx)⟩,e⟩
 unfold qK
 rw[dif_pos hex]
 exact⟨hex.choose_spec.1,hex.choose_spec.2.symm,h1⟩
theorem K7{id:Int}:∀(pre:List GR) (g:GR) (r:List GR) (lo:Int) (s:Nat),-1≤lo→s<2 ^ (lo+1).toNat→iN lo (pre++g::r)=true→pre.foldl (grF id) s<2 ^ g.no.toNat
 | [],g,r,lo,s,h0,hs,h=>by
  simp only[List.nil_append,iN,Bool.and_eq_true,decide_eq_true_eq] at h
  exact Nat.lt_of_lt_of_le hs (Nat.pow_le_pow_right oM oM)
 | x::pre,g,r,lo,s,h0,hs,h=>by
  simp only[List.cons_append,iN,Bool.and_eq_true,decide_eq_true_eq] at h
  obtain⟨⟨⟨h1,h2,h3⟩,h4⟩,h5⟩:=h
  rw[List.foldl_cons]
  refine K7 pre g r x.no _ oM ?_ h5
  have hlt:s<2 ^ x.no.toNat:=Nat.lt_of_lt_of_le hs (Nat.pow_le_pow_right oM oM)
  have e:(x.no+1).toNat=x.no.toNat+1:=by omega
  rw[e]
  have hp:2 ^ x.no.toNat<2 ^ (x.no.toNat+1):=Nat.pow_lt_pow_right oM oM
  unfold grF
  split
  ·exact Nat.or_lt_two_pow oM hp
  ·omega
theorem Fg:∀(pre:List GR) (g:GR) (r:List GR) (lo:Int),iN lo (pre++g::r)=true→0≤g.no∧g.no<16∧rQ 0 g.mem=true
 | [],g,r,lo,h=>by
  simp only[List.nil_append,iN,Bool.and_eq_true,decide_eq_true_eq] at h
  exact⟨h.1.1.2.1,h.1.1.2.2,h.1.2⟩
 | x::pre,g,r,lo,h=>by
  simp only[List.cons_append,iN,Bool.and_eq_true,decide_eq_true_eq] at h
  exact Fg pre g r x.no h.2
theorem uU{α:Type}(l:List α){i:Nat}{x:α}(h:l[i]?=some x):l=l.take i++x::l.drop (i+1):=by
 have hi:i<l.length:=(List.getElem?_eq_some_iff.1 h).1
 have e:=(List.getElem?_eq_some_iff.1 h).2
 conv=>lhs;rw[←List.take_append_drop i l,List.drop_eq_getElem_cons hi,e]
theorem aP{α:Type}{l:List α}{i:Nat}{x:α}(h:l[i]?=some x):l.take (i+1)=l.take i++[x]:=by
 rw[List.take_add_one,h];rfl
theorem tO{α:Type}{l:List α}{i:Nat}{x:α}(h:l[i]?=some x):l.drop i=x::l.drop (i+1):=by
 have hi:i<l.length:=(List.getElem?_eq_some_iff.1 h).1
 have e:=(List.getElem?_eq_some_iff.1 h).2
 rw[List.drop_eq_getElem_cons hi,e]
theorem IH{l:List GR}(h:iN (-1) l=true){i:Nat}{g:GR}(hi:l[i]?=some g)(id:Int):grB (l.take i) id<2 ^ g.no.toNat∧0≤g.no∧g.no<16∧rQ 0 g.mem=true:=by
 rw[uU l hi] at h
 exact⟨K7 _ g _ (-1) 0 oM (by simp) h,Fg _ g _ _ h⟩
theorem zY{l:List GR}{i:Nat}{g:GR}(hi:l[i]?=some g)(id:Int):grB (l.take (i+1)) id=grF id (grB (l.take i) id) g:=by
 rw[aP hi,grB,List.foldl_append];rfl
theorem bF{α:Type}{l:List α}{f:α→List MV}{i:Nat}{x:α}(h:l[i]?=some x):(l.map f).getD i []=f x:=by
 rw[List.getD_eq_getElem?_getD,List.getElem?_map,h];rfl
theorem bW{α:Type}(l:List α){i:Nat}(h:i<l.length):∃x,l[i]?=some x:=⟨_,List.getElem?_eq_getElem h⟩
theorem U8{l:List Int}{i:Nat}{x:Int}(h:l[i]?=some x)(hn:x∉l.take i):l.idxOf x=i:=by
 have hi:i<l.length:=(List.getElem?_eq_some_iff.1 h).1
 rw[uU l h,List.idxOf_append,if_neg hn,List.idxOf_cons_self,List.length_take]
 omega
def p9(l:List Int)(x:Int):Int:=if x∈l then(l.idxOf x:Int) else -1
theorem JY{l:List Int}{x:Int}:(p9 l x<0)=(x∉l):=propext (by unfold p9;split<;>simp[*])
theorem eD{α:Type}{l:List α}{i:Nat}{x:α}(h:l[i]?=some x):x∈l:=List.mem_of_getElem? h
theorem P1{α:Type}{l:List α}{f:α→Int}{i:Nat}{x:α}(h:l[i]?=some x):(l.map f)[i]?=some (f x):=by rw[List.getElem?_map,h];rfl
theorem mA{nx:Int}:∀{last:Int} {l:List CA},jV nx last l=true→(∀c,c∈l→iE c=true∧last<c.id∧c.id<nx)∧l.Pairwise (fun a b=>a.id<b.id)
 | _,[],_=>⟨by simp,.nil⟩
 | last,x::l,h=>by
  simp only[jV,Bool.and_eq_true,decide_eq_true_eq] at h
  obtain⟨⟨h1,h2,h3⟩,h4⟩:=h
  obtain⟨i1,i2⟩:=mA h4
  refine⟨fun c hc=>?_,List.pairwise_cons.2 ⟨fun c hc=>(i1 c hc).2.1,i2⟩⟩
  rcases List.mem_cons.1 hc with rfl|hc
  ·exact⟨h1,h2,h3⟩
  ·obtain⟨a,b,c'⟩:=i1 c hc
   exact⟨a,by omega,c'⟩
structure BkR (b:BK):Prop where
 nx1:1≤b.nx
 nx2:b.nx≤1073741824
 nc:b.cards.length≤48
 nd:b.dead.length≤40
 cok:jV b.nx 0 b.cards=true
 dok:zN b.nx b.cards [] b.dead=true
 sq1:0≤b.sq
 sq2:b.sq≤1099511627776
 gok:iN (-1) b.gr=true
theorem O0{b:BK}(h:L3 b=true):BkR b:=by
 unfold L3 VD big mG at h
 simp only[Bool.and_eq_true,decide_eq_true_eq] at h
 obtain⟨⟨⟨⟨⟨⟨h1,h2,h3,h4⟩,h5,h6⟩,h7,h8⟩,h9⟩,-⟩,-⟩:=h
 exact⟨h1,h2,h3,h4,h5,h6,h7,h8,h9⟩
theorem tI{b:BK}(h:BkR b){c:CA}(hc:c∈b.cards):iE c=true∧0<c.id∧c.id<1073741824:=by
 obtain⟨h1,h2,h3⟩:=(mA h.cok).1 c hc
 exact⟨h1,h2,by have:=h.nx2;omega⟩
theorem zG{c:CA}(h:iE c=true):∀v,v∈c.f.l→v.s.size≤1000000:=fun v hv=>by
 unfold iE at h
 rw[Bool.and_eq_true] at h
 exact tB (List.all_eq_true.1 h.2 v hv)
theorem K5{gr:List GR}(h:iN (-1) gr=true)(id:Int):grB gr id<65536:=by
 have hlast:∀i,i≤gr.length→grB (gr.take i) id<65536:=fun i hi=>by
  cases i with
  | zero=>simp[grB]
  | succ i =>
   obtain⟨g,hg⟩:=bW gr (by omega:i<gr.length)
   obtain⟨h1,h2,h3,_⟩:=IH h hg id
   rw[zY hg]
   have e:2 ^ g.no.toNat<2 ^ 16:=Nat.pow_lt_pow_right oM oM
   unfold grF
   split
   ·exact Nat.or_lt_two_pow (n:=16) (Nat.lt_trans h1 e) e
   ·exact Nat.lt_trans h1 e
 have:=hlast gr.length (Nat.le_refl _)
 rwa [List.take_length] at this
theorem Ms{l:List CA}{id:Int}{i:Nat}(h:∀c,c∈l.take i→c.id≠id){c:CA}(hc:l[i]?=some c)(he:c.id=id):l.find? (fun c=>decide (c.id=id))=some c:=by
 rw[uU l hc,List.find?_append]
 have:(l.take i).find? (fun c=>decide (c.id=id))=none:=List.find?_eq_none.2 fun x hx=>by simpa using h x hx
 rw[this]
 simp[he]
end

section
theorem cX{σ:St}{q:Nat}{t:TypeId}{e n:Nat}{xs ex:List (List MV)}(hq:σ q=some (.row t e (xs++ex)))(hn:n=xs.length):View σ (.vec e q 0 n) (.lst e xs false):=by
 subst hn
 have:=View.vec (σ:=σ) (lo:=0) (n:=xs.length) hq (by rw[List.length_append];omega)
 rw[List.drop_zero,List.take_left] at this
 exact this
theorem kK(l:List Int)(tt:Bool)(hl:l.length≤1000000)(x:Int):aA Tryz.prog 158 [.lst 1 (l.map aM) tt,.int .i64 x] St.none (fun r _=>r=.bool (decide (x∈l))):=by
 refine aA.bR (mB 18 [.tmp 4] Tryz.func158 ?_)
 repeat' first|refine wZ1 @Tryz.f158.eq_1 ?_|fail
 refine aE (α:=Nat) (fun i=>⟨18,[(5,.int .i64 (i:Int)),(0,.lst 1 (l.map aM) tt),(1,.int .i64 x)],[]⟩) (fun _=>St.none) (fun i=>i≤l.length∧x∉l.take i) (fun i=>l.length - i) (.of (.less ?_ (St.le_refl _)) ⟨0,rfl,rfl,Nat.zero_le _,by simp⟩) ?_
 ·exact wW
 ·rintro i ⟨hi,hq⟩
  by_cases hlt:i<l.length
  ·obtain⟨y,hy⟩:=bW l hlt
   have hat:=bF (f:=aM) hy
   have hmem:=List.mem_of_getElem? hy
   have hnext:x≠y→x∉l.take (i+1):=fun h=>by
    rw[aP hy,List.mem_append,List.mem_singleton]
    exact not_or.2 ⟨hq,h⟩
   by_cases he:y=x
   ·subst he
    rw[decide_eq_true hmem]
    repeat' first|refine wZ1 @hat ?_|fail
    all_goals exact lE
   ·repeat' first|refine wZ1 @hat ?_|fail
    all_goals (try (exfalso;omega))
    all_goals
     refine .of (.less ?_ (St.none_le _)) ⟨i+1,rfl,rfl,⟨by omega,hnext (Ne.symm he)⟩,by omega⟩
     exact wW
  ·have:i=l.length:=by omega
   subst this
   rw[List.take_length] at hq
   rw[decide_eq_false hq]
   repeat' first|refine wZ0 ?_|fail
   all_goals exact lE
theorem Gb{a b:List Int}{i:Nat}{x:Int}(h:a[i]?=some x):iH (a.take (i+1)) b=iH (a.take i) b++if x∈b then[] else[x]:=by
 unfold iH
 rw[aP h,List.filter_append,List.filter_cons]
 by_cases hb:x∈b<;>simp[hb]
theorem Jj(a b:List Int):(iH a b).length≤a.length:=List.length_filter_le _ _
theorem HA(a b:List Int)(ta tb:Bool)(ha:a.length≤1000000)(hb:b.length≤1000000):aA Tryz.prog 110 [.lst 1 (a.map aM) ta,.lst 1 (b.map aM) tb] St.none (fun r _=>r=.lst 1 ((iH a b).map aM) false):=by
 refine aA.seen (mB 29 [.tmp 4] Tryz.func110 ?_)
 repeat' first|(refine wM ?_;(first|(have _:=nl1)|(intro nl1));intros)|refine wZ1 @Tryz.f110.eq_1 ?_|fail
 refine aE (α:=Nat × Nat × List (List MV)) (fun s=>⟨29,[(6,.int .i64 (s.1:Int)),(5,.vec 1 s.2.1 0 (iH (a.take s.1) b).length),(0,.lst 1 (a.map aM) ta),(1,.lst 1 (b.map aM) tb)],[]⟩)
  (fun s=>St.none.set s.2.1 (.row 3 1 ((iH (a.take s.1) b).map aM++s.2.2))) (fun s=>s.1≤a.length) (fun s=>a.length - s.1) ?_ ?_
 ·refine .of (.less ?_ (St.le_refl _)) ⟨(0,nl1,[]),rfl,by simp[iH],Nat.zero_le _⟩
  simp(maxSteps:=4000000) (disch:=first|decide|assumption|omega|(simp only[wL];omega)) only[go_sem,simprocAttr,bC,aS]
  all_goals first|rfl|(simp[iH,aS];done)
 ·rintro⟨i,q,ex⟩ hi
  simp only at hi ⊢
  by_cases hlt:i<a.length
  ·obtain⟨x,hx⟩:=bW a hlt
   have hat:=bF (f:=aM) hx
   have hh:=kK b tb hb x
   have hsn:=Gb (b:=b) hx
   have hml:=Jj (a.take i) b
   have htl:(a.take i).length=i:=by rw[List.length_take];omega
   rw[htl] at hml
   by_cases hm:x∈b
   ·rw[decide_eq_true hm] at hh
    rw[if_pos hm,List.append_nil] at hsn
    rw[←hsn]
    repeat' first|(with_reducible first|refine up hh ?_)|refine wZ1 @hat ?_|fail
    refine .of (.less ?_ (St.le_refl _)) ⟨(i+1,q,ex),rfl,rfl,by simp only;omega,by simp only;omega⟩
    exact wW
   ·rw[decide_eq_false hm] at hh
    rw[if_neg hm] at hsn
    obtain⟨L,hL⟩:∃L,iH (a.take i) b=L:=⟨_,rfl⟩
    rw[hL] at hsn hml ⊢
    have htk:(L.map aM++ex).take L.length=L.map aM:=mZ
    have hdr:(L.map aM++ex).drop (L.length+1)=ex.drop 1:=nZ
    have hLl:(L.map aM).length=L.length:=List.length_map _
    repeat' first|(with_reducible first|refine up hh ?_)|(refine wM ?_;(first|(have _:=nl3)|(have _:=nl2;intro nl3)|(intro nl2));intros)|(refine wY ?_ ?_<;>intro h)|refine wZ4 @hat @htk @hdr @hLl ?_|fail
    ·have hex:ex=[]:=List.eq_nil_of_length_eq_zero (by first|omega|(simp at *;omega))
     subst hex
     refine .of (.less ?_ (σ1:=St.none.set nl3 (.row 3 1 (L.map aM++[]++[aM x]))) (St.aB (St.none_le _) sS)) ⟨(i+1,nl3,[]),rfl,by simp[hsn],by simp only;omega,by simp only;omega⟩
     simp(maxSteps:=4000000) (disch:=first|decide|assumption|omega|(simp only[wL];omega)) only[go_sem,simprocAttr,bC,aS,hsn]
     all_goals first|rfl|(simp;done)
    ·refine .of (.less ?_ (σ1:=St.none.set nl3 (.row 3 1 (L.map aM++[aM x]++ex.drop 1))) (St.aB (St.none_le _) sS)) ⟨(i+1,nl3,ex.drop 1),rfl,by simp[hsn],by simp only;omega,by simp only;omega⟩
     simp(maxSteps:=4000000) (disch:=first|decide|assumption|omega|(simp only[wL];omega)) only[go_sem,simprocAttr,bC,aS,hsn]
     all_goals first|rfl|(simp;done)
  ·have:i=a.length:=by omega
   subst this
   rw[List.take_length]
   repeat' first|refine wZ0 ?_|fail
   exact cX (aD _ _ _) (by simp)
end

section
theorem AM(l:List GR)(tt:Bool)(hl:l.length≤1000000)(hm:∀g,g∈l→g.mem.length≤1000000)(hok:iN (-1) l=true)(id:Int):aA Tryz.prog 91 [.lst 2 (l.map GR.c) tt,.int .i64 id] St.none (fun r _=>r=.int .u32 (grB l id:Int)):=by
 refine aA.bR (mB 28 [.tmp 4] Tryz.func91 ?_)
 repeat' first|refine wZ1 @Tryz.f91.eq_1 ?_|fail
 refine aE (α:=Nat) (fun i=>⟨28,[(6,.int .i64 (i:Int)),(5,.int .u32 (grB (l.take i) id:Int)),(0,.lst 2 (l.map GR.c) tt),(1,.int .i64 id)],[]⟩) (fun _=>St.none) (fun i=>i≤l.length) (fun i=>l.length - i) (.of (.less ?_ (St.le_refl _)) ⟨0,rfl,rfl,Nat.zero_le _⟩) ?_
 ·simp(maxSteps:=4000000) (disch:=first|decide|assumption|omega|(simp only[wL];omega)) only[go_sem,simprocAttr,bC,aS]
  all_goals first|rfl|(simp[grB,aS];done)
 ·rintro i hi
  by_cases hlt:i<l.length
  ·obtain⟨g,hg⟩:=bW l hlt
   have hat:=bF (f:=GR.c) hg
   have hsn:=zY hg id
   obtain⟨h1,h2,h3,h4⟩:=IH hok hg id
   have hh:=kK g.mem false (hm g (eD hg)) id
   obtain⟨k,hk⟩:∃k:Nat,g.no=k:=⟨g.no.toNat,by omega⟩
   rw[hk] at h1 h2 h3
   rw[Int.toNat_natCast] at h1
   have hw:=Kk (grB (l.take i) id) k oM h1
   unfold grF at hsn
   rw[hk,Int.toNat_natCast] at hsn
   by_cases hmem:id∈g.mem
   ·rw[if_pos hmem] at hsn
    rw[decide_eq_true hmem] at hh
    repeat' first|(with_reducible first|refine up hh ?_|refine up hw ?_)|refine wZ2 @hat @hk ?_|fail
    refine .of (.less ?_ (St.le_refl _)) ⟨i+1,rfl,rfl,by omega,by omega⟩
    rw[hsn]
    exact wW
   ·rw[if_neg hmem] at hsn
    rw[decide_eq_false hmem] at hh
    repeat' first|(with_reducible first|refine up hh ?_|refine up hw ?_)|refine wZ2 @hat @hk ?_|fail
    refine .of (.less ?_ (St.le_refl _)) ⟨i+1,rfl,rfl,by omega,by omega⟩
    rw[hsn]
    exact wW
  ·have:i=l.length:=by omega
   subst this
   rw[List.take_length]
   repeat' first|refine wZ0 ?_|fail
   all_goals exact lE
end
end Go.Proofs.YtppdgejjmhdjhaaGreatDoor
