/- Parts of the proof, joined; conditions: those that its theorems name. -/
import Derived.Test.YtaojijkdamfbnaaGreatDoorMfp
import Derived.Test.YtaojijkdamfbnaaGreatDoorMfq
set_option linter.unusedVariables false
set_option linter.unusedSimpArgs false
set_option maxHeartbeats 4000000
namespace Go.Proofs.YtaojijkdamfbnaaGreatDoor
section
set_option maxRecDepth 100000
set_option maxHeartbeats 4000000
theorem Aw(l:List ND)(hl:l.length≤1000000)(t:Bool):aA Tryz.prog 45 [.lst 5 (l.map ND.c) t] St.none (fun r _=>r=.lst 5 (l.map ND.c) false):=by
 cases l with
 | nil=>exact yE 5 t
 | cons x m =>
  refine aA.seen (aA.body 8 [.tmp 2] Tryz.func45 rfl rfl rfl rfl ?_)
  simp only[List.length_cons] at hl
  repeat' (first|(with_reducible first|(refine wN fun _ hnl=>?_;revert hnl;(repeat refine wS fun _ _=>?_);intro hnl)|refine wE ?_|(refine wK ?_ ?_<;>intro h)|(refine wB ?_ ?_<;>intro h<;>simp only[h]))|simp(maxSteps:=4000000) (disch:=first|exact ddL|fail) only[go_sem,simprocAttr,Tryz.f45])
  exact .vecAll (aF _ _ _) (by simp only[List.length_map,List.length_cons])
theorem qU(l:List Int)(hl:l.length≤1000000)(t:Bool):aA Tryz.prog 43 [.lst 1 (l.map aJ) t] St.none (fun r _=>r=.lst 1 (l.map aJ) false):=by
 cases l with
 | nil=>exact yD 1 t
 | cons x m =>
  refine aA.seen (aA.body 8 [.tmp 2] Tryz.func43 rfl rfl rfl rfl ?_)
  simp only[List.length_cons] at hl
  repeat' (first|(with_reducible first|(refine wN fun _ hnl=>?_;revert hnl;(repeat refine wS fun _ _=>?_);intro hnl)|refine wE ?_|(refine wK ?_ ?_<;>intro h)|(refine wB ?_ ?_<;>intro h<;>simp only[h]))|simp(maxSteps:=4000000) (disch:=first|exact ddL|fail) only[go_sem,simprocAttr,Tryz.f43])
  exact .vecAll (aF _ _ _) (by simp only[List.length_map,List.length_cons])
end

section
set_option maxRecDepth 100000
set_option maxHeartbeats 4000000
def A0(op:Int):FuncId:=if op=1 then 163 else if op=3 then 164 else if op=4 then 166 else if op=5 then 167 else if op=6 then 168 else if op=7 then 169 else if op=8 then 171 else if op=9 then 172 else 174
def xE(x:ND):List MV:=if 3≤x.op∧x.op≤9 then[.cptr x.c] else[]
def xF(x:ND):MV:=.fn (.func (A0 x.op)) [] (xE x)
theorem Ga(x:ND):aA Tryz.prog 129 [.agg x.c] St.none (fun r _=>r=xF x):=by
 refine aA.seen (aA.body 28 [.tmp 2] Tryz.func129 rfl rfl rfl rfl ?_)
 unfold xF A0 xE
 have ho:x.op=1∨x.op=3∨x.op=4∨x.op=5∨x.op=6∨x.op=7∨x.op=8∨x.op=9∨(¬x.op=1∧¬x.op=3∧¬x.op=4∧¬x.op=5∧¬x.op=6∧¬x.op=7∧¬x.op=8∧¬x.op=9):=by omega
 rcases ho with h|h|h|h|h|h|h|h|⟨h1,h3,h4,h5,h6,h7,h8,h9⟩
 all_goals try simp(config:={ decide:=true }) only[h,if_true,if_false]
 ·repeat' (first|(with_reducible first|(refine wN fun _ hnl=>?_;revert hnl;(repeat refine wS fun _ _=>?_);intro hnl)|refine wE ?_|(refine wK ?_ ?_<;>intro h)|(refine wB ?_ ?_<;>intro h<;>simp only[h]))|simp(maxSteps:=4000000) (disch:=first|exact ddL|fail) only[go_sem,simprocAttr,Tryz.f129,h])
  exact .same _
 iterate 7
  ·repeat' (first|(with_reducible first|(refine wN fun _ hnl=>?_;revert hnl;(repeat refine wS fun _ _=>?_);intro hnl)|refine wE ?_|(refine wK ?_ ?_<;>intro h)|(refine wB ?_ ?_<;>intro h<;>simp only[h]))|simp(maxSteps:=4000000) (disch:=first|exact ddL|fail) only[go_sem,simprocAttr,Tryz.f129,h])
   exact .fn rfl (mZ (.ptr (aF _ _ _) (by simp)))
 ·rw[if_neg h1,if_neg h3,if_neg h4,if_neg h5,if_neg h6,if_neg h7,if_neg h8,if_neg h9,if_neg (by omega)]
  repeat' (first|(with_reducible first|(refine wN fun _ hnl=>?_;revert hnl;(repeat refine wS fun _ _=>?_);intro hnl)|refine wE ?_|(refine wK ?_ ?_<;>intro h)|(refine wB ?_ ?_<;>intro h<;>simp only[h]))|simp(maxSteps:=4000000) (disch:=first|exact ddL|fail) only[go_sem,simprocAttr,Tryz.f129,h1,h3,h4,h5,h6,h7,h8,h9])
  exact .same _
abbrev nC(c:CA):CD:=⟨c.id,c.ver,c.lab.toNat,c.f.l⟩
theorem Ni(c:CA)(g:Int):aA Tryz.prog 163 [.cptr c.c,.int .u32 g] St.none (fun r _=>r=.bool true):=by
 refine(aA.body 5 [.tmp 4] Tryz.func163 rfl rfl rfl rfl ?_)
 repeat' (first|(with_reducible first|(refine wN fun _ hnl=>?_;revert hnl;(repeat refine wS fun _ _=>?_);intro hnl)|refine wE ?_|(refine wK ?_ ?_<;>intro h)|(refine wB ?_ ?_<;>intro h<;>simp only[h]))|simp(maxSteps:=4000000) (disch:=first|exact ddL|fail) only[go_sem,simprocAttr,Tryz.f163])
theorem Nr(c:CA)(g:Int):aA Tryz.prog 174 [.cptr c.c,.int .u32 g] St.none (fun r _=>r=.bool false):=by
 refine(aA.body 5 [.tmp 4] Tryz.func174 rfl rfl rfl rfl ?_)
 repeat' (first|(with_reducible first|(refine wN fun _ hnl=>?_;revert hnl;(repeat refine wS fun _ _=>?_);intro hnl)|refine wE ?_|(refine wK ?_ ?_<;>intro h)|(refine wB ?_ ?_<;>intro h<;>simp only[h]))|simp(maxSteps:=4000000) (disch:=first|exact ddL|fail) only[go_sem,simprocAttr,Tryz.f174])
theorem Nj(c:CA)(g:Int)(x:ND){n:Nat}(hx:x.n=n)(hn:n<32):aA Tryz.prog 164 [.cptr c.c,.int .u32 g,.cptr x.c] St.none (fun r _=>r=.bool (hasB c.lab.toNat x.n)):=by
 refine(aA.body 13 [.tmp 5] Tryz.func164 rfl rfl rfl rfl ?_)
 have h:=tR c.lab.toNat n c.lab.toNat_lt hn
 rw[hx]
 obtain⟨C,c1⟩:∃C:b9,∀ms,C 165 ms=some ⟨[],fun v=>v=.bool (hasB c.lab.toNat n),none⟩:=⟨fnF [(165,⟨[],fun v=>v=.bool (hasB c.lab.toNat n),none⟩)],fun _=>gZ⟩
 repeat' (first|((with_reducible refine aZ mixed ?chk C ?_);(case chk=>decide +kernel))|(with_reducible refine aW (c1 _) h ?_)|(with_reducible first|(refine wN fun _ hnl=>?_;revert hnl;(repeat refine wS fun _ _=>?_);intro hnl)|refine wE ?_|(refine wK ?_ ?_<;>intro h)|(refine wB ?_ ?_<;>intro h<;>simp only[h]))|simp(maxSteps:=4000000) (disch:=first|exact ddL|fail) only[go_sem,simprocAttr,Tryz.f164,hx,FYs])
theorem Nk(c:CA)(g:Nat)(hg:g<4294967296)(x:ND){n:Nat}(hx:x.n=n)(hn:n<32):aA Tryz.prog 166 [.cptr c.c,.int .u32 (g:Int),.cptr x.c] St.none (fun r _=>r=.bool (hasB g x.n)):=by
 refine(aA.body 10 [.tmp 5] Tryz.func166 rfl rfl rfl rfl ?_)
 have h:=tR g n hg hn
 rw[hx]
 repeat' (first|(with_reducible first|refine up h ?_)|(with_reducible first|(refine wN fun _ hnl=>?_;revert hnl;(repeat refine wS fun _ _=>?_);intro hnl)|refine wE ?_|(refine wK ?_ ?_<;>intro h)|(refine wB ?_ ?_<;>intro h<;>simp only[h]))|simp(maxSteps:=4000000) (disch:=first|exact ddL|fail) only[go_sem,simprocAttr,Tryz.f166,hx])
theorem Nl(c:CA)(g:Int)(x:ND){k:Nat}(hx:x.n=k)(hk:k<8):aA Tryz.prog 167 [.cptr c.c,.int .u32 g,.cptr x.c] St.none (fun r _=>r=.bool (!decide ((c.f.get k).kd=0))):=by
 refine(aA.body 15 [.tmp 5] Tryz.func167 rfl rfl rfl rfl ?_)
 have hdr:(fc c.f).drop (k * 3)=.int .i64 (c.f.get k).kd::.int .i64 (c.f.get k).n::.str (c.f.get k).s::(fc c.f).drop ((k+1) * 3):=gP (f:=c.f) hk
 repeat' (first|(with_reducible first|(refine wN fun _ hnl=>?_;revert hnl;(repeat refine wS fun _ _=>?_);intro hnl)|refine wE ?_|(refine wK ?_ ?_<;>intro h)|(refine wB ?_ ?_<;>intro h<;>simp only[h]))|simp(maxSteps:=4000000) (disch:=first|exact ddL|fail) only[go_sem,simprocAttr,Tryz.f167,hx,FYs,hdr])
 all_goals first|done|(simp;done)|skip
theorem Nn(c:CA)(g:Int)(x:ND){k:Nat}(hx:x.n=k)(hk:k<8):aA Tryz.prog 168 [.cptr c.c,.int .u32 g,.cptr x.c] St.none (fun r _=>r=.bool (decide (c.f.get k=x.v))):=by
 refine(aA.body 16 [.tmp 5] Tryz.func168 rfl rfl rfl rfl ?_)
 have hat:=nK (f:=c.f) hk
 repeat' (first|(with_reducible first|(refine wN fun _ hnl=>?_;revert hnl;(repeat refine wS fun _ _=>?_);intro hnl)|refine wE ?_|(refine wK ?_ ?_<;>intro h)|(refine wB ?_ ?_<;>intro h<;>simp only[h]))|simp(maxSteps:=4000000) (disch:=first|exact ddL|fail) only[go_sem,simprocAttr,Tryz.f168,hx,FYs,hat])
 exact HO
theorem No(c:CA)(g:Int)(x:ND){k:Nat}(hx:x.n=k)(hk:k<8):aA Tryz.prog 169 [.cptr c.c,.int .u32 g,.cptr x.c] St.none (fun r _=>r=.bool (l5 (c.f.get k) x.v)):=by
 refine(aA.body 16 [.tmp 5] Tryz.func169 rfl rfl rfl rfl ?_)
 have hat:=nK (f:=c.f) hk
 have h:=rE (c.f.get k) x.v
 obtain⟨C,c1⟩:∃C:b9,∀ms,C 170 ms=some ⟨[],fun v=>v=.bool (l5 (c.f.get k) x.v),none⟩:=⟨fnF [(170,⟨[],fun v=>v=.bool (l5 (c.f.get k) x.v),none⟩)],fun _=>gZ⟩
 repeat' (first|((with_reducible refine aZ mixed ?chk C ?_);(case chk=>decide +kernel))|(with_reducible refine aW (c1 _) h ?_)|(with_reducible first|(refine wN fun _ hnl=>?_;revert hnl;(repeat refine wS fun _ _=>?_);intro hnl)|refine wE ?_|(refine wK ?_ ?_<;>intro h)|(refine wB ?_ ?_<;>intro h<;>simp only[h]))|simp(maxSteps:=4000000) (disch:=first|exact ddL|fail) only[go_sem,simprocAttr,Tryz.f169,hx,FYs,hat])
theorem Np(c:CA)(g:Int)(x:ND){k:Nat}(hx:x.n=k)(hk:k<8):aA Tryz.prog 171 [.cptr c.c,.int .u32 g,.cptr x.c] St.none (fun r _=>r=.bool (l5 x.v (c.f.get k))):=by
 refine(aA.body 16 [.tmp 5] Tryz.func171 rfl rfl rfl rfl ?_)
 have hat:=nK (f:=c.f) hk
 have h:=rE x.v (c.f.get k)
 obtain⟨C,c1⟩:∃C:b9,∀ms,C 170 ms=some ⟨[],fun v=>v=.bool (l5 x.v (c.f.get k)),none⟩:=⟨fnF [(170,⟨[],fun v=>v=.bool (l5 x.v (c.f.get k)),none⟩)],fun _=>gZ⟩
 repeat' (first|((with_reducible refine aZ mixed ?chk C ?_);(case chk=>decide +kernel))|(with_reducible refine aW (c1 _) h ?_)|(with_reducible first|(refine wN fun _ hnl=>?_;revert hnl;(repeat refine wS fun _ _=>?_);intro hnl)|refine wE ?_|(refine wK ?_ ?_<;>intro h)|(refine wB ?_ ?_<;>intro h<;>simp only[h]))|simp(maxSteps:=4000000) (disch:=first|exact ddL|fail) only[go_sem,simprocAttr,Tryz.f171,hx,FYs,hat])
theorem Nq(c:CA)(g:Int)(x:ND){k:Nat}(hx:x.n=k)(hk:k<8)(h1:(c.f.get k).s.size≤1000000)(h2:x.v.s.size≤1000000):aA Tryz.prog 172 [.cptr c.c,.int .u32 g,.cptr x.c] St.none (fun r _=>r=.bool (nY (c.f.get k) x.v)):=by
 refine(aA.body 16 [.tmp 5] Tryz.func172 rfl rfl rfl rfl ?_)
 have hat:=nK (f:=c.f) hk
 have h:=BR (c.f.get k) x.v h1 h2
 obtain⟨C,c1⟩:∃C:b9,∀ms,C 173 ms=some ⟨[],fun v=>v=.bool (nY (c.f.get k) x.v),none⟩:=⟨fnF [(173,⟨[],fun v=>v=.bool (nY (c.f.get k) x.v),none⟩)],fun _=>gZ⟩
 repeat' (first|((with_reducible refine aZ mixed ?chk C ?_);(case chk=>decide +kernel))|(with_reducible refine aW (c1 _) h ?_)|(with_reducible first|(refine wN fun _ hnl=>?_;revert hnl;(repeat refine wS fun _ _=>?_);intro hnl)|refine wE ?_|(refine wK ?_ ?_<;>intro h)|(refine wB ?_ ?_<;>intro h<;>simp only[h]))|simp(maxSteps:=4000000) (disch:=first|exact ddL|fail) only[go_sem,simprocAttr,Tryz.f172,hx,FYs,hat])
theorem Ns(c:CA)(hc:∀k,(c.f.get k).s.size≤1000000)(g:Nat)(hg:g<4294967296)(x:ND)(hx:eH x=true):aA Tryz.prog (A0 x.op) ([.cptr c.c,.int .u32 (g:Int)]++xE x) St.none (fun r _=>r=.bool (eZ (nC c) g x)):=by
 have hxs:=Hc hx
 have ho:x.op=1∨x.op=3∨x.op=4∨x.op=5∨x.op=6∨x.op=7∨x.op=8∨x.op=9∨(¬x.op=1∧¬x.op=3∧¬x.op=4∧¬x.op=5∧¬x.op=6∧¬x.op=7∧¬x.op=8∧¬x.op=9):=by omega
 have hn:3≤x.op→x.op≤9→0≤x.n∧x.n<16∧(5≤x.op→x.n<8):=fun h1 h2=>by
  have h:=hx
  have e:x.op=3∨x.op=4∨x.op=5∨x.op=6∨x.op=7∨x.op=8∨x.op=9:=by omega
  rcases e with e|e|e|e|e|e|e<;>simp[eH,e] at h<;>omega
 have hnat:3≤x.op→x.op≤9→∃k:Nat,x.n=k∧k<16∧(5≤x.op→k<8):=fun h1 h2=>by
  obtain⟨q1,q2,q3⟩:=hn h1 h2
  exact⟨x.n.toNat,by omega,by omega,fun h=>by have:=q3 h;omega⟩
 unfold A0 xE eZ
 rcases ho with h|h|h|h|h|h|h|h|⟨h1,h3,h4,h5,h6,h7,h8,h9⟩
 ·simp(config:={ decide:=true }) only[h,if_true,if_false]
  exact Ni c g
 ·obtain⟨k,e,h16,_⟩:=hnat (by omega) (by omega)
  simp(config:={ decide:=true }) only[h,if_true,if_false]
  exact Nj c g x e (by omega)
 ·obtain⟨k,e,h16,_⟩:=hnat (by omega) (by omega)
  simp(config:={ decide:=true }) only[h,if_true,if_false]
  exact Nk c g hg x e (by omega)
 ·obtain⟨k,e,_,h8⟩:=hnat (by omega) (by omega)
  simp(config:={ decide:=true }) only[h,if_true,if_false]
  have:=Nl c g x e (h8 (by omega))
  rw[show x.n.toNat=k by omega]
  exact this
 ·obtain⟨k,e,_,h8⟩:=hnat (by omega) (by omega)
  simp(config:={ decide:=true }) only[h,if_true,if_false]
  have:=Nn c g x e (h8 (by omega))
  rw[show x.n.toNat=k by omega]
  exact this
 ·obtain⟨k,e,_,h8⟩:=hnat (by omega) (by omega)
  simp(config:={ decide:=true }) only[h,if_true,if_false]
  have:=No c g x e (h8 (by omega))
  rw[show x.n.toNat=k by omega]
  exact this
 ·obtain⟨k,e,_,h8⟩:=hnat (by omega) (by omega)
  simp(config:={ decide:=true }) only[h,if_true,if_false]
  have:=Np c g x e (h8 (by omega))
  rw[show x.n.toNat=k by omega]
  exact this
 ·obtain⟨k,e,_,h8⟩:=hnat (by omega) (by omega)
  simp(config:={ decide:=true }) only[h,if_true,if_false]
  have:=Nq c g x e (h8 (by omega)) (hc k) hxs
  rw[show x.n.toNat=k by omega]
  exact this
 ·rw[if_neg h1,if_neg h3,if_neg h4,if_neg h5,if_neg h6,if_neg h7,if_neg h8,if_neg h9,if_neg (by omega),if_neg h1,if_neg h3,if_neg h4,if_neg h5,if_neg h6,if_neg h7,if_neg h8,if_neg h9]
  exact Nr c g
end

section
def eV:Int→List Int→Bool
 | _,[]=>true
 | last,x::l=>decide (last<x∧1≤x∧x<fY)&&eV x l
def dN:Int→List GR→Bool
 | _,[]=>true
 | last,g::l=>decide (last<g.no∧0≤g.no∧g.no<16)&&eV 0 g.mem&&dN g.no l
def bG(a b:List Int):List Int:=a.filter fun x=>!decide (x∈b)
def grF(id:Int)(s:Nat)(g:GR):Nat:=if id∈g.mem then s ||| 2 ^ g.no.toNat else s
def grB(l:List GR)(id:Int):Nat:=l.foldl (grF id) 0
def dC(nx:Int):Int→List CA→Bool
 | _,[]=>true
 | last,c::l=>dY c&&decide (last<c.id∧c.id<nx)&&dC nx c.id l
def Ih(nx:Int)(cs:List CA)(pre:List DE)(d:DE):Bool :=
 decide (1≤d.id∧d.id<nx∧1≤d.ver∧d.ver≤big∧0≤d.sq∧d.sq≤big)&&decide (d.id∉cs.map CA.id)&&pre.all fun e=>decide (e.id≠d.id∧e.sq≤d.sq)
def fG(nx:Int)(cs:List CA):List DE→List DE→Bool
 | _,[]=>true
 | pre,d::l=>Ih nx cs pre d&&fG nx cs (pre++[d]) l
def nG(nx:Int)(cs:List CA)(ds:List DE):Bool :=
 decide (1≤nx∧nx≤fY∧cs.length≤48∧ds.length≤40)&&(dC nx 0 cs&&fG nx cs [] ds)
def j6(b:BK):Bool :=
 nG b.nx b.cards b.dead&&decide (0≤b.sq∧b.sq≤big)&&dN (-1) b.gr&&(b.dead.all fun d=>decide (d.sq≤b.sq))&&b.gr.all fun g=>decide (bG g.mem (b.cards.map CA.id)=[])
def BW(f:F8)(m:Nat):Nat→F8
 | 0=>f80
 | i+1=>if bit m i=true then(BW f m i).set i (f.get i) else BW f m i
def Mg(f:F8)(m:Nat):F8:=BW f m 8
def gM(c:CA)(m:UInt32):CA:=⟨c.id,c.ver,if bit m.toNat 8=true then c.lab else 0,Mg c.f m.toNat⟩
def Md:List TU→Int→Option Int
 | [],_=>none
 | t::l,id=>match Md l id with
  | some v=>some v
  | none=>if t.id=id then some t.new else none
open Classical in
noncomputable def lF(fl:List ND):T:=if h:∃t:T,Good t∧fl=t.fl then h.choose else .leaf nd0
noncomputable def eY(gr:List GR)(fl:List ND)(c:CA):Bool:=(lF fl).sem (eZ (nC c) (grB gr c.id))
noncomputable def eX(b:BK)(fl:List ND)(m:UInt32)(cur:Int):List CA:=(b.cards.filter fun c=>decide (c.id≤cur)&&eY b.gr fl c).map fun c=>gM c m
theorem pM{fl:List ND}(h:bI fl=0):Good (lF fl)∧(lF fl).fl=fl∧fl.length≤31:=by
 obtain⟨h1,h2,h3,h4,h5⟩:=(BV fl).1 h
 have hf:KH fl=true:=by
  unfold KH
  rw[h4,decide_eq_true h3,decide_eq_true ⟨h2,by omega⟩]
  rfl
 obtain⟨t,ok,e,_,hn⟩:=Il hf
 have hex:∃t:T,Good t∧fl=t.fl:=⟨t,⟨ok,fun x hx=>hn x (by rw[e];exact hx)⟩,e⟩
 unfold lF
 rw[dif_pos hex]
 exact⟨hex.choose_spec.1,hex.choose_spec.2.symm,h1⟩
theorem EV{id:Int}:∀(pre:List GR) (g:GR) (r:List GR) (lo:Int) (s:Nat),-1≤lo→s<2 ^ (lo+1).toNat→dN lo (pre++g::r)=true→pre.foldl (grF id) s<2 ^ g.no.toNat
 | [],g,r,lo,s,h0,hs,h=>by
  simp only[List.nil_append,dN,Bool.and_eq_true,decide_eq_true_eq] at h
  exact Nat.lt_of_lt_of_le hs (Nat.pow_le_pow_right (by omega) (by omega))
 | x::pre,g,r,lo,s,h0,hs,h=>by
  simp only[List.cons_append,dN,Bool.and_eq_true,decide_eq_true_eq] at h
  obtain⟨⟨⟨h1,h2,h3⟩,h4⟩,h5⟩:=h
  rw[List.foldl_cons]
  refine EV pre g r x.no _ (by omega) ?_ h5
  have hlt:s<2 ^ x.no.toNat:=Nat.lt_of_lt_of_le hs (Nat.pow_le_pow_right (by omega) (by omega))
  have e:(x.no+1).toNat=x.no.toNat+1:=by omega
  rw[e]
  have hp:2 ^ x.no.toNat<2 ^ (x.no.toNat+1):=Nat.pow_lt_pow_right (by omega) (by omega)
  unfold grF
  split
  ·exact Nat.or_lt_two_pow (by omega) hp
  ·omega
theorem AN:∀(pre:List GR) (g:GR) (r:List GR) (lo:Int),dN lo (pre++g::r)=true→0≤g.no∧g.no<16∧eV 0 g.mem=true
 | [],g,r,lo,h=>by
  simp only[List.nil_append,dN,Bool.and_eq_true,decide_eq_true_eq] at h
  exact⟨h.1.1.2.1,h.1.1.2.2,h.1.2⟩
 | x::pre,g,r,lo,h=>by
  simp only[List.cons_append,dN,Bool.and_eq_true,decide_eq_true_eq] at h
  exact AN pre g r x.no h.2
theorem mL{α:Type}(l:List α){i:Nat}{x:α}(h:l[i]?=some x):l=l.take i++x::l.drop (i+1):=by
 have hi:i<l.length:=(List.getElem?_eq_some_iff.1 h).1
 have e:=(List.getElem?_eq_some_iff.1 h).2
 conv=>lhs;rw[←List.take_append_drop i l,List.drop_eq_getElem_cons hi,e]
theorem a8{α:Type}{l:List α}{i:Nat}{x:α}(h:l[i]?=some x):l.take (i+1)=l.take i++[x]:=by
 rw[List.take_add_one,h];rfl
theorem dZ{α:Type}{l:List α}{i:Nat}{x:α}(h:l[i]?=some x):l.drop i=x::l.drop (i+1):=by
 have hi:i<l.length:=(List.getElem?_eq_some_iff.1 h).1
 have e:=(List.getElem?_eq_some_iff.1 h).2
 rw[List.drop_eq_getElem_cons hi,e]
theorem C3{l:List GR}(h:dN (-1) l=true){i:Nat}{g:GR}(hi:l[i]?=some g)(id:Int):grB (l.take i) id<2 ^ g.no.toNat∧0≤g.no∧g.no<16∧eV 0 g.mem=true:=by
 rw[mL l hi] at h
 exact⟨EV _ g _ (-1) 0 (by omega) (by simp) h,AN _ g _ _ h⟩
theorem AM{l:List GR}{i:Nat}{g:GR}(hi:l[i]?=some g)(id:Int):grB (l.take (i+1)) id=grF id (grB (l.take i) id) g:=by
 rw[a8 hi,grB,List.foldl_append];rfl
theorem bF{α:Type}{l:List α}{f:α→List MV}{i:Nat}{x:α}(h:l[i]?=some x):(l.map f).getD i []=f x:=by
 rw[List.getD_eq_getElem?_getD,List.getElem?_map,h];rfl
theorem bO{α:Type}(l:List α){i:Nat}(h:i<l.length):∃x,l[i]?=some x:=⟨_,List.getElem?_eq_getElem h⟩
theorem Iv{l:List Int}{i:Nat}{x:Int}(h:l[i]?=some x)(hn:x∉l.take i):l.idxOf x=i:=by
 have hi:i<l.length:=(List.getElem?_eq_some_iff.1 h).1
 rw[mL l h,List.idxOf_append,if_neg hn,List.idxOf_cons_self,List.length_take]
 omega
def fN(l:List Int)(x:Int):Int:=if x∈l then(l.idxOf x:Int) else -1
theorem tW{l:List Int}{x:Int}:(fN l x<0)=(x∉l):=propext (by unfold fN;split<;>simp[*])
theorem dP{α:Type}{l:List α}{i:Nat}{x:α}(h:l[i]?=some x):x∈l:=List.mem_of_getElem? h
theorem fK{α:Type}{l:List α}{f:α→Int}{i:Nat}{x:α}(h:l[i]?=some x):(l.map f)[i]?=some (f x):=by rw[List.getElem?_map,h];rfl
theorem jU{nx:Int}:∀{last:Int} {l:List CA},dC nx last l=true→(∀c,c∈l→dY c=true∧last<c.id∧c.id<nx)∧l.Pairwise (fun a b=>a.id<b.id)
 | _,[],_=>⟨by simp,.nil⟩
 | last,x::l,h=>by
  simp only[dC,Bool.and_eq_true,decide_eq_true_eq] at h
  obtain⟨⟨h1,h2,h3⟩,h4⟩:=h
  obtain⟨i1,i2⟩:=jU h4
  refine⟨fun c hc=>?_,List.pairwise_cons.2 ⟨fun c hc=>(i1 c hc).2.1,i2⟩⟩
  rcases List.mem_cons.1 hc with rfl|hc
  ·exact⟨h1,h2,h3⟩
  ·obtain⟨a,b,c'⟩:=i1 c hc
   exact⟨a,by omega,c'⟩
structure BkR (b:BK):Prop where
 nx1:1≤b.nx
 nx2:b.nx≤1073741824
 nc:b.cards.length≤48
 nd:b.dead.length≤40
 cok:dC b.nx 0 b.cards=true
 dok:fG b.nx b.cards [] b.dead=true
 sq1:0≤b.sq
 sq2:b.sq≤1099511627776
 gok:dN (-1) b.gr=true
theorem H5{b:BK}(h:j6 b=true):BkR b:=by
 unfold j6 nG big fY at h
 simp only[Bool.and_eq_true,decide_eq_true_eq] at h
 obtain⟨⟨⟨⟨⟨⟨h1,h2,h3,h4⟩,h5,h6⟩,h7,h8⟩,h9⟩,-⟩,-⟩:=h
 exact⟨h1,h2,h3,h4,h5,h6,h7,h8,h9⟩
theorem x9{b:BK}(h:BkR b){c:CA}(hc:c∈b.cards):dY c=true∧0<c.id∧c.id<1073741824:=by
 obtain⟨h1,h2,h3⟩:=(jU h.cok).1 c hc
 exact⟨h1,h2,by have:=h.nx2;omega⟩
theorem CB{c:CA}(h:dY c=true):∀v,v∈c.f.l→v.s.size≤1000000:=fun v hv=>by
 unfold dY at h
 rw[Bool.and_eq_true] at h
 exact oP (List.all_eq_true.1 h.2 v hv)
theorem KN{gr:List GR}(h:dN (-1) gr=true)(id:Int):grB gr id<65536:=by
 have hlast:∀i,i≤gr.length→grB (gr.take i) id<65536:=fun i hi=>by
  cases i with
  | zero=>simp[grB]
  | succ i =>
   obtain⟨g,hg⟩:=bO gr (by omega:i<gr.length)
   obtain⟨h1,h2,h3,_⟩:=C3 h hg id
   rw[AM hg]
   have e:2 ^ g.no.toNat<2 ^ 16:=Nat.pow_lt_pow_right (by omega) (by omega)
   unfold grF
   split
   ·exact Nat.or_lt_two_pow (n:=16) (Nat.lt_trans h1 e) e
   ·exact Nat.lt_trans h1 e
 have:=hlast gr.length (Nat.le_refl _)
 rwa [List.take_length] at this
end

section
set_option maxRecDepth 100000
set_option maxHeartbeats 4000000
theorem cB{σ:St}{q:Nat}{t:TypeId}{e n:Nat}{xs ex:List (List MV)}(hq:σ q=some (.row t e (xs++ex)))(hn:n=xs.length):View σ (.vec e q 0 n) (.lst e xs false):=by
 subst hn
 have:=View.vec (σ:=σ) (lo:=0) (n:=xs.length) hq (by rw[List.length_append];omega)
 rw[List.drop_zero,List.take_left] at this
 exact this
def cC(l:List Int)(i:Nat)(z:Int):Int:=if i=0 then z else l.getD (i - 1) 0
theorem fJ{l:List Int}{i:Nat}{x z:Int}(h:l[i]?=some x):cC l (i+1) z=x:=by
 unfold cC
 rw[if_neg (by omega),Nat.add_sub_cancel,List.getD_eq_getElem?_getD,h];rfl
theorem zW{α:Type}{l:List α}{i:Nat}(hi:i≤l.length)(h0:0<i):∃y,l[i - 1]?=some y:=bO l (by omega)
theorem xT(l:List Int)(tt:Bool)(hl:l.length≤1000000):aA Tryz.prog 56 [.lst 1 (l.map aJ) tt] St.none (fun r _=>r=.bool (eV 0 l)):=by
 refine aA.cI (aA.body 38 [.tmp 2] Tryz.func56 rfl rfl rfl rfl ?_)
 repeat' (first|(with_reducible first|(refine wN fun _ hnl=>?_;revert hnl;(repeat refine wS fun _ _=>?_);intro hnl)|refine wE ?_|(refine wK ?_ ?_<;>intro h)|(refine wB ?_ ?_<;>intro h<;>simp only[h]))|simp(maxSteps:=4000000) (disch:=first|decide|assumption|omega|(simp only[wL];omega)) only[go_sem,simprocAttr,Tryz.f56])
 refine aH (α:=Nat) (fun i=>⟨38,[(3,.int .i64 (i:Int)),(0,.lst 1 (l.map aJ) tt)],[]⟩) (fun _=>St.none) (fun i=>i≤l.length∧eV 0 l=eV (cC l i 0) (l.drop i)) (fun i=>l.length - i) (.of (.less ?_ (St.le_refl _)) ⟨0,rfl,rfl,Nat.zero_le _,rfl⟩) ?_
 ·simp(maxSteps:=4000000) (disch:=first|decide|assumption|omega|(simp only[wL];omega)) only[go_sem,simprocAttr,aC,aB]
  all_goals rfl
 ·rintro i ⟨hi,hq⟩
  by_cases hlt:i<l.length
  ·obtain⟨x,hx⟩:=bO l hlt
   rw[dZ hx,eV] at hq
   have hat:=bF (f:=aJ) hx
   have hnext:=fJ hx (z:=0)
   have hto:((i:Int) - 1).toNat=i - 1:=by omega
   have hl0:i=0→cC l i 0=0:=fun h=>if_pos h
   have hl1:0<i→∃y,(l.map aJ).getD (i - 1) []=aJ y∧cC l i 0=y:=fun h=>by
    obtain⟨y,hy⟩:=zW hi h
    refine⟨y,bF hy,?_⟩
    unfold cC
    rw[if_neg (by omega),List.getD_eq_getElem?_getD,hy];rfl
   obtain⟨last,hlast⟩:∃k,cC l i 0=k:=⟨_,rfl⟩
   obtain⟨res,hres⟩:∃b,eV 0 l=b:=⟨_,rfl⟩
   rw[hlast] at hq hl0 hl1
   unfold fY at hq
   rw[hres] at hq ⊢
   by_cases hr:last<x∧1≤x∧x<1073741824
   ·rw[decide_eq_true hr,Bool.true_and] at hq
    obtain⟨hr1,hr2,hr3⟩:=hr
    rcases Nat.eq_zero_or_pos i with hi0|hi0
    ·repeat' (first|(with_reducible first|(refine wN fun _ hnl=>?_;revert hnl;(repeat refine wS fun _ _=>?_);intro hnl)|refine wE ?_|(refine wK ?_ ?_<;>intro h)|(refine wB ?_ ?_<;>intro h<;>simp only[h]))|simp(maxSteps:=4000000) (disch:=first|decide|assumption|omega|(simp only[wL];omega)) only[go_sem,simprocAttr,hat,hto])
     all_goals (try (exfalso;omega))
     all_goals
      refine .of (.less ?_ (St.none_le _)) ⟨i+1,rfl,rfl,⟨by omega,by rw[hnext];exact hq⟩,by omega⟩
      simp(maxSteps:=4000000) (disch:=first|decide|assumption|omega|(simp only[wL];omega)) only[go_sem,simprocAttr,aC,aB]
      all_goals rfl
    ·obtain⟨y,hy,hly⟩:=hl1 hi0
     repeat' (first|(with_reducible first|(refine wN fun _ hnl=>?_;revert hnl;(repeat refine wS fun _ _=>?_);intro hnl)|refine wE ?_|(refine wK ?_ ?_<;>intro h)|(refine wB ?_ ?_<;>intro h<;>simp only[h]))|simp(maxSteps:=4000000) (disch:=first|decide|assumption|omega|(simp only[wL];omega)) only[go_sem,simprocAttr,hat,hto,hy])
     all_goals (try (exfalso;omega))
     all_goals
      refine .of (.less ?_ (St.none_le _)) ⟨i+1,rfl,rfl,⟨by omega,by rw[hnext];exact hq⟩,by omega⟩
      simp(maxSteps:=4000000) (disch:=first|decide|assumption|omega|(simp only[wL];omega)) only[go_sem,simprocAttr,aC,aB]
      all_goals rfl
   ·rw[decide_eq_false hr,Bool.false_and] at hq
    rw[hq]
    rcases Nat.eq_zero_or_pos i with hi0|hi0
    ·have:=hl0 hi0
     repeat' (first|(with_reducible first|(refine wN fun _ hnl=>?_;revert hnl;(repeat refine wS fun _ _=>?_);intro hnl)|refine wE ?_|(refine wK ?_ ?_<;>intro h)|(refine wB ?_ ?_<;>intro h<;>simp only[h]))|simp(maxSteps:=4000000) (disch:=first|decide|assumption|omega|(simp only[wL];omega)) only[go_sem,simprocAttr,hat,hto])
     all_goals first|exact⟨_,St.le_refl _,rfl⟩|exact⟨_,St.le_refl _⟩|(exfalso;omega)
    ·obtain⟨y,hy,hly⟩:=hl1 hi0
     repeat' (first|(with_reducible first|(refine wN fun _ hnl=>?_;revert hnl;(repeat refine wS fun _ _=>?_);intro hnl)|refine wE ?_|(refine wK ?_ ?_<;>intro h)|(refine wB ?_ ?_<;>intro h<;>simp only[h]))|simp(maxSteps:=4000000) (disch:=first|decide|assumption|omega|(simp only[wL];omega)) only[go_sem,simprocAttr,hat,hto,hy])
     all_goals first|exact⟨_,St.le_refl _,rfl⟩|exact⟨_,St.le_refl _⟩|(exfalso;omega)
  ·have:i=l.length:=by omega
   subst this
   rw[hq,List.drop_length,eV]
   repeat' (first|(with_reducible first|(refine wN fun _ hnl=>?_;revert hnl;(repeat refine wS fun _ _=>?_);intro hnl)|refine wE ?_|(refine wK ?_ ?_<;>intro h)|(refine wB ?_ ?_<;>intro h<;>simp only[h]))|simp(maxSteps:=4000000) (disch:=first|decide|assumption|omega|(simp only[wL];omega)) only[go_sem,simprocAttr])
   all_goals first|exact⟨_,St.le_refl _,rfl⟩|exact⟨_,St.le_refl _⟩
theorem rF(l:List Int)(tt:Bool)(hl:l.length≤1000000)(x:Int):aA Tryz.prog 63 [.lst 1 (l.map aJ) tt,.int .i64 x] St.none (fun r _=>r=.bool (decide (x∈l))):=by
 refine aA.cI (aA.body 18 [.tmp 4] Tryz.func63 rfl rfl rfl rfl ?_)
 repeat' (first|(with_reducible first|(refine wN fun _ hnl=>?_;revert hnl;(repeat refine wS fun _ _=>?_);intro hnl)|refine wE ?_|(refine wK ?_ ?_<;>intro h)|(refine wB ?_ ?_<;>intro h<;>simp only[h]))|simp(maxSteps:=4000000) (disch:=first|decide|assumption|omega|(simp only[wL];omega)) only[go_sem,simprocAttr,Tryz.f63])
 refine aH (α:=Nat) (fun i=>⟨18,[(5,.int .i64 (i:Int)),(0,.lst 1 (l.map aJ) tt),(1,.int .i64 x)],[]⟩) (fun _=>St.none) (fun i=>i≤l.length∧x∉l.take i) (fun i=>l.length - i) (.of (.less ?_ (St.le_refl _)) ⟨0,rfl,rfl,Nat.zero_le _,by simp⟩) ?_
 ·simp(maxSteps:=4000000) (disch:=first|decide|assumption|omega|(simp only[wL];omega)) only[go_sem,simprocAttr,aC,aB]
  all_goals rfl
 ·rintro i ⟨hi,hq⟩
  by_cases hlt:i<l.length
  ·obtain⟨y,hy⟩:=bO l hlt
   have hat:=bF (f:=aJ) hy
   have hmem:=List.mem_of_getElem? hy
   have hnext:x≠y→x∉l.take (i+1):=fun h=>by
    rw[a8 hy,List.mem_append,List.mem_singleton]
    exact not_or.2 ⟨hq,h⟩
   by_cases he:y=x
   ·subst he
    rw[decide_eq_true hmem]
    repeat' (first|(with_reducible first|(refine wN fun _ hnl=>?_;revert hnl;(repeat refine wS fun _ _=>?_);intro hnl)|refine wE ?_|(refine wK ?_ ?_<;>intro h)|(refine wB ?_ ?_<;>intro h<;>simp only[h]))|simp(maxSteps:=4000000) (disch:=first|decide|assumption|omega|(simp only[wL];omega)) only[go_sem,simprocAttr,hat])
    all_goals first|exact⟨_,St.le_refl _,rfl⟩|exact⟨_,St.le_refl _⟩
   ·repeat' (first|(with_reducible first|(refine wN fun _ hnl=>?_;revert hnl;(repeat refine wS fun _ _=>?_);intro hnl)|refine wE ?_|(refine wK ?_ ?_<;>intro h)|(refine wB ?_ ?_<;>intro h<;>simp only[h]))|simp(maxSteps:=4000000) (disch:=first|decide|assumption|omega|(simp only[wL];omega)) only[go_sem,simprocAttr,hat])
    all_goals (try (exfalso;omega))
    all_goals
     refine .of (.less ?_ (St.none_le _)) ⟨i+1,rfl,rfl,⟨by omega,hnext (Ne.symm he)⟩,by omega⟩
     simp(maxSteps:=4000000) (disch:=first|decide|assumption|omega|(simp only[wL];omega)) only[go_sem,simprocAttr,aC,aB]
     all_goals rfl
  ·have:i=l.length:=by omega
   subst this
   rw[List.take_length] at hq
   rw[decide_eq_false hq]
   repeat' (first|(with_reducible first|(refine wN fun _ hnl=>?_;revert hnl;(repeat refine wS fun _ _=>?_);intro hnl)|refine wE ?_|(refine wK ?_ ?_<;>intro h)|(refine wB ?_ ?_<;>intro h<;>simp only[h]))|simp(maxSteps:=4000000) (disch:=first|decide|assumption|omega|(simp only[wL];omega)) only[go_sem,simprocAttr])
   all_goals first|exact⟨_,St.le_refl _,rfl⟩|exact⟨_,St.le_refl _⟩
theorem Bm{a b:List Int}{i:Nat}{x:Int}(h:a[i]?=some x):bG (a.take (i+1)) b=bG (a.take i) b++if x∈b then[] else[x]:=by
 unfold bG
 rw[a8 h,List.filter_append,List.filter_cons]
 by_cases hb:x∈b<;>simp[hb]
theorem oC(a b:List Int):(bG a b).length≤a.length:=List.length_filter_le _ _
theorem B6(a b:List Int)(ta tb:Bool)(ha:a.length≤1000000)(hb:b.length≤1000000):aA Tryz.prog 69 [.lst 1 (a.map aJ) ta,.lst 1 (b.map aJ) tb] St.none (fun r _=>r=.lst 1 ((bG a b).map aJ) false):=by
 refine aA.seen (aA.body 29 [.tmp 4] Tryz.func69 rfl rfl rfl rfl ?_)
 repeat' (first|(with_reducible first|(refine wT ?_;(first|((fail_if_success (have:=nl1));refine wN fun nl1 hnl=>?_)|((fail_if_success (have:=nl2));refine wN fun nl2 hnl=>?_)|((fail_if_success (have:=nl3));refine wN fun nl3 hnl=>?_)|refine wN fun _ hnl=>?_);revert hnl;(repeat refine wS fun _ _=>?_);intro hnl)|refine wE ?_|(refine wK ?_ ?_<;>intro h)|(refine wB ?_ ?_<;>intro h<;>simp only[h]))|simp(maxSteps:=4000000) (disch:=first|decide|assumption|omega|(simp only[wL];omega)) only[go_sem,simprocAttr,Tryz.f69])
 refine aH (α:=Nat × Nat × List (List MV)) (fun s=>⟨29,[(6,.int .i64 (s.1:Int)),(5,.vec 1 s.2.1 0 (bG (a.take s.1) b).length),(0,.lst 1 (a.map aJ) ta),(1,.lst 1 (b.map aJ) tb)],[]⟩)
  (fun s=>St.none.set s.2.1 (.row 3 1 ((bG (a.take s.1) b).map aJ++s.2.2))) (fun s=>s.1≤a.length) (fun s=>a.length - s.1) ?_ ?_
 ·refine .of (.less ?_ (St.le_refl _)) ⟨(0,nl1,[]),rfl,by simp[bG],Nat.zero_le _⟩
  simp(maxSteps:=4000000) (disch:=first|decide|assumption|omega|(simp only[wL];omega)) only[go_sem,simprocAttr,aC,aB]
  all_goals first|rfl|(simp[bG,aB];done)
 ·rintro⟨i,q,ex⟩ hi
  simp only at hi ⊢
  by_cases hlt:i<a.length
  ·obtain⟨x,hx⟩:=bO a hlt
   have hat:=bF (f:=aJ) hx
   have hh:=rF b tb hb x
   have hsn:=Bm (b:=b) hx
   have hml:=oC (a.take i) b
   have htl:(a.take i).length=i:=by rw[List.length_take];omega
   rw[htl] at hml
   by_cases hm:x∈b
   ·rw[decide_eq_true hm] at hh
    rw[if_pos hm,List.append_nil] at hsn
    rw[←hsn]
    repeat' (first|(with_reducible first|refine up hh ?_)|(with_reducible first|(refine wT ?_;(first|((fail_if_success (have:=nl1));refine wN fun nl1 hnl=>?_)|((fail_if_success (have:=nl2));refine wN fun nl2 hnl=>?_)|((fail_if_success (have:=nl3));refine wN fun nl3 hnl=>?_)|refine wN fun _ hnl=>?_);revert hnl;(repeat refine wS fun _ _=>?_);intro hnl)|refine wE ?_|(refine wK ?_ ?_<;>intro h)|(refine wB ?_ ?_<;>intro h<;>simp only[h]))|simp(maxSteps:=4000000) (disch:=first|decide|assumption|omega|(simp only[wL];omega)) only[go_sem,simprocAttr,hat])
    refine .of (.less ?_ (St.le_refl _)) ⟨(i+1,q,ex),rfl,rfl,by simp only;omega,by simp only;omega⟩
    simp(maxSteps:=4000000) (disch:=first|decide|assumption|omega|(simp only[wL];omega)) only[go_sem,simprocAttr,aC,aB]
    all_goals first|rfl|(simp;done)
   ·rw[decide_eq_false hm] at hh
    rw[if_neg hm] at hsn
    obtain⟨L,hL⟩:∃L,bG (a.take i) b=L:=⟨_,rfl⟩
    rw[hL] at hsn hml ⊢
    have htk:(L.map aJ++ex).take L.length=L.map aJ:=iP
    have hdr:(L.map aJ++ex).drop (L.length+1)=ex.drop 1:=jF
    have hLl:(L.map aJ).length=L.length:=List.length_map _
    repeat' (first|(with_reducible first|refine up hh ?_)|(with_reducible first|(refine wT ?_;(first|((fail_if_success (have:=nl1));refine wN fun nl1 hnl=>?_)|((fail_if_success (have:=nl2));refine wN fun nl2 hnl=>?_)|((fail_if_success (have:=nl3));refine wN fun nl3 hnl=>?_)|refine wN fun _ hnl=>?_);revert hnl;(repeat refine wS fun _ _=>?_);intro hnl)|refine wE ?_|(refine wK ?_ ?_<;>intro h)|(refine wB ?_ ?_<;>intro h<;>simp only[h]))|simp(maxSteps:=4000000) (disch:=first|decide|assumption|omega|(simp only[wL];omega)) only[go_sem,simprocAttr,hat,htk,hdr,hLl])
    ·have hex:ex=[]:=List.eq_nil_of_length_eq_zero (by first|omega|(simp at *;omega))
     subst hex
     refine .of (.less ?_ (σ1:=St.none.set nl3 (.row 3 1 (L.map aJ++[]++[aJ x]))) (St.aD (St.none_le _) (by simp[St.set, *]))) ⟨(i+1,nl3,[]),rfl,by simp[hsn],by simp only;omega,by simp only;omega⟩
     simp(maxSteps:=4000000) (disch:=first|decide|assumption|omega|(simp only[wL];omega)) only[go_sem,simprocAttr,aC,aB,hsn]
     all_goals first|rfl|(simp;done)
    ·refine .of (.less ?_ (σ1:=St.none.set nl3 (.row 3 1 (L.map aJ++[aJ x]++ex.drop 1))) (St.aD (St.none_le _) (by simp[St.set, *]))) ⟨(i+1,nl3,ex.drop 1),rfl,by simp[hsn],by simp only;omega,by simp only;omega⟩
     simp(maxSteps:=4000000) (disch:=first|decide|assumption|omega|(simp only[wL];omega)) only[go_sem,simprocAttr,aC,aB,hsn]
     all_goals first|rfl|(simp;done)
  ·have:i=a.length:=by omega
   subst this
   rw[List.take_length]
   repeat' (first|(with_reducible first|(refine wT ?_;(first|((fail_if_success (have:=nl1));refine wN fun nl1 hnl=>?_)|((fail_if_success (have:=nl2));refine wN fun nl2 hnl=>?_)|((fail_if_success (have:=nl3));refine wN fun nl3 hnl=>?_)|refine wN fun _ hnl=>?_);revert hnl;(repeat refine wS fun _ _=>?_);intro hnl)|refine wE ?_|(refine wK ?_ ?_<;>intro h)|(refine wB ?_ ?_<;>intro h<;>simp only[h]))|simp(maxSteps:=4000000) (disch:=first|decide|assumption|omega|(simp only[wL];omega)) only[go_sem,simprocAttr])
   exact cB (aF _ _ _) (by simp)
end

section
set_option maxRecDepth 100000
set_option maxHeartbeats 4000000
theorem Hv(l:List GR)(tt:Bool)(hl:l.length≤1000000)(hm:∀g,g∈l→g.mem.length≤1000000):aA Tryz.prog 68 [.lst 2 (l.map GR.c) tt] St.none (fun r _=>r=.bool (dN (-1) l)):=by
 refine aA.cI (aA.body 51 [.tmp 2] Tryz.func68 rfl rfl rfl rfl ?_)
 repeat' (first|(with_reducible first|(refine wN fun _ hnl=>?_;revert hnl;(repeat refine wS fun _ _=>?_);intro hnl)|refine wE ?_|(refine wK ?_ ?_<;>intro h)|(refine wB ?_ ?_<;>intro h<;>simp only[h]))|simp(maxSteps:=4000000) (disch:=first|decide|assumption|omega|(simp only[wL];omega)) only[go_sem,simprocAttr,Tryz.f68])
 refine aH (α:=Nat) (fun i=>⟨51,[(3,.int .i64 (i:Int)),(0,.lst 2 (l.map GR.c) tt)],[]⟩) (fun _=>St.none) (fun i=>i≤l.length∧dN (-1) l=dN (cC (l.map GR.no) i (-1)) (l.drop i)) (fun i=>l.length - i) (.of (.less ?_ (St.le_refl _)) ⟨0,rfl,rfl,Nat.zero_le _,rfl⟩) ?_
 ·simp(maxSteps:=4000000) (disch:=first|decide|assumption|omega|(simp only[wL];omega)) only[go_sem,simprocAttr,aC,aB]
  all_goals rfl
 ·rintro i ⟨hi,hq⟩
  by_cases hlt:i<l.length
  ·obtain⟨x,hx⟩:=bO l hlt
   rw[dZ hx,dN] at hq
   have hat:=bF (f:=GR.c) hx
   have hnext:=fJ (fK (f:=GR.no) hx) (z:=-1)
   have hto:((i:Int) - 1).toNat=i - 1:=by omega
   have hl0:i=0→cC (l.map GR.no) i (-1) = -1:=fun h=>if_pos h
   have hl1:0<i→∃y:GR,(l.map GR.c).getD (i - 1) []=y.c∧cC (l.map GR.no) i (-1)=y.no:=fun h=>by
    obtain⟨y,hy⟩:=zW hi h
    refine⟨y,bF hy,?_⟩
    unfold cC
    rw[if_neg (by omega),List.getD_eq_getElem?_getD,fK hy];rfl
   have hc:=xT x.mem false (hm x (dP hx))
   obtain⟨last,hlast⟩:∃k,cC (l.map GR.no) i (-1)=k:=⟨_,rfl⟩
   obtain⟨res,hres⟩:∃b,dN (-1) l=b:=⟨_,rfl⟩
   rw[hlast] at hq hl0 hl1
   rw[hres] at hq ⊢
   obtain⟨ok,hok⟩:∃b,eV 0 x.mem=b:=⟨_,rfl⟩
   rw[hok] at hc hq
   obtain⟨C,c1⟩:∃C:b9,∀ms,C 56 ms=some ⟨[],fun v=>v=.bool ok,none⟩:=⟨AH 56 (.bool ok),fun _=>kB⟩
   by_cases hr:last<x.no∧0≤x.no∧x.no<16
   ·rw[decide_eq_true hr,Bool.true_and] at hq
    obtain⟨hr1,hr2,hr3⟩:=hr
    cases ok
    ·rw[Bool.false_and] at hq
     rw[hq]
     rcases Nat.eq_zero_or_pos i with hi0|hi0
     ·repeat' (first|((with_reducible refine aZ mixed ?chk C ?_);(case chk=>decide +kernel))|(with_reducible refine aW (c1 _) hc ?_)|(with_reducible first|(refine wN fun _ hnl=>?_;revert hnl;(repeat refine wS fun _ _=>?_);intro hnl)|refine wE ?_|(refine wK ?_ ?_<;>intro h)|(refine wB ?_ ?_<;>intro h<;>simp only[h]))|simp(maxSteps:=4000000) (disch:=first|decide|assumption|omega|(simp only[wL];omega)) only[go_sem,simprocAttr,hat,hto])
      all_goals first|exact⟨_,St.le_refl _,rfl⟩|exact⟨_,St.le_refl _⟩|(exfalso;omega)
     ·obtain⟨y,hy,hly⟩:=hl1 hi0
      repeat' (first|((with_reducible refine aZ mixed ?chk C ?_);(case chk=>decide +kernel))|(with_reducible refine aW (c1 _) hc ?_)|(with_reducible first|(refine wN fun _ hnl=>?_;revert hnl;(repeat refine wS fun _ _=>?_);intro hnl)|refine wE ?_|(refine wK ?_ ?_<;>intro h)|(refine wB ?_ ?_<;>intro h<;>simp only[h]))|simp(maxSteps:=4000000) (disch:=first|decide|assumption|omega|(simp only[wL];omega)) only[go_sem,simprocAttr,hat,hto,hy])
      all_goals first|exact⟨_,St.le_refl _,rfl⟩|exact⟨_,St.le_refl _⟩|(exfalso;omega)
    ·rw[Bool.true_and] at hq
     rcases Nat.eq_zero_or_pos i with hi0|hi0
     ·repeat' (first|((with_reducible refine aZ mixed ?chk C ?_);(case chk=>decide +kernel))|(with_reducible refine aW (c1 _) hc ?_)|(with_reducible first|(refine wN fun _ hnl=>?_;revert hnl;(repeat refine wS fun _ _=>?_);intro hnl)|refine wE ?_|(refine wK ?_ ?_<;>intro h)|(refine wB ?_ ?_<;>intro h<;>simp only[h]))|simp(maxSteps:=4000000) (disch:=first|decide|assumption|omega|(simp only[wL];omega)) only[go_sem,simprocAttr,hat,hto])
      all_goals (try (exfalso;omega))
      all_goals
       refine .of (.less ?_ (St.none_le _)) ⟨i+1,rfl,rfl,⟨by omega,by rw[hnext];exact hq⟩,by omega⟩
       simp(maxSteps:=4000000) (disch:=first|decide|assumption|omega|(simp only[wL];omega)) only[go_sem,simprocAttr,aC,aB]
       all_goals rfl
     ·obtain⟨y,hy,hly⟩:=hl1 hi0
      repeat' (first|((with_reducible refine aZ mixed ?chk C ?_);(case chk=>decide +kernel))|(with_reducible refine aW (c1 _) hc ?_)|(with_reducible first|(refine wN fun _ hnl=>?_;revert hnl;(repeat refine wS fun _ _=>?_);intro hnl)|refine wE ?_|(refine wK ?_ ?_<;>intro h)|(refine wB ?_ ?_<;>intro h<;>simp only[h]))|simp(maxSteps:=4000000) (disch:=first|decide|assumption|omega|(simp only[wL];omega)) only[go_sem,simprocAttr,hat,hto,hy])
      all_goals (try (exfalso;omega))
      all_goals
       refine .of (.less ?_ (St.none_le _)) ⟨i+1,rfl,rfl,⟨by omega,by rw[hnext];exact hq⟩,by omega⟩
       simp(maxSteps:=4000000) (disch:=first|decide|assumption|omega|(simp only[wL];omega)) only[go_sem,simprocAttr,aC,aB]
       all_goals rfl
   ·rw[decide_eq_false hr,Bool.false_and,Bool.false_and] at hq
    rw[hq]
    rcases Nat.eq_zero_or_pos i with hi0|hi0
    ·have:=hl0 hi0
     repeat' (first|((with_reducible refine aZ mixed ?chk C ?_);(case chk=>decide +kernel))|(with_reducible refine aW (c1 _) hc ?_)|(with_reducible first|(refine wN fun _ hnl=>?_;revert hnl;(repeat refine wS fun _ _=>?_);intro hnl)|refine wE ?_|(refine wK ?_ ?_<;>intro h)|(refine wB ?_ ?_<;>intro h<;>simp only[h]))|simp(maxSteps:=4000000) (disch:=first|decide|assumption|omega|(simp only[wL];omega)) only[go_sem,simprocAttr,hat,hto])
     all_goals first|exact⟨_,St.le_refl _,rfl⟩|exact⟨_,St.le_refl _⟩|(exfalso;omega)
    ·obtain⟨y,hy,hly⟩:=hl1 hi0
     repeat' (first|((with_reducible refine aZ mixed ?chk C ?_);(case chk=>decide +kernel))|(with_reducible refine aW (c1 _) hc ?_)|(with_reducible first|(refine wN fun _ hnl=>?_;revert hnl;(repeat refine wS fun _ _=>?_);intro hnl)|refine wE ?_|(refine wK ?_ ?_<;>intro h)|(refine wB ?_ ?_<;>intro h<;>simp only[h]))|simp(maxSteps:=4000000) (disch:=first|decide|assumption|omega|(simp only[wL];omega)) only[go_sem,simprocAttr,hat,hto,hy])
     all_goals first|exact⟨_,St.le_refl _,rfl⟩|exact⟨_,St.le_refl _⟩|(exfalso;omega)
  ·have:i=l.length:=by omega
   subst this
   rw[hq,List.drop_length,dN]
   repeat' (first|(with_reducible first|(refine wN fun _ hnl=>?_;revert hnl;(repeat refine wS fun _ _=>?_);intro hnl)|refine wE ?_|(refine wK ?_ ?_<;>intro h)|(refine wB ?_ ?_<;>intro h<;>simp only[h]))|simp(maxSteps:=4000000) (disch:=first|decide|assumption|omega|(simp only[wL];omega)) only[go_sem,simprocAttr])
   all_goals first|exact⟨_,St.le_refl _,rfl⟩|exact⟨_,St.le_refl _⟩
end
end Go.Proofs.YtaojijkdamfbnaaGreatDoor
