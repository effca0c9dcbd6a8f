/- Parts of the proof, joined; conditions: those that its theorems name. -/
import Derived.Test.YtppdgejjmhdjhaaGreatDoorMaq
import Derived.Test.YtppdgejjmhdjhaaGreatDoorMas
import Derived.Lib.SliceRun
import Derived.OwnWalk
import Derived.Defers
import Derived.Laws.Pointers
import Derived.RegionTactic
import Derived.RegionCalls
set_option linter.unusedVariables false
set_option linter.unusedSimpArgs false
set_option maxHeartbeats 4000000
namespace Go.Proofs.YtppdgejjmhdjhaaGreatDoor
section
set_option maxRecDepth 100000
set_option maxHeartbeats 4000000
abbrev SA.v(s:SA)(q:Nat):List MV:=s.bk.c++[.lst 7 (s.subs.map SU.c) false,.vec 12 q 0 s.rows.length]
end

section
open Go.Shelf Go.RowKit Go.Lib
set_option maxRecDepth 100000
set_option maxHeartbeats 4000000
theorem oB{P:Program}{K e:Nat}{el:TypeId}{t tr:Bool}(hn:aA P K [.aZ] St.none fun r _=>r=.aZ)
 (hr:∀(a:Addr) (c:Nat) (w:World),Calls P K #[.slice (some a) 0 c] w fun e w'=>e=.returned (.slice (some ⟨w.heap.size,0,none⟩) 0 0)∧w'=w.alloc (.cells #[] el)):aA P K [.lst e [] t] St.none fun r _=>r=.lst e [] tr:=by
 refine⟨hn.1,fun Φ w vs hi hv=>?_⟩
 have h0:=hv.2 0 _ rfl
 have h1:vs=#[vs.getD 0 undef]:=by
  have hz:=hv.1
  refine Array.ext (by simpa using hz) fun i q1 q2=>?_
  have:i=0:=by simp at q2;omega
  subst this
  simp[Array.getD,q1]
 generalize vs.getD 0 undef=v at h0 h1
 subst h1
 cases h0 with
 | lstn =>
  refine(hn.2 Φ w _ hi ⟨rfl,fun i m hm=>?_⟩).mono ?_
  ·match i with
   | 0=>simp at hm;subst hm;exact .aZ
   | i+1=>simp at hm
  ·rintro x w' ⟨v,mv,σ',Φ',rfl,r1,i1,s1,rfl⟩
   refine⟨v,_,σ',Φ',rfl,?_,i1,s1,rfl⟩
   cases r1
   exact .lstn _ _
 | lst0 a e c t ht hm =>
  refine(hr a c w).mono ?_
  rintro x w' ⟨rfl,rfl⟩
  obtain⟨i1,s1⟩:=hi.grow (w':=w.alloc (.cells #[] el)) rfl rfl rfl (Nat.le_refl _) (by simp) (fun k hk=>by
   show(w.heap.push _)[k]?=_
   rw[Array.getElem?_push,if_neg (by omega)])
  exact⟨_,_,_,Φ,rfl,.lst0 _ _ 0 _ (fun h=>rfl) (Nat.zero_le _),i1,s1,rfl⟩
 | lst hl h0=>simp at hl;omega
theorem Ay(a:Addr)(c:Nat)(w:World):Calls Tryz.prog 104 #[.slice (some a) 0 c] w fun e w'=>e=.returned (.slice (some ⟨w.heap.size,0,none⟩) 0 0)∧w'=w.alloc (.cells #[] 121):=by
 have q22:∀(w:World) (a:Option Addr) (n c n' c':Nat),(binOp .eql 22 (.slice a n c) (.slice none n' c')).run Tryz.prog w=.ok (.bool a.isNone) w:=fun w a n c n' c'=>Lib.run_eql_slice_nil w _ _ a n c n' c' Tryz.underlying22
 have u22:∀w,Sem.run Tryz.prog (underlying 22) w=.ok (TypeDesc.slice 121) w:=run_underlying Tryz.underlying22
 go_enter Tryz.func104,Tryz.ntmps104
 go_wp2
 go_ret
 exact⟨rfl,rfl⟩
theorem wJ:aA Tryz.prog 104 [.aZ] St.none (fun r _=>r=.aZ):=by
 refine(aA.body 8 [.tmp 2] Tryz.func104 rfl rfl rfl rfl ?_)
 repeat' (first|(with_reducible first|(refine wN fun _ hnl=>?_;revert hnl;(repeat refine wS fun _ _=>?_);intro hnl)|refine wE ?_|(refine wK ?_ ?_<;>intro h)|(refine wB ?_ ?_<;>intro h<;>simp only[h]))|simp(maxSteps:=4000000) (disch:=first|exact ddL|fail) only[go_sem,simprocAttr,Tryz.f104])
theorem tT(e:Nat)(t:Bool):aA Tryz.prog 104 [.lst e [] t] St.none (fun r _=>r=.lst e [] false):=oB wJ Ay
end

section
set_option maxRecDepth 100000
set_option maxHeartbeats 4000000
theorem wC(l:List ND)(hl:l.length≤1000000)(t:Bool):aA Tryz.prog 104 [.lst 5 (l.map ND.c) t] St.none (fun r _=>r=.lst 5 (l.map ND.c) false):=by
 cases l with
 | nil=>exact tT 5 t
 | cons x m =>
  refine aA.seen (aA.body 8 [.tmp 2] Tryz.func104 rfl rfl rfl rfl ?_)
  simp only[List.length_cons] at hl
  repeat' (first|(with_reducible first|(refine wN fun _ hnl=>?_;revert hnl;(repeat refine wS fun _ _=>?_);intro hnl)|refine wE ?_|(refine wK ?_ ?_<;>intro h)|(refine wB ?_ ?_<;>intro h<;>simp only[h]))|simp(maxSteps:=4000000) (disch:=first|exact ddL|fail) only[go_sem,simprocAttr,Tryz.f104])
  exact .vecAll (aH _ _ _) (by simp only[List.length_map,List.length_cons])
end

section
set_option maxRecDepth 100000
set_option maxHeartbeats 4000000
def xV(op:Int):FuncId:=if op=1 then 251 else if op=3 then 252 else if op=4 then 254 else if op=5 then 255 else if op=6 then 256 else if op=7 then 257 else if op=8 then 259 else if op=9 then 260 else 262
def xU(x:ND):List MV:=if 3≤x.op∧x.op≤9 then[.cptr x.c] else[]
def Cr(x:ND):MV:=.fn (.func (xV x.op)) [] (xU x)
theorem Dy(x:ND):aA Tryz.prog 205 [.agg x.c] St.none (fun r _=>r=Cr x):=by
 refine aA.seen (aA.body 28 [.tmp 2] Tryz.func205 rfl rfl rfl rfl ?_)
 unfold Cr xV xU
 have ho:x.op=1∨x.op=3∨x.op=4∨x.op=5∨x.op=6∨x.op=7∨x.op=8∨x.op=9∨(¬x.op=1∧¬x.op=3∧¬x.op=4∧¬x.op=5∧¬x.op=6∧¬x.op=7∧¬x.op=8∧¬x.op=9):=by omega
 rcases ho with h|h|h|h|h|h|h|h|⟨h1,h3,h4,h5,h6,h7,h8,h9⟩
 all_goals try simp(config:={ decide:=true }) only[h,if_true,if_false]
 ·repeat' (first|(with_reducible first|(refine wN fun _ hnl=>?_;revert hnl;(repeat refine wS fun _ _=>?_);intro hnl)|refine wE ?_|(refine wK ?_ ?_<;>intro h)|(refine wB ?_ ?_<;>intro h<;>simp only[h]))|simp(maxSteps:=4000000) (disch:=first|exact ddL|fail) only[go_sem,simprocAttr,Tryz.f205,h])
  exact .same _
 iterate 7
  ·repeat' (first|(with_reducible first|(refine wN fun _ hnl=>?_;revert hnl;(repeat refine wS fun _ _=>?_);intro hnl)|refine wE ?_|(refine wK ?_ ?_<;>intro h)|(refine wB ?_ ?_<;>intro h<;>simp only[h]))|simp(maxSteps:=4000000) (disch:=first|exact ddL|fail) only[go_sem,simprocAttr,Tryz.f205,h])
   exact .fn rfl (nX (.ptr (aH _ _ _) (by simp)))
 ·rw[if_neg h1,if_neg h3,if_neg h4,if_neg h5,if_neg h6,if_neg h7,if_neg h8,if_neg h9,if_neg (by omega)]
  repeat' (first|(with_reducible first|(refine wN fun _ hnl=>?_;revert hnl;(repeat refine wS fun _ _=>?_);intro hnl)|refine wE ?_|(refine wK ?_ ?_<;>intro h)|(refine wB ?_ ?_<;>intro h<;>simp only[h]))|simp(maxSteps:=4000000) (disch:=first|exact ddL|fail) only[go_sem,simprocAttr,Tryz.f205,h1,h3,h4,h5,h6,h7,h8,h9])
  exact .same _
abbrev kU(c:CA):CD:=⟨c.id,c.ver,c.lab.toNat,c.f.l⟩
theorem Kn(c:CA)(g:Int):aA Tryz.prog 251 [.cptr c.c,.int .u32 g] St.none (fun r _=>r=.bool true):=by
 refine(aA.body 5 [.tmp 4] Tryz.func251 rfl rfl rfl rfl ?_)
 repeat' (first|(with_reducible first|(refine wN fun _ hnl=>?_;revert hnl;(repeat refine wS fun _ _=>?_);intro hnl)|refine wE ?_|(refine wK ?_ ?_<;>intro h)|(refine wB ?_ ?_<;>intro h<;>simp only[h]))|simp(maxSteps:=4000000) (disch:=first|exact ddL|fail) only[go_sem,simprocAttr,Tryz.f251])
theorem Kv(c:CA)(g:Int):aA Tryz.prog 262 [.cptr c.c,.int .u32 g] St.none (fun r _=>r=.bool false):=by
 refine(aA.body 5 [.tmp 4] Tryz.func262 rfl rfl rfl rfl ?_)
 repeat' (first|(with_reducible first|(refine wN fun _ hnl=>?_;revert hnl;(repeat refine wS fun _ _=>?_);intro hnl)|refine wE ?_|(refine wK ?_ ?_<;>intro h)|(refine wB ?_ ?_<;>intro h<;>simp only[h]))|simp(maxSteps:=4000000) (disch:=first|exact ddL|fail) only[go_sem,simprocAttr,Tryz.f262])
theorem Ko(c:CA)(g:Int)(x:ND){n:Nat}(hx:x.n=n)(hn:n<32):aA Tryz.prog 252 [.cptr c.c,.int .u32 g,.cptr x.c] St.none (fun r _=>r=.bool (hasB c.lab.toNat x.n)):=by
 refine(aA.body 13 [.tmp 5] Tryz.func252 rfl rfl rfl rfl ?_)
 have h:=qM c.lab.toNat n c.lab.toNat_lt hn
 rw[hx]
 obtain⟨C,c1⟩:∃C:bJ,∀ms,C 253 ms=some ⟨[],fun v=>v=.bool (hasB c.lab.toNat n),none⟩:=⟨fnF [(253,⟨[],fun v=>v=.bool (hasB c.lab.toNat n),none⟩)],fun _=>cV⟩
 repeat' (first|((with_reducible refine bL mixed ?chk C ?_);(case chk=>decide +kernel))|(with_reducible refine aY (c1 _) h ?_)|(with_reducible first|(refine wN fun _ hnl=>?_;revert hnl;(repeat refine wS fun _ _=>?_);intro hnl)|refine wE ?_|(refine wK ?_ ?_<;>intro h)|(refine wB ?_ ?_<;>intro h<;>simp only[h]))|simp(maxSteps:=4000000) (disch:=first|exact ddL|fail) only[go_sem,simprocAttr,Tryz.f252,hx,FYs])
theorem Kp(c:CA)(g:Nat)(hg:g<4294967296)(x:ND){n:Nat}(hx:x.n=n)(hn:n<32):aA Tryz.prog 254 [.cptr c.c,.int .u32 (g:Int),.cptr x.c] St.none (fun r _=>r=.bool (hasB g x.n)):=by
 refine(aA.body 10 [.tmp 5] Tryz.func254 rfl rfl rfl rfl ?_)
 have h:=qM g n hg hn
 rw[hx]
 repeat' (first|(with_reducible first|refine up h ?_)|(with_reducible first|(refine wN fun _ hnl=>?_;revert hnl;(repeat refine wS fun _ _=>?_);intro hnl)|refine wE ?_|(refine wK ?_ ?_<;>intro h)|(refine wB ?_ ?_<;>intro h<;>simp only[h]))|simp(maxSteps:=4000000) (disch:=first|exact ddL|fail) only[go_sem,simprocAttr,Tryz.f254,hx])
theorem Kq(c:CA)(g:Int)(x:ND){k:Nat}(hx:x.n=k)(hk:k<8):aA Tryz.prog 255 [.cptr c.c,.int .u32 g,.cptr x.c] St.none (fun r _=>r=.bool (!decide ((c.f.get k).kd=0))):=by
 refine(aA.body 15 [.tmp 5] Tryz.func255 rfl rfl rfl rfl ?_)
 have hdr:(fc c.f).drop (k * 3)=.int .i64 (c.f.get k).kd::.int .i64 (c.f.get k).n::.str (c.f.get k).s::(fc c.f).drop ((k+1) * 3):=eX (f:=c.f) hk
 repeat' (first|(with_reducible first|(refine wN fun _ hnl=>?_;revert hnl;(repeat refine wS fun _ _=>?_);intro hnl)|refine wE ?_|(refine wK ?_ ?_<;>intro h)|(refine wB ?_ ?_<;>intro h<;>simp only[h]))|simp(maxSteps:=4000000) (disch:=first|exact ddL|fail) only[go_sem,simprocAttr,Tryz.f255,hx,FYs,hdr])
 all_goals first|done|(simp;done)|skip
theorem Kr(c:CA)(g:Int)(x:ND){k:Nat}(hx:x.n=k)(hk:k<8):aA Tryz.prog 256 [.cptr c.c,.int .u32 g,.cptr x.c] St.none (fun r _=>r=.bool (decide (c.f.get k=x.v))):=by
 refine(aA.body 16 [.tmp 5] Tryz.func256 rfl rfl rfl rfl ?_)
 have hat:=oC (f:=c.f) hk
 repeat' (first|(with_reducible first|(refine wN fun _ hnl=>?_;revert hnl;(repeat refine wS fun _ _=>?_);intro hnl)|refine wE ?_|(refine wK ?_ ?_<;>intro h)|(refine wB ?_ ?_<;>intro h<;>simp only[h]))|simp(maxSteps:=4000000) (disch:=first|exact ddL|fail) only[go_sem,simprocAttr,Tryz.f256,hx,FYs,hat])
 exact E4
theorem Ks(c:CA)(g:Int)(x:ND){k:Nat}(hx:x.n=k)(hk:k<8):aA Tryz.prog 257 [.cptr c.c,.int .u32 g,.cptr x.c] St.none (fun r _=>r=.bool (j8 (c.f.get k) x.v)):=by
 refine(aA.body 16 [.tmp 5] Tryz.func257 rfl rfl rfl rfl ?_)
 have hat:=oC (f:=c.f) hk
 have h:=oK (c.f.get k) x.v
 obtain⟨C,c1⟩:∃C:bJ,∀ms,C 258 ms=some ⟨[],fun v=>v=.bool (j8 (c.f.get k) x.v),none⟩:=⟨fnF [(258,⟨[],fun v=>v=.bool (j8 (c.f.get k) x.v),none⟩)],fun _=>cV⟩
 repeat' (first|((with_reducible refine bL mixed ?chk C ?_);(case chk=>decide +kernel))|(with_reducible refine aY (c1 _) h ?_)|(with_reducible first|(refine wN fun _ hnl=>?_;revert hnl;(repeat refine wS fun _ _=>?_);intro hnl)|refine wE ?_|(refine wK ?_ ?_<;>intro h)|(refine wB ?_ ?_<;>intro h<;>simp only[h]))|simp(maxSteps:=4000000) (disch:=first|exact ddL|fail) only[go_sem,simprocAttr,Tryz.f257,hx,FYs,hat])
theorem Kt(c:CA)(g:Int)(x:ND){k:Nat}(hx:x.n=k)(hk:k<8):aA Tryz.prog 259 [.cptr c.c,.int .u32 g,.cptr x.c] St.none (fun r _=>r=.bool (j8 x.v (c.f.get k))):=by
 refine(aA.body 16 [.tmp 5] Tryz.func259 rfl rfl rfl rfl ?_)
 have hat:=oC (f:=c.f) hk
 have h:=oK x.v (c.f.get k)
 obtain⟨C,c1⟩:∃C:bJ,∀ms,C 258 ms=some ⟨[],fun v=>v=.bool (j8 x.v (c.f.get k)),none⟩:=⟨fnF [(258,⟨[],fun v=>v=.bool (j8 x.v (c.f.get k)),none⟩)],fun _=>cV⟩
 repeat' (first|((with_reducible refine bL mixed ?chk C ?_);(case chk=>decide +kernel))|(with_reducible refine aY (c1 _) h ?_)|(with_reducible first|(refine wN fun _ hnl=>?_;revert hnl;(repeat refine wS fun _ _=>?_);intro hnl)|refine wE ?_|(refine wK ?_ ?_<;>intro h)|(refine wB ?_ ?_<;>intro h<;>simp only[h]))|simp(maxSteps:=4000000) (disch:=first|exact ddL|fail) only[go_sem,simprocAttr,Tryz.f259,hx,FYs,hat])
theorem Ku(c:CA)(g:Int)(x:ND){k:Nat}(hx:x.n=k)(hk:k<8)(h1:(c.f.get k).s.size≤1000000)(h2:x.v.s.size≤1000000):aA Tryz.prog 260 [.cptr c.c,.int .u32 g,.cptr x.c] St.none (fun r _=>r=.bool (lJ (c.f.get k) x.v)):=by
 refine(aA.body 16 [.tmp 5] Tryz.func260 rfl rfl rfl rfl ?_)
 have hat:=oC (f:=c.f) hk
 have h:=zB (c.f.get k) x.v h1 h2
 obtain⟨C,c1⟩:∃C:bJ,∀ms,C 261 ms=some ⟨[],fun v=>v=.bool (lJ (c.f.get k) x.v),none⟩:=⟨fnF [(261,⟨[],fun v=>v=.bool (lJ (c.f.get k) x.v),none⟩)],fun _=>cV⟩
 repeat' (first|((with_reducible refine bL mixed ?chk C ?_);(case chk=>decide +kernel))|(with_reducible refine aY (c1 _) h ?_)|(with_reducible first|(refine wN fun _ hnl=>?_;revert hnl;(repeat refine wS fun _ _=>?_);intro hnl)|refine wE ?_|(refine wK ?_ ?_<;>intro h)|(refine wB ?_ ?_<;>intro h<;>simp only[h]))|simp(maxSteps:=4000000) (disch:=first|exact ddL|fail) only[go_sem,simprocAttr,Tryz.f260,hx,FYs,hat])
theorem Kw(c:CA)(hc:∀k,(c.f.get k).s.size≤1000000)(g:Nat)(hg:g<4294967296)(x:ND)(hx:eH x=true):aA Tryz.prog (xV x.op) ([.cptr c.c,.int .u32 (g:Int)]++xU x) St.none (fun r _=>r=.bool (dU (kU c) g x)):=by
 have hxs:=Ey hx
 have ho:x.op=1∨x.op=3∨x.op=4∨x.op=5∨x.op=6∨x.op=7∨x.op=8∨x.op=9∨(¬x.op=1∧¬x.op=3∧¬x.op=4∧¬x.op=5∧¬x.op=6∧¬x.op=7∧¬x.op=8∧¬x.op=9):=by omega
 have hn:3≤x.op→x.op≤9→0≤x.n∧x.n<16∧(5≤x.op→x.n<8):=fun h1 h2=>by
  have h:=hx
  have e:x.op=3∨x.op=4∨x.op=5∨x.op=6∨x.op=7∨x.op=8∨x.op=9:=by omega
  rcases e with e|e|e|e|e|e|e<;>simp[eH,e] at h<;>omega
 have hnat:3≤x.op→x.op≤9→∃k:Nat,x.n=k∧k<16∧(5≤x.op→k<8):=fun h1 h2=>by
  obtain⟨q1,q2,q3⟩:=hn h1 h2
  exact⟨x.n.toNat,by omega,by omega,fun h=>by have:=q3 h;omega⟩
 unfold xV xU dU
 rcases ho with h|h|h|h|h|h|h|h|⟨h1,h3,h4,h5,h6,h7,h8,h9⟩
 ·simp(config:={ decide:=true }) only[h,if_true,if_false]
  exact Kn c g
 ·obtain⟨k,e,h16,_⟩:=hnat (by omega) (by omega)
  simp(config:={ decide:=true }) only[h,if_true,if_false]
  exact Ko c g x e (by omega)
 ·obtain⟨k,e,h16,_⟩:=hnat (by omega) (by omega)
  simp(config:={ decide:=true }) only[h,if_true,if_false]
  exact Kp c g hg x e (by omega)
 ·obtain⟨k,e,_,h8⟩:=hnat (by omega) (by omega)
  simp(config:={ decide:=true }) only[h,if_true,if_false]
  have:=Kq c g x e (h8 (by omega))
  rw[show x.n.toNat=k by omega]
  exact this
 ·obtain⟨k,e,_,h8⟩:=hnat (by omega) (by omega)
  simp(config:={ decide:=true }) only[h,if_true,if_false]
  have:=Kr c g x e (h8 (by omega))
  rw[show x.n.toNat=k by omega]
  exact this
 ·obtain⟨k,e,_,h8⟩:=hnat (by omega) (by omega)
  simp(config:={ decide:=true }) only[h,if_true,if_false]
  have:=Ks c g x e (h8 (by omega))
  rw[show x.n.toNat=k by omega]
  exact this
 ·obtain⟨k,e,_,h8⟩:=hnat (by omega) (by omega)
  simp(config:={ decide:=true }) only[h,if_true,if_false]
  have:=Kt c g x e (h8 (by omega))
  rw[show x.n.toNat=k by omega]
  exact this
 ·obtain⟨k,e,_,h8⟩:=hnat (by omega) (by omega)
  simp(config:={ decide:=true }) only[h,if_true,if_false]
  have:=Ku c g x e (h8 (by omega)) (hc k) hxs
  rw[show x.n.toNat=k by omega]
  exact this
 ·rw[if_neg h1,if_neg h3,if_neg h4,if_neg h5,if_neg h6,if_neg h7,if_neg h8,if_neg h9,if_neg (by omega),if_neg h1,if_neg h3,if_neg h4,if_neg h5,if_neg h6,if_neg h7,if_neg h8,if_neg h9]
  exact Kv c g
end

section
def sW:Int→List Int→Bool
 | _,[]=>true
 | last,x::l=>decide (last<x∧1≤x∧x<pR)&&sW x l
def hY:Int→List GR→Bool
 | _,[]=>true
 | last,g::l=>decide (last<g.no∧0≤g.no∧g.no<16)&&sW 0 g.mem&&hY g.no l
def JX(a b:List Int):List Int:=a.filter fun x=>!decide (x∈b)
def grF(id:Int)(s:Nat)(g:GR):Nat:=if id∈g.mem then s ||| 2 ^ g.no.toNat else s
def grB(l:List GR)(id:Int):Nat:=l.foldl (grF id) 0
def kM(nx:Int):Int→List CA→Bool
 | _,[]=>true
 | last,c::l=>nE c&&decide (last<c.id∧c.id<nx)&&kM nx c.id l
def Ll(nx:Int)(cs:List CA)(pre:List DE)(d:DE):Bool :=
 decide (1≤d.id∧d.id<nx∧1≤d.ver∧d.ver≤big∧0≤d.sq∧d.sq≤big)&&decide (d.id∉cs.map CA.id)&&pre.all fun e=>decide (e.id≠d.id∧e.sq≤d.sq)
def AB(nx:Int)(cs:List CA):List DE→List DE→Bool
 | _,[]=>true
 | pre,d::l=>Ll nx cs pre d&&AB nx cs (pre++[d]) l
def Lu(nx:Int)(cs:List CA)(ds:List DE):Bool :=
 decide (1≤nx∧nx≤pR∧cs.length≤48∧ds.length≤40)&&(kM nx 0 cs&&AB nx cs [] ds)
def Lj(b:BK):Bool :=
 Lu b.nx b.cards b.dead&&decide (0≤b.sq∧b.sq≤big)&&hY (-1) b.gr&&(b.dead.all fun d=>decide (d.sq≤b.sq))&&b.gr.all fun g=>decide (JX g.mem (b.cards.map CA.id)=[])
def zE(f:F8)(m:Nat):Nat→F8
 | 0=>f80
 | i+1=>if bit m i=true then(zE f m i).set i (f.get i) else zE f m i
def Js(f:F8)(m:Nat):F8:=zE f m 8
def fT(c:CA)(m:UInt32):CA:=⟨c.id,c.ver,if bit m.toNat 8=true then c.lab else 0,Js c.f m.toNat⟩
def Jq:List TU→Int→Option Int
 | [],_=>none
 | t::l,id=>match Jq l id with
  | some v=>some v
  | none=>if t.id=id then some t.new else none
open Classical in
noncomputable def l5(fl:List ND):T:=if h:∃t:T,Good t∧fl=t.fl then h.choose else .leaf nd0
noncomputable def jN(gr:List GR)(fl:List ND)(c:CA):Bool:=(l5 fl).sem (dU (kU c) (grB gr c.id))
theorem vR{fl:List ND}(h:cD fl=0):Good (l5 fl)∧(l5 fl).fl=fl∧fl.length≤31:=by
 obtain⟨h1,h2,h3,h4,h5⟩:=(zD fl).1 h
 have hf:H6 fl=true:=by
  unfold H6
  rw[h4,decide_eq_true h3,decide_eq_true ⟨h2,by omega⟩]
  rfl
 obtain⟨t,ok,e,_,hn⟩:=Fv hf
 have hex:∃t:T,Good t∧fl=t.fl:=⟨t,⟨ok,fun x hx=>hn x (by rw[e];exact hx)⟩,e⟩
 unfold l5
 rw[dif_pos hex]
 exact⟨hex.choose_spec.1,hex.choose_spec.2.symm,h1⟩
theorem Co{id:Int}:∀(pre:List GR) (g:GR) (r:List GR) (lo:Int) (s:Nat),-1≤lo→s<2 ^ (lo+1).toNat→hY lo (pre++g::r)=true→pre.foldl (grF id) s<2 ^ g.no.toNat
 | [],g,r,lo,s,h0,hs,h=>by
  simp only[List.nil_append,hY,Bool.and_eq_true,decide_eq_true_eq] at h
  exact Nat.lt_of_lt_of_le hs (Nat.pow_le_pow_right (by omega) (by omega))
 | x::pre,g,r,lo,s,h0,hs,h=>by
  simp only[List.cons_append,hY,Bool.and_eq_true,decide_eq_true_eq] at h
  obtain⟨⟨⟨h1,h2,h3⟩,h4⟩,h5⟩:=h
  rw[List.foldl_cons]
  refine Co pre g r x.no _ (by omega) ?_ h5
  have hlt:s<2 ^ x.no.toNat:=Nat.lt_of_lt_of_le hs (Nat.pow_le_pow_right (by omega) (by omega))
  have e:(x.no+1).toNat=x.no.toNat+1:=by omega
  rw[e]
  have hp:2 ^ x.no.toNat<2 ^ (x.no.toNat+1):=Nat.pow_lt_pow_right (by omega) (by omega)
  unfold grF
  split
  ·exact Nat.or_lt_two_pow (by omega) hp
  ·omega
theorem xE:∀(pre:List GR) (g:GR) (r:List GR) (lo:Int),hY lo (pre++g::r)=true→0≤g.no∧g.no<16∧sW 0 g.mem=true
 | [],g,r,lo,h=>by
  simp only[List.nil_append,hY,Bool.and_eq_true,decide_eq_true_eq] at h
  exact⟨h.1.1.2.1,h.1.1.2.2,h.1.2⟩
 | x::pre,g,r,lo,h=>by
  simp only[List.cons_append,hY,Bool.and_eq_true,decide_eq_true_eq] at h
  exact xE pre g r x.no h.2
theorem rA{α:Type}(l:List α){i:Nat}{x:α}(h:l[i]?=some x):l=l.take i++x::l.drop (i+1):=by
 have hi:i<l.length:=(List.getElem?_eq_some_iff.1 h).1
 have e:=(List.getElem?_eq_some_iff.1 h).2
 conv=>lhs;rw[←List.take_append_drop i l,List.drop_eq_getElem_cons hi,e]
theorem cQ{α:Type}{l:List α}{i:Nat}{x:α}(h:l[i]?=some x):l.take (i+1)=l.take i++[x]:=by
 rw[List.take_add_one,h];rfl
theorem FB{l:List GR}(h:hY (-1) l=true){i:Nat}{g:GR}(hi:l[i]?=some g)(id:Int):grB (l.take i) id<2 ^ g.no.toNat∧0≤g.no∧g.no<16∧sW 0 g.mem=true:=by
 rw[rA l hi] at h
 exact⟨Co _ g _ (-1) 0 (by omega) (by simp) h,xE _ g _ _ h⟩
theorem xD{l:List GR}{i:Nat}{g:GR}(hi:l[i]?=some g)(id:Int):grB (l.take (i+1)) id=grF id (grB (l.take i) id) g:=by
 rw[cQ hi,grB,List.foldl_append];rfl
theorem nB{α:Type}{l:List α}{f:α→List MV}{i:Nat}{x:α}(h:l[i]?=some x):(l.map f).getD i []=f x:=by
 rw[List.getD_eq_getElem?_getD,List.getElem?_map,h];rfl
theorem iK{α:Type}(l:List α){i:Nat}(h:i<l.length):∃x,l[i]?=some x:=⟨_,List.getElem?_eq_getElem h⟩
theorem JR{l:List Int}{i:Nat}{x:Int}(h:l[i]?=some x)(hn:x∉l.take i):l.idxOf x=i:=by
 have hi:i<l.length:=(List.getElem?_eq_some_iff.1 h).1
 rw[rA l h,List.idxOf_append,if_neg hn,List.idxOf_cons_self,List.length_take]
 omega
def kH(l:List Int)(x:Int):Int:=if x∈l then(l.idxOf x:Int) else -1
theorem By{l:List Int}{x:Int}:(kH l x<0)=(x∉l):=propext (by unfold kH;split<;>simp[*])
theorem jG{α:Type}{l:List α}{i:Nat}{x:α}(h:l[i]?=some x):x∈l:=List.mem_of_getElem? h
theorem FW{α:Type}{l:List α}{f:α→Int}{i:Nat}{x:α}(h:l[i]?=some x):(l.map f)[i]?=some (f x):=by rw[List.getElem?_map,h];rfl
theorem jX{nx:Int}:∀{last:Int} {l:List CA},kM nx last l=true→(∀c,c∈l→nE c=true∧last<c.id∧c.id<nx)∧l.Pairwise (fun a b=>a.id<b.id)
 | _,[],_=>⟨by simp,.nil⟩
 | last,x::l,h=>by
  simp only[kM,Bool.and_eq_true,decide_eq_true_eq] at h
  obtain⟨⟨h1,h2,h3⟩,h4⟩:=h
  obtain⟨i1,i2⟩:=jX h4
  refine⟨fun c hc=>?_,List.pairwise_cons.2 ⟨fun c hc=>(i1 c hc).2.1,i2⟩⟩
  rcases List.mem_cons.1 hc with rfl|hc
  ·exact⟨h1,h2,h3⟩
  ·obtain⟨a,b,c'⟩:=i1 c hc
   exact⟨a,by omega,c'⟩
structure BkR (b:BK):Prop where
 nx1:1≤b.nx
 nx2:b.nx≤1073741824
 nc:b.cards.length≤48
 nd:b.dead.length≤40
 cok:kM b.nx 0 b.cards=true
 dok:AB b.nx b.cards [] b.dead=true
 sq1:0≤b.sq
 sq2:b.sq≤1099511627776
 gok:hY (-1) b.gr=true
theorem B6{b:BK}(h:BkR b){c:CA}(hc:c∈b.cards):nE c=true∧0<c.id∧c.id<1073741824:=by
 obtain⟨h1,h2,h3⟩:=(jX h.cok).1 c hc
 exact⟨h1,h2,by have:=h.nx2;omega⟩
theorem Am{c:CA}(h:nE c=true):∀v,v∈c.f.l→v.s.size≤1000000:=fun v hv=>by
 unfold nE at h
 rw[Bool.and_eq_true] at h
 exact l6 (List.all_eq_true.1 h.2 v hv)
theorem Ib{gr:List GR}(h:hY (-1) gr=true)(id:Int):grB gr id<65536:=by
 have hlast:∀i,i≤gr.length→grB (gr.take i) id<65536:=fun i hi=>by
  cases i with
  | zero=>simp[grB]
  | succ i =>
   obtain⟨g,hg⟩:=iK gr (by omega:i<gr.length)
   obtain⟨h1,h2,h3,_⟩:=FB h hg id
   rw[xD hg]
   have e:2 ^ g.no.toNat<2 ^ 16:=Nat.pow_lt_pow_right (by omega) (by omega)
   unfold grF
   split
   ·exact Nat.or_lt_two_pow (n:=16) (Nat.lt_trans h1 e) e
   ·exact Nat.lt_trans h1 e
 have:=hlast gr.length (Nat.le_refl _)
 rwa [List.take_length] at this
end

section
set_option maxRecDepth 100000
set_option maxHeartbeats 4000000
theorem Ad(a:Addr)(n:Int)(w:World)(hc:w.cell? a=some (.int .u32 n))(hs:a.spot=none):Calls Tryz.prog 202 #[.pointer (some a)] w fun e w'=>e=.returned (.bool (n != 0))∧w'=w:=by
 obtain⟨b,off,sub⟩:=a
 simp only at hs
 subst hs
 have hl:=run_call_load (P:=Tryz.prog) Tryz.func247 (by kernel_rfl) (by kernel_rfl) (by kernel_rfl) .u32 (by kernel_rfl) hc
 go_enter Tryz.func202,Tryz.ntmps202
 go_wp2
 go_ret
 exact⟨rfl,rfl⟩
theorem mZ(a:Addr)(x:Value)(u:FrameMode)(w:World)(hc:w.cell? a=some x)(hz:w.frozen? a=false)(hs:a.spot=none) :
  CallsD Tryz.prog 250 #[.pointer (some a),.bool true] u w fun e u' w'=>u'=u∧(e=.returned (.tuple #[])∧w'=w.drew.setCell a (.int .u32 1)):=by
 obtain⟨b,off,sub⟩:=a
 simp only at hs
 subst hs
 have hc':w.drew.cell? ⟨b,off,none⟩=some x:=by go_simp
 have hz':w.drew.frozen? ⟨b,off,none⟩=false:=by go_simp
 have hst:=run_call_store (P:=Tryz.prog) Tryz.func293 (by kernel_rfl) (by kernel_rfl) (by kernel_rfl) (by kernel_rfl) (k:=.u32) (y:=1) hc' hz'
 go_enter_d Tryz.func250,Tryz.ntmps250
 go_wp2
 go_region_calls
 all_goals (go_end0;exact⟨rfl,rfl⟩)
theorem jV{l o e:Nat}{t:TypeId}{x:List MV}{n:Int}(hx:x[o]?=some (.int .u32 n)):aA Tryz.prog 202 [.ptr l 0 o] (St.none.set l (.row t e [x])) (fun v σ'=>v=.bool (n != 0)∧σ'=St.none.set l (.row t e [x])):=by
 refine⟨⟨_,Tryz.func202,rfl,rfl⟩,fun Φ w vs hi hr=>?_⟩
 obtain⟨p,R,v0,hp,hb,hc,hr0,hz,i1,s1⟩:=iZ hi (aH _ _ _) hx (m:=.int .u32 n) rfl (.int .u32 n)
 have e0:=hr0.aL
 subst e0
 obtain⟨p',R',hp',hb',he⟩:=o6 hr
 rw[hp] at hp';cases hp'
 rw[hb] at hb';cases hb'
 have hv:vs=#[.pointer (some ⟨R,p.bo+o,none⟩)]:=by
  have h1:=hr.1
  apply Array.ext
  ·simpa using h1
  ·intro i h3 h4
   have:i=0:=by simp at h4;omega
   subst this
   simpa[Array.getD_eq_getD_getElem?,Array.getElem?_eq_getElem h3] using he
 subst hv
 refine(Ad ⟨R,p.bo+o,none⟩ n w hc rfl).mono ?_
 rintro e' w' ⟨rfl,rfl⟩
 exact⟨_,_,_,Φ,rfl,.bool _,hi,.refl _ _ _,rfl,rfl⟩
theorem AS{l o e:Nat}{t:TypeId}{x:List MV}(hx:x[o]?=some (.int .i32 0)):aA Tryz.prog 248 [.ptr l 0 o] (St.none.set l (.row t e [x])) (fun v σ'=>v=.tup []∧σ'=St.none.set l (.row t e [x.set o (.int .i32 1)])):=by
 refine⟨⟨_,Tryz.func248,rfl,rfl⟩,fun Φ w vs hi hr=>?_⟩
 obtain⟨p,R,v0,hp,hb,hc,hr0,hz,i1,s1⟩:=iZ hi (aH _ _ _) hx (m:=.int .i32 1) rfl (.int .i32 1)
 have e0:=hr0.aL
 subst e0
 obtain⟨p',R',hp',hb',he⟩:=o6 hr
 rw[hp] at hp';cases hp'
 rw[hb] at hb';cases hb'
 have hv:vs=#[.pointer (some ⟨R,p.bo+o,none⟩)]:=by
  have h1:=hr.1
  apply Array.ext
  ·simpa using h1
  ·intro i h3 h4
   have:i=0:=by simp at h4;omega
   subst this
   simpa[Array.getD_eq_getD_getElem?,Array.getElem?_eq_getElem h3] using he
 subst hv
 refine(Go.MuLone.lock_free Gy ⟨R,p.bo+o,none⟩ w hc hz).mono ?_
 rintro e' w' ⟨rfl,rfl⟩
 refine⟨_,.tup [],_,Φ,rfl,.tup rfl (by simp),i1,s1,rfl,?_⟩
 rw[set_set]
theorem z6{σ:St}{K:St→Prop}{l o e:Nat}{t:TypeId}{x:List MV}(hs:σ l=some (.row t e [x]))(hx:x[o]?=some (.int .i32 1))(hk:R (K (σ.set l (.row t e [x.set o (.int .i32 0)])))):R (tO Tryz.prog 249 [.ptr l 0 o] σ K):=by
 refine⟨_,Gy.f_unlock,rfl,rfl,fun Φ w vs hi hr=>?_⟩
 obtain⟨p,R,v0,hp,hb,hc,hr0,hz,i1,s1⟩:=iZ hi hs hx (m:=.int .i32 0) rfl (.int .i32 0)
 have e0:=hr0.aL
 subst e0
 obtain⟨p',R',hp',hb',he⟩:=o6 hr
 rw[hp] at hp';cases hp'
 rw[hb] at hb';cases hb'
 have hv:vs=#[.pointer (some ⟨R,p.bo+o,none⟩)]:=by
  have h1:=hr.1
  apply Array.ext
  ·simpa using h1
  ·intro i h3 h4
   have:i=0:=by simp at h4;omega
   subst this
   simpa[Array.getD_eq_getD_getElem?,Array.getElem?_eq_getElem h3] using he
 subst hv
 refine(Go.MuLone.unlock_deferred Gy ⟨R,p.bo+o,none⟩ .returning w hc hz).mono ?_
 rintro e' u' w' ⟨rfl,rfl,rfl⟩
 exact⟨rfl,_,_,Φ,rfl,i1,s1,hk⟩
theorem tP{σ:St}{K:St→Prop}{l o e:Nat}{t:TypeId}{x:List MV}{n:Int}(hs:σ l=some (.row t e [x]))(hx:x[o]?=some (.int .u32 n))(hk:R (K (σ.set l (.row t e [x.set o (.int .u32 1)])))):R (tO Tryz.prog 250 [.ptr l 0 o,.bool true] σ K):=by
 refine⟨_,Tryz.func250,rfl,rfl,fun Φ w vs hi hr=>?_⟩
 have hd:=hi.grow (w':=w.drew) rfl rfl rfl (fW (Nat.le_succ _)) (Nat.le_refl _) (fun _ _=>rfl)
 obtain⟨p,R,v0,hp,hb,hc,hr0,hz,i1,s1⟩:=iZ hd.1 hs hx (m:=.int .u32 1) rfl (.int .u32 1)
 obtain⟨p',R',hp',hb',he⟩:=o6 hr
 rw[hp] at hp';cases hp'
 rw[hb] at hb';cases hb'
 have he2:vs.getD 1 undef=.bool true:=by
  have:=hr.2 1 _ rfl
  cases h:vs.getD 1 undef<;>rw[h] at this<;>cases this
  rfl
 have hv:vs=#[.pointer (some ⟨R,p.bo+o,none⟩),.bool true]:=by
  have h1:=hr.1
  apply Array.ext
  ·simpa using h1
  ·intro i h3 h4
   match i,h3 with
   | 0,h3=>simpa[Array.getD_eq_getD_getElem?,Array.getElem?_eq_getElem h3] using he
   | 1,h3=>simpa[Array.getD_eq_getD_getElem?,Array.getElem?_eq_getElem h3] using he2
   | i+2,_=>simp at h4;omega
 subst hv
 refine(mZ ⟨R,p.bo+o,none⟩ v0 .returning w (by simpa using hc) (by simpa using hz) rfl).mono ?_
 rintro e' u' w' ⟨rfl,rfl,rfl⟩
 exact⟨rfl,_,_,Φ,rfl,i1,hd.2.trans s1,hk⟩
end
end Go.Proofs.YtppdgejjmhdjhaaGreatDoor
