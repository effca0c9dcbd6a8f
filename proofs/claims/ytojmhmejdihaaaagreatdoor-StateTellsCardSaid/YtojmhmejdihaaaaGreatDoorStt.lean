/- Parts of the proof, joined; conditions: those that its theorems name. -/
import Derived.Test.YtojmhmejdihaaaaGreatDoorStr
import Derived.Test.YtojmhmejdihaaaaGreatDoorSts
import Derived.Lib.SliceRun
import Derived.OwnWalk
set_option linter.unusedVariables false
set_option linter.unusedSimpArgs false
set_option maxHeartbeats 4000000
namespace Go.Proofs.YtojmhmejdihaaaaGreatDoor
section
open Go.Shelf Go.RowKit Go.Lib
set_option maxRecDepth 100000
set_option maxHeartbeats 4000000
theorem mG{P:Program}{K e:Nat}{el:TypeId}{t:Bool}(hn:aA P K [.aT] St.none fun r _=>r=.aT)
 (hr:∀(a:Addr) (c:Nat) (w:World),Calls P K #[.slice (some a) 0 c] w fun e w'=>e=.returned (.slice (some ⟨w.heap.size,0,none⟩) 0 0)∧w'=w.alloc (.cells #[] el)):aA P K [.lst e [] t] St.none fun r _=>r=.lst e [] false:=by
 refine⟨hn.1,fun Φ w vs hi hv=>?_⟩
 have h0:=hv.2 0 _ rfl
 have h1:vs=#[vs.getD 0 undef]:=by
  have hz:=hv.1
  refine Array.ext (by simpa using hz) fun i q1 q2=>?_
  have:i=0:=by simp at q2;omega
  subst this
  simp[Array.getD,q1]
 generalize vs.getD 0 undef=v at h0 h1
 subst h1
 cases h0 with
 | lstn =>
  refine(hn.2 Φ w _ hi ⟨rfl,fun i m hm=>?_⟩).mono ?_
  ·match i with
   | 0=>simp at hm;subst hm;exact .aT
   | i+1=>simp at hm
  ·rintro x w' ⟨v,mv,σ',Φ',rfl,r1,i1,s1,rfl⟩
   refine⟨v,_,σ',Φ',rfl,?_,i1,s1,rfl⟩
   cases r1
   exact .lstn _ _
 | lst0 a e c t ht hm =>
  refine(hr a c w).mono ?_
  rintro x w' ⟨rfl,rfl⟩
  obtain⟨i1,s1⟩:=hi.grow (w':=w.alloc (.cells #[] el)) rfl rfl rfl (Nat.le_refl _) (by simp) (fun k hk=>by
   show(w.heap.push _)[k]?=_
   rw[Array.getElem?_push,if_neg (by omega)])
  exact⟨_,_,_,Φ,rfl,.lst0 _ _ 0 _ (fun h=>rfl) (Nat.zero_le _),i1,s1,rfl⟩
 | lst hl h0=>simp at hl;omega
theorem D8(a:Addr)(c:Nat)(w:World):Calls Tryz.prog 100 #[.slice (some a) 0 c] w fun e w'=>e=.returned (.slice (some ⟨w.heap.size,0,none⟩) 0 0)∧w'=w.alloc (.cells #[] 160):=by
 have q22:∀(w:World) (a:Option Addr) (n c n' c':Nat),(binOp .eql 38 (.slice a n c) (.slice none n' c')).run Tryz.prog w=.ok (.bool a.isNone) w:=fun w a n c n' c'=>Lib.run_eql_slice_nil w _ _ a n c n' c' Tryz.underlying38
 have u22:∀w,Sem.run Tryz.prog (underlying 38) w=.ok (TypeDesc.slice 160) w:=run_underlying Tryz.underlying38
 go_enter Tryz.func100,Tryz.ntmps100
 go_wp2
 go_ret
 exact⟨rfl,rfl⟩
theorem BE:aA Tryz.prog 100 [.aT] St.none (fun r _=>r=.aT):=by
 refine(aA.body 8 [.tmp 2] Tryz.func100 rfl rfl rfl rfl ?_)
 repeat' (first|(with_reducible first|(refine wN fun _ hnl=>?_;revert hnl;(repeat refine wS fun _ _=>?_);intro hnl)|refine wE ?_|(refine wK ?_ ?_<;>intro h)|(refine wB ?_ ?_<;>intro h<;>simp only[h]))|simp(maxSteps:=4000000) (disch:=first|exact ddL|fail) only[go_sem,simprocAttr,Tryz.f100])
theorem Ai(e:Nat)(t:Bool):aA Tryz.prog 100 [.lst e [] t] St.none (fun r _=>r=.lst e [] false):=mG BE D8
theorem D7(a:Addr)(c:Nat)(w:World):Calls Tryz.prog 98 #[.slice (some a) 0 c] w fun e w'=>e=.returned (.slice (some ⟨w.heap.size,0,none⟩) 0 0)∧w'=w.alloc (.cells #[] 3):=by
 have q22:∀(w:World) (a:Option Addr) (n c n' c':Nat),(binOp .eql 56 (.slice a n c) (.slice none n' c')).run Tryz.prog w=.ok (.bool a.isNone) w:=fun w a n c n' c'=>Lib.run_eql_slice_nil w _ _ a n c n' c' Tryz.underlying56
 have u22:∀w,Sem.run Tryz.prog (underlying 56) w=.ok (TypeDesc.slice 3) w:=run_underlying Tryz.underlying56
 go_enter Tryz.func98,Tryz.ntmps98
 go_wp2
 go_ret
 exact⟨rfl,rfl⟩
theorem BD:aA Tryz.prog 98 [.aT] St.none (fun r _=>r=.aT):=by
 refine(aA.body 8 [.tmp 2] Tryz.func98 rfl rfl rfl rfl ?_)
 repeat' (first|(with_reducible first|(refine wN fun _ hnl=>?_;revert hnl;(repeat refine wS fun _ _=>?_);intro hnl)|refine wE ?_|(refine wK ?_ ?_<;>intro h)|(refine wB ?_ ?_<;>intro h<;>simp only[h]))|simp(maxSteps:=4000000) (disch:=first|exact ddL|fail) only[go_sem,simprocAttr,Tryz.f98])
theorem Ah(e:Nat)(t:Bool):aA Tryz.prog 98 [.lst e [] t] St.none (fun r _=>r=.lst e [] false):=mG BD D7
end

section
set_option maxRecDepth 100000
set_option maxHeartbeats 4000000
theorem sI(l:List ND)(hl:l.length≤1000000)(t:Bool):aA Tryz.prog 100 [.lst 5 (l.map ND.c) t] St.none (fun r _=>r=.lst 5 (l.map ND.c) false):=by
 cases l with
 | nil=>exact Ai 5 t
 | cons x m =>
  refine aA.seen (aA.body 8 [.tmp 2] Tryz.func100 rfl rfl rfl rfl ?_)
  simp only[List.length_cons] at hl
  repeat' (first|(with_reducible first|(refine wN fun _ hnl=>?_;revert hnl;(repeat refine wS fun _ _=>?_);intro hnl)|refine wE ?_|(refine wK ?_ ?_<;>intro h)|(refine wB ?_ ?_<;>intro h<;>simp only[h]))|simp(maxSteps:=4000000) (disch:=first|exact ddL|fail) only[go_sem,simprocAttr,Tryz.f100])
  exact .vecAll (aM _ _ _) (by simp only[List.length_map,List.length_cons])
theorem BC(l:List Int)(hl:l.length≤1000000)(t:Bool):aA Tryz.prog 98 [.lst 1 (l.map aR) t] St.none (fun r _=>r=.lst 1 (l.map aR) false):=by
 cases l with
 | nil=>exact Ah 1 t
 | cons x m =>
  refine aA.seen (aA.body 8 [.tmp 2] Tryz.func98 rfl rfl rfl rfl ?_)
  simp only[List.length_cons] at hl
  repeat' (first|(with_reducible first|(refine wN fun _ hnl=>?_;revert hnl;(repeat refine wS fun _ _=>?_);intro hnl)|refine wE ?_|(refine wK ?_ ?_<;>intro h)|(refine wB ?_ ?_<;>intro h<;>simp only[h]))|simp(maxSteps:=4000000) (disch:=first|exact ddL|fail) only[go_sem,simprocAttr,Tryz.f98])
  exact .vecAll (aM _ _ _) (by simp only[List.length_map,List.length_cons])
theorem Ls(a:RE)(hl:a.fl.length≤1000000):aA Tryz.prog 167 [.agg a.c] St.none (fun r _=>r=.agg a.c):=by
 refine aA.bF (aA.body 8 [.cell 2 141] Tryz.func167 rfl rfl rfl rfl ?_)
 have h:=sI a.fl hl false
 repeat' (first|(with_reducible first|refine up h ?_)|(with_reducible first|(refine wN fun _ hnl=>?_;revert hnl;(repeat refine wS fun _ _=>?_);intro hnl)|refine wE ?_|(refine wK ?_ ?_<;>intro h)|(refine wB ?_ ?_<;>intro h<;>simp only[h]))|simp(maxSteps:=4000000) (disch:=first|exact ddL|fail) only[go_sem,simprocAttr,Tryz.f167])
 all_goals first|exact⟨_,St.le_refl _,rfl⟩|exact⟨_,St.le_refl _⟩
end

section
set_option maxRecDepth 100000
set_option maxHeartbeats 4000000
def Cb(op:Int):FuncId:=if op=1 then 315 else if op=3 then 316 else if op=4 then 318 else if op=5 then 319 else if op=6 then 320 else if op=7 then 321 else if op=8 then 323 else if op=9 then 324 else 326
def Ca(x:ND):List MV:=if 3≤x.op∧x.op≤9 then[.cptr x.c] else[]
def Gu(x:ND):MV:=.fn (.func (Cb x.op)) [] (Ca x)
theorem HJ(x:ND):aA Tryz.prog 271 [.agg x.c] St.none (fun r _=>r=Gu x):=by
 refine aA.seen (aA.body 28 [.tmp 2] Tryz.func271 rfl rfl rfl rfl ?_)
 unfold Gu Cb Ca
 have ho:x.op=1∨x.op=3∨x.op=4∨x.op=5∨x.op=6∨x.op=7∨x.op=8∨x.op=9∨(¬x.op=1∧¬x.op=3∧¬x.op=4∧¬x.op=5∧¬x.op=6∧¬x.op=7∧¬x.op=8∧¬x.op=9):=by omega
 rcases ho with h|h|h|h|h|h|h|h|⟨h1,h3,h4,h5,h6,h7,h8,h9⟩
 all_goals try simp(config:={ decide:=true }) only[h,if_true,if_false]
 ·repeat' (first|(with_reducible first|(refine wN fun _ hnl=>?_;revert hnl;(repeat refine wS fun _ _=>?_);intro hnl)|refine wE ?_|(refine wK ?_ ?_<;>intro h)|(refine wB ?_ ?_<;>intro h<;>simp only[h]))|simp(maxSteps:=4000000) (disch:=first|exact ddL|fail) only[go_sem,simprocAttr,Tryz.f271,h])
  exact .same _
 iterate 7
  ·repeat' (first|(with_reducible first|(refine wN fun _ hnl=>?_;revert hnl;(repeat refine wS fun _ _=>?_);intro hnl)|refine wE ?_|(refine wK ?_ ?_<;>intro h)|(refine wB ?_ ?_<;>intro h<;>simp only[h]))|simp(maxSteps:=4000000) (disch:=first|exact ddL|fail) only[go_sem,simprocAttr,Tryz.f271,h])
   exact .fn rfl (fK (.ptr (aM _ _ _) (by simp)))
 ·rw[if_neg h1,if_neg h3,if_neg h4,if_neg h5,if_neg h6,if_neg h7,if_neg h8,if_neg h9,if_neg (by omega)]
  repeat' (first|(with_reducible first|(refine wN fun _ hnl=>?_;revert hnl;(repeat refine wS fun _ _=>?_);intro hnl)|refine wE ?_|(refine wK ?_ ?_<;>intro h)|(refine wB ?_ ?_<;>intro h<;>simp only[h]))|simp(maxSteps:=4000000) (disch:=first|exact ddL|fail) only[go_sem,simprocAttr,Tryz.f271,h1,h3,h4,h5,h6,h7,h8,h9])
  exact .same _
abbrev oE(c:CA):CD:=⟨c.id,c.ver,c.lab.toNat,c.f.l⟩
theorem Pz(c:CA)(g:Int):aA Tryz.prog 315 [.cptr c.c,.int .u32 g] St.none (fun r _=>r=.bool true):=by
 refine(aA.body 5 [.tmp 4] Tryz.func315 rfl rfl rfl rfl ?_)
 repeat' (first|(with_reducible first|(refine wN fun _ hnl=>?_;revert hnl;(repeat refine wS fun _ _=>?_);intro hnl)|refine wE ?_|(refine wK ?_ ?_<;>intro h)|(refine wB ?_ ?_<;>intro h<;>simp only[h]))|simp(maxSteps:=4000000) (disch:=first|exact ddL|fail) only[go_sem,simprocAttr,Tryz.f315])
theorem PL(c:CA)(g:Int):aA Tryz.prog 326 [.cptr c.c,.int .u32 g] St.none (fun r _=>r=.bool false):=by
 refine(aA.body 5 [.tmp 4] Tryz.func326 rfl rfl rfl rfl ?_)
 repeat' (first|(with_reducible first|(refine wN fun _ hnl=>?_;revert hnl;(repeat refine wS fun _ _=>?_);intro hnl)|refine wE ?_|(refine wK ?_ ?_<;>intro h)|(refine wB ?_ ?_<;>intro h<;>simp only[h]))|simp(maxSteps:=4000000) (disch:=first|exact ddL|fail) only[go_sem,simprocAttr,Tryz.f326])
theorem PD(c:CA)(g:Int)(x:ND){n:Nat}(hx:x.n=n)(hn:n<32):aA Tryz.prog 316 [.cptr c.c,.int .u32 g,.cptr x.c] St.none (fun r _=>r=.bool (hasB c.lab.toNat x.n)):=by
 refine(aA.body 13 [.tmp 5] Tryz.func316 rfl rfl rfl rfl ?_)
 have h:=vO c.lab.toNat n c.lab.toNat_lt hn
 rw[hx]
 obtain⟨C,c1⟩:∃C:bP,∀ms,C 317 ms=some ⟨[],fun v=>v=.bool (hasB c.lab.toNat n),none⟩:=⟨fnF [(317,⟨[],fun v=>v=.bool (hasB c.lab.toNat n),none⟩)],fun _=>bN⟩
 repeat' (first|((with_reducible refine aJ mixed ?chk C ?_);(case chk=>decide +kernel))|(with_reducible refine aF (c1 _) h ?_)|(with_reducible first|(refine wN fun _ hnl=>?_;revert hnl;(repeat refine wS fun _ _=>?_);intro hnl)|refine wE ?_|(refine wK ?_ ?_<;>intro h)|(refine wB ?_ ?_<;>intro h<;>simp only[h]))|simp(maxSteps:=4000000) (disch:=first|exact ddL|fail) only[go_sem,simprocAttr,Tryz.f316,hx,FYs])
theorem PE(c:CA)(g:Nat)(hg:g<4294967296)(x:ND){n:Nat}(hx:x.n=n)(hn:n<32):aA Tryz.prog 318 [.cptr c.c,.int .u32 (g:Int),.cptr x.c] St.none (fun r _=>r=.bool (hasB g x.n)):=by
 refine(aA.body 10 [.tmp 5] Tryz.func318 rfl rfl rfl rfl ?_)
 have h:=vO g n hg hn
 rw[hx]
 repeat' (first|(with_reducible first|refine up h ?_)|(with_reducible first|(refine wN fun _ hnl=>?_;revert hnl;(repeat refine wS fun _ _=>?_);intro hnl)|refine wE ?_|(refine wK ?_ ?_<;>intro h)|(refine wB ?_ ?_<;>intro h<;>simp only[h]))|simp(maxSteps:=4000000) (disch:=first|exact ddL|fail) only[go_sem,simprocAttr,Tryz.f318,hx])
theorem PF(c:CA)(g:Int)(x:ND){k:Nat}(hx:x.n=k)(hk:k<8):aA Tryz.prog 319 [.cptr c.c,.int .u32 g,.cptr x.c] St.none (fun r _=>r=.bool (!decide ((c.f.get k).kd=0))):=by
 refine(aA.body 15 [.tmp 5] Tryz.func319 rfl rfl rfl rfl ?_)
 have hdr:(fc c.f).drop (k * 3)=.int .i64 (c.f.get k).kd::.int .i64 (c.f.get k).n::.str (c.f.get k).s::(fc c.f).drop ((k+1) * 3):=iA (f:=c.f) hk
 repeat' (first|(with_reducible first|(refine wN fun _ hnl=>?_;revert hnl;(repeat refine wS fun _ _=>?_);intro hnl)|refine wE ?_|(refine wK ?_ ?_<;>intro h)|(refine wB ?_ ?_<;>intro h<;>simp only[h]))|simp(maxSteps:=4000000) (disch:=first|exact ddL|fail) only[go_sem,simprocAttr,Tryz.f319,hx,FYs,hdr])
 all_goals first|done|(simp;done)|skip
theorem PH(c:CA)(g:Int)(x:ND){k:Nat}(hx:x.n=k)(hk:k<8):aA Tryz.prog 320 [.cptr c.c,.int .u32 g,.cptr x.c] St.none (fun r _=>r=.bool (decide (c.f.get k=x.v))):=by
 refine(aA.body 16 [.tmp 5] Tryz.func320 rfl rfl rfl rfl ?_)
 have hat:=p8 (f:=c.f) hk
 repeat' (first|(with_reducible first|(refine wN fun _ hnl=>?_;revert hnl;(repeat refine wS fun _ _=>?_);intro hnl)|refine wE ?_|(refine wK ?_ ?_<;>intro h)|(refine wB ?_ ?_<;>intro h<;>simp only[h]))|simp(maxSteps:=4000000) (disch:=first|exact ddL|fail) only[go_sem,simprocAttr,Tryz.f320,hx,FYs,hat])
 exact z7
theorem PI(c:CA)(g:Int)(x:ND){k:Nat}(hx:x.n=k)(hk:k<8):aA Tryz.prog 321 [.cptr c.c,.int .u32 g,.cptr x.c] St.none (fun r _=>r=.bool (hY (c.f.get k) x.v)):=by
 refine(aA.body 16 [.tmp 5] Tryz.func321 rfl rfl rfl rfl ?_)
 have hat:=p8 (f:=c.f) hk
 have h:=sR (c.f.get k) x.v
 obtain⟨C,c1⟩:∃C:bP,∀ms,C 322 ms=some ⟨[],fun v=>v=.bool (hY (c.f.get k) x.v),none⟩:=⟨fnF [(322,⟨[],fun v=>v=.bool (hY (c.f.get k) x.v),none⟩)],fun _=>bN⟩
 repeat' (first|((with_reducible refine aJ mixed ?chk C ?_);(case chk=>decide +kernel))|(with_reducible refine aF (c1 _) h ?_)|(with_reducible first|(refine wN fun _ hnl=>?_;revert hnl;(repeat refine wS fun _ _=>?_);intro hnl)|refine wE ?_|(refine wK ?_ ?_<;>intro h)|(refine wB ?_ ?_<;>intro h<;>simp only[h]))|simp(maxSteps:=4000000) (disch:=first|exact ddL|fail) only[go_sem,simprocAttr,Tryz.f321,hx,FYs,hat])
theorem PJ(c:CA)(g:Int)(x:ND){k:Nat}(hx:x.n=k)(hk:k<8):aA Tryz.prog 323 [.cptr c.c,.int .u32 g,.cptr x.c] St.none (fun r _=>r=.bool (hY x.v (c.f.get k))):=by
 refine(aA.body 16 [.tmp 5] Tryz.func323 rfl rfl rfl rfl ?_)
 have hat:=p8 (f:=c.f) hk
 have h:=sR x.v (c.f.get k)
 obtain⟨C,c1⟩:∃C:bP,∀ms,C 322 ms=some ⟨[],fun v=>v=.bool (hY x.v (c.f.get k)),none⟩:=⟨fnF [(322,⟨[],fun v=>v=.bool (hY x.v (c.f.get k)),none⟩)],fun _=>bN⟩
 repeat' (first|((with_reducible refine aJ mixed ?chk C ?_);(case chk=>decide +kernel))|(with_reducible refine aF (c1 _) h ?_)|(with_reducible first|(refine wN fun _ hnl=>?_;revert hnl;(repeat refine wS fun _ _=>?_);intro hnl)|refine wE ?_|(refine wK ?_ ?_<;>intro h)|(refine wB ?_ ?_<;>intro h<;>simp only[h]))|simp(maxSteps:=4000000) (disch:=first|exact ddL|fail) only[go_sem,simprocAttr,Tryz.f323,hx,FYs,hat])
theorem PK(c:CA)(g:Int)(x:ND){k:Nat}(hx:x.n=k)(hk:k<8)(h1:(c.f.get k).s.size≤1000000)(h2:x.v.s.size≤1000000):aA Tryz.prog 324 [.cptr c.c,.int .u32 g,.cptr x.c] St.none (fun r _=>r=.bool (jA (c.f.get k) x.v)):=by
 refine(aA.body 16 [.tmp 5] Tryz.func324 rfl rfl rfl rfl ?_)
 have hat:=p8 (f:=c.f) hk
 have h:=CZ (c.f.get k) x.v h1 h2
 obtain⟨C,c1⟩:∃C:bP,∀ms,C 325 ms=some ⟨[],fun v=>v=.bool (jA (c.f.get k) x.v),none⟩:=⟨fnF [(325,⟨[],fun v=>v=.bool (jA (c.f.get k) x.v),none⟩)],fun _=>bN⟩
 repeat' (first|((with_reducible refine aJ mixed ?chk C ?_);(case chk=>decide +kernel))|(with_reducible refine aF (c1 _) h ?_)|(with_reducible first|(refine wN fun _ hnl=>?_;revert hnl;(repeat refine wS fun _ _=>?_);intro hnl)|refine wE ?_|(refine wK ?_ ?_<;>intro h)|(refine wB ?_ ?_<;>intro h<;>simp only[h]))|simp(maxSteps:=4000000) (disch:=first|exact ddL|fail) only[go_sem,simprocAttr,Tryz.f324,hx,FYs,hat])
theorem PM(c:CA)(hc:∀k,(c.f.get k).s.size≤1000000)(g:Nat)(hg:g<4294967296)(x:ND)(hx:eN x=true):aA Tryz.prog (Cb x.op) ([.cptr c.c,.int .u32 (g:Int)]++Ca x) St.none (fun r _=>r=.bool (cB (oE c) g x)):=by
 have hxs:=zN hx
 have ho:x.op=1∨x.op=3∨x.op=4∨x.op=5∨x.op=6∨x.op=7∨x.op=8∨x.op=9∨(¬x.op=1∧¬x.op=3∧¬x.op=4∧¬x.op=5∧¬x.op=6∧¬x.op=7∧¬x.op=8∧¬x.op=9):=by omega
 have hn:3≤x.op→x.op≤9→0≤x.n∧x.n<16∧(5≤x.op→x.n<8):=fun h1 h2=>by
  have h:=hx
  have e:x.op=3∨x.op=4∨x.op=5∨x.op=6∨x.op=7∨x.op=8∨x.op=9:=by omega
  rcases e with e|e|e|e|e|e|e<;>simp[eN,e] at h<;>omega
 have hnat:3≤x.op→x.op≤9→∃k:Nat,x.n=k∧k<16∧(5≤x.op→k<8):=fun h1 h2=>by
  obtain⟨q1,q2,q3⟩:=hn h1 h2
  exact⟨x.n.toNat,by omega,by omega,fun h=>by have:=q3 h;omega⟩
 unfold Cb Ca cB
 rcases ho with h|h|h|h|h|h|h|h|⟨h1,h3,h4,h5,h6,h7,h8,h9⟩
 ·simp(config:={ decide:=true }) only[h,if_true,if_false]
  exact Pz c g
 ·obtain⟨k,e,h16,_⟩:=hnat (by omega) (by omega)
  simp(config:={ decide:=true }) only[h,if_true,if_false]
  exact PD c g x e (by omega)
 ·obtain⟨k,e,h16,_⟩:=hnat (by omega) (by omega)
  simp(config:={ decide:=true }) only[h,if_true,if_false]
  exact PE c g hg x e (by omega)
 ·obtain⟨k,e,_,h8⟩:=hnat (by omega) (by omega)
  simp(config:={ decide:=true }) only[h,if_true,if_false]
  have:=PF c g x e (h8 (by omega))
  rw[show x.n.toNat=k by omega]
  exact this
 ·obtain⟨k,e,_,h8⟩:=hnat (by omega) (by omega)
  simp(config:={ decide:=true }) only[h,if_true,if_false]
  have:=PH c g x e (h8 (by omega))
  rw[show x.n.toNat=k by omega]
  exact this
 ·obtain⟨k,e,_,h8⟩:=hnat (by omega) (by omega)
  simp(config:={ decide:=true }) only[h,if_true,if_false]
  have:=PI c g x e (h8 (by omega))
  rw[show x.n.toNat=k by omega]
  exact this
 ·obtain⟨k,e,_,h8⟩:=hnat (by omega) (by omega)
  simp(config:={ decide:=true }) only[h,if_true,if_false]
  have:=PJ c g x e (h8 (by omega))
  rw[show x.n.toNat=k by omega]
  exact this
 ·obtain⟨k,e,_,h8⟩:=hnat (by omega) (by omega)
  simp(config:={ decide:=true }) only[h,if_true,if_false]
  have:=PK c g x e (h8 (by omega)) (hc k) hxs
  rw[show x.n.toNat=k by omega]
  exact this
 ·rw[if_neg h1,if_neg h3,if_neg h4,if_neg h5,if_neg h6,if_neg h7,if_neg h8,if_neg h9,if_neg (by omega),if_neg h1,if_neg h3,if_neg h4,if_neg h5,if_neg h6,if_neg h7,if_neg h8,if_neg h9]
  exact PL c g
end

section
def fP:Int→List Int→Bool
 | _,[]=>true
 | last,x::l=>decide (last<x∧1≤x∧x<eD)&&fP x l
def dQ:Int→List GR→Bool
 | _,[]=>true
 | last,g::l=>decide (last<g.no∧0≤g.no∧g.no<16)&&fP 0 g.mem&&dQ g.no l
def cG(a b:List Int):List Int:=a.filter fun x=>!decide (x∈b)
def grF(id:Int)(s:Nat)(g:GR):Nat:=if id∈g.mem then s ||| 2 ^ g.no.toNat else s
def grB(l:List GR)(id:Int):Nat:=l.foldl (grF id) 0
def dO(nx:Int):Int→List CA→Bool
 | _,[]=>true
 | last,c::l=>cX c&&decide (last<c.id∧c.id<nx)&&dO nx c.id l
def JY(nx:Int)(cs:List CA)(pre:List DE)(d:DE):Bool :=
 decide (1≤d.id∧d.id<nx∧1≤d.ver∧d.ver≤big∧0≤d.sq∧d.sq≤big)&&decide (d.id∉cs.map CA.id)&&pre.all fun e=>decide (e.id≠d.id∧e.sq≤d.sq)
def fX(nx:Int)(cs:List CA):List DE→List DE→Bool
 | _,[]=>true
 | pre,d::l=>JY nx cs pre d&&fX nx cs (pre++[d]) l
def oH(nx:Int)(cs:List CA)(ds:List DE):Bool :=
 decide (1≤nx∧nx≤eD∧cs.length≤48∧ds.length≤40)&&(dO nx 0 cs&&fX nx cs [] ds)
def iQ(b:BK):Bool :=
 oH b.nx b.cards b.dead&&decide (0≤b.sq∧b.sq≤big)&&dQ (-1) b.gr&&(b.dead.all fun d=>decide (d.sq≤b.sq))&&b.gr.all fun g=>decide (cG g.mem (b.cards.map CA.id)=[])
def jC(f:F8)(m:Nat):Nat→F8
 | 0=>f80
 | i+1=>if bit m i=true then(jC f m i).set i (f.get i) else jC f m i
def Oh(f:F8)(m:Nat):F8:=jC f m 8
def cW(c:CA)(m:UInt32):CA:=⟨c.id,c.ver,if bit m.toNat 8=true then c.lab else 0,Oh c.f m.toNat⟩
def xC(t:TU):Bool :=
 decide (1≤t.sq∧t.sq≤big∧1≤t.id∧t.id<eD∧0≤t.old∧t.old≤big∧0≤t.new∧t.new≤big∧t.old≠t.new)&&if t.new=0 then decide (t.card=ca0) else cX t.card&&decide (t.card.id=t.id∧t.card.ver=t.new)
def cQ:List TU→Int→Option Int
 | [],_=>none
 | t::l,id=>match cQ l id with
  | some v=>some v
  | none=>if t.id=id then some t.new else none
def oX:List TU→Int
 | []=>0
 | [t]=>t.sq
 | _::t::l=>oX (t::l)
def FP(pre:List TU)(t:TU):Bool:=xC t&&decide (oX pre<t.sq)&&decide ((cQ pre t.id).getD t.old=t.old)
def eY:List TU→List TU→Bool
 | _,[]=>true
 | pre,t::l=>FP pre t&&eY (pre++[t]) l
open Classical in
noncomputable def sE(fl:List ND):T:=if h:∃t:T,Good t∧fl=t.fl then h.choose else .leaf nd0
noncomputable def eV(gr:List GR)(fl:List ND)(c:CA):Bool:=(sE fl).sem (cB (oE c) (grB gr c.id))
noncomputable def shown(b:BK)(fl:List ND)(id:Int):Option CA :=
 match b.cards.find? (fun c=>decide (c.id=id)) with
 | none=>none
 | some c=>if eV b.gr fl c=true then some c else none
noncomputable def nL(b:BK)(fl:List ND)(id:Int):Int:=((shown b fl id).getD ca0).ver
noncomputable def fZ(b:BK)(fl:List ND)(m:UInt32)(cur:Int):List CA:=(b.cards.filter fun c=>decide (c.id≤cur)&&eV b.gr fl c).map fun c=>cW c m
noncomputable def Eo(b:BK)(fl:List ND):List Int:=(b.cards.filter (eV b.gr fl)).map CA.id
noncomputable def zI(b:BK)(fl:List ND)(m:UInt32)(log:List TU):Bool :=
 (List.range log.length).all fun i=>decide (cW (log.getD i tuZ).card m=(log.getD i tuZ).card)&&(decide ((cQ (log.drop (i+1)) (log.getD i tuZ).id)≠none) || decide (nL b fl (log.getD i tuZ).id=(log.getD i tuZ).new))
noncomputable def dI(b:BK)(fl:List ND)(m:UInt32)(floor:Int)(log:List TU):Bool :=
 decide (bM fl=0)&&decide (m.toNat≤511)&&decide (0≤floor∧floor≤b.sq∧log.length≤40)&&eY [] log&&decide (log≠[]→floor<(log.getD 0 tuZ).sq∧(log.getD (log.length - 1) tuZ).sq≤b.sq)&&zI b fl m log
noncomputable def tB(b:BK)(x:SU):Bool:=decide (1≤x.ep∧x.ep≤big∧x.dev<6)&&dI b x.fl x.mask x.floor x.log&&decide (x.mem=Eo b x.fl)
noncomputable def cP(b:BK):Int→List SU→Bool
 | _,[]=>true
 | last,x::l=>decide (last<x.dev)&&tB b x&&cP b x.dev l
noncomputable def fO(s:SA):Int :=
 if iQ s.bk=false then 1 else if s.subs.length > 4∨cP s.bk (-1) s.subs=false then 2 else if cE s.rows=false then 3
 else if (s.subs.all fun x=>decide ((s.rows.getD x.dev.toNat rwZ).ep=x.ep))=false then 4 else 0
noncomputable def jT(s:SA)(dev:Int):List CA :=
 match s.subs.find? (fun x=>decide (x.dev=dev)) with
 | none=>[]
 | some x=>fZ s.bk x.fl x.mask eD
theorem tW{fl:List ND}(h:bM fl=0):Good (sE fl)∧(sE fl).fl=fl∧fl.length≤31:=by
 obtain⟨h1,h2,h3,h4,h5⟩:=(C4 fl).1 h
 have hf:ML fl=true:=by
  unfold ML
  rw[h4,decide_eq_true h3,decide_eq_true ⟨h2,by omega⟩]
  rfl
 obtain⟨t,ok,e,_,hn⟩:=J1 hf
 have hex:∃t:T,Good t∧fl=t.fl:=⟨t,⟨ok,fun x hx=>hn x (by rw[e];exact hx)⟩,e⟩
 unfold sE
 rw[dif_pos hex]
 exact⟨hex.choose_spec.1,hex.choose_spec.2.symm,h1⟩
theorem Gq{id:Int}:∀(pre:List GR) (g:GR) (r:List GR) (lo:Int) (s:Nat),-1≤lo→s<2 ^ (lo+1).toNat→dQ lo (pre++g::r)=true→pre.foldl (grF id) s<2 ^ g.no.toNat
 | [],g,r,lo,s,h0,hs,h=>by
  simp only[List.nil_append,dQ,Bool.and_eq_true,decide_eq_true_eq] at h
  exact Nat.lt_of_lt_of_le hs (Nat.pow_le_pow_right (by omega) (by omega))
 | x::pre,g,r,lo,s,h0,hs,h=>by
  simp only[List.cons_append,dQ,Bool.and_eq_true,decide_eq_true_eq] at h
  obtain⟨⟨⟨h1,h2,h3⟩,h4⟩,h5⟩:=h
  rw[List.foldl_cons]
  refine Gq pre g r x.no _ (by omega) ?_ h5
  have hlt:s<2 ^ x.no.toNat:=Nat.lt_of_lt_of_le hs (Nat.pow_le_pow_right (by omega) (by omega))
  have e:(x.no+1).toNat=x.no.toNat+1:=by omega
  rw[e]
  have hp:2 ^ x.no.toNat<2 ^ (x.no.toNat+1):=Nat.pow_lt_pow_right (by omega) (by omega)
  unfold grF
  split
  ·exact Nat.or_lt_two_pow (by omega) hp
  ·omega
theorem BV:∀(pre:List GR) (g:GR) (r:List GR) (lo:Int),dQ lo (pre++g::r)=true→0≤g.no∧g.no<16∧fP 0 g.mem=true
 | [],g,r,lo,h=>by
  simp only[List.nil_append,dQ,Bool.and_eq_true,decide_eq_true_eq] at h
  exact⟨h.1.1.2.1,h.1.1.2.2,h.1.2⟩
 | x::pre,g,r,lo,h=>by
  simp only[List.cons_append,dQ,Bool.and_eq_true,decide_eq_true_eq] at h
  exact BV pre g r x.no h.2
theorem gX{α:Type}(l:List α){i:Nat}{x:α}(h:l[i]?=some x):l=l.take i++x::l.drop (i+1):=by
 have hi:i<l.length:=(List.getElem?_eq_some_iff.1 h).1
 have e:=(List.getElem?_eq_some_iff.1 h).2
 conv=>lhs;rw[←List.take_append_drop i l,List.drop_eq_getElem_cons hi,e]
theorem aO{α:Type}{l:List α}{i:Nat}{x:α}(h:l[i]?=some x):l.take (i+1)=l.take i++[x]:=by
 rw[List.take_add_one,h];rfl
theorem cY{α:Type}{l:List α}{i:Nat}{x:α}(h:l[i]?=some x):l.drop i=x::l.drop (i+1):=by
 have hi:i<l.length:=(List.getElem?_eq_some_iff.1 h).1
 have e:=(List.getElem?_eq_some_iff.1 h).2
 rw[List.drop_eq_getElem_cons hi,e]
theorem Aw{l:List GR}(h:dQ (-1) l=true){i:Nat}{g:GR}(hi:l[i]?=some g)(id:Int):grB (l.take i) id<2 ^ g.no.toNat∧0≤g.no∧g.no<16∧fP 0 g.mem=true:=by
 rw[gX l hi] at h
 exact⟨Gq _ g _ (-1) 0 (by omega) (by simp) h,BV _ g _ _ h⟩
theorem uR{l:List GR}{i:Nat}{g:GR}(hi:l[i]?=some g)(id:Int):grB (l.take (i+1)) id=grF id (grB (l.take i) id) g:=by
 rw[aO hi,grB,List.foldl_append];rfl
theorem aV{α:Type}{l:List α}{f:α→List MV}{i:Nat}{x:α}(h:l[i]?=some x):(l.map f).getD i []=f x:=by
 rw[List.getD_eq_getElem?_getD,List.getElem?_map,h];rfl
theorem bC{α:Type}(l:List α){i:Nat}(h:i<l.length):∃x,l[i]?=some x:=⟨_,List.getElem?_eq_getElem h⟩
theorem Ka{l:List Int}{i:Nat}{x:Int}(h:l[i]?=some x)(hn:x∉l.take i):l.idxOf x=i:=by
 have hi:i<l.length:=(List.getElem?_eq_some_iff.1 h).1
 rw[gX l h,List.idxOf_append,if_neg hn,List.idxOf_cons_self,List.length_take]
 omega
def gE(l:List Int)(x:Int):Int:=if x∈l then(l.idxOf x:Int) else -1
theorem vQ{l:List Int}{x:Int}:(gE l x<0)=(x∉l):=propext (by unfold gE;split<;>simp[*])
theorem bR{α:Type}{l:List α}{i:Nat}{x:α}(h:l[i]?=some x):x∈l:=List.mem_of_getElem? h
theorem fM{α:Type}{l:List α}{f:α→Int}{i:Nat}{x:α}(h:l[i]?=some x):(l.map f)[i]?=some (f x):=by rw[List.getElem?_map,h];rfl
theorem iR{nx:Int}:∀{last:Int} {l:List CA},dO nx last l=true→(∀c,c∈l→cX c=true∧last<c.id∧c.id<nx)∧l.Pairwise (fun a b=>a.id<b.id)
 | _,[],_=>⟨by simp,.nil⟩
 | last,x::l,h=>by
  simp only[dO,Bool.and_eq_true,decide_eq_true_eq] at h
  obtain⟨⟨h1,h2,h3⟩,h4⟩:=h
  obtain⟨i1,i2⟩:=iR h4
  refine⟨fun c hc=>?_,List.pairwise_cons.2 ⟨fun c hc=>(i1 c hc).2.1,i2⟩⟩
  rcases List.mem_cons.1 hc with rfl|hc
  ·exact⟨h1,h2,h3⟩
  ·obtain⟨a,b,c'⟩:=i1 c hc
   exact⟨a,by omega,c'⟩
structure BkR (b:BK):Prop where
 nx1:1≤b.nx
 nx2:b.nx≤1073741824
 nc:b.cards.length≤48
 nd:b.dead.length≤40
 cok:dO b.nx 0 b.cards=true
 dok:fX b.nx b.cards [] b.dead=true
 sq1:0≤b.sq
 sq2:b.sq≤1099511627776
 gok:dQ (-1) b.gr=true
theorem pY{b:BK}(h:iQ b=true):BkR b:=by
 unfold iQ oH big eD at h
 simp only[Bool.and_eq_true,decide_eq_true_eq] at h
 obtain⟨⟨⟨⟨⟨⟨h1,h2,h3,h4⟩,h5,h6⟩,h7,h8⟩,h9⟩,-⟩,-⟩:=h
 exact⟨h1,h2,h3,h4,h5,h6,h7,h8,h9⟩
theorem pX{b:BK}(h:BkR b){c:CA}(hc:c∈b.cards):cX c=true∧0<c.id∧c.id<1073741824:=by
 obtain⟨h1,h2,h3⟩:=(iR h.cok).1 c hc
 exact⟨h1,h2,by have:=h.nx2;omega⟩
theorem uE{c:CA}(h:cX c=true):∀v,v∈c.f.l→v.s.size≤1000000:=fun v hv=>by
 unfold cX at h
 rw[Bool.and_eq_true] at h
 exact pR (List.all_eq_true.1 h.2 v hv)
theorem Gp{gr:List GR}(h:dQ (-1) gr=true)(id:Int):grB gr id<65536:=by
 have hlast:∀i,i≤gr.length→grB (gr.take i) id<65536:=fun i hi=>by
  cases i with
  | zero=>simp[grB]
  | succ i =>
   obtain⟨g,hg⟩:=bC gr (by omega:i<gr.length)
   obtain⟨h1,h2,h3,_⟩:=Aw h hg id
   rw[uR hg]
   have e:2 ^ g.no.toNat<2 ^ 16:=Nat.pow_lt_pow_right (by omega) (by omega)
   unfold grF
   split
   ·exact Nat.or_lt_two_pow (n:=16) (Nat.lt_trans h1 e) e
   ·exact Nat.lt_trans h1 e
 have:=hlast gr.length (Nat.le_refl _)
 rwa [List.take_length] at this
theorem Hq{l:List CA}{id:Int}{i:Nat}(h:∀c,c∈l.take i→c.id≠id){c:CA}(hc:l[i]?=some c)(he:c.id=id):l.find? (fun c=>decide (c.id=id))=some c:=by
 rw[gX l hc,List.find?_append]
 have:(l.take i).find? (fun c=>decide (c.id=id))=none:=List.find?_eq_none.2 fun x hx=>by simpa using h x hx
 rw[this]
 simp[he]
end

section
set_option maxRecDepth 100000
set_option maxHeartbeats 4000000
theorem dW{σ:St}{q:Nat}{t:TypeId}{e n:Nat}{xs ex:List (List MV)}(hq:σ q=some (.row t e (xs++ex)))(hn:n=xs.length):View σ (.vec e q 0 n) (.lst e xs false):=by
 subst hn
 have:=View.vec (σ:=σ) (lo:=0) (n:=xs.length) hq (by rw[List.length_append];omega)
 rw[List.drop_zero,List.take_left] at this
 exact this
def bY(l:List Int)(i:Nat)(z:Int):Int:=if i=0 then z else l.getD (i - 1) 0
theorem eM{l:List Int}{i:Nat}{x z:Int}(h:l[i]?=some x):bY l (i+1) z=x:=by
 unfold bY
 rw[if_neg (by omega),Nat.add_sub_cancel,List.getD_eq_getElem?_getD,h];rfl
theorem qP{α:Type}{l:List α}{i:Nat}(hi:i≤l.length)(h0:0<i):∃y,l[i - 1]?=some y:=bC l (by omega)
theorem I9(l:List Int)(tt:Bool)(hl:l.length≤1000000):aA Tryz.prog 111 [.lst 1 (l.map aR) tt] St.none (fun r _=>r=.bool (fP 0 l)):=by
 refine aA.bF (aA.body 38 [.tmp 2] Tryz.func111 rfl rfl rfl rfl ?_)
 repeat' (first|(with_reducible first|(refine wN fun _ hnl=>?_;revert hnl;(repeat refine wS fun _ _=>?_);intro hnl)|refine wE ?_|(refine wK ?_ ?_<;>intro h)|(refine wB ?_ ?_<;>intro h<;>simp only[h]))|simp(maxSteps:=4000000) (disch:=first|decide|assumption|omega|(simp only[wL];omega)) only[go_sem,simprocAttr,Tryz.f111])
 refine aD (α:=Nat) (fun i=>⟨38,[(3,.int .i64 (i:Int)),(0,.lst 1 (l.map aR) tt)],[]⟩) (fun _=>St.none) (fun i=>i≤l.length∧fP 0 l=fP (bY l i 0) (l.drop i)) (fun i=>l.length - i) (.of (.less ?_ (St.le_refl _)) ⟨0,rfl,rfl,Nat.zero_le _,rfl⟩) ?_
 ·simp(maxSteps:=4000000) (disch:=first|decide|assumption|omega|(simp only[wL];omega)) only[go_sem,simprocAttr,aC,aB]
  all_goals rfl
 ·rintro i ⟨hi,hq⟩
  by_cases hlt:i<l.length
  ·obtain⟨x,hx⟩:=bC l hlt
   rw[cY hx,fP] at hq
   have hat:=aV (f:=aR) hx
   have hnext:=eM hx (z:=0)
   have hto:((i:Int) - 1).toNat=i - 1:=by omega
   have hl0:i=0→bY l i 0=0:=fun h=>if_pos h
   have hl1:0<i→∃y,(l.map aR).getD (i - 1) []=aR y∧bY l i 0=y:=fun h=>by
    obtain⟨y,hy⟩:=qP hi h
    refine⟨y,aV hy,?_⟩
    unfold bY
    rw[if_neg (by omega),List.getD_eq_getElem?_getD,hy];rfl
   obtain⟨last,hlast⟩:∃k,bY l i 0=k:=⟨_,rfl⟩
   obtain⟨res,hres⟩:∃b,fP 0 l=b:=⟨_,rfl⟩
   rw[hlast] at hq hl0 hl1
   unfold eD at hq
   rw[hres] at hq ⊢
   by_cases hr:last<x∧1≤x∧x<1073741824
   ·rw[decide_eq_true hr,Bool.true_and] at hq
    obtain⟨hr1,hr2,hr3⟩:=hr
    rcases Nat.eq_zero_or_pos i with hi0|hi0
    ·repeat' (first|(with_reducible first|(refine wN fun _ hnl=>?_;revert hnl;(repeat refine wS fun _ _=>?_);intro hnl)|refine wE ?_|(refine wK ?_ ?_<;>intro h)|(refine wB ?_ ?_<;>intro h<;>simp only[h]))|simp(maxSteps:=4000000) (disch:=first|decide|assumption|omega|(simp only[wL];omega)) only[go_sem,simprocAttr,hat,hto])
     all_goals (try (exfalso;omega))
     all_goals
      refine .of (.less ?_ (St.none_le _)) ⟨i+1,rfl,rfl,⟨by omega,by rw[hnext];exact hq⟩,by omega⟩
      simp(maxSteps:=4000000) (disch:=first|decide|assumption|omega|(simp only[wL];omega)) only[go_sem,simprocAttr,aC,aB]
      all_goals rfl
    ·obtain⟨y,hy,hly⟩:=hl1 hi0
     repeat' (first|(with_reducible first|(refine wN fun _ hnl=>?_;revert hnl;(repeat refine wS fun _ _=>?_);intro hnl)|refine wE ?_|(refine wK ?_ ?_<;>intro h)|(refine wB ?_ ?_<;>intro h<;>simp only[h]))|simp(maxSteps:=4000000) (disch:=first|decide|assumption|omega|(simp only[wL];omega)) only[go_sem,simprocAttr,hat,hto,hy])
     all_goals (try (exfalso;omega))
     all_goals
      refine .of (.less ?_ (St.none_le _)) ⟨i+1,rfl,rfl,⟨by omega,by rw[hnext];exact hq⟩,by omega⟩
      simp(maxSteps:=4000000) (disch:=first|decide|assumption|omega|(simp only[wL];omega)) only[go_sem,simprocAttr,aC,aB]
      all_goals rfl
   ·rw[decide_eq_false hr,Bool.false_and] at hq
    rw[hq]
    rcases Nat.eq_zero_or_pos i with hi0|hi0
    ·have:=hl0 hi0
     repeat' (first|(with_reducible first|(refine wN fun _ hnl=>?_;revert hnl;(repeat refine wS fun _ _=>?_);intro hnl)|refine wE ?_|(refine wK ?_ ?_<;>intro h)|(refine wB ?_ ?_<;>intro h<;>simp only[h]))|simp(maxSteps:=4000000) (disch:=first|decide|assumption|omega|(simp only[wL];omega)) only[go_sem,simprocAttr,hat,hto])
     all_goals first|exact⟨_,St.le_refl _,rfl⟩|exact⟨_,St.le_refl _⟩|(exfalso;omega)
    ·obtain⟨y,hy,hly⟩:=hl1 hi0
     repeat' (first|(with_reducible first|(refine wN fun _ hnl=>?_;revert hnl;(repeat refine wS fun _ _=>?_);intro hnl)|refine wE ?_|(refine wK ?_ ?_<;>intro h)|(refine wB ?_ ?_<;>intro h<;>simp only[h]))|simp(maxSteps:=4000000) (disch:=first|decide|assumption|omega|(simp only[wL];omega)) only[go_sem,simprocAttr,hat,hto,hy])
     all_goals first|exact⟨_,St.le_refl _,rfl⟩|exact⟨_,St.le_refl _⟩|(exfalso;omega)
  ·have:i=l.length:=by omega
   subst this
   rw[hq,List.drop_length,fP]
   repeat' (first|(with_reducible first|(refine wN fun _ hnl=>?_;revert hnl;(repeat refine wS fun _ _=>?_);intro hnl)|refine wE ?_|(refine wK ?_ ?_<;>intro h)|(refine wB ?_ ?_<;>intro h<;>simp only[h]))|simp(maxSteps:=4000000) (disch:=first|decide|assumption|omega|(simp only[wL];omega)) only[go_sem,simprocAttr])
   all_goals first|exact⟨_,St.le_refl _,rfl⟩|exact⟨_,St.le_refl _⟩
theorem sV(l:List Int)(tt:Bool)(hl:l.length≤1000000)(x:Int):aA Tryz.prog 118 [.lst 1 (l.map aR) tt,.int .i64 x] St.none (fun r _=>r=.bool (decide (x∈l))):=by
 refine aA.bF (aA.body 18 [.tmp 4] Tryz.func118 rfl rfl rfl rfl ?_)
 repeat' (first|(with_reducible first|(refine wN fun _ hnl=>?_;revert hnl;(repeat refine wS fun _ _=>?_);intro hnl)|refine wE ?_|(refine wK ?_ ?_<;>intro h)|(refine wB ?_ ?_<;>intro h<;>simp only[h]))|simp(maxSteps:=4000000) (disch:=first|decide|assumption|omega|(simp only[wL];omega)) only[go_sem,simprocAttr,Tryz.f118])
 refine aD (α:=Nat) (fun i=>⟨18,[(5,.int .i64 (i:Int)),(0,.lst 1 (l.map aR) tt),(1,.int .i64 x)],[]⟩) (fun _=>St.none) (fun i=>i≤l.length∧x∉l.take i) (fun i=>l.length - i) (.of (.less ?_ (St.le_refl _)) ⟨0,rfl,rfl,Nat.zero_le _,by simp⟩) ?_
 ·simp(maxSteps:=4000000) (disch:=first|decide|assumption|omega|(simp only[wL];omega)) only[go_sem,simprocAttr,aC,aB]
  all_goals rfl
 ·rintro i ⟨hi,hq⟩
  by_cases hlt:i<l.length
  ·obtain⟨y,hy⟩:=bC l hlt
   have hat:=aV (f:=aR) hy
   have hmem:=List.mem_of_getElem? hy
   have hnext:x≠y→x∉l.take (i+1):=fun h=>by
    rw[aO hy,List.mem_append,List.mem_singleton]
    exact not_or.2 ⟨hq,h⟩
   by_cases he:y=x
   ·subst he
    rw[decide_eq_true hmem]
    repeat' (first|(with_reducible first|(refine wN fun _ hnl=>?_;revert hnl;(repeat refine wS fun _ _=>?_);intro hnl)|refine wE ?_|(refine wK ?_ ?_<;>intro h)|(refine wB ?_ ?_<;>intro h<;>simp only[h]))|simp(maxSteps:=4000000) (disch:=first|decide|assumption|omega|(simp only[wL];omega)) only[go_sem,simprocAttr,hat])
    all_goals first|exact⟨_,St.le_refl _,rfl⟩|exact⟨_,St.le_refl _⟩
   ·repeat' (first|(with_reducible first|(refine wN fun _ hnl=>?_;revert hnl;(repeat refine wS fun _ _=>?_);intro hnl)|refine wE ?_|(refine wK ?_ ?_<;>intro h)|(refine wB ?_ ?_<;>intro h<;>simp only[h]))|simp(maxSteps:=4000000) (disch:=first|decide|assumption|omega|(simp only[wL];omega)) only[go_sem,simprocAttr,hat])
    all_goals (try (exfalso;omega))
    all_goals
     refine .of (.less ?_ (St.none_le _)) ⟨i+1,rfl,rfl,⟨by omega,hnext (Ne.symm he)⟩,by omega⟩
     simp(maxSteps:=4000000) (disch:=first|decide|assumption|omega|(simp only[wL];omega)) only[go_sem,simprocAttr,aC,aB]
     all_goals rfl
  ·have:i=l.length:=by omega
   subst this
   rw[List.take_length] at hq
   rw[decide_eq_false hq]
   repeat' (first|(with_reducible first|(refine wN fun _ hnl=>?_;revert hnl;(repeat refine wS fun _ _=>?_);intro hnl)|refine wE ?_|(refine wK ?_ ?_<;>intro h)|(refine wB ?_ ?_<;>intro h<;>simp only[h]))|simp(maxSteps:=4000000) (disch:=first|decide|assumption|omega|(simp only[wL];omega)) only[go_sem,simprocAttr])
   all_goals first|exact⟨_,St.le_refl _,rfl⟩|exact⟨_,St.le_refl _⟩
theorem Ct{a b:List Int}{i:Nat}{x:Int}(h:a[i]?=some x):cG (a.take (i+1)) b=cG (a.take i) b++if x∈b then[] else[x]:=by
 unfold cG
 rw[aO h,List.filter_append,List.filter_cons]
 by_cases hb:x∈b<;>simp[hb]
theorem ET(a b:List Int):(cG a b).length≤a.length:=List.length_filter_le _ _
theorem Dc(a b:List Int)(ta tb:Bool)(ha:a.length≤1000000)(hb:b.length≤1000000):aA Tryz.prog 157 [.lst 1 (a.map aR) ta,.lst 1 (b.map aR) tb] St.none (fun r _=>r=.lst 1 ((cG a b).map aR) false):=by
 refine aA.seen (aA.body 29 [.tmp 4] Tryz.func157 rfl rfl rfl rfl ?_)
 repeat' (first|(with_reducible first|(refine wT ?_;(first|((fail_if_success (have:=nl1));refine wN fun nl1 hnl=>?_)|((fail_if_success (have:=nl2));refine wN fun nl2 hnl=>?_)|((fail_if_success (have:=nl3));refine wN fun nl3 hnl=>?_)|refine wN fun _ hnl=>?_);revert hnl;(repeat refine wS fun _ _=>?_);intro hnl)|refine wE ?_|(refine wK ?_ ?_<;>intro h)|(refine wB ?_ ?_<;>intro h<;>simp only[h]))|simp(maxSteps:=4000000) (disch:=first|decide|assumption|omega|(simp only[wL];omega)) only[go_sem,simprocAttr,Tryz.f157])
 refine aD (α:=Nat × Nat × List (List MV)) (fun s=>⟨29,[(6,.int .i64 (s.1:Int)),(5,.vec 1 s.2.1 0 (cG (a.take s.1) b).length),(0,.lst 1 (a.map aR) ta),(1,.lst 1 (b.map aR) tb)],[]⟩)
  (fun s=>St.none.set s.2.1 (.row 3 1 ((cG (a.take s.1) b).map aR++s.2.2))) (fun s=>s.1≤a.length) (fun s=>a.length - s.1) ?_ ?_
 ·refine .of (.less ?_ (St.le_refl _)) ⟨(0,nl1,[]),rfl,by simp[cG],Nat.zero_le _⟩
  simp(maxSteps:=4000000) (disch:=first|decide|assumption|omega|(simp only[wL];omega)) only[go_sem,simprocAttr,aC,aB]
  all_goals first|rfl|(simp[cG,aB];done)
 ·rintro⟨i,q,ex⟩ hi
  simp only at hi ⊢
  by_cases hlt:i<a.length
  ·obtain⟨x,hx⟩:=bC a hlt
   have hat:=aV (f:=aR) hx
   have hh:=sV b tb hb x
   have hsn:=Ct (b:=b) hx
   have hml:=ET (a.take i) b
   have htl:(a.take i).length=i:=by rw[List.length_take];omega
   rw[htl] at hml
   by_cases hm:x∈b
   ·rw[decide_eq_true hm] at hh
    rw[if_pos hm,List.append_nil] at hsn
    rw[←hsn]
    repeat' (first|(with_reducible first|refine up hh ?_)|(with_reducible first|(refine wT ?_;(first|((fail_if_success (have:=nl1));refine wN fun nl1 hnl=>?_)|((fail_if_success (have:=nl2));refine wN fun nl2 hnl=>?_)|((fail_if_success (have:=nl3));refine wN fun nl3 hnl=>?_)|refine wN fun _ hnl=>?_);revert hnl;(repeat refine wS fun _ _=>?_);intro hnl)|refine wE ?_|(refine wK ?_ ?_<;>intro h)|(refine wB ?_ ?_<;>intro h<;>simp only[h]))|simp(maxSteps:=4000000) (disch:=first|decide|assumption|omega|(simp only[wL];omega)) only[go_sem,simprocAttr,hat])
    refine .of (.less ?_ (St.le_refl _)) ⟨(i+1,q,ex),rfl,rfl,by simp only;omega,by simp only;omega⟩
    simp(maxSteps:=4000000) (disch:=first|decide|assumption|omega|(simp only[wL];omega)) only[go_sem,simprocAttr,aC,aB]
    all_goals first|rfl|(simp;done)
   ·rw[decide_eq_false hm] at hh
    rw[if_neg hm] at hsn
    obtain⟨L,hL⟩:∃L,cG (a.take i) b=L:=⟨_,rfl⟩
    rw[hL] at hsn hml ⊢
    have htk:(L.map aR++ex).take L.length=L.map aR:=j8
    have hdr:(L.map aR++ex).drop (L.length+1)=ex.drop 1:=kS
    have hLl:(L.map aR).length=L.length:=List.length_map _
    repeat' (first|(with_reducible first|refine up hh ?_)|(with_reducible first|(refine wT ?_;(first|((fail_if_success (have:=nl1));refine wN fun nl1 hnl=>?_)|((fail_if_success (have:=nl2));refine wN fun nl2 hnl=>?_)|((fail_if_success (have:=nl3));refine wN fun nl3 hnl=>?_)|refine wN fun _ hnl=>?_);revert hnl;(repeat refine wS fun _ _=>?_);intro hnl)|refine wE ?_|(refine wK ?_ ?_<;>intro h)|(refine wB ?_ ?_<;>intro h<;>simp only[h]))|simp(maxSteps:=4000000) (disch:=first|decide|assumption|omega|(simp only[wL];omega)) only[go_sem,simprocAttr,hat,htk,hdr,hLl])
    ·have hex:ex=[]:=List.eq_nil_of_length_eq_zero (by first|omega|(simp at *;omega))
     subst hex
     refine .of (.less ?_ (σ1:=St.none.set nl3 (.row 3 1 (L.map aR++[]++[aR x]))) (St.aL (St.none_le _) (by simp[St.set, *]))) ⟨(i+1,nl3,[]),rfl,by simp[hsn],by simp only;omega,by simp only;omega⟩
     simp(maxSteps:=4000000) (disch:=first|decide|assumption|omega|(simp only[wL];omega)) only[go_sem,simprocAttr,aC,aB,hsn]
     all_goals first|rfl|(simp;done)
    ·refine .of (.less ?_ (σ1:=St.none.set nl3 (.row 3 1 (L.map aR++[aR x]++ex.drop 1))) (St.aL (St.none_le _) (by simp[St.set, *]))) ⟨(i+1,nl3,ex.drop 1),rfl,by simp[hsn],by simp only;omega,by simp only;omega⟩
     simp(maxSteps:=4000000) (disch:=first|decide|assumption|omega|(simp only[wL];omega)) only[go_sem,simprocAttr,aC,aB,hsn]
     all_goals first|rfl|(simp;done)
  ·have:i=a.length:=by omega
   subst this
   rw[List.take_length]
   repeat' (first|(with_reducible first|(refine wT ?_;(first|((fail_if_success (have:=nl1));refine wN fun nl1 hnl=>?_)|((fail_if_success (have:=nl2));refine wN fun nl2 hnl=>?_)|((fail_if_success (have:=nl3));refine wN fun nl3 hnl=>?_)|refine wN fun _ hnl=>?_);revert hnl;(repeat refine wS fun _ _=>?_);intro hnl)|refine wE ?_|(refine wK ?_ ?_<;>intro h)|(refine wB ?_ ?_<;>intro h<;>simp only[h]))|simp(maxSteps:=4000000) (disch:=first|decide|assumption|omega|(simp only[wL];omega)) only[go_sem,simprocAttr])
   exact dW (aM _ _ _) (by simp)
end

section
set_option maxRecDepth 100000
set_option maxHeartbeats 4000000
theorem vY(l:List GR)(tt:Bool)(hl:l.length≤1000000)(hm:∀g,g∈l→g.mem.length≤1000000)(hok:dQ (-1) l=true)(id:Int):aA Tryz.prog 106 [.lst 2 (l.map GR.c) tt,.int .i64 id] St.none (fun r _=>r=.int .u32 (grB l id:Int)):=by
 refine aA.bF (aA.body 28 [.tmp 4] Tryz.func106 rfl rfl rfl rfl ?_)
 repeat' (first|(with_reducible first|(refine wN fun _ hnl=>?_;revert hnl;(repeat refine wS fun _ _=>?_);intro hnl)|refine wE ?_|(refine wK ?_ ?_<;>intro h)|(refine wB ?_ ?_<;>intro h<;>simp only[h]))|simp(maxSteps:=4000000) (disch:=first|decide|assumption|omega|(simp only[wL];omega)) only[go_sem,simprocAttr,Tryz.f106])
 refine aD (α:=Nat) (fun i=>⟨28,[(6,.int .i64 (i:Int)),(5,.int .u32 (grB (l.take i) id:Int)),(0,.lst 2 (l.map GR.c) tt),(1,.int .i64 id)],[]⟩) (fun _=>St.none) (fun i=>i≤l.length) (fun i=>l.length - i) (.of (.less ?_ (St.le_refl _)) ⟨0,rfl,rfl,Nat.zero_le _⟩) ?_
 ·simp(maxSteps:=4000000) (disch:=first|decide|assumption|omega|(simp only[wL];omega)) only[go_sem,simprocAttr,aC,aB]
  all_goals first|rfl|(simp[grB,aB];done)
 ·rintro i hi
  by_cases hlt:i<l.length
  ·obtain⟨g,hg⟩:=bC l hlt
   have hat:=aV (f:=GR.c) hg
   have hsn:=uR hg id
   obtain⟨h1,h2,h3,h4⟩:=Aw hok hg id
   have hh:=sV g.mem false (hm g (bR hg)) id
   obtain⟨k,hk⟩:∃k:Nat,g.no=k:=⟨g.no.toNat,by omega⟩
   rw[hk] at h1 h2 h3
   rw[Int.toNat_natCast] at h1
   have hw:=FE (grB (l.take i) id) k (by omega) h1
   unfold grF at hsn
   rw[hk,Int.toNat_natCast] at hsn
   by_cases hmem:id∈g.mem
   ·rw[if_pos hmem] at hsn
    rw[decide_eq_true hmem] at hh
    repeat' (first|(with_reducible first|refine up hh ?_|refine up hw ?_)|(with_reducible first|(refine wN fun _ hnl=>?_;revert hnl;(repeat refine wS fun _ _=>?_);intro hnl)|refine wE ?_|(refine wK ?_ ?_<;>intro h)|(refine wB ?_ ?_<;>intro h<;>simp only[h]))|simp(maxSteps:=4000000) (disch:=first|decide|assumption|omega|(simp only[wL];omega)) only[go_sem,simprocAttr,hat,hk])
    refine .of (.less ?_ (St.le_refl _)) ⟨i+1,rfl,rfl,by omega,by omega⟩
    rw[hsn]
    simp(maxSteps:=4000000) (disch:=first|decide|assumption|omega|(simp only[wL];omega)) only[go_sem,simprocAttr,aC,aB]
    all_goals first|rfl|(simp;done)
   ·rw[if_neg hmem] at hsn
    rw[decide_eq_false hmem] at hh
    repeat' (first|(with_reducible first|refine up hh ?_|refine up hw ?_)|(with_reducible first|(refine wN fun _ hnl=>?_;revert hnl;(repeat refine wS fun _ _=>?_);intro hnl)|refine wE ?_|(refine wK ?_ ?_<;>intro h)|(refine wB ?_ ?_<;>intro h<;>simp only[h]))|simp(maxSteps:=4000000) (disch:=first|decide|assumption|omega|(simp only[wL];omega)) only[go_sem,simprocAttr,hat,hk])
    refine .of (.less ?_ (St.le_refl _)) ⟨i+1,rfl,rfl,by omega,by omega⟩
    rw[hsn]
    simp(maxSteps:=4000000) (disch:=first|decide|assumption|omega|(simp only[wL];omega)) only[go_sem,simprocAttr,aC,aB]
    all_goals first|rfl|(simp;done)
  ·have:i=l.length:=by omega
   subst this
   rw[List.take_length]
   repeat' (first|(with_reducible first|(refine wN fun _ hnl=>?_;revert hnl;(repeat refine wS fun _ _=>?_);intro hnl)|refine wE ?_|(refine wK ?_ ?_<;>intro h)|(refine wB ?_ ?_<;>intro h<;>simp only[h]))|simp(maxSteps:=4000000) (disch:=first|decide|assumption|omega|(simp only[wL];omega)) only[go_sem,simprocAttr])
   all_goals first|exact⟨_,St.le_refl _,rfl⟩|exact⟨_,St.le_refl _⟩
theorem I8(l:List GR)(tt:Bool)(hl:l.length≤1000000)(hm:∀g,g∈l→g.mem.length≤1000000):aA Tryz.prog 156 [.lst 2 (l.map GR.c) tt] St.none (fun r _=>r=.bool (dQ (-1) l)):=by
 refine aA.bF (aA.body 51 [.tmp 2] Tryz.func156 rfl rfl rfl rfl ?_)
 repeat' (first|(with_reducible first|(refine wN fun _ hnl=>?_;revert hnl;(repeat refine wS fun _ _=>?_);intro hnl)|refine wE ?_|(refine wK ?_ ?_<;>intro h)|(refine wB ?_ ?_<;>intro h<;>simp only[h]))|simp(maxSteps:=4000000) (disch:=first|decide|assumption|omega|(simp only[wL];omega)) only[go_sem,simprocAttr,Tryz.f156])
 refine aD (α:=Nat) (fun i=>⟨51,[(3,.int .i64 (i:Int)),(0,.lst 2 (l.map GR.c) tt)],[]⟩) (fun _=>St.none) (fun i=>i≤l.length∧dQ (-1) l=dQ (bY (l.map GR.no) i (-1)) (l.drop i)) (fun i=>l.length - i) (.of (.less ?_ (St.le_refl _)) ⟨0,rfl,rfl,Nat.zero_le _,rfl⟩) ?_
 ·simp(maxSteps:=4000000) (disch:=first|decide|assumption|omega|(simp only[wL];omega)) only[go_sem,simprocAttr,aC,aB]
  all_goals rfl
 ·rintro i ⟨hi,hq⟩
  by_cases hlt:i<l.length
  ·obtain⟨x,hx⟩:=bC l hlt
   rw[cY hx,dQ] at hq
   have hat:=aV (f:=GR.c) hx
   have hnext:=eM (fM (f:=GR.no) hx) (z:=-1)
   have hto:((i:Int) - 1).toNat=i - 1:=by omega
   have hl0:i=0→bY (l.map GR.no) i (-1) = -1:=fun h=>if_pos h
   have hl1:0<i→∃y:GR,(l.map GR.c).getD (i - 1) []=y.c∧bY (l.map GR.no) i (-1)=y.no:=fun h=>by
    obtain⟨y,hy⟩:=qP hi h
    refine⟨y,aV hy,?_⟩
    unfold bY
    rw[if_neg (by omega),List.getD_eq_getElem?_getD,fM hy];rfl
   have hc:=I9 x.mem false (hm x (bR hx))
   obtain⟨last,hlast⟩:∃k,bY (l.map GR.no) i (-1)=k:=⟨_,rfl⟩
   obtain⟨res,hres⟩:∃b,dQ (-1) l=b:=⟨_,rfl⟩
   rw[hlast] at hq hl0 hl1
   rw[hres] at hq ⊢
   obtain⟨ok,hok⟩:∃b,fP 0 x.mem=b:=⟨_,rfl⟩
   rw[hok] at hc hq
   obtain⟨C,c1⟩:∃C:bP,∀ms,C 111 ms=some ⟨[],fun v=>v=.bool ok,none⟩:=⟨lO 111 (.bool ok),fun _=>cM⟩
   by_cases hr:last<x.no∧0≤x.no∧x.no<16
   ·rw[decide_eq_true hr,Bool.true_and] at hq
    obtain⟨hr1,hr2,hr3⟩:=hr
    cases ok
    ·rw[Bool.false_and] at hq
     rw[hq]
     rcases Nat.eq_zero_or_pos i with hi0|hi0
     ·repeat' (first|((with_reducible refine aJ mixed ?chk C ?_);(case chk=>decide +kernel))|(with_reducible refine aF (c1 _) hc ?_)|(with_reducible first|(refine wN fun _ hnl=>?_;revert hnl;(repeat refine wS fun _ _=>?_);intro hnl)|refine wE ?_|(refine wK ?_ ?_<;>intro h)|(refine wB ?_ ?_<;>intro h<;>simp only[h]))|simp(maxSteps:=4000000) (disch:=first|decide|assumption|omega|(simp only[wL];omega)) only[go_sem,simprocAttr,hat,hto])
      all_goals first|exact⟨_,St.le_refl _,rfl⟩|exact⟨_,St.le_refl _⟩|(exfalso;omega)
     ·obtain⟨y,hy,hly⟩:=hl1 hi0
      repeat' (first|((with_reducible refine aJ mixed ?chk C ?_);(case chk=>decide +kernel))|(with_reducible refine aF (c1 _) hc ?_)|(with_reducible first|(refine wN fun _ hnl=>?_;revert hnl;(repeat refine wS fun _ _=>?_);intro hnl)|refine wE ?_|(refine wK ?_ ?_<;>intro h)|(refine wB ?_ ?_<;>intro h<;>simp only[h]))|simp(maxSteps:=4000000) (disch:=first|decide|assumption|omega|(simp only[wL];omega)) only[go_sem,simprocAttr,hat,hto,hy])
      all_goals first|exact⟨_,St.le_refl _,rfl⟩|exact⟨_,St.le_refl _⟩|(exfalso;omega)
    ·rw[Bool.true_and] at hq
     rcases Nat.eq_zero_or_pos i with hi0|hi0
     ·repeat' (first|((with_reducible refine aJ mixed ?chk C ?_);(case chk=>decide +kernel))|(with_reducible refine aF (c1 _) hc ?_)|(with_reducible first|(refine wN fun _ hnl=>?_;revert hnl;(repeat refine wS fun _ _=>?_);intro hnl)|refine wE ?_|(refine wK ?_ ?_<;>intro h)|(refine wB ?_ ?_<;>intro h<;>simp only[h]))|simp(maxSteps:=4000000) (disch:=first|decide|assumption|omega|(simp only[wL];omega)) only[go_sem,simprocAttr,hat,hto])
      all_goals (try (exfalso;omega))
      all_goals
       refine .of (.less ?_ (St.none_le _)) ⟨i+1,rfl,rfl,⟨by omega,by rw[hnext];exact hq⟩,by omega⟩
       simp(maxSteps:=4000000) (disch:=first|decide|assumption|omega|(simp only[wL];omega)) only[go_sem,simprocAttr,aC,aB]
       all_goals rfl
     ·obtain⟨y,hy,hly⟩:=hl1 hi0
      repeat' (first|((with_reducible refine aJ mixed ?chk C ?_);(case chk=>decide +kernel))|(with_reducible refine aF (c1 _) hc ?_)|(with_reducible first|(refine wN fun _ hnl=>?_;revert hnl;(repeat refine wS fun _ _=>?_);intro hnl)|refine wE ?_|(refine wK ?_ ?_<;>intro h)|(refine wB ?_ ?_<;>intro h<;>simp only[h]))|simp(maxSteps:=4000000) (disch:=first|decide|assumption|omega|(simp only[wL];omega)) only[go_sem,simprocAttr,hat,hto,hy])
      all_goals (try (exfalso;omega))
      all_goals
       refine .of (.less ?_ (St.none_le _)) ⟨i+1,rfl,rfl,⟨by omega,by rw[hnext];exact hq⟩,by omega⟩
       simp(maxSteps:=4000000) (disch:=first|decide|assumption|omega|(simp only[wL];omega)) only[go_sem,simprocAttr,aC,aB]
       all_goals rfl
   ·rw[decide_eq_false hr,Bool.false_and,Bool.false_and] at hq
    rw[hq]
    rcases Nat.eq_zero_or_pos i with hi0|hi0
    ·have:=hl0 hi0
     repeat' (first|((with_reducible refine aJ mixed ?chk C ?_);(case chk=>decide +kernel))|(with_reducible refine aF (c1 _) hc ?_)|(with_reducible first|(refine wN fun _ hnl=>?_;revert hnl;(repeat refine wS fun _ _=>?_);intro hnl)|refine wE ?_|(refine wK ?_ ?_<;>intro h)|(refine wB ?_ ?_<;>intro h<;>simp only[h]))|simp(maxSteps:=4000000) (disch:=first|decide|assumption|omega|(simp only[wL];omega)) only[go_sem,simprocAttr,hat,hto])
     all_goals first|exact⟨_,St.le_refl _,rfl⟩|exact⟨_,St.le_refl _⟩|(exfalso;omega)
    ·obtain⟨y,hy,hly⟩:=hl1 hi0
     repeat' (first|((with_reducible refine aJ mixed ?chk C ?_);(case chk=>decide +kernel))|(with_reducible refine aF (c1 _) hc ?_)|(with_reducible first|(refine wN fun _ hnl=>?_;revert hnl;(repeat refine wS fun _ _=>?_);intro hnl)|refine wE ?_|(refine wK ?_ ?_<;>intro h)|(refine wB ?_ ?_<;>intro h<;>simp only[h]))|simp(maxSteps:=4000000) (disch:=first|decide|assumption|omega|(simp only[wL];omega)) only[go_sem,simprocAttr,hat,hto,hy])
     all_goals first|exact⟨_,St.le_refl _,rfl⟩|exact⟨_,St.le_refl _⟩|(exfalso;omega)
  ·have:i=l.length:=by omega
   subst this
   rw[hq,List.drop_length,dQ]
   repeat' (first|(with_reducible first|(refine wN fun _ hnl=>?_;revert hnl;(repeat refine wS fun _ _=>?_);intro hnl)|refine wE ?_|(refine wK ?_ ?_<;>intro h)|(refine wB ?_ ?_<;>intro h<;>simp only[h]))|simp(maxSteps:=4000000) (disch:=first|decide|assumption|omega|(simp only[wL];omega)) only[go_sem,simprocAttr])
   all_goals first|exact⟨_,St.le_refl _,rfl⟩|exact⟨_,St.le_refl _⟩
end
end Go.Proofs.YtojmhmejdihaaaaGreatDoor
