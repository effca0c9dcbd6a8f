/- Parts of the proof, joined; conditions: those that its theorems name. -/
import Derived.Test.YtaojijkdamfbnaaGreatDoorMazf
import Derived.Test.YtaojijkdamfbnaaGreatDoorRows
import Derived.LaidMore
import Derived.MakeChecks
set_option linter.unusedVariables false
set_option linter.unusedSimpArgs false
set_option maxHeartbeats 4000000
namespace Go.Proofs.YtaojijkdamfbnaaGreatDoor
section
open Go.ChangeShapes Go.WideShapes Go.RowKit
set_option maxRecDepth 100000
abbrev Bn:List (String × DataW Unit):=[("math/bits.deBruijn32tab",Rows.laid_math_bits_deBruijn32tab)]
theorem Oc:Tryz.prog.globalNamed "math/bits.deBruijn32tab" = some 0:=by kernel_rfl
theorem O3:(Tryz.prog.globals[0]?).map (·.type)=some 230:=by kernel_rfl
theorem Pc:Tryz.prog.underlying 230=some (.array 32 5):=by kernel_rfl
theorem uU8:Tryz.prog.underlying 5=some (.int .u8):=by kernel_rfl
theorem cU8:Tryz.prog.cellsOf 5=1:=by kernel_rfl
theorem OV:Tryz.prog.cellsOf 230=32:=by kernel_rfl
theorem Dt:∀W:World,W.ShapedOpen Tryz.prog→laidMetH Tryz.prog Bn W→MY W:=fun W hsh h=>by
 rw[MakeChecks.laidMetH_plain _ _ _ (by kernel_rfl)] at h
 have ht:Go.Lib.TabIs Tryz.prog W "math/bits.deBruijn32tab" .u8 dbT:=Go.Lib.tabIs_of_head Oc O3 Pc uU8 cU8 OV h
 refine⟨fun g i v hv=>?_,vZ W hsh⟩
 by_cases hg:g=0
 ·subst hg
  rw[Mw,Option.map_eq_some_iff] at hv
  obtain⟨n,hn,rfl⟩:=hv
  have hi:=(List.getElem?_eq_some_iff.1 hn).1
  rw[ht.cell Oc i hi]
  simp[List.getD,hn]
 ·unfold GT at hv
  rw[if_neg hg] at hv
  cases hv
theorem IL(os:Os)(args:Array Value):laidMetH Tryz.prog Bn ((World.doorLaid Tryz.prog 40 os).forCall (fun _ _=>0) ⟨#[],args,[]⟩).memory :=
 laidMetH_of_parts3 (fuel:=8) (laidMet_of_run' 8 (by kernel_rfl) (by kernel_rfl)) (by kernel_rfl) (by kernel_rfl)
end

section
set_option maxRecDepth 100000
set_option maxHeartbeats 8000000
theorem yH(b f:Nat):aA Tryz.prog 52 [.ptr b 0 0,.ptr f 0 0] St.none (fun v σ'=>∃m l,l≠m∧v=.fn (.func 95) [] [.ptr m 0 0,.ptr l 0 0]∧σ'=(St.none.set m (.row 33 1 [[.ptr b 0 0]])).set l (.row 36 1 [[.ptr f 0 0]])):=by
 refine(aA.body 6 [.tmp 4] Tryz.func52 rfl rfl rfl rfl ?_)
 repeat' (first|(with_reducible first|(refine wN fun _ hnl=>?_;revert hnl;(repeat refine wS fun _ _=>?_);intro hnl)|refine wE ?_|(refine wK ?_ ?_<;>intro h)|(refine wB ?_ ?_<;>intro h<;>simp only[h]))|simp(maxSteps:=4000000) (disch:=first|exact ddL|fail) only[go_sem,simprocAttr,Tryz.f52])
 all_goals exact⟨_,_,by assumption,rfl,rfl⟩
theorem Dv{B:BK}(hb:BkR B){fl:List ND}{mk:UInt32}{cur:Int}{j:Nat}(hj:j≤(shC B fl).length)(h1:∀c,c∈(shC B fl).take j→c.id≤cur)(h2:j=(shC B fl).length∨∃c,(shC B fl)[j]?=some c∧cur<c.id) :
  fQ B fl mk cur=((shC B fl).take j).map fun c=>fY c mk:=by
 unfold fQ
 have e:B.cards.filter (fun c=>decide (c.id≤cur)&&cU B.gr fl c)=(shC B fl).filter fun c=>decide (c.id≤cur):=by rw[shC,List.filter_filter]
 rw[e]
 congr 1
 have hr:=(pZ hb fl).1
 obtain⟨L,hL⟩:∃L,shC B fl=L:=⟨_,rfl⟩
 rw[hL] at hj h1 h2 hr ⊢
 conv=>lhs;rw[←List.take_append_drop j L]
 rw[List.filter_append,List.filter_eq_self.2 (fun c hc=>by simpa using h1 c hc),List.filter_eq_nil_iff.2,List.append_nil]
 intro c hc
 rcases h2 with h2|⟨d,hd,hlt⟩
 ·rw[h2,List.drop_length] at hc;cases hc
 ·rw[eJ hd] at hc
  rcases List.mem_cons.1 hc with rfl|hc
  ·simp;omega
  ·have hsp:=kX L hd
   rw[hsp,List.pairwise_append] at hr
   have:=(List.pairwise_cons.1 hr.2.1).1 c hc
   simp;omega
abbrev idS(n1 n2 n3 q:Nat)(mk:UInt32)(cur:Int)(j:Nat)(R:List (List MV))(ex:List (List MV)):St:=(((St.none.set n1 (.row 28 1 [[.int .u32 (mk.toNat:Int)]])).set n2 (.row 3 1 [[.int .i64 cur]])).set n3 (.row 22 1 [[.vec 27 q 0 j]])).set q (.row 42 27 (R++ex))
end

section
set_option maxRecDepth 100000
set_option maxHeartbeats 8000000
def vW(a b:Int):Int:=if a<b then -1 else if b<a then 1 else 0
theorem El(a b:Int):aA Tryz.prog 188 [.int .i64 a,.int .i64 b] St.none (fun r _=>r=.int .i64 (vW a b)):=by
 refine(aA.body 20 [.tmp 4] Tryz.func188 rfl rfl rfl rfl ?_)
 have h1:=kG a
 have h2:=kG b
 rcases Int.lt_trichotomy a b with h|h|h
 ·rw[show vW a b = -1 from if_pos h]
  repeat' (first|(with_reducible first|refine up h1 ?_|refine up h2 ?_)|(with_reducible first|(refine wN fun _ hnl=>?_;revert hnl;(repeat refine wS fun _ _=>?_);intro hnl)|refine wE ?_|(refine wK ?_ ?_<;>intro h)|(refine wB ?_ ?_<;>intro h<;>simp only[h]))|simp(maxSteps:=4000000) (disch:=first|exact ddL|fail) only[go_sem,simprocAttr,Tryz.f188])
  all_goals (try (exfalso;omega))
 ·rw[show vW a b=0 from(if_neg (by omega)).trans (if_neg (by omega))]
  repeat' (first|(with_reducible first|refine up h1 ?_|refine up h2 ?_)|(with_reducible first|(refine wN fun _ hnl=>?_;revert hnl;(repeat refine wS fun _ _=>?_);intro hnl)|refine wE ?_|(refine wK ?_ ?_<;>intro h)|(refine wB ?_ ?_<;>intro h<;>simp only[h]))|simp(maxSteps:=4000000) (disch:=first|exact ddL|fail) only[go_sem,simprocAttr,Tryz.f188])
  all_goals (try (exfalso;omega))
 ·rw[show vW a b=1 from(if_neg (by omega)).trans (if_pos h)]
  repeat' (first|(with_reducible first|refine up h1 ?_|refine up h2 ?_)|(with_reducible first|(refine wN fun _ hnl=>?_;revert hnl;(repeat refine wS fun _ _=>?_);intro hnl)|refine wE ?_|(refine wK ?_ ?_<;>intro h)|(refine wB ?_ ?_<;>intro h<;>simp only[h]))|simp(maxSteps:=4000000) (disch:=first|exact ddL|fail) only[go_sem,simprocAttr,Tryz.f188])
  all_goals (try (exfalso;omega))
theorem rR(x:GR)(g:Int):aA Tryz.prog 187 [.agg x.c,.int .i64 g] St.none (fun r _=>r=.int .i64 (vW x.no g)):=by
 refine aA.cD (aA.body 9 [.tmp 4] Tryz.func187 rfl rfl rfl rfl ?_)
 have h:=El x.no g
 repeat' (first|(with_reducible first|refine up h ?_)|(with_reducible first|(refine wN fun _ hnl=>?_;revert hnl;(repeat refine wS fun _ _=>?_);intro hnl)|refine wE ?_|(refine wK ?_ ?_<;>intro h)|(refine wB ?_ ?_<;>intro h<;>simp only[h]))|simp(maxSteps:=4000000) (disch:=first|exact ddL|fail) only[go_sem,simprocAttr,Tryz.f187])
 all_goals first|exact⟨_,St.le_refl _,rfl⟩|exact⟨_,St.le_refl _⟩
theorem L3(l:List GR){m:Nat}{x:GR}(h:l[m]?=some x):(l.map GR.no).getD m 0=x.no:=by
 rw[List.getD_eq_getElem?_getD,List.getElem?_map,h];rfl
theorem HL(l:List GR)(hl:l.length≤1000000)(hu:UpI (l.map GR.no))(g:Int)(t:Bool):aA Tryz.prog 186 [.lst 2 (l.map GR.c) t,.int .i64 g,.fn (.func 187) [] []] St.none (fun r _=>r=.tup [.int .i64 (k9 (l.map GR.no) g:Int),.bool (decide (g∈l.map GR.no))]):=by
 refine(aA.body 49 [.tmp 6,.tmp 7] Tryz.func186 rfl rfl rfl rfl ?_)
 have hnl:(l.map GR.no).length=l.length:=List.length_map _
 obtain⟨N,hN⟩:∃N,l.map GR.no=N:=⟨_,rfl⟩
 rw[hN] at hnl hu ⊢
 have hgd:∀{m:Nat} {x:GR},l[m]?=some x→N.getD m 0=x.no:=fun h=>hN ▸ L3 l h
 repeat' (first|(with_reducible first|(refine wN fun _ hnl=>?_;revert hnl;(repeat refine wS fun _ _=>?_);intro hnl)|refine wE ?_|(refine wK ?_ ?_<;>intro h)|(refine wB ?_ ?_<;>intro h<;>simp only[h]))|simp(maxSteps:=4000000) (disch:=first|exact ddL|fail) only[go_sem,simprocAttr,Tryz.f186])
 refine aJ (α:=Nat × Nat) (fun a=>⟨49,[(9,.int .i64 (a.1:Int)),(10,.int .i64 (a.2:Int)),(8,.int .i64 (l.length:Int)),(2,.fn (.func 187) [] []),(1,.int .i64 g),(0,.lst 2 (l.map GR.c) t)],[]⟩)
  (fun _=>St.none) (fun a=>a.1≤a.2∧a.2≤l.length∧(∀q,q<a.1→N.getD q 0<g)∧(∀q,a.2≤q→q<N.length→¬N.getD q 0<g)) (fun a=>a.2 - a.1) (.of (.less ?_ (St.le_refl _)) ⟨(0,l.length),rfl,rfl,by simp;omega⟩) ?_
 ·simp(maxSteps:=4000000) (disch:=first|exact ddL|fail) only[go_sem,simprocAttr,aC,aB]
  all_goals first|rfl|omega|simp
 ·rintro⟨i,j⟩ ⟨h1,h2,h3,h4⟩
  simp only at h1 h2 h3 h4 ⊢
  by_cases hij:i<j
  ·have hh:=half i j
   have hm1:i≤(i+j) / 2:=by omega
   have hm2:(i+j) / 2<j:=by omega
   obtain⟨m,hm⟩:∃m,(i+j) / 2=m:=⟨_,rfl⟩
   rw[hm] at hh hm1 hm2
   have hml:m<l.length:=by omega
   obtain⟨x,hx⟩:=bO l hml
   have hat:=bH (f:=GR.c) hx
   have hno:=hgd hx
   have hup:∀a b,a<b→b<N.length→N.getD a 0<N.getD b 0:=fun a b hab hb=>by
    have:=List.pairwise_iff_getElem.1 hu a b (by omega) hb hab
    rw[List.getD_eq_getElem?_getD,List.getD_eq_getElem?_getD,List.getElem?_eq_getElem (by omega:a<N.length),List.getElem?_eq_getElem hb]
    exact this
   have hord:=rR x g
   obtain⟨k,hk⟩:∃k,vW x.no g=k:=⟨_,rfl⟩
   rw[hk] at hord
   by_cases hless:x.no<g
   ·have hnew:∀q,q<m+1→N.getD q 0<g:=fun q hq=>by
     rcases Nat.lt_or_ge q m with hlt|hge
     ·have:=hup q m hlt (by omega);omega
     ·have:q=m:=by omega
      rw[this,hno];exact hless
    have hkn:k<0:=by rw[←hk,show vW x.no g = -1 from if_pos hless];omega
    clear hk hless
    repeat' (first|(with_reducible first|refine up hord ?_)|(with_reducible first|(refine wN fun _ hnl=>?_;revert hnl;(repeat refine wS fun _ _=>?_);intro hnl)|refine wE ?_|(refine wK ?_ ?_<;>intro h)|(refine wB ?_ ?_<;>intro h<;>simp only[h]))|simp(maxSteps:=4000000) (disch:=first|exact ddL|fail) only[go_sem,simprocAttr,hat,hh])
    all_goals (try (exfalso;omega))
    refine .of (.less (l1:=[(9,.int .i64 ((m+1:Nat):Int)),(10,.int .i64 (j:Int)),(8,.int .i64 (l.length:Int)),(2,.fn (.func 187) [] []),(1,.int .i64 g),(0,.lst 2 (l.map GR.c) t)]) ?_ (St.le_refl _)) ⟨(m+1,j),rfl,rfl,⟨by simp only;omega,h2,hnew,h4⟩,by simp only;omega⟩
    simp(maxSteps:=4000000) (disch:=first|exact ddL|fail) only[go_sem,simprocAttr,aC,aB]
    all_goals first|rfl|omega|(simp;done)
   ·have hnew:∀q,m≤q→q<N.length→¬N.getD q 0<g:=fun q hq hql=>by
     rcases Nat.lt_or_ge m q with hlt|hge
     ·have:=hup m q hlt hql;omega
     ·have:q=m:=by omega
      rw[this,hno];exact hless
    have hkn:¬k<0:=by
     rw[←hk];unfold vW;rw[if_neg hless];split<;>omega
    clear hk hless
    repeat' (first|(with_reducible first|refine up hord ?_)|(with_reducible first|(refine wN fun _ hnl=>?_;revert hnl;(repeat refine wS fun _ _=>?_);intro hnl)|refine wE ?_|(refine wK ?_ ?_<;>intro h)|(refine wB ?_ ?_<;>intro h<;>simp only[h]))|simp(maxSteps:=4000000) (disch:=first|exact ddL|fail) only[go_sem,simprocAttr,hat,hh])
    all_goals (try (exfalso;omega))
    refine .of (.less (l1:=[(9,.int .i64 (i:Int)),(10,.int .i64 (m:Int)),(8,.int .i64 (l.length:Int)),(2,.fn (.func 187) [] []),(1,.int .i64 g),(0,.lst 2 (l.map GR.c) t)]) ?_ (St.le_refl _)) ⟨(i,m),rfl,rfl,⟨hm1,by simp only;omega,h3,hnew⟩,by simp only;omega⟩
    simp(maxSteps:=4000000) (disch:=first|exact ddL|fail) only[go_sem,simprocAttr,aC,aB]
    all_goals first|rfl|omega|(simp;done)
  ·have:i=j:=by omega
   subst this
   have hp:=xS hu h3 h4
   rw[AQ (by omega) h3 h4]
   by_cases hil:i<l.length
   ·obtain⟨x,hx⟩:=bO l hil
    have hat:=bH (f:=GR.c) hx
    have hno:=hgd hx
    have hord:=rR x g
    have hge:=h4 i (Nat.le_refl _) (by omega)
    rw[hno] at hge
    rw[hno] at hp
    by_cases he:x.no=g
    ·rw[decide_eq_true (hp.2 ⟨by omega,he⟩)]
     rw[show vW x.no g=0 from(if_neg (by omega)).trans (if_neg (by omega))] at hord
     repeat' (first|(with_reducible first|refine up hord ?_)|(with_reducible first|(refine wN fun _ hnl=>?_;revert hnl;(repeat refine wS fun _ _=>?_);intro hnl)|refine wE ?_|(refine wK ?_ ?_<;>intro h)|(refine wB ?_ ?_<;>intro h<;>simp only[h]))|simp(maxSteps:=4000000) (disch:=first|exact ddL|fail) only[go_sem,simprocAttr,hat])
     all_goals (try (exfalso;omega))
     all_goals (first|rfl|(simp;omega))
    ·rw[decide_eq_false fun h=>he (hp.1 h).2]
     rw[show vW x.no g=1 from(if_neg (by omega)).trans (if_pos (by omega))] at hord
     repeat' (first|(with_reducible first|refine up hord ?_)|(with_reducible first|(refine wN fun _ hnl=>?_;revert hnl;(repeat refine wS fun _ _=>?_);intro hnl)|refine wE ?_|(refine wK ?_ ?_<;>intro h)|(refine wB ?_ ?_<;>intro h<;>simp only[h]))|simp(maxSteps:=4000000) (disch:=first|exact ddL|fail) only[go_sem,simprocAttr,hat])
     all_goals (try (exfalso;omega))
     all_goals (first|rfl|(simp;omega))
   ·rw[decide_eq_false fun h=>hil (by have:=(hp.1 h).1;omega)]
    repeat' (first|(with_reducible first|(refine wN fun _ hnl=>?_;revert hnl;(repeat refine wS fun _ _=>?_);intro hnl)|refine wE ?_|(refine wK ?_ ?_<;>intro h)|(refine wB ?_ ?_<;>intro h<;>simp only[h]))|simp(maxSteps:=4000000) (disch:=first|exact ddL|fail) only[go_sem,simprocAttr])
    all_goals (try (exfalso;omega))
    all_goals (first|rfl|(simp;omega))
theorem uO(l:List GR)(hl:l.length≤1000000)(hu:UpI (l.map GR.no))(g:Int)(t:Bool):aA Tryz.prog 149 [.lst 2 (l.map GR.c) t,.int .i64 g] St.none (fun r _=>r=.tup [.int .i64 (k9 (l.map GR.no) g:Int),.bool (decide (g∈l.map GR.no))]):=by
 refine(aA.body 11 [.tmp 4,.tmp 5] Tryz.func149 rfl rfl rfl rfl ?_)
 have h:=HL l hl hu g t
 repeat' (first|(with_reducible first|refine up h ?_)|(with_reducible first|(refine wN fun _ hnl=>?_;revert hnl;(repeat refine wS fun _ _=>?_);intro hnl)|refine wE ?_|(refine wK ?_ ?_<;>intro h)|(refine wB ?_ ?_<;>intro h<;>simp only[h]))|simp(maxSteps:=4000000) (disch:=first|exact ddL|fail) only[go_sem,simprocAttr,Tryz.f149])
end

section
open Go.Shelf Go.RowKit Go.Lib
set_option maxRecDepth 100000
set_option maxHeartbeats 8000000
theorem De(a:Addr)(c:Nat)(w:World):Calls Tryz.prog 147 #[.slice (some a) 0 c] w fun e w'=>e=.returned (.slice (some ⟨w.heap.size,0,none⟩) 0 0)∧w'=w.alloc (.cells #[] 94):=by
 have q22:∀(w:World) (a:Option Addr) (n c n' c':Nat),(binOp .eql 24 (.slice a n c) (.slice none n' c')).run Tryz.prog w=.ok (.bool a.isNone) w:=fun w a n c n' c'=>Lib.run_eql_slice_nil w _ _ a n c n' c' Tryz.underlying24
 have u22:∀w,Sem.run Tryz.prog (underlying 24) w=.ok (TypeDesc.slice 94) w:=run_underlying Tryz.underlying24
 go_enter Tryz.func147,Tryz.ntmps147
 go_wp2
 go_ret
 exact⟨rfl,rfl⟩
theorem AY:aA Tryz.prog 147 [.a8] St.none (fun r _=>r=.a8):=by
 refine(aA.body 8 [.tmp 2] Tryz.func147 rfl rfl rfl rfl ?_)
 repeat' (first|(with_reducible first|(refine wN fun _ hnl=>?_;revert hnl;(repeat refine wS fun _ _=>?_);intro hnl)|refine wE ?_|(refine wK ?_ ?_<;>intro h)|(refine wB ?_ ?_<;>intro h<;>simp only[h]))|simp(maxSteps:=4000000) (disch:=first|exact ddL|fail) only[go_sem,simprocAttr,Tryz.f147])
theorem yZ(e:Nat)(t tr:Bool):aA Tryz.prog 147 [.lst e [] t] St.none (fun r _=>r=.lst e [] tr):=kB AY De
theorem vV(e:Nat)(t tr:Bool):aA Tryz.prog 43 [.lst e [] t] St.none (fun r _=>r=.lst e [] tr):=kB rN tB
theorem Dd(x:GR)(l:List GR)(hl:l.length+1≤1000000)(t:Bool):aA Tryz.prog 147 [.lst 2 ((x::l).map GR.c) t] St.none (fun r σ'=>∃q,r=.vec 2 q 0 (l.length+1)∧σ'=St.none.set q (.row 94 2 ((x::l).map GR.c))):=by
 refine(aA.body 8 [.tmp 2] Tryz.func147 rfl rfl rfl rfl ?_)
 repeat' (first|(with_reducible first|(refine wN fun _ hnl=>?_;revert hnl;(repeat refine wS fun _ _=>?_);intro hnl)|refine wE ?_|(refine wK ?_ ?_<;>intro h)|(refine wB ?_ ?_<;>intro h<;>simp only[h]))|simp(maxSteps:=4000000) (disch:=first|exact ddL|fail) only[go_sem,simprocAttr,Tryz.f147])
 all_goals exact⟨_,rfl,rfl⟩
theorem wZ(t tr:Bool):aA Tryz.prog 151 [.lst 2 [] t] St.none (fun r _=>r=.lst 2 [] tr):=by
 refine(aA.body 24 [.tmp 2] Tryz.func151 rfl rfl rfl rfl ?_)
 have h:=yZ 2 t tr
 repeat' (first|(refine aL h ?_)|(with_reducible first|(refine wN fun _ hnl=>?_;revert hnl;(repeat refine wS fun _ _=>?_);intro hnl)|refine wE ?_|(refine wK ?_ ?_<;>intro h)|(refine wB ?_ ?_<;>intro h<;>simp only[h]))|simp(maxSteps:=4000000) (disch:=first|exact ddL|fail) only[go_sem,simprocAttr,Tryz.f151])
 refine aJ (α:=Unit) (fun _=>⟨24,[(9,.int .i64 0),(8,.int .i64 0),(3,.lst 2 [] tr)],[]⟩) (fun _=>St.none) (fun _=>True) (fun _=>0) (.of (.less ?_ (St.le_refl _)) ⟨(),rfl,rfl,trivial⟩) ?_
 ·simp(maxSteps:=4000000) (disch:=first|exact ddL|fail) only[go_sem,simprocAttr,aC,aB]
  all_goals first|rfl|(simp;done)
 ·intro _ _
  repeat' (first|(with_reducible first|(refine wN fun _ hnl=>?_;revert hnl;(repeat refine wS fun _ _=>?_);intro hnl)|refine wE ?_|(refine wK ?_ ?_<;>intro h)|(refine wB ?_ ?_<;>intro h<;>simp only[h]))|simp(maxSteps:=4000000) (disch:=first|exact ddL|fail) only[go_sem,simprocAttr])
theorem Am(x:GR)(l:List GR)(hl:l.length+1≤1000000)(hm:∀g,g∈x::l→g.mem.length≤1000000)(t:Bool):aA Tryz.prog 151 [.lst 2 ((x::l).map GR.c) t] St.none (fun r σ'=>∃q,r=.vec 2 q 0 (l.length+1)∧σ'=St.none.set q (.row 94 2 ((x::l).map GR.c))):=by
 refine(aA.body 24 [.tmp 2] Tryz.func151 rfl rfl rfl rfl ?_)
 have h:=Dd x l hl t
 obtain⟨L,hL⟩:∃L,x::l=L:=⟨_,rfl⟩
 have hLl:L.length=l.length+1:=by rw[←hL];rfl
 obtain⟨n,hn⟩:∃n,l.length+1=n:=⟨_,rfl⟩
 rw[hL] at h hm ⊢
 rw[hn] at h hLl hl ⊢
 have hml:(L.map GR.c).length=n:=by rw[List.length_map,hLl]
 repeat' (first|((refine qD h ?_;intro q hq))|(with_reducible first|(refine wN fun _ hnl=>?_;revert hnl;(repeat refine wS fun _ _=>?_);intro hnl)|refine wE ?_|(refine wK ?_ ?_<;>intro h)|(refine wB ?_ ?_<;>intro h<;>simp only[h]))|simp(maxSteps:=4000000) (disch:=first|exact ddL|fail) only[go_sem,simprocAttr,Tryz.f151])
 refine aJ (α:=Nat) (fun i=>⟨24,[(9,.int .i64 (i:Int)),(8,.int .i64 (n:Int)),(3,.vec 2 q 0 n)],[]⟩) (fun i=>St.none.set q (.row 94 2 (L.map GR.c))) (fun i=>i≤n) (fun i=>n - i) (.of (.less ?_ (St.le_refl _)) ⟨0,rfl,rfl,Nat.zero_le _⟩) ?_
 ·simp(maxSteps:=4000000) (disch:=first|exact ddL|fail) only[go_sem,simprocAttr,aC,aB]
  all_goals first|rfl|(simp;done)
 ·intro i hi
  have hi:i≤n:=hi
  by_cases hlt:i<n
  ·obtain⟨y,hy⟩:=bO L (show i<L.length by omega)
   have hat:=bH (f:=GR.c) hy
   have hcl:=rM y.mem (hm y (dS hy)) false
   have hset:(L.map GR.c).set i y.c=L.map GR.c:=by
    have h0:=List.getElem?_eq_some_iff.1 hy
    obtain⟨h1,h2⟩:=h0
    refine List.ext_getElem (by simp) fun j h3 h4=>?_
    rw[List.getElem_set]
    split
    ·rename_i e;subst e;simp[h2]
    ·rfl
   repeat' (first|(with_reducible first|refine up hcl ?_)|(with_reducible first|(refine wN fun _ hnl=>?_;revert hnl;(repeat refine wS fun _ _=>?_);intro hnl)|refine wE ?_|(refine wK ?_ ?_<;>intro h)|(refine wB ?_ ?_<;>intro h<;>simp only[h]))|simp(maxSteps:=4000000) (disch:=first|exact ddL|fail) only[go_sem,simprocAttr,hat,hml,hset])
   all_goals (try (exfalso;omega))
   all_goals
    refine .of (.less ?_ (St.le_refl _)) ⟨i+1,rfl,rfl,(by omega:i+1≤n),by omega⟩
    simp(maxSteps:=4000000) (disch:=first|exact ddL|fail) only[go_sem,simprocAttr,aC,aB]
    all_goals first|rfl|(simp;done)
  ·have:i=n:=by omega
   subst this
   repeat' (first|(with_reducible first|(refine wN fun _ hnl=>?_;revert hnl;(repeat refine wS fun _ _=>?_);intro hnl)|refine wE ?_|(refine wK ?_ ?_<;>intro h)|(refine wB ?_ ?_<;>intro h<;>simp only[h]))|simp(maxSteps:=4000000) (disch:=first|exact ddL|fail) only[go_sem,simprocAttr])
   all_goals (try (exfalso;omega))
   all_goals exact⟨_,rfl,rfl⟩
theorem Ep{v:Nat}(y:List MV)(hy:∃g,y=[.int .i64 g,.a8]):aA Tryz.prog 150 [.lst 2 [] true,.int .i64 0,.vec 2 v 0 1] (St.none.set v (.row 94 2 [y])) (fun r σ'=>∃q,r=.vec 2 q 0 1∧σ'=St.none.set q (.row 94 2 [y])):=by
 obtain⟨g,rfl⟩:=hy
 refine aA.cD (aA.body 95 [.tmp 6] Tryz.func150 rfl rfl rfl rfl ?_)
 repeat' (first|(with_reducible first|(refine wN fun _ hnl=>?_;revert hnl;(repeat refine wS fun _ _=>?_);intro hnl)|refine wE ?_|(refine wK ?_ ?_<;>intro h)|(refine wB ?_ ?_<;>intro h<;>simp only[h]))|simp(maxSteps:=4000000) (disch:=first|exact ddL|fail) only[go_sem,simprocAttr,Tryz.f150])
 exact⟨_,St.aG (St.none_le _) (aK _ _ _),_,rfl,rfl⟩
theorem Er{v:Nat}(x:Int):aA Tryz.prog 191 [.lst 1 [] true,.int .i64 0,.vec 1 v 0 1] (St.none.set v (.row 3 1 [aS x])) (fun r σ'=>r=.lst 1 [aS x] false∧σ'=St.none):=by
 refine aA.FM (aA.body 95 [.tmp 6] Tryz.func191 rfl rfl rfl rfl ?_)
 repeat' (first|(with_reducible first|(refine wN fun _ hnl=>?_;revert hnl;(repeat refine wS fun _ _=>?_);intro hnl)|refine wE ?_|(refine wK ?_ ?_<;>intro h)|(refine wB ?_ ?_<;>intro h<;>simp only[h]))|simp(maxSteps:=4000000) (disch:=first|exact ddL|fail) only[go_sem,simprocAttr,Tryz.f191])
 exact⟨_,St.aG (St.none_le _) (aK _ _ _),St.none_le _,fun k o hk=>hk.elim,View.vecAll (aK _ _ _) rfl⟩
end
end Go.Proofs.YtaojijkdamfbnaaGreatDoor
