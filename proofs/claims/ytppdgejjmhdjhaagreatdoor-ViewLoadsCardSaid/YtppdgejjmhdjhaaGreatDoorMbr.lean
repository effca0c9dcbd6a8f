/- Parts of the proof, joined; conditions: those that its theorems name. -/
import Derived.Test.YtppdgejjmhdjhaaGreatDoorMbn
import Derived.Test.YtppdgejjmhdjhaaGreatDoorMbp
import Derived.Lib.IndexMore
import Derived.Lib.SliceRun
import Derived.OwnWalk
import Derived.Defers
import Derived.Laws.Pointers
import Derived.RegionTactic
import Derived.RegionCalls
import Derived.Lib.LazyBuf
set_option linter.unusedVariables false
set_option linter.unusedSimpArgs false
set_option maxHeartbeats 4000000
namespace Go.Proofs.YtppdgejjmhdjhaaGreatDoor
section
set_option maxRecDepth 100000
set_option maxHeartbeats 4000000
def fnG:List (FuncId × (List MV→MV))→bR
 | []=>fun _ _=>none
 | p::r=>fun g ms=>if p.1=g then some ⟨[],fun v=>v=p.2 ms,none⟩ else fnG r g ms
theorem Gd{g:FuncId}{u:List MV→MV}{r:List (FuncId × (List MV→MV))}{ms:List MV}{x:MV}(h:u ms=x):fnG ((g,u)::r) g ms=some ⟨[],fun v=>v=x,none⟩:=by
 subst h
 simp[fnG]
theorem J0{g g':FuncId}{u:List MV→MV}{r:List (FuncId × (List MV→MV))}{ms:List MV}{F:Fact}(hne:(g'==g)=false)(h:fnG r g ms=some F):fnG ((g',u)::r) g ms=some F:=by
 have:g'≠g:=by simpa using hne
 simp[fnG,this,h]
theorem extract_eq(A B:ByteArray)(i:Nat):A.extract i (i+B.size)=B↔(A.data.toList.drop i).take B.size=B.data.toList:=by
 have e:(A.extract i (i+B.size)).data.toList=(A.data.toList.drop i).take B.size:=by
  simp[ByteArray.data_extract,Array.toList_extract,List.extract_eq_take_drop]
 constructor
 ·intro h
  rw[←e,h]
 ·intro h
  rw[←e] at h
  exact ByteArray.ext (Array.toList_inj.1 h)
theorem vF(A B:ByteArray):oJ A B=Go.Lib.contains A.data.toList B.data.toList:=by
 have hla:A.data.toList.length=A.size:=by rw[Array.length_toList];rfl
 have hlb:B.data.toList.length=B.size:=by rw[Array.length_toList];rfl
 have hocc:∀i,Go.Lib.occAt A.data.toList B.data.toList i=true↔(A.data.toList.drop i).take B.size=B.data.toList:=fun i=>by
  unfold Go.Lib.occAt
  rw[List.isPrefixOf_iff_prefix,List.prefix_iff_eq_take,hlb]
  exact eq_comm
 rw[Bool.eq_iff_iff]
 unfold oJ Go.Lib.contains
 rw[List.any_eq_true,decide_eq_true_iff]
 constructor
 ·rintro⟨i,hi,h⟩
  have hi:=List.mem_range.1 hi
  have h:=(extract_eq A B i).1 (of_decide_eq_true h)
  rcases Go.Lib.index_spec A.data.toList B.data.toList with⟨_,h2⟩|⟨j,h1,_⟩
  ·have:=h2 i (by omega)
   rw[(hocc i).2 h] at this
   cases this
  ·omega
 ·intro h
  rcases Go.Lib.index_spec A.data.toList B.data.toList with⟨h1,_⟩|⟨j,h1,h2,h3,_⟩
  ·omega
  ·have h4:=(hocc j).1 h3
   have h5:=congrArg List.length h4
   rw[List.length_take,List.length_drop,hla,hlb] at h5
   refine⟨j,List.mem_range.2 (by omega),decide_eq_true ((extract_eq A B j).2 h4)⟩
theorem C3(a b:VA)(ha:a.s.size≤1000000)(hb:b.s.size≤1000000):aA Tryz.prog 261 [.agg a.c,.agg b.c] St.none (fun r _=>r=.bool (iS a b)):=by
 refine aA.bZ (aA.body 22 [.tmp 4] Tryz.func261 rfl rfl rfl rfl ?_)
 have f1:=vI a.s ha
 have f2:=vI b.s hb
 have hc:=rN (dY a.s) (dY b.s) (by rw[oR];exact ha)
 rw[←vF] at hc
 have hd:iS a b=(decide (a.kd=2)&&decide (b.kd=2)&&oJ (dY a.s) (dY b.s)):=rfl
 obtain⟨C,c1,c2⟩:∃C:bR,(∀s,C 297 [.str s]=some ⟨[],fun v=>v=.str (dY s),none⟩)∧(∀ms,C 296 ms=some ⟨[],fun v=>v=.bool (oJ (dY a.s) (dY b.s)),none⟩) :=
  ⟨fnG [(297,fun ms=>match ms with|[.str s]=>.str (dY s)|_=>.junk),(296,fun _=>.bool (oJ (dY a.s) (dY b.s)))],fun s=>Gd rfl,fun _=>J0 rfl (Gd rfl)⟩
 have c1a:=c1 a.s
 have c1b:=c1 b.s
 clear c1
 generalize oJ (dY a.s) (dY b.s)=p at hc hd c2
 generalize iS a b=out at hd ⊢
 by_cases e1:a.kd=2
 ·by_cases e2:b.kd=2
  ·rw[decide_eq_true e1,decide_eq_true e2,Bool.true_and,Bool.true_and] at hd
   subst hd
   repeat' (first|((with_reducible refine aK mixed ?chk C ?_);(case chk=>decide +kernel))|(with_reducible refine aI c1a f1 ?_)|(with_reducible refine aI c1b f2 ?_)|(with_reducible refine aI (c2 _) hc ?_)|(with_reducible first|(refine wN fun _ hnl=>?_;revert hnl;(repeat refine wS fun _ _=>?_);intro hnl)|refine wE ?_|(refine wK ?_ ?_<;>intro h)|(refine wB ?_ ?_<;>intro h<;>simp only[h]))|simp(maxSteps:=4000000) (disch:=first|exact ddL|fail) only[go_sem,simprocAttr,Tryz.f261,e1,e2])
   all_goals first|exact⟨_,St.le_refl _,rfl⟩|exact⟨_,St.le_refl _⟩
  ·rw[decide_eq_false e2,Bool.and_false,Bool.false_and] at hd
   subst hd
   repeat' (first|((with_reducible refine aK mixed ?chk C ?_);(case chk=>decide +kernel))|(with_reducible refine aI c1a f1 ?_)|(with_reducible refine aI c1b f2 ?_)|(with_reducible refine aI (c2 _) hc ?_)|(with_reducible first|(refine wN fun _ hnl=>?_;revert hnl;(repeat refine wS fun _ _=>?_);intro hnl)|refine wE ?_|(refine wK ?_ ?_<;>intro h)|(refine wB ?_ ?_<;>intro h<;>simp only[h]))|simp(maxSteps:=4000000) (disch:=first|exact ddL|fail) only[go_sem,simprocAttr,Tryz.f261,e1,e2])
   all_goals first|exact⟨_,St.le_refl _,rfl⟩|exact⟨_,St.le_refl _⟩
 ·rw[decide_eq_false e1,Bool.false_and,Bool.false_and] at hd
  subst hd
  repeat' (first|((with_reducible refine aK mixed ?chk C ?_);(case chk=>decide +kernel))|(with_reducible refine aI c1a f1 ?_)|(with_reducible refine aI c1b f2 ?_)|(with_reducible refine aI (c2 _) hc ?_)|(with_reducible first|(refine wN fun _ hnl=>?_;revert hnl;(repeat refine wS fun _ _=>?_);intro hnl)|refine wE ?_|(refine wK ?_ ?_<;>intro h)|(refine wB ?_ ?_<;>intro h<;>simp only[h]))|simp(maxSteps:=4000000) (disch:=first|exact ddL|fail) only[go_sem,simprocAttr,Tryz.f261,e1])
  all_goals first|exact⟨_,St.le_refl _,rfl⟩|exact⟨_,St.le_refl _⟩
end

section
set_option maxRecDepth 100000
set_option maxHeartbeats 4000000
abbrev SA.v(s:SA)(q:Nat):List MV:=s.bk.c++[.lst 7 (s.subs.map SU.c) false,.vec 12 q 0 s.rows.length]
end

section
open Go.Shelf Go.RowKit Go.Lib
set_option maxRecDepth 100000
set_option maxHeartbeats 4000000
theorem j6{P:Program}{K e:Nat}{el:TypeId}{t tr:Bool}(hn:aA P K [.aZ] St.none fun r _=>r=.aZ)
 (hr:∀(a:Addr) (c:Nat) (w:World),Calls P K #[.slice (some a) 0 c] w fun e w'=>e=.returned (.slice (some ⟨w.heap.size,0,none⟩) 0 0)∧w'=w.alloc (.cells #[] el)):aA P K [.lst e [] t] St.none fun r _=>r=.lst e [] tr:=by
 refine⟨hn.1,fun Φ w vs hi hv=>?_⟩
 have h0:=hv.2 0 _ rfl
 have h1:vs=#[vs.getD 0 undef]:=by
  have hz:=hv.1
  refine Array.ext (by simpa using hz) fun i q1 q2=>?_
  have:i=0:=by simp at q2;omega
  subst this
  simp[Array.getD,q1]
 generalize vs.getD 0 undef=v at h0 h1
 subst h1
 cases h0 with
 | lstn =>
  refine(hn.2 Φ w _ hi ⟨rfl,fun i m hm=>?_⟩).mono ?_
  ·match i with
   | 0=>simp at hm;subst hm;exact .aZ
   | i+1=>simp at hm
  ·rintro x w' ⟨v,mv,σ',Φ',rfl,r1,i1,s1,rfl⟩
   refine⟨v,_,σ',Φ',rfl,?_,i1,s1,rfl⟩
   cases r1
   exact .lstn _ _
 | lst0 a e c t ht hm =>
  refine(hr a c w).mono ?_
  rintro x w' ⟨rfl,rfl⟩
  obtain⟨i1,s1⟩:=hi.grow (w':=w.alloc (.cells #[] el)) rfl rfl rfl (Nat.le_refl _) (by simp) (fun k hk=>by
   show(w.heap.push _)[k]?=_
   rw[Array.getElem?_push,if_neg (by omega)])
  exact⟨_,_,_,Φ,rfl,.lst0 _ _ 0 _ (fun h=>rfl) (Nat.zero_le _),i1,s1,rfl⟩
 | lst hl h0=>simp at hl;omega
theorem Ed(a:Addr)(c:Nat)(w:World):Calls Tryz.prog 104 #[.slice (some a) 0 c] w fun e w'=>e=.returned (.slice (some ⟨w.heap.size,0,none⟩) 0 0)∧w'=w.alloc (.cells #[] 121):=by
 have q22:∀(w:World) (a:Option Addr) (n c n' c':Nat),(binOp .eql 22 (.slice a n c) (.slice none n' c')).run Tryz.prog w=.ok (.bool a.isNone) w:=fun w a n c n' c'=>Lib.run_eql_slice_nil w _ _ a n c n' c' Tryz.underlying22
 have u22:∀w,Sem.run Tryz.prog (underlying 22) w=.ok (TypeDesc.slice 121) w:=run_underlying Tryz.underlying22
 go_enter Tryz.func104,Tryz.ntmps104
 go_wp2
 go_ret
 exact⟨rfl,rfl⟩
theorem Bv:aA Tryz.prog 104 [.aZ] St.none (fun r _=>r=.aZ):=by
 refine(aA.body 8 [.tmp 2] Tryz.func104 rfl rfl rfl rfl ?_)
 repeat' (first|(with_reducible first|(refine wN fun _ hnl=>?_;revert hnl;(repeat refine wS fun _ _=>?_);intro hnl)|refine wE ?_|(refine wK ?_ ?_<;>intro h)|(refine wB ?_ ?_<;>intro h<;>simp only[h]))|simp(maxSteps:=4000000) (disch:=first|exact ddL|fail) only[go_sem,simprocAttr,Tryz.f104])
theorem z8(e:Nat)(t:Bool):aA Tryz.prog 104 [.lst e [] t] St.none (fun r _=>r=.lst e [] false):=j6 Bv Ed
theorem Ec(a:Addr)(c:Nat)(w:World):Calls Tryz.prog 114 #[.slice (some a) 0 c] w fun e w'=>e=.returned (.slice (some ⟨w.heap.size,0,none⟩) 0 0)∧w'=w.alloc (.cells #[] 3):=by
 have q22:∀(w:World) (a:Option Addr) (n c n' c':Nat),(binOp .eql 75 (.slice a n c) (.slice none n' c')).run Tryz.prog w=.ok (.bool a.isNone) w:=fun w a n c n' c'=>Lib.run_eql_slice_nil w _ _ a n c n' c' Tryz.underlying75
 have u22:∀w,Sem.run Tryz.prog (underlying 75) w=.ok (TypeDesc.slice 3) w:=run_underlying Tryz.underlying75
 go_enter Tryz.func114,Tryz.ntmps114
 go_wp2
 go_ret
 exact⟨rfl,rfl⟩
theorem Bt:aA Tryz.prog 114 [.aZ] St.none (fun r _=>r=.aZ):=by
 refine(aA.body 8 [.tmp 2] Tryz.func114 rfl rfl rfl rfl ?_)
 repeat' (first|(with_reducible first|(refine wN fun _ hnl=>?_;revert hnl;(repeat refine wS fun _ _=>?_);intro hnl)|refine wE ?_|(refine wK ?_ ?_<;>intro h)|(refine wB ?_ ?_<;>intro h<;>simp only[h]))|simp(maxSteps:=4000000) (disch:=first|exact ddL|fail) only[go_sem,simprocAttr,Tryz.f114])
theorem z7(e:Nat)(t:Bool):aA Tryz.prog 114 [.lst e [] t] St.none (fun r _=>r=.lst e [] false):=j6 Bt Ec
end

section
set_option maxRecDepth 100000
set_option maxHeartbeats 4000000
theorem Bu(l:List ND)(hl:l.length≤1000000)(t:Bool):aA Tryz.prog 104 [.lst 5 (l.map ND.c) t] St.none (fun r _=>r=.lst 5 (l.map ND.c) false):=by
 cases l with
 | nil=>exact z8 5 t
 | cons x m =>
  refine aA.seen (aA.body 8 [.tmp 2] Tryz.func104 rfl rfl rfl rfl ?_)
  simp only[List.length_cons] at hl
  repeat' (first|(with_reducible first|(refine wN fun _ hnl=>?_;revert hnl;(repeat refine wS fun _ _=>?_);intro hnl)|refine wE ?_|(refine wK ?_ ?_<;>intro h)|(refine wB ?_ ?_<;>intro h<;>simp only[h]))|simp(maxSteps:=4000000) (disch:=first|exact ddL|fail) only[go_sem,simprocAttr,Tryz.f104])
  exact .vecAll (aJ _ _ _) (by simp only[List.length_map,List.length_cons])
theorem Bs(l:List Int)(hl:l.length≤1000000)(t:Bool):aA Tryz.prog 114 [.lst 1 (l.map aP) t] St.none (fun r _=>r=.lst 1 (l.map aP) false):=by
 cases l with
 | nil=>exact z7 1 t
 | cons x m =>
  refine aA.seen (aA.body 8 [.tmp 2] Tryz.func114 rfl rfl rfl rfl ?_)
  simp only[List.length_cons] at hl
  repeat' (first|(with_reducible first|(refine wN fun _ hnl=>?_;revert hnl;(repeat refine wS fun _ _=>?_);intro hnl)|refine wE ?_|(refine wK ?_ ?_<;>intro h)|(refine wB ?_ ?_<;>intro h<;>simp only[h]))|simp(maxSteps:=4000000) (disch:=first|exact ddL|fail) only[go_sem,simprocAttr,Tryz.f114])
  exact .vecAll (aJ _ _ _) (by simp only[List.length_map,List.length_cons])
end

section
set_option maxRecDepth 100000
set_option maxHeartbeats 4000000
theorem DQ(a:Addr)(n:Int)(w:World)(hc:w.cell? a=some (.int .u32 n))(hs:a.spot=none):Calls Tryz.prog 202 #[.pointer (some a)] w fun e w'=>e=.returned (.bool (n != 0))∧w'=w:=by
 obtain⟨b,off,sub⟩:=a
 simp only at hs
 subst hs
 have hl:=run_call_load (P:=Tryz.prog) Tryz.func247 (by kernel_rfl) (by kernel_rfl) (by kernel_rfl) .u32 (by kernel_rfl) hc
 go_enter Tryz.func202,Tryz.ntmps202
 go_wp2
 go_ret
 exact⟨rfl,rfl⟩
theorem qN(a:Addr)(x:Value)(u:FrameMode)(w:World)(hc:w.cell? a=some x)(hz:w.frozen? a=false)(hs:a.spot=none) :
  CallsD Tryz.prog 250 #[.pointer (some a),.bool true] u w fun e u' w'=>u'=u∧(e=.returned (.tuple #[])∧w'=w.drew.setCell a (.int .u32 1)):=by
 obtain⟨b,off,sub⟩:=a
 simp only at hs
 subst hs
 have hc':w.drew.cell? ⟨b,off,none⟩=some x:=by go_simp
 have hz':w.drew.frozen? ⟨b,off,none⟩=false:=by go_simp
 have hst:=run_call_store (P:=Tryz.prog) Tryz.func293 (by kernel_rfl) (by kernel_rfl) (by kernel_rfl) (by kernel_rfl) (k:=.u32) (y:=1) hc' hz'
 go_enter_d Tryz.func250,Tryz.ntmps250
 go_wp2
 go_region_calls
 all_goals (go_end0;exact⟨rfl,rfl⟩)
theorem l7{l o e:Nat}{t:TypeId}{x:List MV}{n:Int}(hx:x[o]?=some (.int .u32 n)):aA Tryz.prog 202 [.ptr l 0 o] (St.none.set l (.row t e [x])) (fun v σ'=>v=.bool (n != 0)∧σ'=St.none.set l (.row t e [x])):=by
 refine⟨⟨_,Tryz.func202,rfl,rfl⟩,fun Φ w vs hi hr=>?_⟩
 obtain⟨p,R,v0,hp,hb,hc,hr0,hz,i1,s1⟩:=lA hi (aJ _ _ _) hx (m:=.int .u32 n) rfl (.int .u32 n)
 have e0:=hr0.aS
 subst e0
 obtain⟨p',R',hp',hb',he⟩:=s7 hr
 rw[hp] at hp';cases hp'
 rw[hb] at hb';cases hb'
 have hv:vs=#[.pointer (some ⟨R,p.bo+o,none⟩)]:=by
  have h1:=hr.1
  apply Array.ext
  ·simpa using h1
  ·intro i h3 h4
   have:i=0:=by simp at h4;omega
   subst this
   simpa[Array.getD_eq_getD_getElem?,Array.getElem?_eq_getElem h3] using he
 subst hv
 refine(DQ ⟨R,p.bo+o,none⟩ n w hc rfl).mono ?_
 rintro e' w' ⟨rfl,rfl⟩
 exact⟨_,_,_,Φ,rfl,.bool _,hi,.refl _ _ _,rfl,rfl⟩
theorem EA{l o e:Nat}{t:TypeId}{x:List MV}(hx:x[o]?=some (.int .i32 0)):aA Tryz.prog 248 [.ptr l 0 o] (St.none.set l (.row t e [x])) (fun v σ'=>v=.tup []∧σ'=St.none.set l (.row t e [x.set o (.int .i32 1)])):=by
 refine⟨⟨_,Tryz.func248,rfl,rfl⟩,fun Φ w vs hi hr=>?_⟩
 obtain⟨p,R,v0,hp,hb,hc,hr0,hz,i1,s1⟩:=lA hi (aJ _ _ _) hx (m:=.int .i32 1) rfl (.int .i32 1)
 have e0:=hr0.aS
 subst e0
 obtain⟨p',R',hp',hb',he⟩:=s7 hr
 rw[hp] at hp';cases hp'
 rw[hb] at hb';cases hb'
 have hv:vs=#[.pointer (some ⟨R,p.bo+o,none⟩)]:=by
  have h1:=hr.1
  apply Array.ext
  ·simpa using h1
  ·intro i h3 h4
   have:i=0:=by simp at h4;omega
   subst this
   simpa[Array.getD_eq_getD_getElem?,Array.getElem?_eq_getElem h3] using he
 subst hv
 refine(Go.MuLone.lock_free KX ⟨R,p.bo+o,none⟩ w hc hz).mono ?_
 rintro e' w' ⟨rfl,rfl⟩
 refine⟨_,.tup [],_,Φ,rfl,.tup rfl (by simp),i1,s1,rfl,?_⟩
 rw[set_set]
theorem DF{σ:St}{K:St→Prop}{l o e:Nat}{t:TypeId}{x:List MV}(hs:σ l=some (.row t e [x]))(hx:x[o]?=some (.int .i32 1))(hk:R (K (σ.set l (.row t e [x.set o (.int .i32 0)])))):R (zW Tryz.prog 249 [.ptr l 0 o] σ K):=by
 refine⟨_,KX.f_unlock,rfl,rfl,fun Φ w vs hi hr=>?_⟩
 obtain⟨p,R,v0,hp,hb,hc,hr0,hz,i1,s1⟩:=lA hi hs hx (m:=.int .i32 0) rfl (.int .i32 0)
 have e0:=hr0.aS
 subst e0
 obtain⟨p',R',hp',hb',he⟩:=s7 hr
 rw[hp] at hp';cases hp'
 rw[hb] at hb';cases hb'
 have hv:vs=#[.pointer (some ⟨R,p.bo+o,none⟩)]:=by
  have h1:=hr.1
  apply Array.ext
  ·simpa using h1
  ·intro i h3 h4
   have:i=0:=by simp at h4;omega
   subst this
   simpa[Array.getD_eq_getD_getElem?,Array.getElem?_eq_getElem h3] using he
 subst hv
 refine(Go.MuLone.unlock_deferred KX ⟨R,p.bo+o,none⟩ .returning w hc hz).mono ?_
 rintro e' u' w' ⟨rfl,rfl,rfl⟩
 exact⟨rfl,_,_,Φ,rfl,i1,s1,hk⟩
theorem zX{σ:St}{K:St→Prop}{l o e:Nat}{t:TypeId}{x:List MV}{n:Int}(hs:σ l=some (.row t e [x]))(hx:x[o]?=some (.int .u32 n))(hk:R (K (σ.set l (.row t e [x.set o (.int .u32 1)])))):R (zW Tryz.prog 250 [.ptr l 0 o,.bool true] σ K):=by
 refine⟨_,Tryz.func250,rfl,rfl,fun Φ w vs hi hr=>?_⟩
 have hd:=hi.grow (w':=w.drew) rfl rfl rfl (iR (Nat.le_succ _)) (Nat.le_refl _) (fun _ _=>rfl)
 obtain⟨p,R,v0,hp,hb,hc,hr0,hz,i1,s1⟩:=lA hd.1 hs hx (m:=.int .u32 1) rfl (.int .u32 1)
 obtain⟨p',R',hp',hb',he⟩:=s7 hr
 rw[hp] at hp';cases hp'
 rw[hb] at hb';cases hb'
 have he2:vs.getD 1 undef=.bool true:=by
  have:=hr.2 1 _ rfl
  cases h:vs.getD 1 undef<;>rw[h] at this<;>cases this
  rfl
 have hv:vs=#[.pointer (some ⟨R,p.bo+o,none⟩),.bool true]:=by
  have h1:=hr.1
  apply Array.ext
  ·simpa using h1
  ·intro i h3 h4
   match i,h3 with
   | 0,h3=>simpa[Array.getD_eq_getD_getElem?,Array.getElem?_eq_getElem h3] using he
   | 1,h3=>simpa[Array.getD_eq_getD_getElem?,Array.getElem?_eq_getElem h3] using he2
   | i+2,_=>simp at h4;omega
 subst hv
 refine(qN ⟨R,p.bo+o,none⟩ v0 .returning w (by simpa using hc) (by simpa using hz) rfl).mono ?_
 rintro e' u' w' ⟨rfl,rfl,rfl⟩
 exact⟨rfl,_,_,Φ,rfl,i1,hd.2.trans s1,hk⟩
end

section
theorem FB{P:Program}{o:Oper}{f:FR}{σ:St}{k:MV→St→Prop}{t t' el:TypeId}{x:Operand}(ho:o.op=.binOp .eql t x (.const (.slice none 0 0)) t')(ht:(td P t).k=.slice el){e l lo n:Nat}(hx:aH f x=.vec e l lo (n+1))(hk:k (.bool false) σ):sop P o f σ k:=by
 intro Φ w ac K Q' hi hr hK
 have rx:=aL hr x
 rw[hx] at rx
 generalize hv:ac.eval x=vx at rx
 obtain⟨ad,cap,p,rfl,hp,hpe,hcap,hncap,hR⟩:=rx.gM
 rcases hR with⟨R,hb,rfl⟩|h
 ·refine bH (v:=.bool false) (w':=w) ?_ (hK _ (.bool false) _ Φ w (.bool _) hi (.refl _ _ _) hk)
  have hc:ac.eval (.const (.slice none 0 0))=.slice none 0 0:=rfl
  have h1:=Go.run_eql_slice_nil (P:=P) w t el (some ⟨R,p.bo+lo * p.e,none⟩) (n+1) cap (aY ht)
  unfold execOp
  simp only[ho,hv,hc,Sem.run_bind,oQ,h1,Sem.run_pure,Result.andThen_ok]
  rfl
 ·omega
end
end Go.Proofs.YtppdgejjmhdjhaaGreatDoor
