/- Parts of the proof, joined; conditions: those that its theorems name. -/
import Derived.Test.YtaojijkdamfbnaaGreatDoorMfza
import Derived.Test.YtaojijkdamfbnaaGreatDoorMfzb
set_option linter.unusedVariables false
set_option linter.unusedSimpArgs false
set_option maxHeartbeats 4000000
namespace Go.Proofs.YtaojijkdamfbnaaGreatDoor
section
set_option maxRecDepth 100000
set_option maxHeartbeats 8000000
theorem tS(sq:Int)(l b:Nat)(gr:List GR)(h3:gr.length≤1000000)(h4:∀g,g∈gr→g.mem.length≤1000000)(hok:dN (-1) gr=true)(id:Int) :
  aA Tryz.prog 48 [.ptr b 0 0,.int .i64 id] (St.none.set b (bV sq l (.lst 2 (gr.map GR.c) false))) (fun v σ'=>v=.int .u32 (grB gr id:Int)∧σ'=St.none.set b (bV sq l (.lst 2 (gr.map GR.c) false))):=by
 refine(aA.body 13 [.tmp 4] Tryz.func48 rfl rfl rfl rfl ?_)
 have h:=D4 gr false h3 h4 hok id
 repeat' (first|(with_reducible first|refine up h ?_)|(with_reducible first|(refine wN fun _ hnl=>?_;revert hnl;(repeat refine wS fun _ _=>?_);intro hnl)|refine wE ?_|(refine wK ?_ ?_<;>intro h)|(refine wB ?_ ?_<;>intro h<;>simp only[h]))|simp(maxSteps:=4000000) (disch:=first|exact ddL|fail) only[go_sem,simprocAttr,Tryz.f48])
 all_goals exact⟨rfl,rfl⟩
theorem vP(nx sq:Int){l m b:Nat}(dead g:MV)(cs:List CA)(hlm:l≠m)(hbm:b≠m)(hbl:b≠l)(hc:HX cs) :
  aA Tryz.prog 96 [.ptr b 0 0] (((St.none.set m (.mp (cEs cs))).set l (shO nx m dead)).set b (bV sq l g)) (fun v σ'=>v=.lst 27 (cs.map CA.c) false∧σ'=((St.none.set m (.mp (cEs cs))).set l (shO nx m dead)).set b (bV sq l g)):=by
 refine(aA.body 10 [.tmp 2] Tryz.func96 rfl rfl rfl rfl ?_)
 have h:=z8 nx l m dead cs hlm hc
 have hml:=Ne.symm hlm
 have hmb:=Ne.symm hbm
 have hlb:=Ne.symm hbl
 repeat' (first|(refine iK h (le2 (by simp[St.set, *]) (by simp[St.set, *])) ?_)|(with_reducible first|(refine wN fun _ hnl=>?_;revert hnl;(repeat refine wS fun _ _=>?_);intro hnl)|refine wE ?_|(refine wK ?_ ?_<;>intro h)|(refine wB ?_ ?_<;>intro h<;>simp only[h]))|simp(maxSteps:=4000000) (disch:=first|exact ddL|fail) only[go_sem,simprocAttr,Tryz.f96])
 all_goals exact⟨rfl,rfl⟩
noncomputable abbrev flD(fl:List ND)(d:Bool):aV:=flO (.lst 5 (fl.map ND.c) false) (if d=true then 1 else 0) 0 (if d=true then iT (lF fl) else .nilfn)
theorem BS{fl:List ND}(hp:bI fl=0){gr:List GR}(hg:dN (-1) gr=true){c:CA}(hc:dY c=true)(f:Nat)(d:Bool) :
  aA Tryz.prog 47 [.ptr f 0 0,.agg c.c,.int .u32 (grB gr c.id:Int)] (St.none.set f (flD fl d)) (fun v σ'=>v=.bool (eY gr fl c)∧σ'=St.none.set f (flD fl true)):=by
 obtain⟨h1,h2,h3⟩:=pM hp
 have h:=yM h1 (by rw[h2];omega) c (fun k=>?_) (grB gr c.id) (Nat.lt_of_lt_of_le (KN hg c.id) (by decide)) f false d
 ·rw[h2] at h
  exact h
 ·by_cases hk:k<8
  ·exact CB hc _ (by
    unfold F8.get
    exact eB _ (by rw[c.f.h];exact hk))
  ·unfold F8.get
   rw[List.getD_eq_getElem?_getD,List.getElem?_eq_none (by rw[c.f.h];omega)]
   decide
theorem uC{nx:Int}{cs:List CA}(h:dC nx 0 cs=true)(hn:nx≤1073741824)(hl:cs.length≤1000000):HX cs:=by
 obtain⟨h1,h2⟩:=jU h
 exact⟨h2,fun c hc=>by have:=h1 c hc;omega,hl⟩
end

section
set_option maxRecDepth 100000
set_option maxHeartbeats 8000000
noncomputable def shC(B:BK)(fl:List ND):List CA:=B.cards.filter (eY B.gr fl)
structure OF (f sm v:Nat):Prop where
 sf:sm≠f
 vf:v≠f
 vs:v≠sm
end

section
set_option maxRecDepth 100000
set_option maxHeartbeats 8000000
theorem pG{B:BK}(hb:BkR B)(fl:List ND):HX (shC B fl):=by
 have h:=uC hb.cok hb.nx2 (by have:=hb.nc;omega)
 refine⟨h.1.filter _,fun c hc=>h.2.1 c (List.mem_filter.1 hc).1,Nat.le_trans (List.length_filter_le _ _) h.2.2⟩
end

section
set_option maxRecDepth 100000
set_option maxHeartbeats 8000000
abbrev cdX(cs:List CA):List (List MV):=cs.map fun c=>[.agg c.c]
noncomputable abbrev alI(m l q b:Nat)(B:BK)(ex:List (List MV))(fl:List ND)(f pb pf:Nat)(d:Bool):St:=(((bkS m l q b B ex).set f (flD fl d)).set pb (.row 33 1 [[.ptr b 0 0]])).set pf (.row 36 1 [[.ptr f 0 0]])
structure Fq (m l q b f pb pf:Nat):Prop where
 h1:f≠m∧f≠l∧f≠q∧f≠b
 h2:pb≠m∧pb≠l∧pb≠q∧pb≠b∧pb≠f
 h3:pf≠m∧pf≠l∧pf≠q∧pf≠b∧pf≠f∧pf≠pb
theorem LF{g1 g2:FuncId}{r1 r2:List Nat}{q1 q2:MV→Prop}{x2:List aV × (Nat→MV)}:PlU (.these [g2]) (fnF [(g1,⟨r1,q1,none⟩),(g2,⟨r2,q2,some x2⟩)]):=by
 intro g' ms rd q' x' h
 simp only[fnF] at h
 split at h
 ·cases h
 ·split at h
  ·rename_i e
   subst e
   exact .inr (List.mem_singleton.2 rfl)
  ·cases h
theorem tJ(c:CA):∀m,m∈[MV.agg c.c]→gJ m:=fun m hm=>by
 rw[List.mem_singleton] at hm
 subst hm
 refine .flat (.agg fun x hx=>?_)
 simp only[CA.c,List.mem_cons] at hx
 rcases hx with rfl|rfl|rfl|hx
 ·exact .int _ _
 ·exact .int _ _
 ·exact .int _ _
 ·unfold fc at hx
  obtain⟨v,hv,hx⟩:=List.mem_flatten.1 hx
  obtain⟨a,_,rfl⟩:=List.mem_map.1 hv
  simp only[VA.c,List.mem_cons,List.not_mem_nil,or_false] at hx
  rcases hx with rfl|rfl|rfl
  ·exact .int _ _
  ·exact .int _ _
  ·exact .str _
end
end Go.Proofs.YtaojijkdamfbnaaGreatDoor
