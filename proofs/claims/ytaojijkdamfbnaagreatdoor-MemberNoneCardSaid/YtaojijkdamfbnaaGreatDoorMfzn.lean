/- Parts of the proof, joined; conditions: those that its theorems name. -/
import Derived.Test.YtaojijkdamfbnaaGreatDoorMfzl
import Derived.Test.YtaojijkdamfbnaaGreatDoorMfzm
set_option linter.unusedVariables false
set_option linter.unusedSimpArgs false
set_option maxHeartbeats 4000000
namespace Go.Proofs.YtaojijkdamfbnaaGreatDoor
section
set_option maxRecDepth 100000
set_option maxHeartbeats 8000000
theorem Iu{B:BK}(hb:BkR B)(fl:List ND)(mk:UInt32)(c:Int):UpI ((eX B fl mk c).map CA.id):=by
 rw[Is hb]
 exact List.pairwise_map.2 (List.Pairwise.filter _ (C8 hb fl mk).1)
theorem F3{B:BK}(hb:BkR B)(fl:List ND)(mk:UInt32)(c:Int):(eX B fl mk c).length≤48:=by
 unfold eX
 rw[List.length_map]
 exact Nat.le_trans (List.length_filter_le _ _) hb.nc
end

section
set_option maxRecDepth 100000
set_option maxHeartbeats 8000000
def lQ(a b:List Int):List Int:=a.filter fun x=>decide (x∈b)
theorem Cz{a b:List Int}{i:Nat}{x:Int}(h:a[i]?=some x):lQ (a.take (i+1)) b=lQ (a.take i) b++if x∉b then[] else[x]:=by
 unfold lQ
 rw[a8 h,List.filter_append,List.filter_cons]
 by_cases hb:x∈b<;>simp[hb]
theorem Fz(a b:List Int):(lQ a b).length≤a.length:=List.length_filter_le _ _
theorem Ec(a b:List Int)(ta tb:Bool)(ha:a.length≤1000000)(hb:b.length≤1000000):aA Tryz.prog 26 [.lst 1 (a.map aJ) ta,.lst 1 (b.map aJ) tb] St.none (fun r _=>r=.lst 1 ((lQ a b).map aJ) false):=by
 refine aA.seen (aA.body 28 [.tmp 4] Tryz.func26 rfl rfl rfl rfl ?_)
 repeat' (first|(with_reducible first|(refine wT ?_;(first|((fail_if_success (have:=nl1));refine wN fun nl1 hnl=>?_)|((fail_if_success (have:=nl2));refine wN fun nl2 hnl=>?_)|((fail_if_success (have:=nl3));refine wN fun nl3 hnl=>?_)|refine wN fun _ hnl=>?_);revert hnl;(repeat refine wS fun _ _=>?_);intro hnl)|refine wE ?_|(refine wK ?_ ?_<;>intro h)|(refine wB ?_ ?_<;>intro h<;>simp only[h]))|simp(maxSteps:=4000000) (disch:=first|exact ddL|fail) only[go_sem,simprocAttr,Tryz.f26])
 refine aH (α:=Nat × Nat × List (List MV)) (fun s=>⟨28,[(6,.int .i64 (s.1:Int)),(5,.vec 1 s.2.1 0 (lQ (a.take s.1) b).length),(0,.lst 1 (a.map aJ) ta),(1,.lst 1 (b.map aJ) tb)],[]⟩)
  (fun s=>St.none.set s.2.1 (.row 3 1 ((lQ (a.take s.1) b).map aJ++s.2.2))) (fun s=>s.1≤a.length) (fun s=>a.length - s.1) ?_ ?_
 ·refine .of (.less ?_ (St.le_refl _)) ⟨(0,nl1,[]),rfl,by simp[lQ],Nat.zero_le _⟩
  simp(maxSteps:=4000000) (disch:=first|exact ddL|fail) only[go_sem,simprocAttr,aC,aB]
  all_goals first|rfl|(simp[lQ,aB];done)
 ·rintro⟨i,q,ex⟩ hi
  simp only at hi ⊢
  by_cases hlt:i<a.length
  ·obtain⟨x,hx⟩:=bO a hlt
   have hat:=bF (f:=aJ) hx
   have hh:=rF b tb hb x
   have hsn:=Cz (b:=b) hx
   have hml:=Fz (a.take i) b
   have htl:(a.take i).length=i:=by rw[List.length_take];omega
   rw[htl] at hml
   by_cases hm:x∉b
   ·rw[decide_eq_false hm] at hh
    rw[if_pos hm,List.append_nil] at hsn
    rw[←hsn]
    repeat' (first|(with_reducible first|refine up hh ?_)|(with_reducible first|(refine wT ?_;(first|((fail_if_success (have:=nl1));refine wN fun nl1 hnl=>?_)|((fail_if_success (have:=nl2));refine wN fun nl2 hnl=>?_)|((fail_if_success (have:=nl3));refine wN fun nl3 hnl=>?_)|refine wN fun _ hnl=>?_);revert hnl;(repeat refine wS fun _ _=>?_);intro hnl)|refine wE ?_|(refine wK ?_ ?_<;>intro h)|(refine wB ?_ ?_<;>intro h<;>simp only[h]))|simp(maxSteps:=4000000) (disch:=first|exact ddL|fail) only[go_sem,simprocAttr,hat])
    refine .of (.less ?_ (St.le_refl _)) ⟨(i+1,q,ex),rfl,rfl,by simp only;omega,by simp only;omega⟩
    simp(maxSteps:=4000000) (disch:=first|exact ddL|fail) only[go_sem,simprocAttr,aC,aB]
    all_goals first|rfl|(simp;done)
   ·rw[decide_eq_true (Decidable.not_not.1 hm)] at hh
    rw[if_neg hm] at hsn
    obtain⟨L,hL⟩:∃L,lQ (a.take i) b=L:=⟨_,rfl⟩
    rw[hL] at hsn hml ⊢
    have htk:(L.map aJ++ex).take L.length=L.map aJ:=iP
    have hdr:(L.map aJ++ex).drop (L.length+1)=ex.drop 1:=jF
    have hLl:(L.map aJ).length=L.length:=List.length_map _
    repeat' (first|(with_reducible first|refine up hh ?_)|(with_reducible first|(refine wT ?_;(first|((fail_if_success (have:=nl1));refine wN fun nl1 hnl=>?_)|((fail_if_success (have:=nl2));refine wN fun nl2 hnl=>?_)|((fail_if_success (have:=nl3));refine wN fun nl3 hnl=>?_)|refine wN fun _ hnl=>?_);revert hnl;(repeat refine wS fun _ _=>?_);intro hnl)|refine wE ?_|(refine wK ?_ ?_<;>intro h)|(refine wB ?_ ?_<;>intro h<;>simp only[h]))|simp(maxSteps:=4000000) (disch:=first|exact ddL|fail) only[go_sem,simprocAttr,hat,htk,hdr,hLl])
    ·have hex:ex=[]:=List.eq_nil_of_length_eq_zero (by first|omega|(simp at *;omega))
     subst hex
     refine .of (.less ?_ (σ1:=St.none.set nl3 (.row 3 1 (L.map aJ++[]++[aJ x]))) (St.aD (St.none_le _) (by simp[St.set, *]))) ⟨(i+1,nl3,[]),rfl,by simp[hsn],by simp only;omega,by simp only;omega⟩
     simp(maxSteps:=4000000) (disch:=first|exact ddL|fail) only[go_sem,simprocAttr,aC,aB,hsn]
     all_goals first|rfl|(simp;done)
    ·refine .of (.less ?_ (σ1:=St.none.set nl3 (.row 3 1 (L.map aJ++[aJ x]++ex.drop 1))) (St.aD (St.none_le _) (by simp[St.set, *]))) ⟨(i+1,nl3,ex.drop 1),rfl,by simp[hsn],by simp only;omega,by simp only;omega⟩
     simp(maxSteps:=4000000) (disch:=first|exact ddL|fail) only[go_sem,simprocAttr,aC,aB,hsn]
     all_goals first|rfl|(simp;done)
  ·have:i=a.length:=by omega
   subst this
   rw[List.take_length]
   repeat' (first|(with_reducible first|(refine wT ?_;(first|((fail_if_success (have:=nl1));refine wN fun nl1 hnl=>?_)|((fail_if_success (have:=nl2));refine wN fun nl2 hnl=>?_)|((fail_if_success (have:=nl3));refine wN fun nl3 hnl=>?_)|refine wN fun _ hnl=>?_);revert hnl;(repeat refine wS fun _ _=>?_);intro hnl)|refine wE ?_|(refine wK ?_ ?_<;>intro h)|(refine wB ?_ ?_<;>intro h<;>simp only[h]))|simp(maxSteps:=4000000) (disch:=first|exact ddL|fail) only[go_sem,simprocAttr])
   exact cB (aF _ _ _) (by simp)
theorem B5:∀{W H:List CA},HY W→HY H→(∀x,x∈W↔x∈H)→W=H
 | [],[],_,_,_=>rfl
 | [],y::s,_,_,h=>absurd ((h y).2 (List.mem_cons_self ..)) (by simp)
 | x::r,[],_,_,h=>absurd ((h x).1 (List.mem_cons_self ..)) (by simp)
 | x::r,y::s,hW,hH,h=>by
  obtain⟨w1,w2⟩:=List.pairwise_cons.1 hW
  obtain⟨v1,v2⟩:=List.pairwise_cons.1 hH
  have hxy:x=y:=by
   rcases List.mem_cons.1 ((h x).1 (List.mem_cons_self ..)) with e|e
   ·exact e
   ·rcases List.mem_cons.1 ((h y).2 (List.mem_cons_self ..)) with e'|e'
    ·exact e'.symm
    ·have a1:=v1 x e
     have a2:=w1 y e'
     omega
  subst hxy
  rw[B5 w2 v2 fun z=>⟨fun hz=>?_,fun hz=>?_⟩]
  ·rcases List.mem_cons.1 ((h z).1 (List.mem_cons_of_mem _ hz)) with e|e
   ·subst e;have:=w1 z hz;omega
   ·exact e
  ·rcases List.mem_cons.1 ((h z).2 (List.mem_cons_of_mem _ hz)) with e|e
   ·subst e;have:=v1 z hz;omega
   ·exact e
theorem tA(a:List Int):bG a a=[]:=List.filter_eq_nil_iff.2 fun x hx=>by simp[hx]
theorem mU{H:List CA}(hu:UpI (H.map CA.id)){c:CA}(hc:c∈H):nL H c.id=some c:=by
 cases h:nL H c.id with
 | none=>exact absurd (List.mem_map_of_mem hc) (nW h)
 | some d =>
  obtain⟨h1,h2⟩:=nX h
  have e1:=lP hu hc
  have e2:=lP hu h1
  rw[h2,e1] at e2
  cases e2;rfl
theorem BH{W:List CA}(hu:UpI (W.map CA.id)):tO W W=[]:=by
 unfold tO
 rw[List.map_eq_nil_iff]
 exact List.filter_eq_nil_iff.2 fun c hc=>by rw[mU hu hc];simp
theorem Df{W H:List CA}(hW:UpI (W.map CA.id))(hH:UpI (H.map CA.id)) :
  ((bG (W.map CA.id) (H.map CA.id)).length+(bG (H.map CA.id) (W.map CA.id)).length+(tO W H).length=0)↔W=H:=by
 constructor
 ·intro h
  have e1:bG (W.map CA.id) (H.map CA.id)=[]:=List.eq_nil_of_length_eq_zero (by omega)
  have e2:bG (H.map CA.id) (W.map CA.id)=[]:=List.eq_nil_of_length_eq_zero (by omega)
  have e3:tO W H=[]:=List.eq_nil_of_length_eq_zero (by omega)
  have s1:∀x,x∈W.map CA.id→x∈H.map CA.id:=fun x hx=>by
   have:=List.filter_eq_nil_iff.1 e1 x hx
   simpa using this
  have s2:∀x,x∈H.map CA.id→x∈W.map CA.id:=fun x hx=>by
   have:=List.filter_eq_nil_iff.1 e2 x hx
   simpa using this
  have s3:∀c,c∈W→nL H c.id=some c:=fun c hc=>by
   unfold tO at e3
   rw[List.map_eq_nil_iff] at e3
   have:=List.filter_eq_nil_iff.1 e3 c hc
   cases hf:nL H c.id with
   | none=>exact absurd (s1 _ (List.mem_map_of_mem hc)) (nW hf)
   | some d =>
    rw[hf] at this
    simp at this
    rw[this]
  refine B5 (List.pairwise_map.1 hW) (List.pairwise_map.1 hH) fun x=>⟨fun hx=>(nX (s3 x hx)).1,fun hx=>?_⟩
  obtain⟨c,hc,hid⟩:=List.mem_map.1 (s2 _ (List.mem_map_of_mem hx))
  have h1:=s3 c hc
  rw[hid,mU hH hx] at h1
  cases h1
  exact hc
 ·intro h
  subst h
  rw[tA,BH hW]
  rfl
theorem HB{fl:List ND}(h1:bI fl=0)(h2:bI (nd 10::fl)=0)(gr:List GR)(c:CA):eY gr (nd 10::fl) c=!eY gr fl c:=by
 obtain⟨g1,t1,-⟩:=pM h1
 obtain⟨g2,t2,-⟩:=pM h2
 unfold eY
 cases hc:lF (nd 10::fl) with
 | leaf x =>
  rw[hc] at t2 g2
  simp only[T.fl,List.cons.injEq] at t2
  have:=g2.1
  rw[t2.1] at this
  have h0:parts 10=0:=this
  exact absurd h0 (by decide)
 | two x a b =>
  rw[hc] at t2 g2
  simp only[T.fl,List.cons.injEq] at t2
  have:=g2.1
  rw[t2.1] at this
  have h0:parts 10=2:=this.1
  exact absurd h0 (by decide)
 | one x a =>
  rw[hc] at t2 g2
  simp only[T.fl,List.cons.injEq] at t2
  have e:a=lF fl:=Ny g2.1.2 g1.1 (by rw[t2.2,t1])
  rw[e];rfl
theorem sN(p:CA→Bool):∀l:List CA,(l.filter p).length+(l.filter fun c=>!p c).length=l.length
 | []=>rfl
 | x::r=>by
  have h:=sN p r
  cases hp:p x
  ·rw[List.filter_cons_of_neg (by simp[hp]),List.filter_cons_of_pos (by simp[hp]),List.length_cons,List.length_cons];omega
  ·rw[List.filter_cons_of_pos hp,List.filter_cons_of_neg (by simp[hp]),List.length_cons,List.length_cons];omega
theorem Hd{B:BK}(hb:BkR B){fl:List ND}(h1:bI fl=0)(h2:bI (nd 10::fl)=0) :
  (shC B fl).length+(shC B (nd 10::fl)).length=B.cards.length∧lQ ((shC B fl).map CA.id) ((shC B (nd 10::fl)).map CA.id)=[]:=by
 have hp:∀c,eY B.gr (nd 10::fl) c=!eY B.gr fl c:=fun c=>HB h1 h2 B.gr c
 constructor
 ·unfold shC
  rw[show(eY B.gr (nd 10::fl))=fun c=>!eY B.gr fl c from funext hp]
  exact sN _ _
 ·refine List.filter_eq_nil_iff.2 fun x hx=>?_
  simp only[decide_eq_true_eq]
  intro hx2
  obtain⟨c,hc,rfl⟩:=List.mem_map.1 hx
  obtain⟨d,hd,he⟩:=List.mem_map.1 hx2
  obtain⟨c1,c2⟩:=List.mem_filter.1 hc
  obtain⟨d1,d2⟩:=List.mem_filter.1 hd
  have hu:UpI (B.cards.map CA.id):=Cm hb.cok
  have e1:=mU hu c1
  have e2:=mU hu d1
  rw[he,e1] at e2
  cases e2
  rw[hp,c2] at d2
  cases d2
end

section
set_option maxRecDepth 100000
set_option maxHeartbeats 8000000
theorem rP(s:SET)(H:List CA)(hHs:H.length≤1000000000000):aA Tryz.prog 5 [.agg s.c,.lst 27 (H.map CA.c) false] St.none (fun r _=>r=.bool true):=by
 refine aA.cI (aA.body 128 [.tmp 4] Tryz.func5 rfl rfl rfl rfl ?_)
 have hfit:=FQ s
 have hris:=mG H hHs
 have haw:=x8
 by_cases hF:Fit s
 rotate_left
 ·repeat' (first|((refine cQ hfit ?_;rintro _ ⟨fb,rfl,hfb⟩;cases fb))|((refine cQ hris ?_;rintro _ ⟨rb,rfl,hrb⟩;cases rb))|(refine aK haw ?_)|(with_reducible first|(refine wN fun _ hnl=>?_;revert hnl;(repeat refine wS fun _ _=>?_);intro hnl)|refine wE ?_|(refine wK ?_ ?_<;>intro h)|(refine wB ?_ ?_<;>intro h<;>simp only[h]))|simp(maxSteps:=4000000) (disch:=first|exact ddL|fail) only[go_sem,simprocAttr,Tryz.f5,FXs,List.map_cons,List.map_nil])
  all_goals first|exact absurd (hfb rfl) hF|skip
  all_goals first|exact⟨_,St.le_refl _⟩|exact⟨_,St.le_refl _,rfl⟩
 by_cases hR:H.length≤60∧eV 0 (H.map CA.id)=true
 rotate_left
 ·repeat' (first|((refine cQ hfit ?_;rintro _ ⟨fb,rfl,hfb⟩;cases fb))|((refine cQ hris ?_;rintro _ ⟨rb,rfl,hrb⟩;cases rb))|(refine aK haw ?_)|(with_reducible first|(refine wN fun _ hnl=>?_;revert hnl;(repeat refine wS fun _ _=>?_);intro hnl)|refine wE ?_|(refine wK ?_ ?_<;>intro h)|(refine wB ?_ ?_<;>intro h<;>simp only[h]))|simp(maxSteps:=4000000) (disch:=first|exact ddL|fail) only[go_sem,simprocAttr,Tryz.f5,FXs,List.map_cons,List.map_nil])
  all_goals first|exact absurd (hrb rfl) hR|skip
  all_goals first|exact⟨_,St.le_refl _⟩|exact⟨_,St.le_refl _,rfl⟩
 obtain⟨h1,h2,h3,h4,h5,h6,h7⟩:=hF
 obtain⟨k1,k2⟩:=hR
 have hb:=H5 h1
 have hc6:s.bk.cards.length≤1000000:=by omega
 have hd6:s.bk.dead.length≤1000000:=by omega
 have hfl:=(pM h6).2.2
 have hf6:s.fl.length≤1000000:=by omega
 have hld:=yA hc6 hd6 h4 h5 h1
 have hnew:=mE s.fl hf6 false h6
 have hWu:=Iu hb s.fl s.mask s.cur
 have hWl:=F3 hb s.fl s.mask s.cur
 have hHu:=(Ag k2).1
 obtain⟨dn,hdn⟩:∃dn,decide (0<s.bk.cards.length)=dn:=⟨_,rfl⟩
 have hid:=fun {m l q b f:Nat} (D:jP m l q b) (hf:f≠m∧f≠l∧f≠q∧f≠b)=>pC hb h4 h5 D hf h6 false s.mask s.cur
 obtain⟨W,hW⟩:∃W,eX s.bk s.fl s.mask s.cur=W:=⟨_,rfl⟩
 rw[hW] at hWu hWl
 simp only[hW,hdn,Bool.false_or] at hid
 have hlk:=fun {m l q b f:Nat} (D:jP m l q b) (hf:f≠m∧f≠l∧f≠q∧f≠b)=>rC hb h4 h5 D hf h6 dn s.mask s.cur W H hW (by omega) (by omega) hWu hHu false
 have hlk2:=fun {m l q b f:Nat} (D:jP m l q b) (hf:f≠m∧f≠l∧f≠q∧f≠b)=>rC hb h4 h5 D hf h6 dn s.mask s.cur W W hW (by omega) (by omega) hWu hWu false
 simp only[hdn,Bool.or_self] at hlk hlk2
 simp only[tA,BH hWu,List.map_nil] at hlk2
 have hz:=Df hWu hHu
 have i1:(bG (W.map CA.id) (H.map CA.id)).length≤1000000:=Nat.le_trans (oC _ _) (by rw[List.length_map];omega)
 have i2:(bG (H.map CA.id) (W.map CA.id)).length≤1000000:=Nat.le_trans (oC _ _) (by rw[List.length_map];omega)
 have i3:(tO W H).length≤1000000:=by
  unfold tO
  rw[List.length_map]
  exact Nat.le_trans (List.length_filter_le _ _) (by omega)
 have hsm:=BX W H (by omega) false false
 obtain⟨A1,hA1⟩:∃A,bG (W.map CA.id) (H.map CA.id)=A:=⟨_,rfl⟩
 obtain⟨A2,hA2⟩:∃A,bG (H.map CA.id) (W.map CA.id)=A:=⟨_,rfl⟩
 obtain⟨A3,hA3⟩:∃A,tO W H=A:=⟨_,rfl⟩
 rw[hA1] at hz i1
 rw[hA2] at hz i2
 rw[hA3] at hz i3
 simp only[hA1,hA2,hA3] at hlk
 have lm1:(A1.map aJ).length=A1.length:=List.length_map _
 have lm2:(A2.map aJ).length=A2.length:=List.length_map _
 have lm3:(A3.map aJ).length=A3.length:=List.length_map _
 obtain⟨n1,hn1⟩:∃n,A1.length=n:=⟨_,rfl⟩
 obtain⟨n2,hn2⟩:∃n,A2.length=n:=⟨_,rfl⟩
 obtain⟨n3,hn3⟩:∃n,A3.length=n:=⟨_,rfl⟩
 rw[hn1] at hz i1 lm1
 rw[hn2] at hz i2 lm2
 rw[hn3] at hz i3 lm3
 obtain⟨bb,hbb⟩:∃bb,decide (W=H)=bb:=⟨_,rfl⟩
 have hzz:decide ((n1:Int)+(n2:Int)+(n3:Int)=0)=bb:=by
  rw[←hbb]
  exact decide_eq_decide.2 ⟨fun h=>hz.1 (by omega),fun h=>by have:=hz.2 h;omega⟩
 rw[hbb] at hsm
 have hmap:(W.map CA.c).length=W.length:=List.length_map _
 have hj:=fun l0:Nat=>JS 10 s.fl (by omega) l0
 simp only[St.ofList] at hj
 have hids:=fun {m l q b f:Nat} (D:jP m l q b) (hf:f≠m∧f≠l∧f≠q∧f≠b)=>oE hb h4 h5 D hf h6 dn
 simp only[hdn,Bool.or_self] at hids
 have hids1:=fun {m l q b f:Nat} (D:jP m l q b) (hf:f≠m∧f≠l∧f≠q∧f≠b) (hp:bI (nd 10::s.fl)=0)=>oE hb h4 h5 D hf hp false
 simp only[hdn,Bool.false_or] at hids1
 have hnew1:=fun hp:bI (nd 10::s.fl)=0=>mE (nd 10::s.fl) (by simp only[List.length_cons];omega) false hp
 have hnp:=Hd hb (fl:=s.fl) h6
 have hA:(shC s.bk s.fl).map idX=((shC s.bk s.fl).map CA.id).map aJ:=by rw[List.map_map];rfl
 have hB:(shC s.bk (nd 10::s.fl)).map idX=((shC s.bk (nd 10::s.fl)).map CA.id).map aJ:=by rw[List.map_map];rfl
 rw[show(shC s.bk s.fl).length=((shC s.bk s.fl).map CA.id).length from(List.length_map _).symm,show(shC s.bk (nd 10::s.fl)).length=((shC s.bk (nd 10::s.fl)).map CA.id).length from(List.length_map _).symm] at hnp
 simp only[hA] at hids
 simp only[hB] at hids1
 obtain⟨Y1,hY1⟩:∃Y,(shC s.bk s.fl).map CA.id=Y:=⟨_,rfl⟩
 obtain⟨Y2,hY2⟩:∃Y,(shC s.bk (nd 10::s.fl)).map CA.id=Y:=⟨_,rfl⟩
 simp only[hY1] at hids hnp
 simp only[hY2] at hids1 hnp
 by_cases hne:bI (nd 10::s.fl)=0
 ·have hids1:=fun {m l q b f:Nat} (D:jP m l q b) (hf:f≠m∧f≠l∧f≠q∧f≠b)=>hids1 D hf hne
  have hnew2:=hnew1 hne
  obtain⟨hn4,hbo⟩:=hnp hne
  have hz4:decide ((Y1.length:Int)+(Y2.length:Int)=(s.bk.cards.length:Int))=true:=decide_eq_true (by omega)
  have hbot:=Ec Y1 Y2 false false (by omega) (by omega)
  rw[hbo] at hbot
  have lm4:(Y1.map aJ).length=Y1.length:=List.length_map _
  have lm5:(Y2.map aJ).length=Y2.length:=List.length_map _
  clear hz hdn hA1 hA2 hA3 hn1 hn2 hn3 hbb hris hnew1 hnp hA hB hY1 hY2
  repeat' (first|((refine cQ hfit ?_;rintro _ ⟨fb,rfl,hfb⟩;cases fb))|((refine cQ (mG H hHs) ?_;rintro _ ⟨rb,rfl,hrb⟩;cases rb))|(refine aK haw ?_)|((refine Ah hld ?_;intro m l q b hm hl hq hbn D;simp only[aX] at hm hl hq hbn;obtain⟨m1,-⟩:=hm;obtain⟨l1,-⟩:=hl;obtain⟨q1,-⟩:=hq;obtain⟨b1,-⟩:=hbn;have m1':=Ne.symm m1;have l1':=Ne.symm l1;have q1':=Ne.symm q1;have b1':=Ne.symm b1;have D':=D;obtain⟨g1,g2,g3,g4,g5,g6⟩:=D;have e1:=Ne.symm g1;have e2:=Ne.symm g2;have e3:=Ne.symm g3;have e4:=Ne.symm g4;have e5:=Ne.symm g5;have e6:=Ne.symm g6))|((refine lH hnew ?_;intro f hf;simp only[aX] at hf;obtain⟨f1,f2,f3,f4,f5,-⟩:=hf;have f1':=Ne.symm f1;have f2':=Ne.symm f2;have f3':=Ne.symm f3;have f4':=Ne.symm f4;have f5':=Ne.symm f5))|(with_reducible first|(refine wN fun _ hnl=>?_;revert hnl;(repeat refine wS fun _ _=>?_);intro hnl)|refine wE ?_|(refine wK ?_ ?_<;>intro h)|(refine wB ?_ ?_<;>intro h<;>simp only[h]))|simp(maxSteps:=4000000) (disch:=first|exact ddL|fail) only[go_sem,simprocAttr,Tryz.f5,FXs,List.map_cons,List.map_nil])
  ·first|exact⟨_,St.le_refl _⟩|exact⟨_,St.le_refl _,rfl⟩
  ·first|exact⟨_,St.le_refl _⟩|exact⟨_,St.le_refl _,rfl⟩
  refine j9 (hid D' ⟨f4,f3,f2,f1⟩) (kN (by simp[St.set, *]) (by simp[St.set, *]) (by simp[St.set, *]) (by simp[St.set, *]) (by simp[St.set, *])) ?_
  repeat' (first|(with_reducible first|(refine wN fun _ hnl=>?_;revert hnl;(repeat refine wS fun _ _=>?_);intro hnl)|refine wE ?_|(refine wK ?_ ?_<;>intro h)|(refine wB ?_ ?_<;>intro h<;>simp only[h]))|simp(maxSteps:=4000000) (disch:=first|exact ddL|fail) only[go_sem,simprocAttr,FXs])
  refine j9 (hlk D' ⟨f4,f3,f2,f1⟩) (kN (by simp[St.set, *]) (by simp[St.set, *]) (by simp[St.set, *]) (by simp[St.set, *]) (by simp[St.set, *])) ?_
  repeat' (first|(with_reducible refine aK hsm ?_)|(with_reducible first|(refine wN fun _ hnl=>?_;revert hnl;(repeat refine wS fun _ _=>?_);intro hnl)|refine wE ?_|(refine wK ?_ ?_<;>intro h)|(refine wB ?_ ?_<;>intro h<;>simp only[h]))|simp(maxSteps:=4000000) (disch:=first|exact ddL|fail) only[go_sem,simprocAttr,FXs,lm1,lm2,lm3,hzz])
  all_goals (try (exfalso;omega))
  refine j9 (hlk2 D' ⟨f4,f3,f2,f1⟩) (kN (by simp[St.set, *]) (by simp[St.set, *]) (by simp[St.set, *]) (by simp[St.set, *]) (by simp[St.set, *])) ?_
  repeat' (first|(with_reducible first|(refine wN fun _ hnl=>?_;revert hnl;(repeat refine wS fun _ _=>?_);intro hnl)|refine wE ?_|(refine wK ?_ ?_<;>intro h)|(refine wB ?_ ?_<;>intro h<;>simp only[h]))|simp(maxSteps:=4000000) (disch:=first|exact ddL|fail) only[go_sem,simprocAttr,FXs])
  refine iK (hj _) (St.aD (St.none_le _) (by simp[St.set, *])) ?_
  repeat' (first|((refine lH hnew2 ?_;intro g hg;simp only[aX] at hg;obtain⟨y1,y2,y3,y4,y5,y6,y7,-⟩:=hg;have y1':=Ne.symm y1;have y2':=Ne.symm y2;have y3':=Ne.symm y3;have y4':=Ne.symm y4;have y5':=Ne.symm y5;have y6':=Ne.symm y6;have y7':=Ne.symm y7))|(with_reducible first|(refine wN fun _ hnl=>?_;revert hnl;(repeat refine wS fun _ _=>?_);intro hnl)|refine wE ?_|(refine wK ?_ ?_<;>intro h)|(refine wB ?_ ?_<;>intro h<;>simp only[h]))|simp(maxSteps:=4000000) (disch:=first|exact ddL|fail) only[go_sem,simprocAttr,FXs])
  refine j9 (hids D' ⟨f4,f3,f2,f1⟩) (kN (by simp[St.set, *]) (by simp[St.set, *]) (by simp[St.set, *]) (by simp[St.set, *]) (by simp[St.set, *])) ?_
  repeat' (first|(with_reducible first|(refine wN fun _ hnl=>?_;revert hnl;(repeat refine wS fun _ _=>?_);intro hnl)|refine wE ?_|(refine wK ?_ ?_<;>intro h)|(refine wB ?_ ?_<;>intro h<;>simp only[h]))|simp(maxSteps:=4000000) (disch:=first|exact ddL|fail) only[go_sem,simprocAttr,FXs])
  refine j9 (hids1 D' ⟨y6,y5,y4,y3⟩) (kN (by simp[St.set, *]) (by simp[St.set, *]) (by simp[St.set, *]) (by simp[St.set, *]) (by simp[St.set, *])) ?_
  repeat' (first|(with_reducible refine aK hbot ?_)|(with_reducible refine aK haw ?_)|(with_reducible first|(refine wN fun _ hnl=>?_;revert hnl;(repeat refine wS fun _ _=>?_);intro hnl)|refine wE ?_|(refine wK ?_ ?_<;>intro h)|(refine wB ?_ ?_<;>intro h<;>simp only[h]))|simp(maxSteps:=4000000) (disch:=first|exact ddL|fail) only[go_sem,simprocAttr,FXs,lm4,lm5,hz4])
  all_goals first|exact⟨_,St.le_refl _⟩|exact⟨_,St.le_refl _,rfl⟩
 ·have hbad:=Hq (nd 10::s.fl) (by simp only[List.length_cons];omega) false hne
  have hck:=pH (nd 10::s.fl) false
  simp only[List.map_cons] at hbad hck
  obtain⟨pe,hpe⟩:∃z,bI (nd 10::s.fl)=z:=⟨_,rfl⟩
  rw[hpe] at hck hne
  clear hz hdn hA1 hA2 hA3 hn1 hn2 hn3 hbb hris hnew1 hnp hA hB hY1 hY2 hids hids1
  repeat' (first|((refine cQ hfit ?_;rintro _ ⟨fb,rfl,hfb⟩;cases fb))|((refine cQ (mG H hHs) ?_;rintro _ ⟨rb,rfl,hrb⟩;cases rb))|(refine aK haw ?_)|((refine Ah hld ?_;intro m l q b hm hl hq hbn D;simp only[aX] at hm hl hq hbn;obtain⟨m1,-⟩:=hm;obtain⟨l1,-⟩:=hl;obtain⟨q1,-⟩:=hq;obtain⟨b1,-⟩:=hbn;have m1':=Ne.symm m1;have l1':=Ne.symm l1;have q1':=Ne.symm q1;have b1':=Ne.symm b1;have D':=D;obtain⟨g1,g2,g3,g4,g5,g6⟩:=D;have e1:=Ne.symm g1;have e2:=Ne.symm g2;have e3:=Ne.symm g3;have e4:=Ne.symm g4;have e5:=Ne.symm g5;have e6:=Ne.symm g6))|((refine lH hnew ?_;intro f hf;simp only[aX] at hf;obtain⟨f1,f2,f3,f4,f5,-⟩:=hf;have f1':=Ne.symm f1;have f2':=Ne.symm f2;have f3':=Ne.symm f3;have f4':=Ne.symm f4;have f5':=Ne.symm f5))|(with_reducible first|(refine wN fun _ hnl=>?_;revert hnl;(repeat refine wS fun _ _=>?_);intro hnl)|refine wE ?_|(refine wK ?_ ?_<;>intro h)|(refine wB ?_ ?_<;>intro h<;>simp only[h]))|simp(maxSteps:=4000000) (disch:=first|exact ddL|fail) only[go_sem,simprocAttr,Tryz.f5,FXs,List.map_cons,List.map_nil])
  ·first|exact⟨_,St.le_refl _⟩|exact⟨_,St.le_refl _,rfl⟩
  ·first|exact⟨_,St.le_refl _⟩|exact⟨_,St.le_refl _,rfl⟩
  refine j9 (hid D' ⟨f4,f3,f2,f1⟩) (kN (by simp[St.set, *]) (by simp[St.set, *]) (by simp[St.set, *]) (by simp[St.set, *]) (by simp[St.set, *])) ?_
  repeat' (first|(with_reducible first|(refine wN fun _ hnl=>?_;revert hnl;(repeat refine wS fun _ _=>?_);intro hnl)|refine wE ?_|(refine wK ?_ ?_<;>intro h)|(refine wB ?_ ?_<;>intro h<;>simp only[h]))|simp(maxSteps:=4000000) (disch:=first|exact ddL|fail) only[go_sem,simprocAttr,FXs])
  refine j9 (hlk D' ⟨f4,f3,f2,f1⟩) (kN (by simp[St.set, *]) (by simp[St.set, *]) (by simp[St.set, *]) (by simp[St.set, *]) (by simp[St.set, *])) ?_
  repeat' (first|(with_reducible refine aK hsm ?_)|(with_reducible first|(refine wN fun _ hnl=>?_;revert hnl;(repeat refine wS fun _ _=>?_);intro hnl)|refine wE ?_|(refine wK ?_ ?_<;>intro h)|(refine wB ?_ ?_<;>intro h<;>simp only[h]))|simp(maxSteps:=4000000) (disch:=first|exact ddL|fail) only[go_sem,simprocAttr,FXs,lm1,lm2,lm3,hzz])
  all_goals (try (exfalso;omega))
  refine j9 (hlk2 D' ⟨f4,f3,f2,f1⟩) (kN (by simp[St.set, *]) (by simp[St.set, *]) (by simp[St.set, *]) (by simp[St.set, *]) (by simp[St.set, *])) ?_
  repeat' (first|(with_reducible first|(refine wN fun _ hnl=>?_;revert hnl;(repeat refine wS fun _ _=>?_);intro hnl)|refine wE ?_|(refine wK ?_ ?_<;>intro h)|(refine wB ?_ ?_<;>intro h<;>simp only[h]))|simp(maxSteps:=4000000) (disch:=first|exact ddL|fail) only[go_sem,simprocAttr,FXs])
  refine iK (hj _) (St.aD (St.none_le _) (by simp[St.set, *])) ?_
  repeat' (first|(with_reducible refine aK hbad ?_)|(with_reducible first|(refine wN fun _ hnl=>?_;revert hnl;(repeat refine wS fun _ _=>?_);intro hnl)|refine wE ?_|(refine wK ?_ ?_<;>intro h)|(refine wB ?_ ?_<;>intro h<;>simp only[h]))|simp(maxSteps:=4000000) (disch:=first|exact ddL|fail) only[go_sem,simprocAttr,FXs])
  refine iK (hj _) (St.aD (St.none_le _) (by simp[St.set, *])) ?_
  repeat' (first|(with_reducible refine aK hck ?_)|(with_reducible refine aK haw ?_)|(with_reducible first|(refine wN fun _ hnl=>?_;revert hnl;(repeat refine wS fun _ _=>?_);intro hnl)|refine wE ?_|(refine wK ?_ ?_<;>intro h)|(refine wB ?_ ?_<;>intro h<;>simp only[h]))|simp(maxSteps:=4000000) (disch:=first|exact ddL|fail) only[go_sem,simprocAttr,FXs])
  all_goals first|exact⟨_,St.le_refl _⟩|exact⟨_,St.le_refl _,rfl⟩|trace_state
end
end Go.Proofs.YtaojijkdamfbnaaGreatDoor
