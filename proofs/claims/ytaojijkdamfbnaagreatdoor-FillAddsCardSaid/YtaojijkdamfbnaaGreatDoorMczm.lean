/- Parts of the proof, joined; conditions: those that its theorems name. -/
import Derived.Test.YtaojijkdamfbnaaGreatDoorMczk
import Derived.Test.YtaojijkdamfbnaaGreatDoorMczl
set_option linter.unusedVariables false
set_option linter.unusedSimpArgs false
set_option maxHeartbeats 4000000
namespace Go.Proofs.YtaojijkdamfbnaaGreatDoor
section
set_option maxRecDepth 100000
set_option maxHeartbeats 8000000
theorem AB(s:SET):aA Tryz.prog 27 [.agg s.c] St.none (fun r _=>∃b,r=.bool b∧(b=true→Fit s)):=by
 refine(aA.body 23 [.tmp 2] Tryz.func27 rfl rfl rfl rfl ?_)
 have hg:=J9 s.bk
 have hp:=zV s.fl false
 have hm:=zS s.mask
 obtain⟨kb,hk⟩:∃kb,j6 s.bk=kb:=⟨_,rfl⟩
 obtain⟨pe,hpe⟩:∃pe,bW s.fl=pe:=⟨_,rfl⟩
 rw[hpe] at hp
 obtain⟨mb,hmb⟩:∃mb,decide (s.mask.toNat≤511)=mb:=⟨_,rfl⟩
 rw[hmb] at hm
 cases kb
 ·repeat' (first|((refine fA hg ?_;rintro _ ⟨gb,rfl,hgb⟩;cases gb))|(refine aO (hk ▸ iB s.bk (by have:=(hgb rfl).1;omega) (by have:=(hgb rfl).2.1;omega) (hgb rfl).2.2.1 (hgb rfl).2.2.2) ?_)|(refine aO hp ?_)|(refine aO hm ?_)|(with_reducible first|(refine wN fun _ hnl=>?_;revert hnl;(repeat refine wS fun _ _=>?_);intro hnl)|refine wE ?_|(refine wK ?_ ?_<;>intro h)|(refine wB ?_ ?_<;>intro h<;>simp only[h]))|simp(maxSteps:=4000000) (disch:=first|exact ddL|fail) only[go_sem,simprocAttr,List.map_cons,List.map_nil])
  all_goals exact⟨_,rfl,fun h=>by cases h⟩
 ·by_cases h0:pe=0
  ·cases mb
   ·repeat' (first|((refine fA hg ?_;rintro _ ⟨gb,rfl,hgb⟩;cases gb))|(refine aO (hk ▸ iB s.bk (by have:=(hgb rfl).1;omega) (by have:=(hgb rfl).2.1;omega) (hgb rfl).2.2.1 (hgb rfl).2.2.2) ?_)|(refine aO hp ?_)|(refine aO hm ?_)|(with_reducible first|(refine wN fun _ hnl=>?_;revert hnl;(repeat refine wS fun _ _=>?_);intro hnl)|refine wE ?_|(refine wK ?_ ?_<;>intro h)|(refine wB ?_ ?_<;>intro h<;>simp only[h]))|simp(maxSteps:=4000000) (disch:=first|exact ddL|fail) only[go_sem,simprocAttr,h0,List.map_cons,List.map_nil])
    all_goals exact⟨_,rfl,fun h=>by cases h⟩
   ·subst h0
    repeat' (first|((refine fA hg ?_;rintro _ ⟨gb,rfl,hgb⟩;cases gb))|(refine aO (hk ▸ iB s.bk (by have:=(hgb rfl).1;omega) (by have:=(hgb rfl).2.1;omega) (hgb rfl).2.2.1 (hgb rfl).2.2.2) ?_)|(refine aO hp ?_)|(refine aO hm ?_)|(with_reducible first|(refine wN fun _ hnl=>?_;revert hnl;(repeat refine wS fun _ _=>?_);intro hnl)|refine wE ?_|(refine wK ?_ ?_<;>intro h)|(refine wB ?_ ?_<;>intro h<;>simp only[h]))|simp(maxSteps:=4000000) (disch:=first|exact ddL|fail) only[go_sem,simprocAttr,List.map_cons,List.map_nil])
    all_goals first|exact⟨_,rfl,fun _=>⟨hk,(hgb rfl).1,(hgb rfl).2.1,(hgb rfl).2.2.1,(hgb rfl).2.2.2,hpe,of_decide_eq_true hmb⟩⟩|exact⟨_,rfl,fun h=>by cases h⟩
  ·repeat' (first|((refine fA hg ?_;rintro _ ⟨gb,rfl,hgb⟩;cases gb))|(refine aO (hk ▸ iB s.bk (by have:=(hgb rfl).1;omega) (by have:=(hgb rfl).2.1;omega) (hgb rfl).2.2.1 (hgb rfl).2.2.2) ?_)|(refine aO hp ?_)|(refine aO hm ?_)|(with_reducible first|(refine wN fun _ hnl=>?_;revert hnl;(repeat refine wS fun _ _=>?_);intro hnl)|refine wE ?_|(refine wK ?_ ?_<;>intro h)|(refine wB ?_ ?_<;>intro h<;>simp only[h]))|simp(maxSteps:=4000000) (disch:=first|exact ddL|fail) only[go_sem,simprocAttr,h0,List.map_cons,List.map_nil])
   all_goals exact⟨_,rfl,fun h=>by cases h⟩
def u6:BK:=⟨2,3,[ex1,ex2],[],[]⟩
theorem Eu:BkR u6:=⟨by decide,by decide,by decide,by decide,by decide +kernel,by decide +kernel,by decide,by decide,by decide +kernel⟩
def exA:ND:=⟨1,0,va0⟩
theorem CK:bW [exA]=0:=by decide +kernel
theorem wM:dB u6 [exA] 1 1073741824=[gE ex1 1,gE ex2 1]:=by
 rw[pY Eu]
 have h1:∀c,gH u6.gr [exA] c=true:=fun c=>by rw[D3 CK];rfl
 have:shC u6 [exA]=[ex1,ex2]:=by
  unfold shC
  show List.filter _ [ex1,ex2]=_
  simp[h1]
 rw[this];rfl
theorem H2:eI (dB u6 [exA] 1 1073741824) 0 1=([gE ex1 1],1):=by rw[wM];decide +kernel
theorem H3:eI (dB u6 [exA] 1 1073741824) 1 1=([gE ex2 1],1073741824):=by rw[wM];decide +kernel
theorem Ev{m l q b f:Nat}(D:nA m l q b)(hf:f≠m∧f≠l∧f≠q∧f≠b)(d:Bool)(cur:Int)(c:CA)(n:Int)(h:eI (dB u6 [exA] 1 1073741824) cur 1=([c],n)):aA Tryz.prog 29 [.ptr b 0 0,.ptr f 0 0,.int .u32 1,.int .i64 cur,.int .i64 1] (bfS m l q b u6 f [exA] d) (fun r σ'=>r=.tup [.lst 28 [(IT.mk 1 c).k] false,.int .i64 n]∧σ'=bfS m l q b u6 f [exA] true):=by
 have k:=o9 Eu (by decide) (by decide) D hf CK (by decide) d 1 cur 1 (by decide)
 rw[h] at k
 have e:(d || decide (0<u6.cards.length))=true:=by cases d<;>rfl
 rw[e] at k
 exact k
theorem xW:aA Tryz.prog 28 [] St.none (fun r _=>r=.bool true):=by
 refine aA.cP (aA.body 50 [.tmp 0] Tryz.func28 rfl rfl rfl rfl ?_)
 have k1:=fun {m l q b:Nat} (D:nA m l q b)=>LS (nx:=1) (sq:=0) D.lm D.bm D.bl (.vec 3 q 0 0) (.lst 2 [] false) [] (by decide) (by decide) (by decide) (by decide) (by decide) (by decide)
 have k2:=fun {m l q b:Nat} (D:nA m l q b)=>LS (nx:=2) (sq:=1) D.lm D.bm D.bl (.vec 3 q 0 0) (.lst 2 [] false) [ex1] (by decide) (by decide) (by decide) (by decide +kernel) (by decide) (by decide)
 have hnew:aA Tryz.prog 38 [] St.none _:=Aj
 repeat' (first|((refine E9 hnew ?_;intro m l q b hm hl hq hb D;clear hm hl hq hb;simp only[bk1,List.map_nil,List.length_nil];have D':=D;obtain⟨d1,d2,d3,d4,d5,d6⟩:=D;have e1:=Ne.symm d1;have e2:=Ne.symm d2;have e3:=Ne.symm d3;have e4:=Ne.symm d4;have e5:=Ne.symm d5;have e6:=Ne.symm d6))|(with_reducible first|(refine wN fun _ hnl=>?_;revert hnl;(repeat refine wS fun _ _=>?_);intro hnl)|refine wE ?_|(refine wK ?_ ?_<;>intro h)|(refine wB ?_ ?_<;>intro h<;>simp only[h]))|simp(maxSteps:=4000000) (disch:=first|exact ddL|fail) only[go_sem,simprocAttr,Tryz.f28,FXs])
 refine J7 (k1 D') (I3 (by simp[St.set, *]) (by simp[St.set, *]) (by simp[St.set, *])) ?_
 rw[show(cN 1 pa1)=ex1 from rfl,List.nil_append]
 repeat' (first|(with_reducible first|(refine wN fun _ hnl=>?_;revert hnl;(repeat refine wS fun _ _=>?_);intro hnl)|refine wE ?_|(refine wK ?_ ?_<;>intro h)|(refine wB ?_ ?_<;>intro h<;>simp only[h]))|simp(maxSteps:=4000000) (disch:=first|exact ddL|fail) only[go_sem,simprocAttr,FXs])
 refine J7 (k2 D') (I3 (by simp[St.set, *]) (by simp[St.set, *]) (by simp[St.set, *])) ?_
 rw[show(cN 2 pa1)=ex2 from rfl,List.singleton_append]
 repeat' (first|(with_reducible first|(refine wN fun _ hnl=>?_;revert hnl;(repeat refine wS fun _ _=>?_);intro hnl)|refine wE ?_|(refine wK ?_ ?_<;>intro h)|(refine wB ?_ ?_<;>intro h<;>simp only[h]))|simp(maxSteps:=4000000) (disch:=first|exact ddL|fail) only[go_sem,simprocAttr,FXs])
 refine J6 (aJ _ _ _) (BA exA CK _) fun f hf=>?_
 have hf0:=hf
 repeat' (first|(with_reducible first|(refine wN fun _ hnl=>?_;revert hnl;(repeat refine wS fun _ _=>?_);intro hnl)|refine wE ?_|(refine wK ?_ ?_<;>intro h)|(refine wB ?_ ?_<;>intro h<;>simp only[h]))|simp(maxSteps:=4000000) (disch:=first|exact ddL|fail) only[go_sem,simprocAttr,FXs])
 have fm:f≠m:=fun e=>by subst e;simp[St.set,St.del, *] at hf
 have fl:f≠l:=fun e=>by subst e;simp[St.set,St.del, *] at hf
 have fq:f≠q:=fun e=>by subst e;simp[St.set,St.del, *] at hf
 have fb:f≠b:=fun e=>by subst e;simp[St.set,St.del, *] at hf
 have fm':=Ne.symm fm
 have fl':=Ne.symm fl
 have fq':=Ne.symm fq
 have fb':=Ne.symm fb
 clear hf hf0
 refine uQ (Ev D' ⟨fm,fl,fq,fb⟩ false 0 _ _ H2) (xX (by show _=some (aX.mp (cEs [ex1,ex2]));simp[St.set, *]) (by show _=some (shO 3 m (.vec 3 q 0 0));simp[St.set, *]) (by show _=some (aX.row 90 3 []);simp[St.set, *]) (by show _=some (cG 2 l (.lst 2 [] false));simp[St.set, *]) (aJ _ _ _)) ?_
 repeat' (first|(with_reducible first|(refine wN fun _ hnl=>?_;revert hnl;(repeat refine wS fun _ _=>?_);intro hnl)|refine wE ?_|(refine wK ?_ ?_<;>intro h)|(refine wB ?_ ?_<;>intro h<;>simp only[h]))|simp(maxSteps:=4000000) (disch:=first|exact ddL|fail) only[go_sem,simprocAttr,FXs])
 refine uQ (Ev D' ⟨fm,fl,fq,fb⟩ true 1 _ _ H3) (xX (by show _=some (aX.mp (cEs [ex1,ex2]));simp[St.set, *]) (by show _=some (shO 3 m (.vec 3 q 0 0));simp[St.set, *]) (by show _=some (aX.row 90 3 []);simp[St.set, *]) (by show _=some (cG 2 l (.lst 2 [] false));simp[St.set, *]) (aJ _ _ _)) ?_
 repeat' (first|(with_reducible first|(refine wN fun _ hnl=>?_;revert hnl;(repeat refine wS fun _ _=>?_);intro hnl)|refine wE ?_|(refine wK ?_ ?_<;>intro h)|(refine wB ?_ ?_<;>intro h<;>simp only[h]))|simp(maxSteps:=4000000) (disch:=first|exact ddL|fail) only[go_sem,simprocAttr,FXs])
 all_goals first|exact⟨_,St.le_refl _,rfl⟩|exact⟨_,St.le_refl _⟩
end

section
set_option maxRecDepth 100000
set_option maxHeartbeats 8000000
theorem BB{B:BK}(hb:BkR B)(h3:B.gr.length≤1000000)(h4:∀g,g∈B.gr→g.mem.length≤1000000){m l q b f:Nat}(D:nA m l q b)(hf:f≠m∧f≠l∧f≠q∧f≠b){fl:List ND}(hp:bW fl=0)(hdd:B.dead.length≤1000000)(d:Bool)(mk:UInt32)(cur room:Int) :
  aA Tryz.prog 29 [.ptr b 0 0,.ptr f 0 0,.int .u32 (mk.toNat:Int),.int .i64 cur,.int .i64 room] (bfS m l q b B f fl d) (fun r σ'=>r=.tup [.lst 28 (IT.ks (inI (eI (dB B fl mk 1073741824) cur room).1)) false,.int .i64 (eI (dB B fl mk 1073741824) cur room).2]∧σ'=bfS m l q b B f fl (d || decide (1≤room)&&decide (0<B.cards.length))):=by
 by_cases h:room<1
 ·rw[show(d || decide (1≤room)&&decide (0<B.cards.length))=d by rw[decide_eq_false (by omega:¬1≤room)];cases d<;>rfl]
  exact zK hf.2.2.2 d mk cur room _ h
 ·rw[show(d || decide (1≤room)&&decide (0<B.cards.length))=(d || decide (0<B.cards.length)) by rw[decide_eq_true (by omega:1≤room),Bool.true_and]]
  exact o9 hb h3 h4 D hf hp hdd d mk cur room (by omega)
theorem H4{W:List CA}(cur room:Int):(eI W cur room).1.length≤W.length:=by
 have:(bZ W cur).length≤W.length:=List.length_filter_le _ _
 unfold eI
 split
 ·simp
 ·split
  ·exact this
  ·rw[List.length_take];omega
end

section
set_option maxRecDepth 100000
set_option maxHeartbeats 8000000
theorem u7(s:SET)(room:Int):aA Tryz.prog 6 [.agg s.c,.int .i64 room] St.none (fun r _=>r=.bool true):=by
 refine aA.cP (aA.body 89 [.tmp 4] Tryz.func6 rfl rfl rfl rfl ?_)
 have hfit:=AB s
 have haw:=xW
 by_cases hlo:s.cur<0
 ·repeat' (first|((refine fA hfit ?_;rintro _ ⟨fb,rfl,hfb⟩;cases fb))|(refine aO haw ?_)|(with_reducible first|(refine wN fun _ hnl=>?_;revert hnl;(repeat refine wS fun _ _=>?_);intro hnl)|refine wE ?_|(refine wK ?_ ?_<;>intro h)|(refine wB ?_ ?_<;>intro h<;>simp only[h]))|simp(maxSteps:=4000000) (disch:=first|exact ddL|fail) only[go_sem,simprocAttr,Tryz.f6,FXs,List.map_cons,List.map_nil])
  all_goals (try (exfalso;omega))
  all_goals first|exact⟨_,St.le_refl _⟩|exact⟨_,St.le_refl _,rfl⟩
 by_cases hhi:1073741824<s.cur
 ·repeat' (first|((refine fA hfit ?_;rintro _ ⟨fb,rfl,hfb⟩;cases fb))|(refine aO haw ?_)|(with_reducible first|(refine wN fun _ hnl=>?_;revert hnl;(repeat refine wS fun _ _=>?_);intro hnl)|refine wE ?_|(refine wK ?_ ?_<;>intro h)|(refine wB ?_ ?_<;>intro h<;>simp only[h]))|simp(maxSteps:=4000000) (disch:=first|exact ddL|fail) only[go_sem,simprocAttr,Tryz.f6,FXs,List.map_cons,List.map_nil])
  all_goals (try (exfalso;omega))
  all_goals first|exact⟨_,St.le_refl _⟩|exact⟨_,St.le_refl _,rfl⟩
 by_cases hF:Fit s
 rotate_left
 ·repeat' (first|((refine fA hfit ?_;rintro _ ⟨fb,rfl,hfb⟩;cases fb))|(refine aO haw ?_)|(with_reducible first|(refine wN fun _ hnl=>?_;revert hnl;(repeat refine wS fun _ _=>?_);intro hnl)|refine wE ?_|(refine wK ?_ ?_<;>intro h)|(refine wB ?_ ?_<;>intro h<;>simp only[h]))|simp(maxSteps:=4000000) (disch:=first|exact ddL|fail) only[go_sem,simprocAttr,Tryz.f6,FXs,List.map_cons,List.map_nil])
  all_goals first|exact absurd (hfb rfl) hF|skip
  all_goals (try (exfalso;omega))
  all_goals first|exact⟨_,St.le_refl _⟩|exact⟨_,St.le_refl _,rfl⟩
 obtain⟨h1,h2,h3,h4,h5,h6,h7⟩:=hF
 have hb:=HO h1
 have hc6:s.bk.cards.length≤1000000:=by omega
 have hd6:s.bk.dead.length≤1000000:=by omega
 have hf6:s.fl.length≤1000000:=by have:=(rW h6).2.2;omega
 have hld:=xY hc6 hd6 h4 h5 h1
 have hnew:=qX s.fl hf6 false h6
 have hnx:=fun {m l q b f:Nat} (D:nA m l q b) (hf:f≠m∧f≠l∧f≠q∧f≠b)=>BB hb h4 h5 D hf h6 hd6 false s.mask s.cur room
 obtain⟨hWr,hWm⟩:=CU hb s.fl s.mask
 have hWl:(dB s.bk s.fl s.mask 1073741824).length≤48:=by
  unfold dB
  rw[List.length_map]
  exact Nat.le_trans (List.length_filter_le _ _) hb.nc
 obtain⟨q1,q2,q3,q4⟩:=Kv hWr hWm (by omega:0≤s.cur) (by omega) room
 have hr1:=q0 s.bk hb h4 h5 s.fl h6 false s.mask s.cur
 have hr2:=q0 s.bk hb h4 h5 s.fl h6 false s.mask (eI (dB s.bk s.fl s.mask 1073741824) s.cur room).2
 have hidc:=fun c=>Ic hb s.fl s.mask c
 have hfl:=H4 (W:=dB s.bk s.fl s.mask 1073741824) s.cur room
 obtain⟨W,hW⟩:∃W,dB s.bk s.fl s.mask 1073741824=W:=⟨_,rfl⟩
 rw[hW] at hr2 q1 q2 q3 q4 hWr hWm hWl hfl
 simp only[hW] at hnx hidc
 obtain⟨⟨X,to⟩,hX⟩:∃X,eI W s.cur room=X:=⟨_,rfl⟩
 rw[hX] at hr2 q1 q2 q3 q4 hfl
 simp only[hX] at hnx
 simp only at hr2 q1 q2 q3 q4 hfl hnx
 rw[hidc to] at hr2
 rw[hidc s.cur] at hr1
 clear hidc
 have hll:(leW W s.cur).length≤48:=Nat.le_trans (List.length_filter_le _ _) hWl
 have hup:UpI ((leW W s.cur++X).map CA.id):=by
  rw[q4]
  exact List.pairwise_map.2 (List.Pairwise.filter _ hWr)
 have hap:=BM (leW W s.cur) X (by omega) hup false false
 rw[q4] at hap
 have hsm:=BN (leW W to) (leW W to) (Nat.le_trans (List.length_filter_le _ _) (by omega)) false false
 rw[decide_eq_true rfl] at hsm
 have hkl:=p7 X
 obtain⟨I,hI⟩:∃I,IT.ks (inI X)=I:=⟨_,rfl⟩
 rw[hI] at hap hkl
 simp only[hI] at hnx
 obtain⟨A,hA⟩:∃A,(leW W s.cur).map CA.c=A:=⟨_,rfl⟩
 obtain⟨B,hB⟩:∃B,(leW W to).map CA.c=B:=⟨_,rfl⟩
 rw[hA] at hr1 hap
 rw[hB] at hr2 hap hsm
 obtain⟨R0,hR0⟩:∃R0,(if (0:Int) > room then(0:Int) else room)=R0:=⟨_,rfl⟩
 have hR1:(X.length:Int)≤R0:=by rw[←hR0];split<;>omega
 obtain⟨d1,hd1⟩:∃d1,(false || decide (1≤room)&&decide (0<s.bk.cards.length))=d1:=⟨_,rfl⟩
 simp only[hd1] at hnx
 clear q3 q4 hup hWm hWr hX hd1 hfl
 obtain⟨C2,k1⟩:∃C:cB,∀ms,C 12 ms=some ⟨[],fun _=>True,some ([flD s.fl false],fun l=>.ptr l 0 0)⟩:=⟨fnF [(12,⟨[],fun _=>True,some ([flD s.fl false],fun l=>.ptr l 0 0)⟩)],fun _=>eU⟩
 repeat' (first|((refine fA hfit ?_;rintro _ ⟨fb,rfl,hfb⟩;cases fb))|(refine aO haw ?_)|((refine E9 hld ?_;intro m l q b hm hl hq hbn D;simp only[aY] at hm hl hq hbn;obtain⟨m1,-⟩:=hm;obtain⟨l1,-⟩:=hl;obtain⟨q1,-⟩:=hq;obtain⟨b1,-⟩:=hbn;have m1':=Ne.symm m1;have l1':=Ne.symm l1;have q1':=Ne.symm q1;have b1':=Ne.symm b1;have D':=D;obtain⟨g1,g2,g3,g4,g5,g6⟩:=D;have e1:=Ne.symm g1;have e2:=Ne.symm g2;have e3:=Ne.symm g3;have e4:=Ne.symm g4;have e5:=Ne.symm g5;have e6:=Ne.symm g6))|(with_reducible first|(refine wN fun _ hnl=>?_;revert hnl;(repeat refine wS fun _ _=>?_);intro hnl)|refine wE ?_|(refine wK ?_ ?_<;>intro h)|(refine wB ?_ ?_<;>intro h<;>simp only[h]))|simp(maxSteps:=4000000) (disch:=first|exact ddL|fail) only[go_sem,simprocAttr,Tryz.f6,FXs,List.map_cons,List.map_nil])
 all_goals (try (exfalso;omega))
 ·first|exact⟨_,St.le_refl _⟩|exact⟨_,St.le_refl _,rfl⟩
 refine eR mixed C2 [_,_,_,_,_,_,_,_,_] [_,_,_,_,_] rfl (by decide +kernel) ?_
 repeat' (first|((refine Io (k1 _) hnew ?_;intro f hf;simp only[aY] at hf;obtain⟨f1,f2,f3,f4,f5,-⟩:=hf;have f1':=Ne.symm f1;have f2':=Ne.symm f2;have f3':=Ne.symm f3;have f4':=Ne.symm f4;have f5':=Ne.symm f5))|(with_reducible first|(refine wN fun _ hnl=>?_;revert hnl;(repeat refine wS fun _ _=>?_);intro hnl)|refine wE ?_|(refine wK ?_ ?_<;>intro h)|(refine wB ?_ ?_<;>intro h<;>simp only[h]))|simp(maxSteps:=4000000) (disch:=first|exact ddL|fail) only[go_sem,simprocAttr,FXs])
 refine uQ (hnx D' ⟨f4,f3,f2,f1⟩) (xX (by simp[St.set, *]) (by simp[St.set, *]) (by simp[St.set, *]) (by simp[St.set, *]) (by simp[St.set, *])) ?_
 repeat' (first|(with_reducible refine aO hr1 ?_)|(with_reducible refine aO hr2 ?_)|(with_reducible refine aO hap ?_)|(with_reducible refine aO hsm ?_)|(with_reducible refine aO haw ?_)|(with_reducible first|(refine wN fun _ hnl=>?_;revert hnl;(repeat refine wS fun _ _=>?_);intro hnl)|refine wE ?_|(refine wK ?_ ?_<;>intro h)|(refine wB ?_ ?_<;>intro h<;>simp only[h]))|simp(maxSteps:=4000000) (disch:=first|exact ddL|fail) only[go_sem,simprocAttr,FXs,hR0,hkl])
 all_goals (try (exfalso;omega))
 all_goals first|exact⟨_,St.le_refl _⟩|exact⟨_,St.le_refl _,rfl⟩
end
end Go.Proofs.YtaojijkdamfbnaaGreatDoor
