/- Parts of the proof, joined; conditions: those that its theorems name. -/
import Derived.Test.YtaojijkdamfbnaaGreatDoorMdzj
import Derived.Test.YtaojijkdamfbnaaGreatDoorMdzk
set_option linter.unusedVariables false
set_option linter.unusedSimpArgs false
set_option maxHeartbeats 4000000
namespace Go.Proofs.YtaojijkdamfbnaaGreatDoor
section
set_option maxRecDepth 100000
set_option maxHeartbeats 8000000
theorem LW:∀t:T,t.fl≠[]:=fun t=>by cases t<;>simp[T.fl]
theorem J3{x:ND}(h:bX [x]=0):mK [x]=.leaf x:=by
 have ht:=(rV h).2.1
 cases hc:mK [x] with
 | leaf y=>rw[hc] at ht;simp only[T.fl,List.cons.injEq,and_true] at ht;rw[ht]
 | one y a=>rw[hc] at ht;simp only[T.fl,List.cons.injEq] at ht;exact absurd ht.2 (LW a)
 | two y a b=>rw[hc] at ht;simp only[T.fl,List.cons.injEq,List.append_eq_nil_iff] at ht;exact absurd ht.2.1 (LW a)
theorem D7{x:ND}(h:bX [x]=0)(gr:List GR)(c:CA):gF gr [x] c=if x.op=1 then true else if x.op=2 then false else bR (lP c) (grB gr c.id) x:=by
 unfold gF
 rw[J3 h];rfl
def pa1:PA:=⟨1,0,f80⟩
def ex1:CA:=cN 1 pa1
def ex2:CA:=cN 2 pa1
end

section
set_option maxRecDepth 100000
set_option maxHeartbeats 8000000
theorem J9{P:Program}{g:FuncId}{ms:List MV}{σ τ:St}{m l b:Nat}{om ol ob:aX}{r:MV}{k:MV→St→Prop}(h:aA P g ms τ fun v σ'=>v=r∧σ'=((τ.set m om).set l ol).set b ob)(hle:τ.le σ)(hk:R (bV r (((σ.set m om).set l ol).set b ob) k)):R (eA P g ms σ k) :=
 cL h hle fun v σ' hv _=>by
  obtain⟨rfl,rfl⟩:=hv
  rw[bW,bW,bW,nY hle];exact hk
abbrev mlb(m l b:Nat)(om ol ob:aX):St:=((St.none.set m om).set l ol).set b ob
theorem Mw{m l b:Nat}{om ol ob om' ol' ob':aX}:mlb m l b om' ol' ob'=(((mlb m l b om ol ob).set m om').set l ol').set b ob':=by
 funext j
 by_cases h1:j=b
 ·simp[St.set,h1]
 ·by_cases h2:j=l
  ·simp[St.set,h1,h2]
  ·by_cases h3:j=m<;>simp[St.set,h1,h2,h3]
def exE:ED:=⟨1,0,0,pa1⟩
theorem Nk:exE.c=.int .i64 1::.int .i64 0::.int .i64 0::.int .u32 1::.int .u32 0::fc f80:=rfl
theorem LV{nx sq:Int}{m l b:Nat}(hlm:l≠m)(hbm:b≠m)(hbl:b≠l)(D g:MV)(cs:List CA)(hn:cs.length<48)(hx0:0≤nx)(hx:nx<1073741824)(hnew:nx∉cs.map CA.id)(h0:0≤sq)(h1:sq≤1000000000000) :
  aA Tryz.prog 39 [.ptr b 0 0,.agg (.int .i64 1::.int .i64 0::.int .i64 0::.int .u32 1::.int .u32 0::fc f80)] (mlb m l b (.mp (cEs cs)) (shO nx m D) (cB sq l g)) (fun v σ'=>v=.tup [.lst 2 (lF sq [nx]) false,.int .i64 0]∧σ'=(((mlb m l b (.mp (cEs cs)) (shO nx m D) (cB sq l g)).set m (.mp (cEs (cs++[cN nx pa1])))).set l (shO (nx+1) m D)).set b (cB (sq+1) l g)):=by
 rw[←Nk]
 refine(Hf hlm hbm hbl D g cs pa1 (by decide +kernel) hn hx0 hx hnew h0 h1).mono ?_
 rintro v σ' ⟨q1,q2⟩
 exact⟨q1,q2.trans Mw⟩
theorem I5{σ:St}{m l b:Nat}{om ol ob:aX}(hm:σ m=some om)(hl:σ l=some ol)(hb:σ b=some ob):(mlb m l b om ol ob).le σ:=St.aH (St.aH (St.aH (St.none_le _) hm) hl) hb
theorem J8{P:Program}{g:FuncId}{ms:List MV}{σ:St}{n:Nat}{on o:aX}{u:Nat→MV}{k:MV→St→Prop}(hn:σ n=some on)(h:aA P g ms (St.none.set n on) fun v σ'=>∃q,v=u q∧σ'=St.none.set q o)(hk:∀q,(σ.del n) q=none→R (bV (u q) ((σ.del n).set q o) k)):R (eA P g ms σ k) :=
 cL h (St.aH (St.none_le _) hn) fun v σ' hv hf=>by
  obtain⟨q,rfl,rfl⟩:=hv
  have e:(St.none.set q o).over (σ.minus (St.none.set n on))=(σ.del n).set q o:=by
   rw[bW,dU]
   congr 1
   funext j
   by_cases h2:j=n
   ·subst h2;simp[St.set,St.minus,St.del]
   ·simp[St.set,St.none,St.minus,St.del,h2]
  rw[e]
  refine hk q ?_
  rcases hf q o (aJ _ _ _) with h|⟨o',h⟩
  ·simp[St.del,h]
  ·by_cases h2:q=n
   ·subst h2;simp[St.del]
   ·rw[aP _ _ _ _ h2] at h;cases h
theorem BE(x:ND)(h:bX [x]=0)(n:Nat):aA Tryz.prog 12 [.vec 5 n 0 1] (St.none.set n (.row 84 5 [x.c])) (fun v σ'=>∃q,v=.ptr q 0 0∧σ'=St.none.set q (flD [x] false)) :=
 aA.pre (ms':=[.lst 5 ([x].map ND.c) false]) rfl (bD.freeze (St.none.set n (.row 84 5 [x.c])) (St.le_refl _) (St.none_le _) (fun k o hk=>by cases hk) (fun p hp=>by
  simp only[kA,List.mem_singleton] at hp
  subst hp
  exact View.vecAll (aJ _ _ _) rfl)) (qX [x] (by simp) false h)
end

section
set_option maxRecDepth 100000
set_option maxHeartbeats 8000000
theorem AF(s:SET):aA Tryz.prog 27 [.agg s.c] St.none (fun r _=>∃b,r=.bool b∧(b=true→Fit s)):=by
 refine(aA.body 23 [.tmp 2] Tryz.func27 rfl rfl rfl rfl ?_)
 have hg:=Kb s.bk
 have hp:=zY s.fl false
 have hm:=zV s.mask
 obtain⟨kb,hk⟩:∃kb,j6 s.bk=kb:=⟨_,rfl⟩
 obtain⟨pe,hpe⟩:∃pe,bX s.fl=pe:=⟨_,rfl⟩
 rw[hpe] at hp
 obtain⟨mb,hmb⟩:∃mb,decide (s.mask.toNat≤511)=mb:=⟨_,rfl⟩
 rw[hmb] at hm
 cases kb
 ·repeat' (first|((refine hE hg ?_;rintro _ ⟨gb,rfl,hgb⟩;cases gb))|(refine aO (hk ▸ iB s.bk (by have:=(hgb rfl).1;omega) (by have:=(hgb rfl).2.1;omega) (hgb rfl).2.2.1 (hgb rfl).2.2.2) ?_)|(refine aO hp ?_)|(refine aO hm ?_)|(with_reducible first|(refine wN fun _ hnl=>?_;revert hnl;(repeat refine wS fun _ _=>?_);intro hnl)|refine wE ?_|(refine wK ?_ ?_<;>intro h)|(refine wB ?_ ?_<;>intro h<;>simp only[h]))|simp(maxSteps:=4000000) (disch:=first|exact ddL|fail) only[go_sem,simprocAttr,List.map_cons,List.map_nil])
  all_goals exact⟨_,rfl,fun h=>by cases h⟩
 ·by_cases h0:pe=0
  ·cases mb
   ·repeat' (first|((refine hE hg ?_;rintro _ ⟨gb,rfl,hgb⟩;cases gb))|(refine aO (hk ▸ iB s.bk (by have:=(hgb rfl).1;omega) (by have:=(hgb rfl).2.1;omega) (hgb rfl).2.2.1 (hgb rfl).2.2.2) ?_)|(refine aO hp ?_)|(refine aO hm ?_)|(with_reducible first|(refine wN fun _ hnl=>?_;revert hnl;(repeat refine wS fun _ _=>?_);intro hnl)|refine wE ?_|(refine wK ?_ ?_<;>intro h)|(refine wB ?_ ?_<;>intro h<;>simp only[h]))|simp(maxSteps:=4000000) (disch:=first|exact ddL|fail) only[go_sem,simprocAttr,h0,List.map_cons,List.map_nil])
    all_goals exact⟨_,rfl,fun h=>by cases h⟩
   ·subst h0
    repeat' (first|((refine hE hg ?_;rintro _ ⟨gb,rfl,hgb⟩;cases gb))|(refine aO (hk ▸ iB s.bk (by have:=(hgb rfl).1;omega) (by have:=(hgb rfl).2.1;omega) (hgb rfl).2.2.1 (hgb rfl).2.2.2) ?_)|(refine aO hp ?_)|(refine aO hm ?_)|(with_reducible first|(refine wN fun _ hnl=>?_;revert hnl;(repeat refine wS fun _ _=>?_);intro hnl)|refine wE ?_|(refine wK ?_ ?_<;>intro h)|(refine wB ?_ ?_<;>intro h<;>simp only[h]))|simp(maxSteps:=4000000) (disch:=first|exact ddL|fail) only[go_sem,simprocAttr,List.map_cons,List.map_nil])
    all_goals first|exact⟨_,rfl,fun _=>⟨hk,(hgb rfl).1,(hgb rfl).2.1,(hgb rfl).2.2.1,(hgb rfl).2.2.2,hpe,of_decide_eq_true hmb⟩⟩|exact⟨_,rfl,fun h=>by cases h⟩
  ·repeat' (first|((refine hE hg ?_;rintro _ ⟨gb,rfl,hgb⟩;cases gb))|(refine aO (hk ▸ iB s.bk (by have:=(hgb rfl).1;omega) (by have:=(hgb rfl).2.1;omega) (hgb rfl).2.2.1 (hgb rfl).2.2.2) ?_)|(refine aO hp ?_)|(refine aO hm ?_)|(with_reducible first|(refine wN fun _ hnl=>?_;revert hnl;(repeat refine wS fun _ _=>?_);intro hnl)|refine wE ?_|(refine wK ?_ ?_<;>intro h)|(refine wB ?_ ?_<;>intro h<;>simp only[h]))|simp(maxSteps:=4000000) (disch:=first|exact ddL|fail) only[go_sem,simprocAttr,h0,List.map_cons,List.map_nil])
   all_goals exact⟨_,rfl,fun h=>by cases h⟩
def u7:BK:=⟨2,3,[ex1,ex2],[],[]⟩
theorem Ey:BkR u7:=⟨by decide,by decide,by decide,by decide,by decide +kernel,by decide +kernel,by decide,by decide,by decide +kernel⟩
def exA:ND:=⟨1,0,va0⟩
theorem CP:bX [exA]=0:=by decide +kernel
theorem wP:dZ u7 [exA] 1 1073741824=[gP ex1 1,gP ex2 1]:=by
 rw[pY Ey]
 have h1:∀c,gF u7.gr [exA] c=true:=fun c=>by rw[D7 CP];rfl
 have:shC u7 [exA]=[ex1,ex2]:=by
  unfold shC
  show List.filter _ [ex1,ex2]=_
  simp[h1]
 rw[this];rfl
theorem H6:cQ (dZ u7 [exA] 1 1073741824) 0 1=([gP ex1 1],1):=by rw[wP];decide +kernel
theorem H7:cQ (dZ u7 [exA] 1 1073741824) 1 1=([gP ex2 1],1073741824):=by rw[wP];decide +kernel
theorem Ez{m l q b f:Nat}(D:nA m l q b)(hf:f≠m∧f≠l∧f≠q∧f≠b)(d:Bool)(cur:Int)(c:CA)(n:Int)(h:cQ (dZ u7 [exA] 1 1073741824) cur 1=([c],n)):aA Tryz.prog 29 [.ptr b 0 0,.ptr f 0 0,.int .u32 1,.int .i64 cur,.int .i64 1] (bfS m l q b u7 f [exA] d) (fun r σ'=>r=.tup [.lst 28 [(IT.mk 1 c).k] false,.int .i64 n]∧σ'=bfS m l q b u7 f [exA] true):=by
 have k:=o9 Ey (by decide) (by decide) D hf CP (by decide) d 1 cur 1 (by decide)
 rw[h] at k
 have e:(d || decide (0<u7.cards.length))=true:=by cases d<;>rfl
 rw[e] at k
 exact k
theorem xY:aA Tryz.prog 28 [] St.none (fun r _=>r=.bool true):=by
 refine aA.cP (aA.body 50 [.tmp 0] Tryz.func28 rfl rfl rfl rfl ?_)
 have k1:=fun {m l q b:Nat} (D:nA m l q b)=>LV (nx:=1) (sq:=0) D.lm D.bm D.bl (.vec 3 q 0 0) (.lst 2 [] false) [] (by decide) (by decide) (by decide) (by decide) (by decide) (by decide)
 have k2:=fun {m l q b:Nat} (D:nA m l q b)=>LV (nx:=2) (sq:=1) D.lm D.bm D.bl (.vec 3 q 0 0) (.lst 2 [] false) [ex1] (by decide) (by decide) (by decide) (by decide +kernel) (by decide) (by decide)
 have hnew:aA Tryz.prog 38 [] St.none _:=Am
 repeat' (first|((refine Fg hnew ?_;intro m l q b hm hl hq hb D;clear hm hl hq hb;simp only[bk1,List.map_nil,List.length_nil];have D':=D;obtain⟨d1,d2,d3,d4,d5,d6⟩:=D;have e1:=Ne.symm d1;have e2:=Ne.symm d2;have e3:=Ne.symm d3;have e4:=Ne.symm d4;have e5:=Ne.symm d5;have e6:=Ne.symm d6))|(with_reducible first|(refine wN fun _ hnl=>?_;revert hnl;(repeat refine wS fun _ _=>?_);intro hnl)|refine wE ?_|(refine wK ?_ ?_<;>intro h)|(refine wB ?_ ?_<;>intro h<;>simp only[h]))|simp(maxSteps:=4000000) (disch:=first|exact ddL|fail) only[go_sem,simprocAttr,Tryz.f28,FXs])
 refine J9 (k1 D') (I5 (by simp[St.set, *]) (by simp[St.set, *]) (by simp[St.set, *])) ?_
 rw[show(cN 1 pa1)=ex1 from rfl,List.nil_append]
 repeat' (first|(with_reducible first|(refine wN fun _ hnl=>?_;revert hnl;(repeat refine wS fun _ _=>?_);intro hnl)|refine wE ?_|(refine wK ?_ ?_<;>intro h)|(refine wB ?_ ?_<;>intro h<;>simp only[h]))|simp(maxSteps:=4000000) (disch:=first|exact ddL|fail) only[go_sem,simprocAttr,FXs])
 refine J9 (k2 D') (I5 (by simp[St.set, *]) (by simp[St.set, *]) (by simp[St.set, *])) ?_
 rw[show(cN 2 pa1)=ex2 from rfl,List.singleton_append]
 repeat' (first|(with_reducible first|(refine wN fun _ hnl=>?_;revert hnl;(repeat refine wS fun _ _=>?_);intro hnl)|refine wE ?_|(refine wK ?_ ?_<;>intro h)|(refine wB ?_ ?_<;>intro h<;>simp only[h]))|simp(maxSteps:=4000000) (disch:=first|exact ddL|fail) only[go_sem,simprocAttr,FXs])
 refine J8 (aJ _ _ _) (BE exA CP _) fun f hf=>?_
 have hf0:=hf
 repeat' (first|(with_reducible first|(refine wN fun _ hnl=>?_;revert hnl;(repeat refine wS fun _ _=>?_);intro hnl)|refine wE ?_|(refine wK ?_ ?_<;>intro h)|(refine wB ?_ ?_<;>intro h<;>simp only[h]))|simp(maxSteps:=4000000) (disch:=first|exact ddL|fail) only[go_sem,simprocAttr,FXs])
 have fm:f≠m:=fun e=>by subst e;simp[St.set,St.del, *] at hf
 have fl:f≠l:=fun e=>by subst e;simp[St.set,St.del, *] at hf
 have fq:f≠q:=fun e=>by subst e;simp[St.set,St.del, *] at hf
 have fb:f≠b:=fun e=>by subst e;simp[St.set,St.del, *] at hf
 have fm':=Ne.symm fm
 have fl':=Ne.symm fl
 have fq':=Ne.symm fq
 have fb':=Ne.symm fb
 clear hf hf0
 refine uR (Ez D' ⟨fm,fl,fq,fb⟩ false 0 _ _ H6) (xZ (by show _=some (aX.mp (cEs [ex1,ex2]));simp[St.set, *]) (by show _=some (shO 3 m (.vec 3 q 0 0));simp[St.set, *]) (by show _=some (aX.row 90 3 []);simp[St.set, *]) (by show _=some (cB 2 l (.lst 2 [] false));simp[St.set, *]) (aJ _ _ _)) ?_
 repeat' (first|(with_reducible first|(refine wN fun _ hnl=>?_;revert hnl;(repeat refine wS fun _ _=>?_);intro hnl)|refine wE ?_|(refine wK ?_ ?_<;>intro h)|(refine wB ?_ ?_<;>intro h<;>simp only[h]))|simp(maxSteps:=4000000) (disch:=first|exact ddL|fail) only[go_sem,simprocAttr,FXs])
 refine uR (Ez D' ⟨fm,fl,fq,fb⟩ true 1 _ _ H7) (xZ (by show _=some (aX.mp (cEs [ex1,ex2]));simp[St.set, *]) (by show _=some (shO 3 m (.vec 3 q 0 0));simp[St.set, *]) (by show _=some (aX.row 90 3 []);simp[St.set, *]) (by show _=some (cB 2 l (.lst 2 [] false));simp[St.set, *]) (aJ _ _ _)) ?_
 repeat' (first|(with_reducible first|(refine wN fun _ hnl=>?_;revert hnl;(repeat refine wS fun _ _=>?_);intro hnl)|refine wE ?_|(refine wK ?_ ?_<;>intro h)|(refine wB ?_ ?_<;>intro h<;>simp only[h]))|simp(maxSteps:=4000000) (disch:=first|exact ddL|fail) only[go_sem,simprocAttr,FXs])
 all_goals first|exact⟨_,St.le_refl _,rfl⟩|exact⟨_,St.le_refl _⟩
end

section
set_option maxRecDepth 100000
set_option maxHeartbeats 8000000
theorem BF{B:BK}(hb:BkR B)(h3:B.gr.length≤1000000)(h4:∀g,g∈B.gr→g.mem.length≤1000000){m l q b f:Nat}(D:nA m l q b)(hf:f≠m∧f≠l∧f≠q∧f≠b){fl:List ND}(hp:bX fl=0)(hdd:B.dead.length≤1000000)(d:Bool)(mk:UInt32)(cur room:Int) :
  aA Tryz.prog 29 [.ptr b 0 0,.ptr f 0 0,.int .u32 (mk.toNat:Int),.int .i64 cur,.int .i64 room] (bfS m l q b B f fl d) (fun r σ'=>r=.tup [.lst 28 (IT.ks (inI (cQ (dZ B fl mk 1073741824) cur room).1)) false,.int .i64 (cQ (dZ B fl mk 1073741824) cur room).2]∧σ'=bfS m l q b B f fl (d || decide (1≤room)&&decide (0<B.cards.length))):=by
 by_cases h:room<1
 ·rw[show(d || decide (1≤room)&&decide (0<B.cards.length))=d by rw[decide_eq_false (by omega:¬1≤room)];cases d<;>rfl]
  exact zN hf.2.2.2 d mk cur room _ h
 ·rw[show(d || decide (1≤room)&&decide (0<B.cards.length))=(d || decide (0<B.cards.length)) by rw[decide_eq_true (by omega:1≤room),Bool.true_and]]
  exact o9 hb h3 h4 D hf hp hdd d mk cur room (by omega)
theorem H8{W:List CA}(cur room:Int):(cQ W cur room).1.length≤W.length:=by
 have:(bL W cur).length≤W.length:=List.length_filter_le _ _
 unfold cQ
 split
 ·simp
 ·split
  ·exact this
  ·rw[List.length_take];omega
end

section
set_option maxRecDepth 100000
set_option maxHeartbeats 8000000
theorem Hc{W:List CA}(hW:vZ W)(hm:∀x,x∈W→x.id≤1073741824){at' n:Int}(h0:0≤at')(h1:at'≤1073741824)(hn:1≤n) :
  (cQ W at' n).2=1073741824∨((bL W (cQ W at' n).2).length:Int)+n=(bL W at').length:=by
 unfold cQ
 rw[if_neg (by omega)]
 split
 ·exact .inl rfl
 ·rename_i hl
  obtain⟨y,hy⟩:=bN (bL W at') (show n.toNat - 1<(bL W at').length by omega)
  obtain⟨q1,q2,q3⟩:=xL h0 hW (show 1≤n.toNat by omega) hy
  have e:(bL W at').getD (n.toNat - 1) ca0=y:=by rw[List.getD_eq_getElem?_getD,hy];rfl
  simp only[e,q3,List.length_drop]
  right;omega
theorem Hb{W:List CA}(hm:∀x,x∈W→x.id≤1073741824){n:Int}(hn:1≤n):(cQ W 1073741824 n).2=1073741824:=by
 have e:bL W 1073741824=[]:=qC fun x hx=>by have:=hm x hx;omega
 unfold cQ
 rw[if_neg (by omega),e,if_pos (by simp;omega)]
theorem u9(s:SET)(u:UInt8):aA Tryz.prog 8 [.agg s.c,.int .u8 (u.toNat:Int)] St.none (fun r _=>r=.bool true):=by
 refine aA.cP (aA.body 84 [.tmp 4] Tryz.func8 rfl rfl rfl rfl ?_)
 have hfit:=AF s
 have haw:=xY
 by_cases hF:Fit s
 rotate_left
 ·repeat' (first|((refine hE hfit ?_;rintro _ ⟨fb,rfl,hfb⟩;cases fb))|(refine aO haw ?_)|(with_reducible first|(refine wT ?_;(first|((fail_if_success (have:=nl1));refine wN fun nl1 hnl=>?_)|((fail_if_success (have:=nl2));refine wN fun nl2 hnl=>?_)|refine wN fun _ hnl=>?_);revert hnl;(repeat refine wS fun _ _=>?_);intro hnl)|refine wE ?_|(refine wK ?_ ?_<;>intro h)|(refine wB ?_ ?_<;>intro h<;>simp only[h]))|simp(maxSteps:=4000000) (disch:=first|exact ddL|fail) only[go_sem,simprocAttr,Tryz.f8,FXs,List.map_cons,List.map_nil])
  all_goals first|exact absurd (hfb rfl) hF|skip
  all_goals first|exact⟨_,St.le_refl _⟩|exact⟨_,St.le_refl _,rfl⟩
 obtain⟨h1,h2,h3,h4,h5,h6,h7⟩:=hF
 have hb:=HS h1
 have hc6:s.bk.cards.length≤1000000:=by omega
 have hd6:s.bk.dead.length≤1000000:=by omega
 have hf6:s.fl.length≤1000000:=by have:=(rV h6).2.2;omega
 have hld:=x0 hc6 hd6 h4 h5 h1
 have hnew:=qX s.fl hf6 false h6
 obtain⟨hWr,hWm⟩:=CY hb s.fl s.mask
 have hWl:(dZ s.bk s.fl s.mask 1073741824).length≤48:=by
  unfold dZ
  rw[List.length_map]
  exact Nat.le_trans (List.length_filter_le _ _) hb.nc
 have hW0:∀x,x∈dZ s.bk s.fl s.mask 1073741824→0<x.id:=fun x hx=>by
  unfold dZ at hx
  obtain⟨y,hy,rfl⟩:=List.mem_map.1 hx
  exact(oN hb (List.mem_filter.1 hy).1).2.1
 have hr1:=B0 s.bk hb h4 h5 s.fl h6 false s.mask 1073741824
 obtain⟨n,hn⟩:∃n,1+((u.toNat:Int)).tmod 20=n:=⟨_,rfl⟩
 have ht0:0≤((u.toNat:Int)).tmod 20:=Int.tmod_nonneg _ (by omega)
 have ht1:((u.toNat:Int)).tmod 20<20:=Int.tmod_lt_of_pos _ (by omega)
 have hu8:(u.toNat:Int)<256:=by have:=u.toNat_lt;omega
 obtain⟨t,ht⟩:∃t,((u.toNat:Int)).tmod 20=t:=⟨_,rfl⟩
 rw[ht] at hn ht0 ht1
 have hnx:=fun {m l q b f:Nat} (D:nA m l q b) (hf:f≠m∧f≠l∧f≠q∧f≠b) (d:Bool) (c:Int)=>BF hb h4 h5 D hf h6 hd6 d s.mask c n
 obtain⟨W,hW⟩:∃W,dZ s.bk s.fl s.mask 1073741824=W:=⟨_,rfl⟩
 rw[hW] at hr1 hWr hWm hWl hW0
 simp only[hW] at hnx
 have hmost:=DU (W.length:Int) n
 have hwl:(W.map CA.c).length=W.length:=List.length_map _
 have hsm:=BR W W (by omega) false false
 rw[decide_eq_true rfl] at hsm
 have hKe:Bn (W.length:Int) n=(W.length:Int) / n+1:=by
  unfold Bn
  rw[if_neg (by omega),Int.tdiv_eq_ediv_of_nonneg (by omega)]
 have hK1:(W.length:Int)<((W.length:Int) / n+1) * n:=Int.lt_ediv_add_one_mul_self _ (by omega)
 have hK2:(W.length:Int) / n≤W.length:=Int.ediv_le_self _ (by omega)
 have hK3:0≤(W.length:Int) / n:=Int.ediv_nonneg (by omega) (by omega)
 rw[hKe] at hmost
 obtain⟨K,hK⟩:∃K,(W.length:Int) / n+1=K:=⟨_,rfl⟩
 rw[hK] at hmost hK1
 obtain⟨dn,hdn⟩:∃dn,decide (0<s.bk.cards.length)=dn:=⟨_,rfl⟩
 have hdd:∀d:Bool,(d || decide (1≤n)&&decide (0<s.bk.cards.length))=(d || dn):=fun d=>by rw[hdn,decide_eq_true (by omega:1≤n),Bool.true_and]
 simp only[hdd] at hnx
 clear hdd hKe
 repeat' (first|((refine hE hfit ?_;rintro _ ⟨fb,rfl,hfb⟩;cases fb))|(refine aO haw ?_)|((refine Fg hld ?_;intro m l q b hm hl hq hbn D;simp only[aY] at hm hl hq hbn;obtain⟨m1,-⟩:=hm;obtain⟨l1,-⟩:=hl;obtain⟨q1,-⟩:=hq;obtain⟨b1,-⟩:=hbn;have m1':=Ne.symm m1;have l1':=Ne.symm l1;have q1':=Ne.symm q1;have b1':=Ne.symm b1;have D':=D;obtain⟨g1,g2,g3,g4,g5,g6⟩:=D;have e1:=Ne.symm g1;have e2:=Ne.symm g2;have e3:=Ne.symm g3;have e4:=Ne.symm g4;have e5:=Ne.symm g5;have e6:=Ne.symm g6))|((refine Ae hnew ?_;intro f hf;simp only[aY] at hf;obtain⟨f1,f2,f3,f4,f5,-⟩:=hf;have f1':=Ne.symm f1;have f2':=Ne.symm f2;have f3':=Ne.symm f3;have f4':=Ne.symm f4;have f5':=Ne.symm f5))|(with_reducible refine aO hr1 ?_)|(with_reducible first|(refine wT ?_;(first|((fail_if_success (have:=nl1));refine wN fun nl1 hnl=>?_)|((fail_if_success (have:=nl2));refine wN fun nl2 hnl=>?_)|refine wN fun _ hnl=>?_);revert hnl;(repeat refine wS fun _ _=>?_);intro hnl)|refine wE ?_|(refine wK ?_ ?_<;>intro h)|(refine wB ?_ ?_<;>intro h<;>simp only[h]))|simp(maxSteps:=4000000) (disch:=first|exact ddL|fail) only[go_sem,simprocAttr,Tryz.f8,FXs,List.map_cons,List.map_nil,ht,hn])
 all_goals (try (exfalso;omega))
 ·first|exact⟨_,St.le_refl _⟩|exact⟨_,St.le_refl _,rfl⟩
 refine aG (α:=Nat × Int × Bool) (fun z=>⟨84,[(12,.int .i64 (z.1:Int)),(11,.int .i64 z.2.1),(10,.lst 27 ((leW W z.2.1).map CA.c) false),(9,.lst 27 (W.map CA.c) false),(8,.ptr f 0 0),(6,.ptr b 0 0),(5,.int .i64 n),(2,.ptr nl1 0 0)],[]⟩)
  (fun z=>((((((St.none.set nl1 (.row 30 8 [s.c])).set m (.mp (cEs s.bk.cards))).set l (shO s.bk.nx m (.vec 3 q 0 s.bk.dead.length))).set q (.row 90 3 (s.bk.dead.map DE.c))).set b (cB s.bk.sq l (.lst 2 (s.bk.gr.map GR.c) false))).set f (flD s.fl z.2.2))) (fun z=>(z.1:Int)≤K∧0≤z.2.1∧z.2.1≤1073741824∧(z.2.2 || dn)=dn∧(z.2.1=1073741824∨((bL W z.2.1).length:Int)+(z.1:Int) * n=W.length)) (fun z=>K.toNat - z.1) ?_ ?_
 ·have e0:leW W 0=[]:=le_none hW0
  have er:bL W 0=W:=tU fun x hx=>by have:=hW0 x hx;omega
  refine .of (bD.freeze (l1:=[(12,.int .i64 0),(11,.int .i64 0),(10,.lst 27 ((leW W 0).map CA.c) false),(9,.lst 27 (W.map CA.c) false),(8,.ptr f 0 0),(6,.ptr b 0 0),(5,.int .i64 n),(2,.ptr nl1 0 0)]) (σ1:=((((((St.none.set nl1 (.row 30 8 [s.c])).set m (.mp (cEs s.bk.cards))).set l (shO s.bk.nx m (.vec 3 q 0 s.bk.dead.length))).set q (.row 90 3 (s.bk.dead.map DE.c))).set b (cB s.bk.sq l (.lst 2 (s.bk.gr.map GR.c) false))).set f (flD s.fl false))) (St.none.set nl2 (.row 42 27 [])) (St.aH (St.none_le _) (aJ _ _ _)) (St.sS (St.le_refl _) (by simp[St.set,St.none, *])) (fun k o hk=>?_) (fun p hp=>?_)) ⟨(0,0,false),rfl,rfl,by simp only;omega,Int.le_refl _,by simp only;omega,rfl,.inr (by simp only[er];omega)⟩
  ·refine aP _ _ _ _ fun e=>?_
   subst e
   simp[St.set,St.none, *] at hk
  ·simp only[List.mem_cons,List.not_mem_nil,or_false] at hp
   rcases hp with rfl|rfl|rfl|rfl|rfl|rfl|rfl|rfl
   ·exact .same _
   ·exact .same _
   ·rw[e0]
    exact View.vecAll (aJ _ _ _) rfl
   all_goals exact .same _
 ·rintro⟨i,c,d⟩ ⟨hi,hc0,hc1,hd,hin⟩
  simp only at hi hc0 hc1 hd hin ⊢
  by_cases hlt:(i:Int)<K
  ·obtain⟨w1,w2,w3,w4⟩:=Kx hWr hWm hc0 hc1 n
   have hst:=Hc hWr hWm hc0 hc1 (n:=n) (by omega)
   have hla:=Hb hWm (n:=n) (by omega)
   have hfl:=H8 (W:=W) c n
   have hnx':=hnx D' ⟨f4,f3,f2,f1⟩ d c
   rw[hd] at hnx'
   have hll:(leW W c).length≤48:=Nat.le_trans (List.length_filter_le _ _) hWl
   have hup:UpI ((leW W c++(cQ W c n).1).map CA.id):=by
    rw[w4]
    exact List.pairwise_map.2 (List.Pairwise.filter _ hWr)
   have hap:=BQ (leW W c) (cQ W c n).1 (by omega) hup false false
   have hnew':(cQ W c n).2=1073741824∨((bL W (cQ W c n).2).length:Int)+(((i+1:Nat):Int)) * n=W.length:=by
    rcases hin with h|h
    ·subst h;exact .inl hla
    ·rcases hst with h2|h2
     ·exact .inl h2
     ·right
      have:((i+1:Nat):Int) * n=(i:Int) * n+n:=by
       rw[Int.natCast_add,Int.add_mul];simp
      omega
   obtain⟨⟨X,to⟩,hX⟩:∃X,cQ W c n=X:=⟨_,rfl⟩
   rw[hX] at w1 w2 w4 hap hnx' hnew'
   simp only at w1 w2 w4 hap hnx' hnew'
   rw[w4] at hap
   clear hst hla hup w3 hfl hin hX
   repeat' (first|(with_reducible refine aO hmost ?_)|(refine uR hnx' (xZ (by simp[St.set, *]) (by simp[St.set, *]) (by simp[St.set, *]) (by simp[St.set, *]) (by simp[St.set, *])) ?_)|(with_reducible refine aO hap ?_)|(with_reducible first|(refine wT ?_;(first|((fail_if_success (have:=nl1));refine wN fun nl1 hnl=>?_)|((fail_if_success (have:=nl2));refine wN fun nl2 hnl=>?_)|refine wN fun _ hnl=>?_);revert hnl;(repeat refine wS fun _ _=>?_);intro hnl)|refine wE ?_|(refine wK ?_ ?_<;>intro h)|(refine wB ?_ ?_<;>intro h<;>simp only[h]))|simp(maxSteps:=4000000) (disch:=first|exact ddL|fail) only[go_sem,simprocAttr,FXs,hwl])
   all_goals (try (exfalso;omega))
   clear hnx' hap w4 hmost
   refine .of (.less ?_ (St.le_refl _)) ⟨(i+1,to,dn),rfl,rfl,⟨by simp only;omega,by simp only;omega,w2,Bool.or_self _,hnew'⟩,by simp only;omega⟩
   simp(maxSteps:=4000000) (disch:=first|exact ddL|fail) only[go_sem,simprocAttr,aC,aB]
   all_goals first|rfl|(simp;done)
  ·have hiK:(i:Int)=K:=by omega
   have hc:c=1073741824:=by
    rcases hin with h|h
    ·exact h
    ·exfalso;rw[hiK] at h;omega
   subst hc
   rw[yM hWm]
   repeat' (first|(with_reducible refine aO hmost ?_)|(with_reducible refine aO hsm ?_)|(refine aO haw ?_)|(with_reducible first|(refine wT ?_;(first|((fail_if_success (have:=nl1));refine wN fun nl1 hnl=>?_)|((fail_if_success (have:=nl2));refine wN fun nl2 hnl=>?_)|refine wN fun _ hnl=>?_);revert hnl;(repeat refine wS fun _ _=>?_);intro hnl)|refine wE ?_|(refine wK ?_ ?_<;>intro h)|(refine wB ?_ ?_<;>intro h<;>simp only[h]))|simp(maxSteps:=4000000) (disch:=first|exact ddL|fail) only[go_sem,simprocAttr,hwl,hiK])
   all_goals (try (exfalso;omega))
   all_goals first|exact⟨_,St.le_refl _⟩|exact⟨_,St.le_refl _,rfl⟩
end
end Go.Proofs.YtaojijkdamfbnaaGreatDoor
