/- Parts of the proof, joined; conditions: those that its theorems name. -/
import Derived.Test.YtppdgejjmhdjhaaGreatDoorMbzc
import Derived.Test.YtppdgejjmhdjhaaGreatDoorCards
import Derived.Test.YtppdgejjmhdjhaaGreatDoorTie
set_option linter.unusedVariables false
set_option linter.unusedSimpArgs false
set_option maxHeartbeats 4000000
namespace Go.Proofs.YtppdgejjmhdjhaaGreatDoor
section
set_option maxRecDepth 100000
set_option maxHeartbeats 8000000
def mQ(log:List TU)(t:TU):List TU:=if log.length<40 then log++[t] else(log++[t]).drop 1
def vC(floor:Int)(log:List TU)(t:TU):Int:=if log.length<40 then floor else((log++[t]).headD tu0).sq
abbrev lgO(log:List TU)(ex:List (List MV)):aW:=.row 128 31 (log.map TU.c++ex)
theorem DJ{P:Program}{g:FuncId}{ms:List MV}{σ:St}{n:Nat}{on o:aW}{u:Nat→MV}{k:MV→St→Prop}(hn:σ n=some on)(h:aA P g ms (St.none.set n on) fun v σ'=>∃q,v=u q∧σ'=St.none.set q o)(hk:∀q,(σ.del n) q=none→R (bQ (u q) ((σ.del n).set q o) k)):R (cQ P g ms σ k) :=
 bX h (St.aD (St.none_le _) hn) fun v σ' hv hf=>by
  obtain⟨q,rfl,rfl⟩:=hv
  have e:(St.none.set q o).over (σ.minus (St.none.set n on))=(σ.del n).set q o:=by
   rw[a8,cT]
   congr 1
   funext j
   by_cases h2:j=n
   ·subst h2;simp[St.set,St.minus,St.del]
   ·simp[St.set,St.none,St.minus,St.del,h2]
  rw[e]
  refine hk q ?_
  rcases hf q o (aJ _ _ _) with h|⟨o',h⟩
  ·simp[St.del,h]
  ·by_cases h2:q=n
   ·subst h2;simp[St.del]
   ·rw[aM _ _ _ _ h2] at h;cases h
theorem CY(y:TU)(L:List TU)(hl:L.length+1≤1000000)(tt:Bool):aA Tryz.prog 98 [.lst 31 ((y::L).map TU.c) tt] St.none (fun r σ'=>∃q,r=.vec 31 q 0 (L.length+1)∧σ'=St.none.set q (.row 128 31 ((y::L).map TU.c))):=by
 refine(aA.body 8 [.tmp 2] Tryz.func98 rfl rfl rfl rfl ?_)
 repeat' (first|(with_reducible first|(refine wN fun _ hnl=>?_;revert hnl;(repeat refine wS fun _ _=>?_);intro hnl)|refine wE ?_|(refine wK ?_ ?_<;>intro h)|(refine wB ?_ ?_<;>intro h<;>simp only[h]))|simp(maxSteps:=4000000) (disch:=first|exact ddL|fail) only[go_sem,simprocAttr,Tryz.f98])
 all_goals exact⟨_,rfl,rfl⟩
theorem CZ{g n:Nat}(xs:List (List MV))(y:TU)(L:List TU)(hn:n=L.length+1)(hl:L.length+1≤1000000)(h:(xs.drop 1).take n=(y::L).map TU.c)(hx:1+n≤xs.length) :
  aA Tryz.prog 98 [.vec 31 g 1 n] (St.none.set g (.row 128 31 xs)) (fun r σ'=>∃q,r=.vec 31 q 0 (L.length+1)∧σ'=St.none.set q (.row 128 31 ((y::L).map TU.c))) :=
 aA.pre (ms':=[.lst 31 ((y::L).map TU.c) false]) rfl (bM.freeze (St.none.set g (.row 128 31 xs)) (St.le_refl _) (St.none_le _) (fun k o hk=>by cases hk) (fun p hp=>by
  simp only[j0,List.mem_singleton] at hp
  subst hp
  rw[←h]
  exact View.vec (aJ _ _ _) hx)) (CY y L hl false)
theorem vK{v g:Nat}(hvg:v≠g)(f sm:Nat)(mk:UInt32)(floor now:Int)(log:List TU)(hl:log.length≤40)(ex:List (List MV))(t:TU) :
  aA Tryz.prog 79 [.ptr v 0 0,.agg t.c] ((St.none.set g (lgO log ex)).set v (vwO f mk sm floor now (.vec 31 g 0 log.length)))
   (fun _ σ'=>∃g' ex',v≠g'∧σ'=(St.none.set g' (lgO (mQ log t) ex')).set v (vwO f mk sm (vC floor log t) now (.vec 31 g' 0 (mQ log t).length))):=by
 refine aA.less (Q':=fun _ σ'=>∃g' ex',v≠g'∧((St.none.set g' (lgO (mQ log t) ex')).set v (vwO f mk sm (vC floor log t) now (.vec 31 g' 0 (mQ log t).length))).le σ') (aA.body 39 [] Tryz.func79 rfl rfl rfl rfl ?_) fun v σ' ⟨g',ex',h1,h2⟩=>⟨_,h2,g',ex',h1,rfl⟩
 have hgv:=Ne.symm hvg
 by_cases h40:log.length<40
 ·rw[show mQ log t=log++[t] from if_pos h40,show vC floor log t=floor from if_pos h40]
  have hm:(log.map TU.c).length=log.length:=List.length_map _
  have hQ:(log++[t]).map TU.c=log.map TU.c++[t.c]:=List.map_append
  have hdr:(log.map TU.c++ex).drop (log.length+1)=ex.drop 1:=by rw[←hm,←List.drop_drop,List.drop_left]
  have htk:(log.map TU.c++ex).take log.length=log.map TU.c:=List.take_left' hm
  repeat' (first|(with_reducible first|(refine wT ?_;(first|((fail_if_success (have:=nl1));refine wN fun nl1 hnl=>?_)|((fail_if_success (have:=nl2));refine wN fun nl2 hnl=>?_)|((fail_if_success (have:=nl3));refine wN fun nl3 hnl=>?_)|refine wN fun _ hnl=>?_);revert hnl;(repeat refine wS fun _ _=>?_);intro hnl)|refine wE ?_|(refine wK ?_ ?_<;>intro h)|(refine wB ?_ ?_<;>intro h<;>simp only[h]))|simp(maxSteps:=4000000) (disch:=first|exact ddL|fail) only[go_sem,simprocAttr,Tryz.f79,FXs,hm,hdr,htk])
  ·obtain rfl:ex=[]:=List.eq_nil_of_length_eq_zero (by omega)
   clear hdr htk h hm hl h40
   refine⟨nl3,[],by assumption,St.aD (St.aD (St.none_le _) ?_) ?_⟩
   ·rw[aJ,lgO,hQ,List.append_nil,List.append_nil]
   ·simp[St.set, *]
  ·clear hdr htk h hm hl h40
   refine⟨nl3,ex.drop 1,by assumption,St.aD (St.aD (St.none_le _) ?_) ?_⟩
   ·rw[aJ,lgO,hQ]
   ·simp[St.set, *]
 ·have h4:log.length=40:=by omega
  obtain⟨t0,L,rfl⟩:∃t0 L,log=t0::L:=by
   cases log with
   | nil=>simp at h4
   | cons a b=>exact⟨a,b,rfl⟩
  rw[show mQ (t0::L) t=L++[t] from if_neg h40,show vC floor (t0::L) t=t0.sq from if_neg h40]
  simp only[List.length_cons] at h4
  have hm:(L.map TU.c).length=39:=by rw[List.length_map];omega
  have hL:L.length=39:=by omega
  obtain⟨y,L',hy⟩:∃y L',L++[t]=y::L':=by
   cases L with
   | nil=>exact⟨t,[],rfl⟩
   | cons a b=>exact⟨a,b++[t],rfl⟩
  have hL':L'.length=39:=by
   have:=congrArg List.length hy
   simp only[List.length_append,List.length_cons,List.length_nil] at this
   omega
  have hc:=fun(nl:Nat) (xs:List (List MV)) (h1:(xs.drop 1).take 40=(y::L').map TU.c) (h2:1+40≤xs.length)=>CZ (g:=nl) xs y L' (by omega) (by omega) h1 h2
  rw[hL'] at hc
  rw[hy]
  repeat' (first|(with_reducible first|(refine wT ?_;(first|((fail_if_success (have:=nl1));refine wN fun nl1 hnl=>?_)|((fail_if_success (have:=nl2));refine wN fun nl2 hnl=>?_)|((fail_if_success (have:=nl3));refine wN fun nl3 hnl=>?_)|refine wN fun _ hnl=>?_);revert hnl;(repeat refine wS fun _ _=>?_);intro hnl)|refine wE ?_|(refine wK ?_ ?_<;>intro h)|(refine wB ?_ ?_<;>intro h<;>simp only[h]))|simp(maxSteps:=4000000) (disch:=first|exact ddL|fail) only[go_sem,simprocAttr,Tryz.f79,FXs,hm,hL])
  all_goals
   have hq2:∀R:List (List MV),(L.map TU.c++t.c::R).take 40=(y::L').map TU.c:=fun R=>by
    rw[←hy,List.map_append,show L.map TU.c++t.c::R=(L.map TU.c++[t.c])++R by simp]
    exact List.take_left' (by rw[List.length_append,hm];rfl)
  ·obtain rfl:ex=[]:=List.eq_nil_of_length_eq_zero (by omega)
   clear h
   refine DJ (aJ _ _ _) (hc nl3 _ (by rw[List.drop_succ_cons,List.drop_zero,List.append_nil];exact hq2 []) (by simp[hL])) fun q hq=>?_
   have hqv:v≠q:=fun e=>by subst e;simp[St.set,St.del, *] at hq
   have hqv':=Ne.symm hqv
   have hv3:v≠nl3:=by assumption
   repeat' (first|(with_reducible first|(refine wT ?_;(first|((fail_if_success (have:=nl1));refine wN fun nl1 hnl=>?_)|((fail_if_success (have:=nl2));refine wN fun nl2 hnl=>?_)|((fail_if_success (have:=nl3));refine wN fun nl3 hnl=>?_)|refine wN fun _ hnl=>?_);revert hnl;(repeat refine wS fun _ _=>?_);intro hnl)|refine wE ?_|(refine wK ?_ ?_<;>intro h)|(refine wB ?_ ?_<;>intro h<;>simp only[h]))|simp(maxSteps:=4000000) (disch:=first|exact ddL|fail) only[go_sem,simprocAttr,FXs])
   refine⟨q,[],hqv,St.aD (St.aD (St.none_le _) ?_) ?_⟩
   ·simp[St.set, *]
   ·simp[St.set, *]
  ·clear h
   refine DJ (aJ _ _ _) (hc nl3 _ ?_ ?_) fun q hq=>?_
   ·rw[List.drop_succ_cons,List.drop_zero,List.take_left' hm,List.append_assoc]
    exact hq2 _
   ·rw[List.length_cons,List.take_left' hm,List.length_append,List.length_append,hm]
    simp only[List.length_cons,List.length_nil]
    omega
   have hqv:v≠q:=fun e=>by subst e;simp[St.set,St.del, *] at hq
   have hqv':=Ne.symm hqv
   have hv3:v≠nl3:=by assumption
   repeat' (first|(with_reducible first|(refine wT ?_;(first|((fail_if_success (have:=nl1));refine wN fun nl1 hnl=>?_)|((fail_if_success (have:=nl2));refine wN fun nl2 hnl=>?_)|((fail_if_success (have:=nl3));refine wN fun nl3 hnl=>?_)|refine wN fun _ hnl=>?_);revert hnl;(repeat refine wS fun _ _=>?_);intro hnl)|refine wE ?_|(refine wK ?_ ?_<;>intro h)|(refine wB ?_ ?_<;>intro h<;>simp only[h]))|simp(maxSteps:=4000000) (disch:=first|exact ddL|fail) only[go_sem,simprocAttr,FXs])
   refine⟨q,[],hqv,St.aD (St.aD (St.none_le _) ?_) ?_⟩
   ·simp[St.set, *]
   ·simp[St.set, *]
end

section
set_option maxRecDepth 100000
set_option maxHeartbeats 8000000
def jX:Int→List Int→List (List MV)
 | _,[]=>[]
 | s,i::r=>[.int .i64 (s+1),.int .i64 i]::jX (s+1) r
theorem tM:∀(s:Int) (l:List Int),(jX s l).length=l.length
 | _,[]=>rfl
 | s,i::r=>by simp[jX,tM]
theorem yM:∀(s:Int) (l:List Int) (x:Int),jX s (l++[x])=jX s l++[[.int .i64 (s+l.length+1),.int .i64 x]]
 | s,[],x=>by simp[jX]
 | s,i::r,x=>by
  simp only[List.cons_append,jX,yM (s+1) r x,List.length_cons]
  have:s+1+(r.length:Int)+1=s+((r.length+1:Nat):Int)+1:=by omega
  rw[this]
theorem sA{sq:Int}(l:Nat)(g:MV){b p:Nat}(hbp:b≠p)(ids:List Int)(h0:0≤sq)(h1:sq≤1099511627776)(hl:ids.length≤1000000) :
  aA Tryz.prog 143 [.ptr b 0 0,.vec 1 p 0 ids.length] ((St.none.set p (.row 3 1 (ids.map aP))).set b (bL sq l g)) (fun v σ'=>v=.lst 2 (jX sq ids) false∧σ'=St.none.set b (bL (sq+ids.length) l g)):=by
 refine aA.LC (aA.body 32 [.tmp 4] Tryz.func143 rfl rfl rfl rfl ?_)
 have hpb:=Ne.symm hbp
 repeat' (first|(with_reducible first|(refine wT ?_;(first|((fail_if_success (have:=nl1));refine wN fun nl1 hnl=>?_)|((fail_if_success (have:=nl2));refine wN fun nl2 hnl=>?_)|refine wN fun _ hnl=>?_);revert hnl;(repeat refine wS fun _ _=>?_);intro hnl)|refine wE ?_|(refine wK ?_ ?_<;>intro h)|(refine wB ?_ ?_<;>intro h<;>simp only[h]))|simp(maxSteps:=4000000) (disch:=first|exact ddL|fail) only[go_sem,simprocAttr,Tryz.f143])
 refine aF (α:=Nat × Nat × List (List MV)) (fun z=>⟨32,[(10,.int .i64 (z.1:Int)),(9,.int .i64 (ids.length:Int)),(8,.vec 1 p 0 ids.length),(5,.vec 2 z.2.1 0 z.1),(0,.ptr b 0 0)],[]⟩)
  (fun z=>((St.none.set p (.row 3 1 (ids.map aP))).set b (bL (sq+z.1) l g)).set z.2.1 (.row 73 2 (jX sq (ids.take z.1)++z.2.2))) (fun z=>z.1≤ids.length∧z.2.1≠p∧z.2.1≠b) (fun z=>ids.length - z.1) ?_ ?_
 ·refine Gh.A4 73 2 (fun r=>[(10,.int .i64 0),(9,.int .i64 (ids.length:Int)),(8,.vec 1 p 0 ids.length),(5,.vec 2 r 0 0),(0,.ptr b 0 0)]) (fun k=>by(repeat' (refine And.intro ?_ ?_))<;>first|exact trivial|exact .inl rfl|exact .inr ⟨rfl,.inl rfl⟩|exact .inr ⟨rfl,.inr rfl⟩) fun r hr=>?_
  simp only[aX] at hr
  obtain⟨r1,r2,-⟩:=hr
  exact .done ⟨(0,r,[]),rfl,by simp[jX],Nat.zero_le _,by assumption,by assumption⟩
 ·rintro⟨i,r,xx⟩ ⟨hi,r1,r2⟩
  simp only at hi r1 r2 ⊢
  have r1':=Ne.symm r1
  have r2':=Ne.symm r2
  by_cases hlt:i<ids.length
  ·obtain⟨x,hx⟩:=bI ids hlt
   have hat:=bB (f:=aP) hx
   have hml:(ids.map aP).length=ids.length:=List.length_map _
   have htk:=aV hx
   have hLl:(ids.take i).length=i:=by rw[List.length_take];omega
   obtain⟨L,hL⟩:∃L,ids.take i=L:=⟨_,rfl⟩
   rw[hL] at htk hLl ⊢
   have hsn:=yM sq L x
   rw[hLl] at hsn
   have hcl:=tM sq L
   rw[hLl] at hcl
   obtain⟨Q,hQ⟩:∃Q,jX sq L=Q:=⟨_,rfl⟩
   rw[hQ] at hsn hcl ⊢
   have hdr:(Q++xx).drop (i+1)=xx.drop 1:=by rw[←hcl,←List.drop_drop,List.drop_left]
   have htk':(Q++xx).take i=Q:=List.take_left' hcl
   have hq1:sq+((i+1:Nat):Int)=sq+(i:Int)+1:=by omega
   repeat' (first|(with_reducible first|(refine wT ?_;(first|((fail_if_success (have:=nl1));refine wN fun nl1 hnl=>?_)|((fail_if_success (have:=nl2));refine wN fun nl2 hnl=>?_)|refine wN fun _ hnl=>?_);revert hnl;(repeat refine wS fun _ _=>?_);intro hnl)|refine wE ?_|(refine wK ?_ ?_<;>intro h)|(refine wB ?_ ?_<;>intro h<;>simp only[h]))|simp(maxSteps:=4000000) (disch:=first|exact ddL|fail) only[go_sem,simprocAttr,hat,hml,hcl,htk',hdr])
   all_goals (try (exfalso;omega))
   all_goals
    clear hat htk' hdr
    have p1:nl2≠p:=by assumption
    have p2:nl2≠b:=by assumption
   ·have hex:xx=[]:=List.eq_nil_of_length_eq_zero (by omega)
    subst hex
    clear h
    refine .of (.less ?_ ?_) ⟨(i+1,nl2,[]),rfl,rfl,⟨by simp only;omega,p1,p2⟩,by simp only;omega⟩
    ·simp(maxSteps:=4000000) (disch:=first|exact ddL|fail) only[go_sem,simprocAttr,aC,aB]
     all_goals first|rfl|(simp;done)
    ·simp only[htk,hsn,hq1]
     exact St.aD (St.aD (St.aD (St.none_le _) (by simp[St.set, *])) (by simp[St.set, *])) (by simp[St.set, *])
   ·clear h
    refine .of (.less ?_ ?_) ⟨(i+1,nl2,xx.drop 1),rfl,rfl,⟨by simp only;omega,p1,p2⟩,by simp only;omega⟩
    ·simp(maxSteps:=4000000) (disch:=first|exact ddL|fail) only[go_sem,simprocAttr,aC,aB]
     all_goals first|rfl|(simp;done)
    ·simp only[htk,hsn,hq1]
     exact St.aD (St.aD (St.aD (St.none_le _) (by simp[St.set, *])) (by simp[St.set, *])) (by simp[St.set, *])
  ·have:i=ids.length:=by omega
   subst this
   rw[List.take_length]
   repeat' (first|(with_reducible first|(refine wT ?_;(first|((fail_if_success (have:=nl1));refine wN fun nl1 hnl=>?_)|((fail_if_success (have:=nl2));refine wN fun nl2 hnl=>?_)|refine wN fun _ hnl=>?_);revert hnl;(repeat refine wS fun _ _=>?_);intro hnl)|refine wE ?_|(refine wK ?_ ?_<;>intro h)|(refine wB ?_ ?_<;>intro h<;>simp only[h]))|simp(maxSteps:=4000000) (disch:=first|exact ddL|fail) only[go_sem,simprocAttr])
   all_goals
    exact⟨St.none.set r (.row 73 2 (jX sq ids++xx)),St.aD (St.none_le _) (by simp[St.set, *]),St.aD (St.none_le _) (by simp[St.set, *]),fun k o hk=>(aM _ _ _ _ (fun e=>by subst e;simp[St.set,St.none, *] at hk)).trans rfl,eH (aJ _ _ _) (tM _ _).symm⟩
end

section
open Go.ChangeShapes Go.WideShapes Go.RowKit
set_option maxRecDepth 100000
theorem Ap{P:Program}{f:FuncId}{fn:Func}{s:ChangeSpec}{c:OpenClaim}(h1:c.wf (OpenSpec.ofChange s)=true)(h2:laidOutB P=true)(h3:mapsRowed P=true)(h4:fn.params.all (P.readableRec ·)=true)(h5:namedTie P c.named s.vars=true)
 (h6:(c.stops==[])=true)(h7:(P.stops==[])=true)(h8:(c.knobs==[])=true)(h9:(P.stopKnobs==[])=true)(h10:(c.inPlace==P.inPlace f)=true)(h11:(c.unfollowed==P.unfollowed f)=true)(h12:(c.recurses==P.recurses f)=true)(h13:(c.named==P.varsNamed f)=true)
 (h14:(c.maps==(fn.params.toList++s.plain.varTypes P).any (P.mapsRec ·))=true)(h15:(c.ifaces==(fn.params.toList++s.plain.varTypes P).any (P.ifacesRec ·))=true)(h16:(c.mapsOut==P.mapsAmong fn.resultTypes.toList)=true)
 (h17:(c.loops==(fn.params.toList++s.plain.varTypes P).any (P.loopsFrom ·))=true)(h18:(c.wideKeys==(fn.params.toList++s.plain.varTypes P++fn.resultTypes.toList).any (P.wideKeysFrom ·))=true)
 (h19:s.vars.all (P.varReadable ·)=true)(h20:fn.resultTypes.all (fun t=>P.readableRec t&&decide (t<P.types.size))=true)(h21:(c.ifacesOut==fn.resultTypes.toList.any (P.ifacesRec ·))=true)(h22:(c.loopsOut==fn.resultTypes.toList.any (P.loopsFrom ·))=true)
 (h23:(c.plainKeys==P.plainKeys)=true)(h24:c.shortTexts.isNone=true)(h25:P.stopsHeard=true)(h26:P.mayEnter=true)(h27:(c.lifted==P.liftsFinal)=true)(h28:(P.make==some c.make)=true)
 (hd:c.domain.isEmpty=true)(h29:(c.kinds==[])=true)(h30:(c.pinned==c.pinnedBy)=true)
 (h31:(c.veiled==(fn.params.toList++s.plain.varTypes P++fn.resultTypes.toList).any (P.veiledRec ·))=true)(h32:c.veiledFits P fn.params.toList (fn.params.toList++s.plain.varTypes P++fn.resultTypes.toList)=true):joinedFacts P f fn s c=true:=by
 unfold joinedFacts
 rw[h1,h2,h3,h4,h5,h6,h7,h8,h9,h10,h11,h12,h13,h14,h15,h16,h17,h18,h19,h20,h21,h22,h23,h24,h25,h26,h27,h28,h30,h31,h32]
 simp only[hd,if_true,h29,Bool.and_true,Bool.and_self]
noncomputable abbrev PC:Program:=Tryz.pinned.checked.prog
theorem MT:laidOutB PC=true:=by kernel_rfl
theorem MX:mapsRowed PC=true:=by kernel_rfl
theorem Kk:(PC.stops==[])=true:=by kernel_rfl
theorem Kh:(PC.stopKnobs==[])=true:=by kernel_rfl
theorem MR:(Rows.viewNoneRow.plainKeys==PC.plainKeys)=true:=by kernel_rfl
theorem Ki:(Rows.viewNoneRow.lifted==PC.liftsFinal)=true:=by kernel_rfl
theorem MW:(PC.make==some Rows.viewNoneRow.make)=true:=by kernel_rfl
theorem Kg:PC.stopsHeard=true:=by kernel_rfl
end

section
open Go.ChangeShapes Go.WideShapes Go.RowKit
set_option maxRecDepth 100000
theorem Kf:PC.mayEnter=true:=by kernel_rfl
theorem MU:PC.mainIs=some (Rows.viewNoneCard.stood.harness.1,Rows.viewNoneCard.stood.harness.2.toList):=by kernel_rfl
theorem Kj:false=PC.looks []:=by kernel_rfl
end

section
open Go.ChangeShapes Go.WideShapes Go.RowKit
set_option maxRecDepth 100000
theorem HR:(Rows.viewLoadsRow.inPlace==PC.inPlace 6)=true:=by kernel_rfl
theorem uG:(Rows.viewLoadsRow.unfollowed==PC.unfollowed 6)=true:=by kernel_rfl
theorem Aq:(Rows.viewLoadsRow.recurses==PC.recurses 6)=true:=by kernel_rfl
theorem HQ:(Rows.viewLoadsRow.named==PC.varsNamed 6)=true:=by kernel_rfl
theorem B9:PC.funcNamed "offprint/offprintlaw25.ViewLoads" = some 6:=by kernel_rfl
end
end Go.Proofs.YtppdgejjmhdjhaaGreatDoor
