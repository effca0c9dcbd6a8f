/- Parts of the proof, joined; conditions: those that its theorems name. -/
import Derived.Test.YtaojijkdamfbnaaGreatDoorMbl
import Derived.Test.YtaojijkdamfbnaaGreatDoorMbo
import Derived.Shelf.SlIterI.Nil
import Derived.Shelf.SortM.Plain
import Derived.Shelf.SortM.SortNone
import Derived.Test.YtaojijkdamfbnaaGreatDoorRows
set_option linter.unusedVariables false
set_option linter.unusedSimpArgs false
set_option maxHeartbeats 4000000
namespace Go.Proofs.YtaojijkdamfbnaaGreatDoor
section
set_option maxRecDepth 100000
set_option maxHeartbeats 4000000
abbrev gE(L:List Nat):List (List MV):=L.map fun(i:Nat)=>[.int .i64 (i:Int)]
theorem EY{s:List Nat}{k:Nat}{ex:List (List MV)}:(gE ((k::s).reverse)++ex).getD s.length []=[.int .i64 (k:Int)]:=by
 simp[gE,List.getD]
theorem Lg{s:List Nat}{k j:Nat}{ex:List (List MV)}:(gE ((k::s).reverse)++ex).set s.length [.int .i64 (j:Int)]=gE ((j::s).reverse)++ex:=by
 simp[gE]
theorem Jp{s:List Nat}{k:Nat}{ex:List (List MV)}:gE s.reverse++([.int .i64 (k:Int)]::ex)=gE ((k::s).reverse)++ex:=by
 simp[gE]
theorem JT{s:List Nat}:shut (0::s)=shut (match s with|[]=>[]|k::r=>(k - 1)::r):=by
 cases s with
 | nil=>rw[shut];simp[shut]
 | cons k r=>rw[shut]
theorem By(l:List ND)(hl:l.length≤1000000)(tt:Bool):aA Tryz.prog 87 [.lst 5 (l.map ND.c) tt] St.none (fun r _=>r=.int .i64 (fV l:Int)):=by
 refine aA.cU (aA.body 64 [.tmp 2] Tryz.func87 rfl rfl rfl rfl ?_)
 have hend:=xO l hl tt 0
 by_cases h:l=[]∨fS l 0≠l.length
 ·have e:fV l=0:=by unfold fV;rw[if_pos h]
  rw[e]
  rcases h with rfl|h
  ·repeat' (first|(with_reducible first|refine up hend ?_)|(with_reducible first|(refine wT ?_;(first|((fail_if_success (have:=nl1));refine wN fun nl1 hnl=>?_)|((fail_if_success (have:=nl2));refine wN fun nl2 hnl=>?_)|((fail_if_success (have:=nl3));refine wN fun nl3 hnl=>?_)|refine wN fun _ hnl=>?_);revert hnl;(repeat refine wS fun _ _=>?_);intro hnl)|refine wE ?_|(refine wK ?_ ?_<;>intro h)|(refine wB ?_ ?_<;>intro h<;>simp only[h]))|simp(maxSteps:=4000000) (disch:=first|decide|assumption|omega|(simp only[wL];omega)) only[go_sem,simprocAttr,Tryz.f87])
   all_goals first|exact⟨_,St.le_refl _,rfl⟩|exact⟨_,St.le_refl _⟩
  ·repeat' (first|(with_reducible first|refine up hend ?_)|(with_reducible first|(refine wT ?_;(first|((fail_if_success (have:=nl1));refine wN fun nl1 hnl=>?_)|((fail_if_success (have:=nl2));refine wN fun nl2 hnl=>?_)|((fail_if_success (have:=nl3));refine wN fun nl3 hnl=>?_)|refine wN fun _ hnl=>?_);revert hnl;(repeat refine wS fun _ _=>?_);intro hnl)|refine wE ?_|(refine wK ?_ ?_<;>intro h)|(refine wB ?_ ?_<;>intro h<;>simp only[h]))|simp(maxSteps:=4000000) (disch:=first|decide|assumption|omega|(simp only[wL];omega)) only[go_sem,simprocAttr,Tryz.f87])
   all_goals first|exact⟨_,St.le_refl _,rfl⟩|exact⟨_,St.le_refl _⟩
 ·have e:fV l=dp 0 [] l:=by unfold fV;rw[if_neg h]
  rw[e]
  have h2:fS l 0=l.length:=Classical.not_not.1 fun h3=>h (.inr h3)
  have h0:0<l.length:=by
   cases l with
   | nil=>exact absurd (.inl rfl) h
   | cons x l=>simp
  rw[h2] at hend
  clear e h
  repeat' (first|(with_reducible first|refine up hend ?_)|(with_reducible first|(refine wT ?_;(first|((fail_if_success (have:=nl1));refine wN fun nl1 hnl=>?_)|((fail_if_success (have:=nl2));refine wN fun nl2 hnl=>?_)|((fail_if_success (have:=nl3));refine wN fun nl3 hnl=>?_)|refine wN fun _ hnl=>?_);revert hnl;(repeat refine wS fun _ _=>?_);intro hnl)|refine wE ?_|(refine wK ?_ ?_<;>intro h)|(refine wB ?_ ?_<;>intro h<;>simp only[h]))|simp(maxSteps:=4000000) (disch:=first|decide|assumption|omega|(simp only[wL];omega)) only[go_sem,simprocAttr,Tryz.f87])
  refine aG (α:=Nat × Nat × List Nat × Nat × List (List MV)) (fun a=>⟨64,[(19,.int .i64 (a.1:Int)),(18,.int .i64 (l.length:Int)),(17,.lst 5 (l.map ND.c) tt),(4,.int .i64 (a.2.1:Int)),(3,.vec 1 a.2.2.2.1 0 a.2.2.1.length)],[]⟩)
   (fun a=>St.none.set a.2.2.2.1 (.row 3 1 (gE a.2.2.1.reverse++a.2.2.2.2))) (fun a=>a.1≤l.length∧dp 0 [] l=dp a.2.1 a.2.2.1 (l.drop a.1)∧a.2.1≤1+a.1∧a.2.2.1.length≤a.1∧∀x,x∈a.2.2.1→1≤x∧x≤2) (fun a=>l.length - a.1) ?_ ?_
  ·refine Gh.uE 3 1 (fun q=>[(19,.int .i64 0),(18,.int .i64 (l.length:Int)),(17,.lst 5 (l.map ND.c) tt),(4,.int .i64 0),(3,.vec 1 q 0 0)]) (fun k=>by(repeat' (refine And.intro ?_ ?_))<;>first|exact trivial|exact .inl rfl|exact .inr ⟨rfl,.inl rfl⟩|exact .inr ⟨rfl,.inr rfl⟩) fun q hq=>?_
   exact .done ⟨(0,0,[],q,[]),rfl,rfl,Nat.zero_le _,rfl,Nat.zero_le _,Nat.le_refl _,fun x hx=>by cases hx⟩
  ·rintro⟨i,d,s,q,ex⟩ ⟨hi,hq,hd,hsl,hs⟩
   simp only at hi hq hd hsl hs ⊢
   by_cases hlt:i<l.length
   ·rw[FF nd0 hlt,dp] at hq
    obtain⟨x,hx⟩:∃x,l.getD i nd0=x:=⟨_,rfl⟩
    rw[hx] at hq
    have hp:=fO x.op
    have hpc:=iN x.op
    obtain⟨p,hpe⟩:∃p,parts x.op=p:=⟨_,rfl⟩
    rw[hpe] at hq hp hpc
    have htk:(gE s.reverse++ex).take s.length=gE s.reverse:=by have:=kA (f:=fun(i:Nat)=>[MV.int .i64 (i:Int)]) (l:=s.reverse) (ex:=ex);rwa [List.length_reverse] at this
    have hdr:(gE s.reverse++ex).drop (s.length+1)=ex.drop 1:=by have:=kU (f:=fun(i:Nat)=>[MV.int .i64 (i:Int)]) (l:=s.reverse) (ex:=ex);rwa [List.length_reverse] at this
    repeat' (first|(with_reducible first|refine up hp ?_)|(with_reducible first|(refine wT ?_;(first|((fail_if_success (have:=nl1));refine wN fun nl1 hnl=>?_)|((fail_if_success (have:=nl2));refine wN fun nl2 hnl=>?_)|((fail_if_success (have:=nl3));refine wN fun nl3 hnl=>?_)|refine wN fun _ hnl=>?_);revert hnl;(repeat refine wS fun _ _=>?_);intro hnl)|refine wE ?_|(refine wK ?_ ?_<;>intro h)|(refine wB ?_ ?_<;>intro h<;>simp only[h]))|simp(maxSteps:=4000000) (disch:=first|decide|assumption|omega|(simp only[wL];omega)) only[go_sem,simprocAttr,bJ nd0,hx,htk,hdr,List.length_reverse])
    case' refine_1 =>
     have hex:ex=[]:=List.eq_nil_of_length_eq_zero (by omega)
     subst hex
     clear h
     have erow:gE s.reverse++[]++[[MV.int .i64 (p:Int)]]=gE ((p::s).reverse)++[]:=by simp[gE]
     obtain⟨ex1,hex1⟩:∃e,([]:List (List MV))=e:=⟨_,rfl⟩
    case' refine_2 =>
     have erow:gE s.reverse++[[MV.int .i64 (p:Int)]]++ex.drop 1=gE ((p::s).reverse)++ex.drop 1:=by simp[gE]
     obtain⟨ex1,hex1⟩:∃e,ex.drop 1=e:=⟨_,rfl⟩
    all_goals
     rw[erow]
     obtain⟨D,hD⟩:∃D,max d (s.length+1)=D:=⟨_,rfl⟩
     rw[hD] at hq
     refine aG (α:=List Nat × List (List MV)) (fun b=>⟨64,[(19,.int .i64 (i:Int)),(18,.int .i64 (l.length:Int)),(17,.lst 5 (l.map ND.c) tt),(4,.int .i64 (D:Int)),(3,.vec 1 nl3 0 b.1.length)],[]⟩)
      (fun b=>St.none.set nl3 (.row 3 1 (gE b.1.reverse++b.2))) (fun b=>shut b.1=shut (p::s)∧b.1.length≤i+1∧(∀x,x∈b.1.tail→1≤x)∧∀x,x∈b.1→x≤2) (fun b=>b.1.length) (.of (.less ?_ (St.aH (St.none_le _) (aJ _ _ _))) ⟨(p::s,_),rfl,rfl,rfl,by simp only[List.length_cons];omega,fun x hx=>(hs x hx).1,fun x hx=>?_⟩) ?_
     ·simp(maxSteps:=4000000) (disch:=first|decide|assumption|omega|(simp only[wL];omega)) only[go_sem,simprocAttr,aC,aB,List.length_cons]
      all_goals (split<;>omega)
     ·rcases List.mem_cons.1 hx with rfl|hx
      ·omega
      ·exact(hs x hx).2
     ·rintro⟨b,ex2⟩ ⟨hb,hbl,hb1,hb2⟩
      simp only at hb hbl hb1 hb2 ⊢
      cases b with
      | nil =>
       rw[shut] at hb
       rw[←hb] at hq
       repeat' (first|(with_reducible first|(refine wT ?_;(first|((fail_if_success (have:=nl1));refine wN fun nl1 hnl=>?_)|((fail_if_success (have:=nl2));refine wN fun nl2 hnl=>?_)|((fail_if_success (have:=nl3));refine wN fun nl3 hnl=>?_)|refine wN fun _ hnl=>?_);revert hnl;(repeat refine wS fun _ _=>?_);intro hnl)|refine wE ?_|(refine wK ?_ ?_<;>intro h)|(refine wB ?_ ?_<;>intro h<;>simp only[h]))|simp(maxSteps:=4000000) (disch:=first|decide|assumption|omega|(simp only[wL];omega)) only[go_sem,simprocAttr])
       refine .of (.less ?_ (St.le_refl _)) ⟨(i+1,D,[],nl3,ex2),rfl,rfl,⟨by simp only;omega,hq,by simp only;omega,Nat.zero_le _,fun x hx=>by cases hx⟩,by simp only;omega⟩
       simp(maxSteps:=4000000) (disch:=first|decide|assumption|omega|(simp only[wL];omega)) only[go_sem,simprocAttr,aC,aB]
       all_goals first|rfl|exact .same _
      | cons k r =>
       have hk2:=hb2 k (by simp)
       have hge:=EY (s:=r) (k:=k) (ex:=ex2)
       have hWl:(gE (k::r).reverse).length=r.length+1:=by simp[gE]
       simp only[List.length_cons] at hbl ⊢
       cases k with
       | zero =>
        rw[JT] at hb
        cases r with
        | nil =>
         have hrow:gE [0].reverse++ex2=gE []++([.int .i64 0]::ex2):=rfl
         obtain⟨W,hW⟩:∃W,gE [0].reverse++ex2=W:=⟨_,rfl⟩
         have hl1:W.length=1+ex2.length:=by rw[←hW];simp[gE];omega
         rw[hW] at hge hrow ⊢
         simp only[List.length_nil] at hge ⊢
         repeat' (first|(with_reducible first|(refine wT ?_;(first|((fail_if_success (have:=nl1));refine wN fun nl1 hnl=>?_)|((fail_if_success (have:=nl2));refine wN fun nl2 hnl=>?_)|((fail_if_success (have:=nl3));refine wN fun nl3 hnl=>?_)|refine wN fun _ hnl=>?_);revert hnl;(repeat refine wS fun _ _=>?_);intro hnl)|refine wE ?_|(refine wK ?_ ?_<;>intro h)|(refine wB ?_ ?_<;>intro h<;>simp only[h]))|simp(maxSteps:=4000000) (disch:=first|decide|assumption|omega|(simp only[wL];omega)) only[go_sem,simprocAttr,hge])
         refine .of (.less ?_ (St.le_refl _)) ⟨([],[.int .i64 0]::ex2),rfl,by rw[hrow];rfl,⟨hb,Nat.zero_le _,(fun x hx=>by cases hx),(fun x hx=>by cases hx)⟩,by simp⟩
         simp(maxSteps:=4000000) (disch:=first|decide|assumption|omega|(simp only[wL];omega)) only[go_sem,simprocAttr,aC,aB]
         all_goals first|rfl|exact .same _
        | cons k2 r =>
         have h12:=hb1 k2 (by simp)
         have h22:=hb2 k2 (by simp)
         have hrow:gE (0::k2::r).reverse++ex2=gE (k2::r).reverse++([.int .i64 0]::ex2):=Jp.symm
         have hge2:=EY (s:=r) (k:=k2) (ex:=[.int .i64 0]::ex2)
         have hst:=Lg (s:=r) (k:=k2) (j:=k2 - 1) (ex:=[.int .i64 0]::ex2)
         rw[←hrow] at hge2 hst
         rw[show((k2 - 1:Nat):Int)=(k2:Int) - 1 by omega] at hst
         simp only[List.length_cons] at hge hWl hbl ⊢
         obtain⟨W,hW⟩:∃W,gE (0::k2::r).reverse++ex2=W:=⟨_,rfl⟩
         have hl1:W.length=r.length+1+1+ex2.length:=by rw[←hW,List.length_append,hWl]
         rw[hW] at hge hge2 hst ⊢
         obtain⟨n,hn⟩:∃n,r.length=n:=⟨_,rfl⟩
         rw[hn] at hge hge2 hst hl1 hbl ⊢
         have hto1:(((n+1+1:Nat):Int) - 1).toNat=n+1:=by omega
         have hto2:(((n+1:Nat):Int) - 1).toNat=n:=by omega
         repeat' (first|(with_reducible first|(refine wT ?_;(first|((fail_if_success (have:=nl1));refine wN fun nl1 hnl=>?_)|((fail_if_success (have:=nl2));refine wN fun nl2 hnl=>?_)|((fail_if_success (have:=nl3));refine wN fun nl3 hnl=>?_)|refine wN fun _ hnl=>?_);revert hnl;(repeat refine wS fun _ _=>?_);intro hnl)|refine wE ?_|(refine wK ?_ ?_<;>intro h)|(refine wB ?_ ?_<;>intro h<;>simp only[h]))|simp(maxSteps:=4000000) (disch:=first|decide|assumption|omega|(simp only[wL];omega)) only[go_sem,simprocAttr,hge,hge2,hst,hto1,hto2])
         refine .of (.less ?_ (St.le_refl _)) ⟨((k2 - 1)::r,[.int .i64 0]::ex2),rfl,rfl,⟨hb,by simp only[List.length_cons];omega,fun x hx=>hb1 x (by simp at hx ⊢;exact .inr hx),fun x hx=>?_⟩,by simp only[List.length_cons];omega⟩
         ·simp only[List.length_cons,hn]
          simp(maxSteps:=4000000) (disch:=first|decide|assumption|omega|(simp only[wL];omega)) only[go_sem,simprocAttr,aC,aB]
          all_goals first|rfl|exact .same _
         ·rcases List.mem_cons.1 hx with rfl|hx
          ·omega
          ·exact hb2 x (by simp[hx])
       | succ k =>
        rw[shut] at hb
        rw[←hb] at hq
        obtain⟨W,hW⟩:∃W,gE ((k+1)::r).reverse++ex2=W:=⟨_,rfl⟩
        have hl1:W.length=r.length+1+ex2.length:=by rw[←hW,List.length_append,hWl]
        rw[hW] at hge ⊢
        obtain⟨n,hn⟩:∃n,r.length=n:=⟨_,rfl⟩
        rw[hn] at hge hl1 hbl ⊢
        have hkc:((k+1:Nat):Int)=(k:Int)+1:=by omega
        rw[hkc] at hge
        have hto2:(((n+1:Nat):Int) - 1).toNat=n:=by omega
        repeat' (first|(with_reducible first|(refine wT ?_;(first|((fail_if_success (have:=nl1));refine wN fun nl1 hnl=>?_)|((fail_if_success (have:=nl2));refine wN fun nl2 hnl=>?_)|((fail_if_success (have:=nl3));refine wN fun nl3 hnl=>?_)|refine wN fun _ hnl=>?_);revert hnl;(repeat refine wS fun _ _=>?_);intro hnl)|refine wE ?_|(refine wK ?_ ?_<;>intro h)|(refine wB ?_ ?_<;>intro h<;>simp only[h]))|simp(maxSteps:=4000000) (disch:=first|decide|assumption|omega|(simp only[wL];omega)) only[go_sem,simprocAttr,hge,hto2])
        refine .of (.less ?_ (St.le_refl _)) ⟨(i+1,D,(k+1)::r,nl3,ex2),rfl,by rw[←hW],⟨by simp only;omega,hq,by simp only;omega,by simp only[List.length_cons];omega,fun x hx=>?_⟩,by simp only;omega⟩
        ·simp only[List.length_cons,hn]
         simp(maxSteps:=4000000) (disch:=first|decide|assumption|omega|(simp only[wL];omega)) only[go_sem,simprocAttr,aC,aB]
         all_goals first|rfl|exact .same _
        ·refine⟨?_,hb2 x hx⟩
         rcases List.mem_cons.1 hx with rfl|hx
         ·omega
         ·exact hb1 x hx
   ·have:i=l.length:=by omega
    subst this
    rw[List.drop_length,dp] at hq
    rw[hq]
    repeat' (first|(with_reducible first|(refine wT ?_;(first|((fail_if_success (have:=nl1));refine wN fun nl1 hnl=>?_)|((fail_if_success (have:=nl2));refine wN fun nl2 hnl=>?_)|((fail_if_success (have:=nl3));refine wN fun nl3 hnl=>?_)|refine wN fun _ hnl=>?_);revert hnl;(repeat refine wS fun _ _=>?_);intro hnl)|refine wE ?_|(refine wK ?_ ?_<;>intro h)|(refine wB ?_ ?_<;>intro h<;>simp only[h]))|simp(maxSteps:=4000000) (disch:=first|decide|assumption|omega|(simp only[wL];omega)) only[go_sem,simprocAttr])
    all_goals first|exact⟨_,St.le_refl _,rfl⟩|exact⟨_,St.le_refl _⟩
end

section
open Go.Shelf
def nM:Go.Shelf.Ren:=⟨fun|7=>179|10=>202|n=>n,fun|23=>143|26=>3|3=>42|28=>189|0=>0|27=>188|33=>191|4=>4|n=>n,fun|n=>n⟩
theorem F0:Go.Proofs.SlLaysZI.n7 Tryz.prog nM:={
  mixed:=by kernel_rfl
  f7:=⟨Tryz.f179.name,by decide,Tryz.func179.trans (congrArg some (by kernel_rfl))⟩
  f10:=⟨Tryz.f202.name,by decide,Tryz.func202.trans (congrArg some (by kernel_rfl))⟩
  t0:=Tryz.underlying0
  a0:=Tryz.isAgg0
  z0:=Tryz.sizeOf0
  v0:=Tryz.zeroValue0
  t4:=Tryz.underlying4
  a4:=Tryz.isAgg4
  z4:=Tryz.sizeOf4
  v4:=Tryz.zeroValue4
  t23:=Tryz.underlying143
  a23:=Tryz.isAgg143
  z23:=Tryz.sizeOf143
  v23:=Tryz.zeroValue143
  t26:=Tryz.underlying3
  a26:=Tryz.isAgg3
  z26:=Tryz.sizeOf3
  v26:=Tryz.zeroValue3
  t27:=Tryz.underlying188
  a27:=Tryz.isAgg188
  z27:=Tryz.sizeOf188
  v27:=Tryz.zeroValue188
  t28:=Tryz.underlying189
  a28:=Tryz.isAgg189
  z28:=Tryz.sizeOf189
  v28:=Tryz.zeroValue189
  t33:=Tryz.underlying191
  a33:=Tryz.isAgg191
  z33:=Tryz.sizeOf191
  v33:=Tryz.zeroValue191 }
def iS:Go.Shelf.Ren:=⟨fun|6=>178|8=>139|9=>201|11=>180|13=>217|12=>216|23=>237|24=>238|14=>229|15=>230|16=>231|17=>232|18=>233|19=>234|20=>141|21=>235|22=>236|25=>244|26=>245|27=>246|28=>247|29=>248|30=>183|31=>251|n=>n,fun|26=>3|28=>189|24=>46|0=>0|3=>3|37=>177|48=>28|50=>255|4=>4|40=>249|39=>248|45=>161|5=>5|9=>9|51=>257|55=>261|57=>265|58=>266|33=>191|n=>n,fun|n=>n⟩
theorem AO:Go.Proofs.SlLaysZI.n6 Tryz.prog iS:={
  mixed:=by kernel_rfl
  f6:=⟨Tryz.f178.name,by decide,Tryz.func178.trans (congrArg some (by kernel_rfl))⟩
  f8:=⟨Tryz.f139.name,by decide,Tryz.func139.trans (congrArg some (by kernel_rfl))⟩
  f11:=⟨Tryz.f180.name,by decide,Tryz.func180.trans (congrArg some (by kernel_rfl))⟩
  t0:=Tryz.underlying0
  a0:=Tryz.isAgg0
  z0:=Tryz.sizeOf0
  v0:=Tryz.zeroValue0
  t24:=Tryz.underlying46
  a24:=Tryz.isAgg46
  z24:=Tryz.sizeOf46
  v24:=Tryz.zeroValue46
  t26:=Tryz.underlying3
  a26:=Tryz.isAgg3
  z26:=Tryz.sizeOf3
  v26:=Tryz.zeroValue3
  t28:=Tryz.underlying189
  a28:=Tryz.isAgg189
  z28:=Tryz.sizeOf189
  v28:=Tryz.zeroValue189
  i26:=by kernel_rfl }
def vD:Go.Shelf.Ren:=⟨fun|5=>201|8=>217|7=>216|19=>237|20=>238|10=>229|11=>230|12=>231|13=>232|14=>233|15=>234|16=>141|17=>235|18=>236|30=>244|31=>245|32=>246|33=>247|34=>248|35=>183|40=>251|n=>n,fun|23=>46|25=>3|3=>3|32=>177|22=>46|0=>0|44=>28|46=>255|4=>4|36=>249|35=>248|41=>161|5=>5|9=>9|53=>257|57=>261|63=>265|64=>266|n=>n,fun|n=>n⟩
theorem xA:Go.Proofs.SlLaysM.n5 Tryz.prog vD:={
  mixed:=by kernel_rfl
  f5:=⟨Tryz.f201.name,by decide,Tryz.func201.trans (congrArg some (by kernel_rfl))⟩
  f7:=⟨Tryz.f216.name,by decide,Tryz.func216.trans (congrArg some (by kernel_rfl))⟩
  f8:=Tryz.func217.trans (congrArg some (by kernel_rfl))
  f10:=⟨Tryz.f229.name,by decide,Tryz.func229.trans (congrArg some (by kernel_rfl))⟩
  f11:=⟨Tryz.f230.name,by decide,Tryz.func230.trans (congrArg some (by kernel_rfl))⟩
  f12:=⟨Tryz.f231.name,by decide,Tryz.func231.trans (congrArg some (by kernel_rfl))⟩
  f13:=⟨Tryz.f232.name,by decide,Tryz.func232.trans (congrArg some (by kernel_rfl))⟩
  f14:=⟨Tryz.f233.name,by decide,Tryz.func233.trans (congrArg some (by kernel_rfl))⟩
  f15:=⟨Tryz.f234.name,by decide,Tryz.func234.trans (congrArg some (by kernel_rfl))⟩
  f16:=⟨Tryz.f141.name,by decide,Tryz.func141.trans (congrArg some (by kernel_rfl))⟩
  f17:=⟨Tryz.f235.name,by decide,Tryz.func235.trans (congrArg some (by kernel_rfl))⟩
  f18:=⟨Tryz.f236.name,by decide,Tryz.func236.trans (congrArg some (by kernel_rfl))⟩
  f19:=Tryz.func237.trans (congrArg some (by kernel_rfl))
  f20:=Tryz.func238.trans (congrArg some (by kernel_rfl))
  f30:=⟨Tryz.f244.name,by decide,Tryz.func244.trans (congrArg some (by kernel_rfl))⟩
  f31:=Tryz.func245.trans (congrArg some (by kernel_rfl))
  f32:=Tryz.func246.trans (congrArg some (by kernel_rfl))
  f33:=⟨Tryz.f247.name,by decide,Tryz.func247.trans (congrArg some (by kernel_rfl))⟩
  f34:=⟨Tryz.f248.name,by decide,Tryz.func248.trans (congrArg some (by kernel_rfl))⟩
  f35:=⟨Tryz.f183.name,by decide,Tryz.func183.trans (congrArg some (by kernel_rfl))⟩
  f40:=⟨Tryz.f251.name,by decide,Tryz.func251.trans (congrArg some (by kernel_rfl))⟩
  t0:=Tryz.underlying0
  a0:=Tryz.isAgg0
  z0:=Tryz.sizeOf0
  v0:=Tryz.zeroValue0
  t3:=Tryz.underlying3
  a3:=Tryz.isAgg3
  z3:=Tryz.sizeOf3
  v3:=Tryz.zeroValue3
  t4:=Tryz.underlying4
  a4:=Tryz.isAgg4
  z4:=Tryz.sizeOf4
  v4:=Tryz.zeroValue4
  t5:=Tryz.underlying5
  a5:=Tryz.isAgg5
  z5:=Tryz.sizeOf5
  v5:=Tryz.zeroValue5
  t9:=Tryz.underlying9
  a9:=Tryz.isAgg9
  z9:=Tryz.sizeOf9
  v9:=Tryz.zeroValue9
  t22:=Tryz.underlying46
  a22:=Tryz.isAgg46
  z22:=Tryz.sizeOf46
  v22:=Tryz.zeroValue46
  t23:=Tryz.underlying46
  a23:=Tryz.isAgg46
  z23:=Tryz.sizeOf46
  v23:=Tryz.zeroValue46
  t25:=Tryz.underlying3
  a25:=Tryz.isAgg3
  z25:=Tryz.sizeOf3
  v25:=Tryz.zeroValue3
  t32:=Tryz.underlying177
  a32:=Tryz.isAgg177
  z32:=Tryz.sizeOf177
  v32:=Tryz.zeroValue177
  t35:=Tryz.underlying248
  a35:=Tryz.isAgg248
  z35:=Tryz.sizeOf248
  v35:=Tryz.zeroValue248
  t36:=Tryz.underlying249
  a36:=Tryz.isAgg249
  z36:=Tryz.sizeOf249
  v36:=Tryz.zeroValue249
  t41:=Tryz.underlying161
  a41:=Tryz.isAgg161
  z41:=Tryz.sizeOf161
  v41:=Tryz.zeroValue161
  t44:=Tryz.underlying28
  a44:=Tryz.isAgg28
  z44:=Tryz.sizeOf28
  v44:=Tryz.zeroValue28
  t46:=Tryz.underlying255
  a46:=Tryz.isAgg255
  z46:=Tryz.sizeOf255
  v46:=Tryz.zeroValue255
  t53:=Tryz.underlying257
  a53:=Tryz.isAgg257
  z53:=Tryz.sizeOf257
  v53:=Tryz.zeroValue257
  t57:=Tryz.underlying261
  a57:=Tryz.isAgg261
  z57:=Tryz.sizeOf261
  v57:=Tryz.zeroValue261
  t63:=Tryz.underlying265
  a63:=Tryz.isAgg265
  z63:=Tryz.sizeOf265
  v63:=Tryz.zeroValue265
  t64:=Tryz.underlying266
  a64:=Tryz.isAgg266
  z64:=Tryz.sizeOf266
  v64:=Tryz.zeroValue266 }
end

section
open Go.MapKept Go.RowKit Go.Maps Go.Sort Go.Shelf
open Go.WideElems (Fit rd rg)
def Mr:MV→Int
 | .int _ n=>n
 | _=>0
def gP(es:List (MV × MV)):List Int:=es.map fun p=>Mr p.1
def mG{H:Type}(_:Value):Option (DataW H × List MemPlace):=some (.lit (.bool true),[])
theorem Ln{H:Type}{P:Program}{Φ:Phi}{w:World}{l:Nat}{es:List (MV × MV)}{k:TypeId}(h:cY Φ w l (.mp es))(hk:P.underlying k=some (.int .i64))
 (he:(es.all fun p=>isK .i64 p.1)=true)(hwf:∀n∈gP es,(Lit.int .i64 n).wf=true)(hl:es.length≤maxLen) :
  ∃(p:Place) (b:Nat) (D0:DataW H),Φ.obj l=some p∧p.blk=some b∧w.ownsMap P k mG b es.length D0∧(intKeys D0).Perm (gP es)∧Maps.size D0=es.length:=by
 obtain⟨p,R,c,clock,hp,hR,hh,hs,hst,hrel⟩:=h.EO
 have key:∀(i:Nat) (e:MapEntry),c.toList[i]?=some e→Go.WideElems.rd (H:=H) P k mG e=some (Lit.int .i64 ((gP es).getD i 0),.lit (.bool true)):=fun i e hi=>by
  have hlt:i<es.length:=by
   have:=(List.getElem?_eq_some_iff.1 hi).1
   rw[←hs];simpa using this
  obtain⟨e',q1,q2,_⟩:=hrel i es[i] (List.getElem?_eq_getElem hlt)
  rw[hi] at q1;cases q1
  have hik:=List.all_eq_true.1 he es[i] (List.getElem_mem hlt)
  obtain⟨n,hn⟩:=yJ hik
  rw[hn] at q2
  have hkn:(gP es).getD i 0=n:=by
   simp[gP,List.getD_eq_getElem?_getD,List.getElem?_eq_getElem hlt,hn,Mr]
  have hw:=hwf n (by
   rw[gP,List.mem_map]
   exact⟨es[i],List.getElem_mem hlt,by rw[hn];rfl⟩)
  rw[hkn]
  simp[Go.WideElems.rd,mG,q2.aV,keyOf,mapKey,hk,hw]
 have hF:Fit (H:=H) P k mG c clock:=⟨by rw[hs];exact hl,hst,fun x hx=>by
  obtain⟨i,hi,rfl⟩:=List.mem_iff_getElem.1 hx
  exact⟨_,key i _ (List.getElem?_eq_getElem hi)⟩⟩
 have hmap:(c.toList.map (rg (H:=H) P k mG)).map (fun q=>Go.intOf q.1)=gP es:=by
  refine List.ext_getElem? fun i=>?_
  simp only[List.map_map,List.getElem?_map]
  rcases Nat.lt_or_ge i es.length with hi|hi
  ·have hc:i<c.toList.length:=by simpa[hs] using hi
   rw[List.getElem?_eq_getElem hc]
   have h1:=key i _ (List.getElem?_eq_getElem hc)
   simp only[Option.map_some,Function.comp,Go.WideElems.rg_of h1]
   have h2:i<(gP es).length:=by simpa[gP] using hi
   simp[Go.intOf,List.getD_eq_getElem?_getD,List.getElem?_eq_getElem h2]
  ·rw[List.getElem?_eq_none (by simpa[hs] using hi),List.getElem?_eq_none (by simpa[gP] using hi)]
   rfl
 refine⟨p,R,.map ((c.toList.map (rg P k mG)).foldr DataW.insert []),hp,hR,⟨c,clock,hh,hF,by omega,rfl⟩,?_,?_⟩
 ·show(((c.toList.map (rg P k mG)).foldr DataW.insert []).map fun q=>Go.intOf q.1).Perm _
  rw[←hmap]
  exact(Go.WideShapes.sorted_perm _).map _
 ·show((c.toList.map (rg P k mG)).foldr DataW.insert []).length=_
  rw[length_sorted];simp[hs]
theorem Inv.Lx{Φ:Phi}{w w':World}{σ:St}(hi:Inv Φ w σ)(hi':Inv Φ w' σ)(st:Step Φ σ w Φ σ w')(g:Nat)(hg:w.heap.size≤g) :
  Inv (Φ.oK w' (fun k=>k=g)) w' σ∧Step Φ σ w (Φ.oK w' (fun k=>k=g)) σ w':=by
 have hle:=rY Φ w' (fun k=>k=g)
 refine⟨⟨fun l o h=>(hi'.own l o h).mono hle (fun _ _ _ _=>rfl),hi'.inj,fun a v hv=>?_,fun l o p R a v hl hp hR hv=>?_,hi.fresh.1,fun q i v h=>hle.snap _ _ (hi.fresh.2.1 q i v h),hi.fresh.2.2.mono hle.snap⟩,
  ⟨hle,st.os,st.tape,st.output,st.drawn,st.size,st.block,fun a v hv=>?_,st.locs,st.ownd⟩⟩
 ·rcases eK hv with q|⟨_,q⟩
  ·exact hi'.snap a v q
  ·exact q
 ·rcases eK hv with q|⟨q,_⟩
  ·exact hi'.apart l o p R a v hl hp hR q
  ·intro e
   obtain⟨p',hp',hlt⟩:=(hi.own l o hl).place
   rw[show Φ.obj l=some p from hp] at hp'
   cases hp'
   have:=hlt R hR
   have q:R=g:=by rw[←e];exact q
   omega
 ·rcases eK hv with q|⟨q,_⟩
  ·exact .inl q
  ·have q:a.block=g:=q
   exact .inr (.inl (by omega))
theorem B3{P:Program}{ρ ρk:Ren}(L6:SlLaysZI.n6 P ρ)(L10:SlLaysZI.n10 P ρk)(hs:∀m,AnyZI.SortsIn P ρ Fence.wide m)
 (e9:∀args w,(callFunc (ρ.f 9) args).run P w=.ok (.enter (ρ.f 9) args) w)(eg:∀args w,(callFunc (ρk.f 10) args).run P w=.ok (.enter (ρk.f 10) args) w)(hent:Enters P (ρ.f 6))
 {l l2:Nat}{tm:TypeId}{es:List (MV × MV)}(hne:l≠l2)(he:(es.all fun p=>isK .i64 p.1)=true)(hwf:∀n∈gP es,(Lit.int .i64 n).wf=true)(hl:es.length≤1000000) :
  aA P (ρ.f 6) [.fn (.func (ρk.f 10)) [] [.ptr l 0 0]] ((St.none.set l (.row tm 1 [[.mapv l2]])).set l2 (.mp es)) fun r σ' =>
   (∃ns:List Int,ns.Perm (gP es)∧ns.Pairwise (fun a b=>a≤b)∧r=.lst 1 (ns.map fun n=>[.int .i64 n]) false)∧σ'=(St.none.set l (.row tm 1 [[.mapv l2]])).set l2 (.mp es):=by
 obtain⟨σ0,hσ0⟩:∃σ0:St,(St.none.set l (.row tm 1 [[.mapv l2]])).set l2 (.mp es)=σ0:=⟨_,rfl⟩
 have h2:σ0 l2=some (.mp es):=by rw[←hσ0];exact aJ _ _ _
 have h1:σ0 l=some (.row tm 1 [[.mapv l2]]):=by rw[←hσ0];simp[St.set,hne]
 rw[hσ0]
 refine⟨hent,fun Φ w vs hi hr=>?_⟩
 obtain⟨first,cap,e0,r1,r2⟩:=(hr.2 0 _ rfl).k7
 have hf0:first=#[]:=by have:=r1.1;simp at this;exact this
 subst hf0
 have hcs:cap.size=1:=r2.1
 obtain⟨p,R,hp,hR,hc⟩:=(r2.2 0 _ rfl).gB
 have hbo:p.bo=0:=hi.fresh.1.2 l p hp
 have hcap:cap=#[.pointer (some ⟨R,0,none⟩)]:=by
  refine Array.ext (by simpa using hcs) fun i q1 q2=>?_
  have hi0:i=0:=by omega
  subst hi0
  have:=hc
  rw[hbo] at this
  simp[Array.getD,q1] at this
  exact this
 have hvs:vs=#[.func (.func (ρk.f 10)) #[] #[.pointer (some ⟨R,0,none⟩)]]:=by
  have hz:=hr.1
  simp at hz
  refine Array.ext (by simpa using hz) fun i q1 q2=>?_
  have hi0:i=0:=by omega
  subst hi0
  have:=e0
  rw[hcap] at this
  simp[Array.getD,q1] at this
  exact this
 subst hvs
 -- the map
 obtain⟨p2,b,D0,hp2,hb2,hown,hperm,hsz⟩:=Ln (H:=Unit) (P:=P) (k:=ρk.t 26) (hi.own l2 _ h2) L10.t26 he hwf (Nat.le_trans hl (by decide))
 -- the box
 obtain⟨p',hp',hpe,hlen,hmax,hx,hmatch⟩:=hi.own l _ h1
 rw[hp] at hp'
 cases hp'
 rw[hR] at hmatch
 obtain⟨c,fz,hheap,_,_,hcell⟩:=hmatch
 obtain⟨_,v,hv,hrel⟩:=hcell 0 _ 0 _ rfl rfl
 obtain⟨p3,R3,hp3,hR3,rfl⟩:=hrel.l6
 rw[hp2] at hp3
 cases hp3
 rw[hb2] at hR3
 cases hR3
 have hRlt:R<w.heap.size:=by
  obtain⟨q,_⟩:=Array.getElem?_eq_some_iff.1 hheap;exact q
 have hcl:w.cell? ⟨R,0,none⟩=some (.map (some b)):=by
  simp only[World.cell?,hheap]
  rw[hbo] at hv
  simpa using hv
 have hseq:=AnyZI.keys_gives (H:=Unit) (ρ:=ρk) L10 Fence.wide 2 trivial rfl (by omega) R b es.length D0 w hRlt hcl hown
 have cS:=AnyZI.sorted_in L6 Fence.wide 5 trivial trivial trivial trivial rfl (by omega) (hs _) e9 (ρk.f 10) _ trivial eg _ (Maps.size D0) (by rw[hsz];exact Nat.le_trans hl (by decide)) (by rw[hsz];omega) w hseq
 refine(callsIn_wide.1 cS).mono ?_
 rintro e w' ⟨v,ss,rfl,hS,hrow,hnil,hb⟩
 obtain⟨i2,s2⟩:=hi.grow (w':=w') hb.os hb.tape hb.output (by simp[drw,DR]) hb.size hb.block
 have hpm:(ss.mergeSort (fun x y=>decide (x≤y))).Perm (gP es):=(List.mergeSort_perm ss _).trans (hS.trans hperm)
 have hpw:(ss.mergeSort (fun x y=>decide (x≤y))).Pairwise (fun a b=>a≤b):=(List.pairwise_mergeSort (le:=fun x y:Int=>decide (x≤y)) (fun a b c=>by simp;omega) (fun a b=>by simp;omega) ss).imp (fun h=>by simpa using h)
 generalize hns:ss.mergeSort (fun x y=>decide (x≤y))=ns at *
 have hnl:ns.length=ss.length:=by rw[←hns];exact List.length_mergeSort ss
 rcases hrow.2 with⟨rfl,hz⟩|⟨g,capn,cur,rfl,hbase,hgb,q1,q2,q3,q4⟩
 ·have hn0:ns=[]:=List.eq_nil_of_length_eq_zero (by omega)
  subst hn0
  exact⟨_,_,σ0,Φ,rfl,.lstn 1 false,i2,s2,⟨[],hpm,hpw,rfl⟩,rfl⟩
 ·obtain⟨i3,s3⟩:=hi.Lx i2 s2 g hbase
  have h0:0<ss.length:=by
   rcases Nat.eq_zero_or_pos ss.length with h|h
   ·have:=hnil.2 (List.eq_nil_of_length_eq_zero h)
    cases this
   ·exact h
  refine⟨_,.lst 1 (ns.map fun n=>[.int .i64 n]) false,σ0,_,rfl,?_,i3,s3,⟨ns,hpm,hpw,rfl⟩,rfl⟩
  have hat:∀i,i<ns.length→w'.cell? ⟨g,i,none⟩=some (.int .i64 (ns.getD i 0)):=fun i hi'=>by
   have e1:(cur.toList.take (ss.length * 1))[i]?=(ns.map encZ)[i]?:=by rw[q4]
   rw[List.getElem?_take,if_pos (by omega),List.getElem?_map,List.getElem?_eq_getElem hi'] at e1
   simp only[World.cell?,hgb]
   simp at e1
   simp[e1,List.getD_eq_getElem?_getD,List.getElem?_eq_getElem hi',encZ]
  have hsn:∀i,i<ns.length→(Φ.oK w' (fun k=>k=g)).snap ⟨g,i,none⟩=some (.int .i64 (ns.getD i 0)):=fun i hi'=>by
   simp only[Phi.oK]
   split
   ·rename_i u hu
    have:=World.block_lt_of_cell? w _ (hi.snap _ _ hu)
    simp only at this
    omega
   ·simp[hat i hi']
  refine Rel.lst (vs:=fun i _=>.int .i64 (ns.getD i 0)) (by simpa using hnl) h0 q1 q2 (fun h=>by cases h) (fun i x hx=>?_) (fun i x j m hx hm=>?_) (fun i x j m hx hm=>?_)
  all_goals
   rw[List.getElem?_map,Option.map_eq_some_iff] at hx
   obtain⟨n,hn,rfl⟩:=hx
  ·rfl
  ·have hin:=(List.getElem?_eq_some_iff.1 hn).1
   have hj:j=0:=by
    have:=(List.getElem?_eq_some_iff.1 hm).1
    simpa using this
   subst hj
   simp at hm
   subst hm
   exact⟨rfl,by simpa using hsn i hin⟩
  ·have hj:j=0:=by
    have:=(List.getElem?_eq_some_iff.1 hm).1
    simpa using this
   subst hj
   simp at hm
   subst hm
   simp[List.getD_eq_getElem?_getD,hn]
   exact .int _ _
theorem MK(m:Nat):AnyZI.SortsIn Tryz.prog iS Fence.wide m :=
 ⟨fun blk off cap ss W hH hblk hsz=>callsIn_wide.2 (AnyM.slices_Sort_int xA blk off cap ss W hH hblk hsz),
  fun p cap W=>callsIn_wide.2 (AnyM.slices_Sort_int_none xA p cap W)⟩
theorem zZ{l l2:Nat}{es:List (MV × MV)}(hne:l≠l2)(he:(es.all fun p=>isK .i64 p.1)=true)(hwf:∀n∈gP es,(Lit.int .i64 n).wf=true)(hl:es.length≤1000000) :
  aA Tryz.prog 178 [.fn (.func 202) [] [.ptr l 0 0]] ((St.none.set l (.row 143 1 [[.mapv l2]])).set l2 (.mp es)) fun r σ' =>
   (∃ns:List Int,ns.Perm (gP es)∧ns.Pairwise (fun a b=>a≤b)∧r=.lst 1 (ns.map fun n=>[.int .i64 n]) false)∧σ'=(St.none.set l (.row 143 1 [[.mapv l2]])).set l2 (.mp es) :=
 B3 (ρ:=iS) (ρk:=nM) AO { F0 with } MK (enters_of Tryz.func201 (by kernel_rfl) rfl) (enters_of Tryz.func202 (by kernel_rfl) rfl) ⟨_,Tryz.func178,rfl,rfl⟩ hne he hwf hl
end
end Go.Proofs.YtaojijkdamfbnaaGreatDoor
