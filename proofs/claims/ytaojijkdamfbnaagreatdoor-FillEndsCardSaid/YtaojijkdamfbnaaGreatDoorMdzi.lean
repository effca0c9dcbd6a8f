/- Parts of the proof, joined; conditions: those that its theorems name. -/
import Derived.Test.YtaojijkdamfbnaaGreatDoorMdzg
set_option linter.unusedVariables false
set_option linter.unusedSimpArgs false
set_option maxHeartbeats 4000000
namespace Go.Proofs.YtaojijkdamfbnaaGreatDoor
section
set_option maxRecDepth 100000
set_option maxHeartbeats 8000000
theorem mY{σ:St}{a b a':MV}(h:View σ a a'):View σ (.tup [a,b]) (.tup [a',b]):=.tup rfl fun i m m' hm hm'=>by
 match i with
 | 0=>simp at hm hm';subst hm;subst hm';exact h
 | 1=>simp at hm hm';subst hm;subst hm';exact .same _
 | i+2=>simp at hm
end

section
set_option maxRecDepth 100000
set_option maxHeartbeats 8000000
def lF:Int→List Int→List (List MV)
 | _,[]=>[]
 | s,i::r=>[.int .i64 (s+1),.int .i64 i]::lF (s+1) r
theorem sC:∀(s:Int) (l:List Int),(lF s l).length=l.length
 | _,[]=>rfl
 | s,i::r=>by simp[lF,sC]
theorem wC:∀(s:Int) (l:List Int) (x:Int),lF s (l++[x])=lF s l++[[.int .i64 (s+l.length+1),.int .i64 x]]
 | s,[],x=>by simp[lF]
 | s,i::r,x=>by
  simp only[List.cons_append,lF,wC (s+1) r x,List.length_cons]
  have:s+1+(r.length:Int)+1=s+((r.length+1:Nat):Int)+1:=by omega
  rw[this]
theorem BP{sq:Int}(l:Nat)(g:MV){b p:Nat}(hbp:b≠p)(ids:List Int)(h0:0≤sq)(h1:sq≤1099511627776)(hl:ids.length≤1000000) :
  aA Tryz.prog 109 [.ptr b 0 0,.vec 1 p 0 ids.length] ((St.none.set p (.row 3 1 (ids.map aW))).set b (cB sq l g)) (fun v σ'=>v=.lst 2 (lF sq ids) false∧σ'=St.none.set b (cB (sq+ids.length) l g)):=by
 refine aA.L4 (aA.body 32 [.tmp 4] Tryz.func109 rfl rfl rfl rfl ?_)
 have hpb:=Ne.symm hbp
 repeat' (first|(with_reducible first|(refine wT ?_;(first|((fail_if_success (have:=nl1));refine wN fun nl1 hnl=>?_)|((fail_if_success (have:=nl2));refine wN fun nl2 hnl=>?_)|refine wN fun _ hnl=>?_);revert hnl;(repeat refine wS fun _ _=>?_);intro hnl)|refine wE ?_|(refine wK ?_ ?_<;>intro h)|(refine wB ?_ ?_<;>intro h<;>simp only[h]))|simp(maxSteps:=4000000) (disch:=first|exact ddL|fail) only[go_sem,simprocAttr,Tryz.f109])
 refine aG (α:=Nat × Nat × List (List MV)) (fun z=>⟨32,[(10,.int .i64 (z.1:Int)),(9,.int .i64 (ids.length:Int)),(8,.vec 1 p 0 ids.length),(5,.vec 2 z.2.1 0 z.1),(0,.ptr b 0 0)],[]⟩)
  (fun z=>((St.none.set p (.row 3 1 (ids.map aW))).set b (cB (sq+z.1) l g)).set z.2.1 (.row 194 2 (lF sq (ids.take z.1)++z.2.2))) (fun z=>z.1≤ids.length∧z.2.1≠p∧z.2.1≠b) (fun z=>ids.length - z.1) ?_ ?_
 ·refine Gh.uB 194 2 (fun r=>[(10,.int .i64 0),(9,.int .i64 (ids.length:Int)),(8,.vec 1 p 0 ids.length),(5,.vec 2 r 0 0),(0,.ptr b 0 0)]) (fun k=>by(repeat' (refine And.intro ?_ ?_))<;>first|exact trivial|exact .inl rfl|exact .inr ⟨rfl,.inl rfl⟩|exact .inr ⟨rfl,.inr rfl⟩) fun r hr=>?_
  simp only[aY] at hr
  obtain⟨r1,r2,-⟩:=hr
  exact .done ⟨(0,r,[]),rfl,by simp[lF],Nat.zero_le _,by assumption,by assumption⟩
 ·rintro⟨i,r,xx⟩ ⟨hi,r1,r2⟩
  simp only at hi r1 r2 ⊢
  have r1':=Ne.symm r1
  have r2':=Ne.symm r2
  by_cases hlt:i<ids.length
  ·obtain⟨x,hx⟩:=bN ids hlt
   have hat:=bK (f:=aW) hx
   have hml:(ids.map aW).length=ids.length:=List.length_map _
   have htk:=bB hx
   have hLl:(ids.take i).length=i:=by rw[List.length_take];omega
   obtain⟨L,hL⟩:∃L,ids.take i=L:=⟨_,rfl⟩
   rw[hL] at htk hLl ⊢
   have hsn:=wC sq L x
   rw[hLl] at hsn
   have hcl:=sC sq L
   rw[hLl] at hcl
   obtain⟨Q,hQ⟩:∃Q,lF sq L=Q:=⟨_,rfl⟩
   rw[hQ] at hsn hcl ⊢
   have hdr:(Q++xx).drop (i+1)=xx.drop 1:=by rw[←hcl,←List.drop_drop,List.drop_left]
   have htk':(Q++xx).take i=Q:=List.take_left' hcl
   have hq1:sq+((i+1:Nat):Int)=sq+(i:Int)+1:=by omega
   repeat' (first|(with_reducible first|(refine wT ?_;(first|((fail_if_success (have:=nl1));refine wN fun nl1 hnl=>?_)|((fail_if_success (have:=nl2));refine wN fun nl2 hnl=>?_)|refine wN fun _ hnl=>?_);revert hnl;(repeat refine wS fun _ _=>?_);intro hnl)|refine wE ?_|(refine wK ?_ ?_<;>intro h)|(refine wB ?_ ?_<;>intro h<;>simp only[h]))|simp(maxSteps:=4000000) (disch:=first|exact ddL|fail) only[go_sem,simprocAttr,hat,hml,hcl,htk',hdr])
   all_goals (try (exfalso;omega))
   all_goals
    clear hat htk' hdr
    have p1:nl2≠p:=by assumption
    have p2:nl2≠b:=by assumption
   ·have hex:xx=[]:=List.eq_nil_of_length_eq_zero (by omega)
    subst hex
    clear h
    refine .of (.less ?_ ?_) ⟨(i+1,nl2,[]),rfl,rfl,⟨by simp only;omega,p1,p2⟩,by simp only;omega⟩
    ·simp(maxSteps:=4000000) (disch:=first|exact ddL|fail) only[go_sem,simprocAttr,aC,aB]
     all_goals first|rfl|(simp;done)
    ·simp only[htk,hsn,hq1]
     exact St.aH (St.aH (St.aH (St.none_le _) (by simp[St.set, *])) (by simp[St.set, *])) (by simp[St.set, *])
   ·clear h
    refine .of (.less ?_ ?_) ⟨(i+1,nl2,xx.drop 1),rfl,rfl,⟨by simp only;omega,p1,p2⟩,by simp only;omega⟩
    ·simp(maxSteps:=4000000) (disch:=first|exact ddL|fail) only[go_sem,simprocAttr,aC,aB]
     all_goals first|rfl|(simp;done)
    ·simp only[htk,hsn,hq1]
     exact St.aH (St.aH (St.aH (St.none_le _) (by simp[St.set, *])) (by simp[St.set, *])) (by simp[St.set, *])
  ·have:i=ids.length:=by omega
   subst this
   rw[List.take_length]
   repeat' (first|(with_reducible first|(refine wT ?_;(first|((fail_if_success (have:=nl1));refine wN fun nl1 hnl=>?_)|((fail_if_success (have:=nl2));refine wN fun nl2 hnl=>?_)|refine wN fun _ hnl=>?_);revert hnl;(repeat refine wS fun _ _=>?_);intro hnl)|refine wE ?_|(refine wK ?_ ?_<;>intro h)|(refine wB ?_ ?_<;>intro h<;>simp only[h]))|simp(maxSteps:=4000000) (disch:=first|exact ddL|fail) only[go_sem,simprocAttr])
   all_goals
    exact⟨St.none.set r (.row 194 2 (lF sq ids++xx)),St.aH (St.none_le _) (by simp[St.set, *]),St.aH (St.none_le _) (by simp[St.set, *]),fun k o hk=>(aP _ _ _ _ (fun e=>by subst e;simp[St.set,St.none, *] at hk)).trans rfl,dK (aJ _ _ _) (sC _ _).symm⟩
end

section
set_option maxRecDepth 100000
theorem oset{n:Nat}{x:List MV}(h:CT Tryz.prog (n+7) 30 x):∃s:SET,x=s.c:=by
 obtain⟨hl,hf⟩:=gR (congrArg TD.k LD) h
 rw[LD] at hl
 obtain⟨b,hb⟩:=Nt (hf (0,26) (by simp))
 obtain⟨l,hh⟩:=MD (hf (5,27) (by simp))
 obtain⟨u,hu⟩:=Ny (hf (6,28) (by simp))
 obtain⟨a,ha,_⟩:=o5 (hf (7,3) (by simp))
 simp only[LC,MO,Ec,td3] at hb hh hu ha
 refine⟨⟨b,l,u,a⟩,?_⟩
 rw[j5 hl [(0,5),(5,1),(6,1),(7,1)] rfl]
 simp only[qE,hb,hh,hu,ha]
 rfl
theorem N6{m:MV}(h:AT Tryz.prog 10 30 m):∃s:SET,m=.agg s.c:=by
 obtain⟨cs,rfl,h1⟩:=Mf (by rw[LD];rfl) h
 obtain⟨x,rfl⟩:=oset (n:=3) h1
 exact⟨x,rfl⟩
theorem au8{m:MV}(h:AT Tryz.prog 10 5 m):∃u:UInt8,m=.int .u8 (u.toNat:Int):=by
 obtain⟨v,h0,h1,h2⟩:=CJ (by rw[td5]) (Km (by rw[td5];rfl) h)
 have e0:IntKind.u8.min=0:=by decide
 have e1:IntKind.u8.max=255:=by decide
 rw[e0] at h1
 rw[e1] at h2
 refine⟨UInt8.ofNat v.toNat,?_⟩
 have hv:(UInt8.ofNat v.toNat).toNat=v.toNat:=by simp;omega
 rw[Kp h0,hv]
 congr 1
 omega
end
end Go.Proofs.YtaojijkdamfbnaaGreatDoor
