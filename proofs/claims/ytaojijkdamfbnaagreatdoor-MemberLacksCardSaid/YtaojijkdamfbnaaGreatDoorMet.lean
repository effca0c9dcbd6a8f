/- Parts of the proof, joined; conditions: those that its theorems name. -/
import Derived.Test.YtaojijkdamfbnaaGreatDoorMeq
set_option linter.unusedVariables false
set_option linter.unusedSimpArgs false
set_option maxHeartbeats 4000000
namespace Go.Proofs.YtaojijkdamfbnaaGreatDoor
section
set_option maxRecDepth 100000
def iY(l:List T):Nat:=l.foldl (fun d t=>max d t.depth) 0
theorem T.Dj(t:T):t.depth=iY t.kids+1:=by
 cases t<;>simp only[T.depth,T.kids,iY,List.foldl_nil,List.foldl_cons]<;>omega
theorem y7(l:List T)(t:T):iY (l++[t])=max (iY l) t.depth:=by simp[iY]
theorem T.l5:∀t:T,t.depth≤t.fl.length
 | .leaf _=>by simp[T.depth,T.fl]
 | .one _ a=>by have:=T.l5 a;simp only[T.depth,T.fl,List.length_cons];omega
 | .two _ a b=>by have:=T.l5 a;have:=T.l5 b;simp only[T.depth,T.fl,List.length_cons,List.length_append];omega
theorem GA{t k:T}(h:k∈t.kids):k.fl.length<t.fl.length:=by
 cases t<;>simp only[T.kids,List.mem_cons,List.not_mem_nil,or_false] at h
 ·subst h;simp only[T.fl,List.length_cons];omega
 ·rcases h with rfl|rfl<;>simp only[T.fl,List.length_cons,List.length_append]<;>omega
theorem Nh{t k:T}(ht:t.ok)(h:k∈t.kids):k.ok:=by
 cases t<;>simp only[T.kids,List.mem_cons,List.not_mem_nil,or_false] at h
 ·subst h;exact ht.2
 ·rcases h with rfl|rfl
  ·exact ht.2.1
  ·exact ht.2.2
theorem Cp:∀(n:Nat) (t:T),t.ok→fT t.fl 0=(t.fl.length:Int)→t.fl.length≤n→n≤1000→∀tt:Bool,aA Tryz.prog 62 [.lst 5 (t.fl.map ND.c) tt] St.none (fun r _=>r=.int .i64 (t.depth:Int)):=by
 intro n
 induction n with
 | zero=>intro t h _ hl;have:=t.zE;omega
 | succ n ih =>
  intro t h he hl hn tt
  refine(aA.body 33 [.tmp 2] Tryz.func62 rfl rfl rfl rfl ?_)
  have hend:=nJ t.fl (by omega) tt 0
  rw[he] at hend
  have hk:=lK t h (by omega) tt
  have hpos:=t.zE
  have hkl:t.kids.length≤2:=by cases t<;>simp[T.kids]
  repeat' (first|(with_reducible first|refine up hend ?_|refine up hk ?_)|(with_reducible first|(refine wN fun _ hnl=>?_;revert hnl;(repeat refine wS fun _ _=>?_);intro hnl)|refine wE ?_|(refine wK ?_ ?_<;>intro h)|(refine wB ?_ ?_<;>intro h<;>simp only[h]))|simp(maxSteps:=4000000) (disch:=first|decide|assumption|omega|(simp only[wL];omega)) only[go_sem,simprocAttr,Tryz.f62])
  refine aH (α:=Nat) (fun i=>⟨33,[(5,.int .i64 (i:Int)),(4,.int .i64 (iY (t.kids.take i):Int)),(3,.lst 1 t.kl false)],[]⟩) (fun _=>St.none) (fun i=>i≤t.kids.length) (fun i=>t.kids.length - i) (.of (.less ?_ (St.le_refl _)) ⟨0,rfl,rfl,Nat.zero_le _⟩) ?_
  ·simp(maxSteps:=4000000) (disch:=first|decide|assumption|omega|(simp only[wL];omega)) only[go_sem,simprocAttr,aC,aB]
   all_goals rfl
  ·intro i hi
   have hi:i≤t.kids.length:=hi
   by_cases hlt:i<t.kids.length
   ·have hm:=eO (T.leaf nd0) hlt
    have hko:=Nh h hm
    have hks:=GA hm
    have hke:fT (t.kids.getD i (.leaf nd0)).fl 0=((t.kids.getD i (.leaf nd0)).fl.length:Int):=by
     have:=E4 hko [] []
     simpa using this
    have hd:=ih _ hko hke (by omega) (by omega) false
    have hdl:=T.l5 (t.kids.getD i (.leaf nd0))
    have hsn:iY (t.kids.take (i+1))=max (iY (t.kids.take i)) (t.kids.getD i (.leaf nd0)).depth:=by
     rw[List.take_succ_eq_append_getElem hlt,←bM (.leaf nd0) hlt,y7]
    repeat' (first|(with_reducible first|refine up hd ?_)|(with_reducible first|(refine wN fun _ hnl=>?_;revert hnl;(repeat refine wS fun _ _=>?_);intro hnl)|refine wE ?_|(refine wK ?_ ?_<;>intro h)|(refine wB ?_ ?_<;>intro h<;>simp only[h]))|simp(maxSteps:=4000000) (disch:=first|decide|assumption|omega|(simp only[wL];omega)) only[go_sem,simprocAttr,bG (T.leaf nd0)])
    refine .of (.less (l1:=[(5,.int .i64 ((i+1:Nat):Int)),(4,.int .i64 (iY (t.kids.take (i+1)):Int)),(3,.lst 1 t.kl false)]) ?_ (St.le_refl _)) ⟨i+1,rfl,rfl,by omega,by omega⟩
    rw[hsn]
    simp(maxSteps:=4000000) (disch:=first|decide|assumption|omega|(simp only[wL];omega)) only[go_sem,simprocAttr,aC,aB]
    all_goals omega
   ·have:i=t.kids.length:=by omega
    subst this
    have hdk:=t.Dj
    have hdl:=t.l5
    rw[List.take_length]
    repeat' (first|(with_reducible first|(refine wN fun _ hnl=>?_;revert hnl;(repeat refine wS fun _ _=>?_);intro hnl)|refine wE ?_|(refine wK ?_ ?_<;>intro h)|(refine wB ?_ ?_<;>intro h<;>simp only[h]))|simp(maxSteps:=4000000) (disch:=first|decide|assumption|omega|(simp only[wL];omega)) only[go_sem,simprocAttr])
    all_goals (first|rfl|(congr 1;omega)|omega)
theorem Co(l:List ND)(hl:l.length≤1000)(tt:Bool):aA Tryz.prog 62 [.lst 5 (l.map ND.c) tt] St.none (fun r _=>r=.int .i64 (fW l:Int)):=by
 by_cases h:l=[]∨fT l 0≠l.length
 ·have e:fW l=0:=by unfold fW;rw[if_pos h]
  rw[e]
  refine(aA.body 33 [.tmp 2] Tryz.func62 rfl rfl rfl rfl ?_)
  have hend:=nJ l (by omega) tt 0
  rcases h with rfl|h
  ·repeat' (first|(with_reducible first|refine up hend ?_)|(with_reducible first|(refine wN fun _ hnl=>?_;revert hnl;(repeat refine wS fun _ _=>?_);intro hnl)|refine wE ?_|(refine wK ?_ ?_<;>intro h)|(refine wB ?_ ?_<;>intro h<;>simp only[h]))|simp(maxSteps:=4000000) (disch:=first|decide|assumption|omega|(simp only[wL];omega)) only[go_sem,simprocAttr,Tryz.f62])
   all_goals rfl
  ·repeat' (first|(with_reducible first|refine up hend ?_)|(with_reducible first|(refine wN fun _ hnl=>?_;revert hnl;(repeat refine wS fun _ _=>?_);intro hnl)|refine wE ?_|(refine wK ?_ ?_<;>intro h)|(refine wB ?_ ?_<;>intro h<;>simp only[h]))|simp(maxSteps:=4000000) (disch:=first|decide|assumption|omega|(simp only[wL];omega)) only[go_sem,simprocAttr,Tryz.f62])
   all_goals rfl
 ·have h2:fT l 0=l.length:=Classical.not_not.1 fun h3=>h (.inr h3)
  obtain⟨t,ht,rfl⟩:=parse h2
  rw[Dk ht h2]
  exact Cp _ t ht h2 hl (Nat.le_refl _) tt
theorem Az(l:List ND)(tt:Bool):aA Tryz.prog 25 [.lst 5 (l.map ND.c) tt] St.none (fun r _=>r=.int .i64 (cA l)):=by
 refine(aA.body 32 [.tmp 2] Tryz.func25 rfl rfl rfl rfl ?_)
 unfold cA
 by_cases h31:31<l.length
 ·rw[if_pos h31]
  repeat' (first|(with_reducible first|(refine wN fun _ hnl=>?_;revert hnl;(repeat refine wS fun _ _=>?_);intro hnl)|refine wE ?_|(refine wK ?_ ?_<;>intro h)|(refine wB ?_ ?_<;>intro h<;>simp only[h]))|simp(maxSteps:=4000000) (disch:=first|decide|assumption|omega|(simp only[wL];omega)) only[go_sem,simprocAttr,Tryz.f25])
  all_goals rfl
 ·rw[if_neg h31]
  have hend:=nJ l (by omega) tt 0
  have hd:=Co l (by omega) tt
  repeat' (first|(with_reducible first|(refine wN fun _ hnl=>?_;revert hnl;(repeat refine wS fun _ _=>?_);intro hnl)|refine wE ?_|(refine wK ?_ ?_<;>intro h)|(refine wB ?_ ?_<;>intro h<;>simp only[h]))|simp(maxSteps:=4000000) (disch:=first|decide|assumption|omega|(simp only[wL];omega)) only[go_sem,simprocAttr,Tryz.f25])
  refine aH (α:=Nat) (fun i=>⟨32,[(3,.int .i64 (i:Int)),(0,.lst 5 (l.map ND.c) tt)],[]⟩) (fun _=>St.none) (fun i=>i≤l.length∧(l.take i).all eD=true) (fun i=>l.length - i) (.of (.less ?_ (St.le_refl _)) ⟨0,rfl,rfl,Nat.zero_le _,rfl⟩) ?_
  ·simp(maxSteps:=4000000) (disch:=first|decide|assumption|omega|(simp only[wL];omega)) only[go_sem,simprocAttr,aC,aB]
   all_goals rfl
  ·rintro i ⟨hi,hq⟩
   by_cases hlt:i<l.length
   ·have hn:=EB (l.getD i nd0)
    cases hok:eD (l.getD i nd0)<;>rw[hok] at hn
    ·repeat' (first|(with_reducible first|refine up hn ?_)|(with_reducible first|(refine wN fun _ hnl=>?_;revert hnl;(repeat refine wS fun _ _=>?_);intro hnl)|refine wE ?_|(refine wK ?_ ?_<;>intro h)|(refine wB ?_ ?_<;>intro h<;>simp only[h]))|simp(maxSteps:=4000000) (disch:=first|decide|assumption|omega|(simp only[wL];omega)) only[go_sem,simprocAttr,bG nd0])
     rw[if_pos]
     refine .inr (.inr ?_)
     cases hb:l.all eD
     ·rfl
     ·have:=List.all_eq_true.1 hb _ (eO nd0 hlt)
      rw[hok] at this;cases this
    ·repeat' (first|(with_reducible first|refine up hn ?_)|(with_reducible first|(refine wN fun _ hnl=>?_;revert hnl;(repeat refine wS fun _ _=>?_);intro hnl)|refine wE ?_|(refine wK ?_ ?_<;>intro h)|(refine wB ?_ ?_<;>intro h<;>simp only[h]))|simp(maxSteps:=4000000) (disch:=first|decide|assumption|omega|(simp only[wL];omega)) only[go_sem,simprocAttr,bG nd0])
     refine .of (.less ?_ (St.le_refl _)) ⟨i+1,rfl,rfl,⟨by omega,by rw[vN hlt,hq,←bM nd0 hlt,hok];rfl⟩,by omega⟩
     simp(maxSteps:=4000000) (disch:=first|decide|assumption|omega|(simp only[wL];omega)) only[go_sem,simprocAttr,aC,aB]
     all_goals rfl
   ·have:i=l.length:=by omega
    subst this
    rw[List.take_length] at hq
    rw[hq]
    by_cases he:l=[]∨fT l 0≠l.length
    ·rw[if_pos (by rcases he with h|h;exact .inl h;exact .inr (.inl h))]
     rcases he with rfl|he
     ·repeat' (first|(with_reducible first|refine up hend ?_)|(with_reducible first|(refine wN fun _ hnl=>?_;revert hnl;(repeat refine wS fun _ _=>?_);intro hnl)|refine wE ?_|(refine wK ?_ ?_<;>intro h)|(refine wB ?_ ?_<;>intro h<;>simp only[h]))|simp(maxSteps:=4000000) (disch:=first|decide|assumption|omega|(simp only[wL];omega)) only[go_sem,simprocAttr])
      all_goals rfl
     ·repeat' (first|(with_reducible first|refine up hend ?_)|(with_reducible first|(refine wN fun _ hnl=>?_;revert hnl;(repeat refine wS fun _ _=>?_);intro hnl)|refine wE ?_|(refine wK ?_ ?_<;>intro h)|(refine wB ?_ ?_<;>intro h<;>simp only[h]))|simp(maxSteps:=4000000) (disch:=first|decide|assumption|omega|(simp only[wL];omega)) only[go_sem,simprocAttr])
      all_goals rfl
    ·have he1:0<l.length:=by
      cases l with
      | nil=>exact absurd (.inl rfl) he
      | cons x l=>simp
     have he2:fT l 0=l.length:=Classical.not_not.1 fun h3=>he (.inr h3)
     rw[he2] at hend
     rw[if_neg (by rintro(h|h|h);exact he (.inl h);exact he (.inr h);cases h)]
     repeat' (first|(with_reducible first|refine up hend ?_|refine up hd ?_)|(with_reducible first|(refine wN fun _ hnl=>?_;revert hnl;(repeat refine wS fun _ _=>?_);intro hnl)|refine wE ?_|(refine wK ?_ ?_<;>intro h)|(refine wB ?_ ?_<;>intro h<;>simp only[h]))|simp(maxSteps:=4000000) (disch:=first|decide|assumption|omega|(simp only[wL];omega)) only[go_sem,simprocAttr])
     all_goals (try simp only[Classical.not_not] at *)
     all_goals (first|(simp[*];done)|(simp only[];(repeat' split)<;>(first|(simp_all;done)|omega|(exfalso;omega)))|skip)
     all_goals (first|(rw[if_pos (by omega)];done)|(rw[if_neg (by omega)];done))
end

section
set_option maxRecDepth 100000
set_option maxHeartbeats 8000000
def Bc(g:FuncId)(v:MV):b9:=fun g' _=>if g'=g then some ⟨[],fun w=>w=v,none⟩ else none
theorem kG{g:FuncId}{v:MV}{ms:List MV}:Bc g v g ms=some ⟨[],fun w=>w=v,none⟩:=by simp[Bc]
instance:Inhabited DE:=⟨⟨0,0,0⟩⟩
def deZ:DE:=⟨0,0,0⟩
theorem lJ(a b:List Int)(hl:a.length≤1000000)(ta tb:Bool):aA Tryz.prog 17 [.lst 1 (a.map aL) ta,.lst 1 (b.map aL) tb] St.none (fun r _=>r=.bool (decide (a=b))):=by
 refine(aA.body 26 [.tmp 4] Tryz.func17 rfl rfl rfl rfl ?_)
 by_cases hlen:a.length=b.length
 ·repeat' (first|(with_reducible first|(refine wN fun _ hnl=>?_;revert hnl;(repeat refine wS fun _ _=>?_);intro hnl)|refine wE ?_|(refine wK ?_ ?_<;>intro h)|(refine wB ?_ ?_<;>intro h<;>simp only[h]))|simp(maxSteps:=4000000) (disch:=first|exact ddL|fail) only[go_sem,simprocAttr,Tryz.f17])
  refine aH (α:=Nat) (fun i=>⟨26,[(5,.int .i64 (i:Int)),(0,.lst 1 (a.map aL) ta),(1,.lst 1 (b.map aL) tb)],[]⟩) (fun _=>St.none) (fun i=>i≤a.length∧a.take i=b.take i) (fun i=>a.length - i) (.of (.less ?_ (St.le_refl _)) ⟨0,rfl,rfl,Nat.zero_le _,rfl⟩) ?_
  ·simp(maxSteps:=4000000) (disch:=first|exact ddL|fail) only[go_sem,simprocAttr,aC,aB]
   all_goals rfl
  ·rintro i ⟨hi,hq⟩
   by_cases hlt:i<a.length
   ·have hsa:=List.take_succ_eq_append_getElem (l:=a) hlt
    have hib:i<b.length:=by omega
    have hsb:=List.take_succ_eq_append_getElem (l:=b) hib
    rw[←bM 0 hlt] at hsa
    rw[←bM 0 hib] at hsb
    have hma:=eO 0 hlt
    have hmb:=eO 0 hib
    obtain⟨x,hx⟩:∃x,a.getD i 0=x:=⟨_,rfl⟩
    obtain⟨y,hy⟩:∃y,b.getD i 0=y:=⟨_,rfl⟩
    rw[hx] at hsa hma
    rw[hy] at hsb hmb

    by_cases he:x=y
    ·have hyy:=he
     repeat' (first|(with_reducible first|(refine wN fun _ hnl=>?_;revert hnl;(repeat refine wS fun _ _=>?_);intro hnl)|refine wE ?_|(refine wK ?_ ?_<;>intro h)|(refine wB ?_ ?_<;>intro h<;>simp only[h]))|simp(maxSteps:=4000000) (disch:=first|exact ddL|fail) only[go_sem,simprocAttr,bG (0:Int),aL,hx,hy,he])
     refine .of (.less ?_ (St.le_refl _)) ⟨i+1,rfl,rfl,⟨by omega,by rw[hsa,hsb,hq,he]⟩,by omega⟩
     simp(maxSteps:=4000000) (disch:=first|exact ddL|fail) only[go_sem,simprocAttr,aC,aB]
     all_goals rfl
    ·have hyy:=he
     have hne:¬a=b:=fun e=>he (by rw[←hx,←hy,e])
     rw[decide_eq_false hne]
     repeat' (first|(with_reducible first|(refine wN fun _ hnl=>?_;revert hnl;(repeat refine wS fun _ _=>?_);intro hnl)|refine wE ?_|(refine wK ?_ ?_<;>intro h)|(refine wB ?_ ?_<;>intro h<;>simp only[h]))|simp(maxSteps:=4000000) (disch:=first|exact ddL|fail) only[go_sem,simprocAttr,bG (0:Int),aL,hx,hy,he])
     all_goals done
   ·have:i=a.length:=by omega
    subst this
    rw[List.take_length,hlen,List.take_length] at hq
    rw[decide_eq_true hq]
    repeat' (first|(with_reducible first|(refine wN fun _ hnl=>?_;revert hnl;(repeat refine wS fun _ _=>?_);intro hnl)|refine wE ?_|(refine wK ?_ ?_<;>intro h)|(refine wB ?_ ?_<;>intro h<;>simp only[h]))|simp(maxSteps:=4000000) (disch:=first|exact ddL|fail) only[go_sem,simprocAttr])
    all_goals done
 ·rw[decide_eq_false fun e=>hlen (by rw[e])]
  repeat' (first|(with_reducible first|(refine wN fun _ hnl=>?_;revert hnl;(repeat refine wS fun _ _=>?_);intro hnl)|refine wE ?_|(refine wK ?_ ?_<;>intro h)|(refine wB ?_ ?_<;>intro h<;>simp only[h]))|simp(maxSteps:=4000000) (disch:=first|exact ddL|fail) only[go_sem,simprocAttr,Tryz.f17])
  all_goals (first|rfl|(exfalso;omega))
end

section
theorem half(i j:Nat):Int.fdiv ((i:Int)+j) (2 ^ (min 1 64:Nat))=(((i+j) / 2:Nat):Int):=by
 rw[show((2:Int) ^ (min 1 64:Nat))=2 by decide,Int.fdiv_eq_ediv_of_nonneg _ (by omega)]
 omega
end

section
structure CD where
 id:Int
 ver:Int
 lab:Nat
 f:List VA
abbrev fcs(f:List VA):List MV:=(f.map VA.c).flatten
abbrev CD.c(c:CD):List MV:=.int .i64 c.id::.int .i64 c.ver::.int .u32 (c.lab:Int)::fcs c.f
theorem zC:∀f:List VA,(fcs f).length=3 * f.length
 | []=>rfl
 | v::f=>by have:=zC f;simp only[fcs,List.map_cons,List.flatten_cons,List.length_append,List.length_cons,List.length_nil] at this ⊢;omega
theorem Ba:∀(f:List VA) (i:Nat),(fcs f).drop (3 * i)=fcs (f.drop i)
 | f,0=>by simp
 | [],i+1=>by simp[fcs]
 | v::f,i+1=>by
  have:=Ba f i
  rw[show 3 * (i+1)=3 * i+1+1+1 by omega]
  simp only[fcs,List.map_cons,List.flatten_cons,List.cons_append,List.nil_append,List.drop_succ_cons] at this ⊢
  exact this
theorem Nb{f:List VA}{i:Nat}(h:i<f.length):(fcs f).drop (3 * i)=.int .i64 (f.getD i va0).kd::.int .i64 (f.getD i va0).n::.str (f.getD i va0).s::fcs (f.drop (i+1)):=by
 rw[Ba,List.drop_eq_getElem_cons h,bM va0 h];rfl
theorem xI(c:CD){i:Nat}(h:i<c.f.length):c.c.drop (3+i * 3)=.int .i64 (c.f.getD i va0).kd::.int .i64 (c.f.getD i va0).n::.str (c.f.getD i va0).s::fcs (c.f.drop (i+1)):=by
 rw[show 3+i * 3=3 * i+1+1+1 by omega]
 simp only[CD.c,List.drop_succ_cons]
 exact Nb h
theorem Iy(c:CD){i:Nat}(h:i<c.f.length){d:MV}:c.c.getD (3+i * 3) d=.int .i64 (c.f.getD i va0).kd:=by
 have:=xI c h
 rw[List.getD_eq_getElem?_getD,←List.head?_drop,this];rfl
theorem F1(c:CD){i:Nat}(h:i<c.f.length):(c.c.drop (3+i * 3)).take 3=(c.f.getD i va0).c:=by
 rw[xI c h];rfl
theorem s5:∀f:List VA,(fcs f).all MV.aQ=true
 | []=>rfl
 | v::f=>by
  have:=s5 f
  simp only[fcs,List.map_cons,List.flatten_cons,List.cons_append,List.nil_append,List.all_cons] at this ⊢
  rw[this];rfl
theorem nE(c:CD):c.c.all MV.aQ=true:=by
 simp only[CD.c,List.all_cons,s5];rfl
theorem pB(c:CD):c.c.length=3+3 * c.f.length:=by simp only[CD.c,List.length_cons,zC];omega
theorem yQ{v w:VA}:decide (v.kd=w.kd∧v.n=w.n∧v.s=w.s)=decide (v=w) :=
 decide_eq_decide.2 ⟨fun⟨h1,h2,h3⟩=>by cases v;cases w;simp only at h1 h2 h3;rw[h1,h2,h3],fun h=>by rw[h];exact⟨rfl,rfl,rfl⟩⟩
def bT(c:CD)(g:Nat)(n:ND):Bool :=
 if n.op=1 then true else if n.op=3 then hasB c.lab n.n else if n.op=4 then hasB g n.n
 else if n.op=5 then !decide ((c.f.getD n.n.toNat va0).kd=0)
 else if n.op=6 then decide (c.f.getD n.n.toNat va0=n.v)
 else if n.op=7 then gQ (c.f.getD n.n.toNat va0) n.v
 else if n.op=8 then gQ n.v (c.f.getD n.n.toNat va0)
 else if n.op=9 then iP (c.f.getD n.n.toNat va0) n.v
 else false
structure CF (c:CD):Prop where
 len:c.f.length=8
 size:∀v,v∈c.f→v.s.size≤1000000
 lab:c.lab<4294967296
set_option maxHeartbeats 4000000 in
theorem Ez (x:ND) (hx:eD x=true) (c:CD) (hc:CF c) (g:Nat) (hg:g<4294967296):aA Tryz.prog 93 [.agg x.c,.agg c.c,.int .u32 (g:Int)] St.none (fun r _=>r=.bool (bT c g x)):=by
 refine(aA.body 73 [.tmp 6] Tryz.func93 rfl rfl rfl rfl ?_)
 have hlen:=pB c
 rw[hc.len] at hlen
 have hlab:=nK c.lab x.n hc.lab
 have hgrp:=nK g x.n hg
 have hcell:=nE c
 obtain⟨cells,hcells⟩:∃cells,c.c=cells:=⟨_,rfl⟩
 by_cases h5:5≤x.op∧x.op≤9
 ·have hn:0≤x.n∧x.n<8:=by
   have h:=hx
   have e:x.op=5∨x.op=6∨x.op=7∨x.op=8∨x.op=9:=by omega
   rcases e with e|e|e|e|e<;>simp[eD,e] at h<;>omega
  obtain⟨k,hk⟩:∃k:Nat,x.n=k:=⟨x.n.toNat,by omega⟩
  have hk8:k<8:=by omega
  have hkl:k<c.f.length:=by rw[hc.len];omega
  have hget:=Iy c hkl (d:=.junk)
  have htake:=F1 c hkl
  have hvm:=eO va0 hkl
  have hvs:=hc.size _ hvm
  have hxs:=yC hx
  have hle1:=rS (c.f.getD k va0) x.v hvs hxs
  have hle2:=rS x.v (c.f.getD k va0) hxs hvs
  have hho:=AA (c.f.getD k va0) x.v hvs hxs
  have hlb:bT c g x=(if x.op=5 then !decide ((c.f.getD k va0).kd=0)
   else if x.op=6 then decide (c.f.getD k va0=x.v)
   else if x.op=7 then gQ (c.f.getD k va0) x.v
   else if x.op=8 then gQ x.v (c.f.getD k va0)
   else iP (c.f.getD k va0) x.v):=by
   unfold bT
   rw[if_neg (by omega),if_neg (by omega),if_neg (by omega),hk]
   simp only[Int.toNat_natCast]
   by_cases e5:x.op=5
   ·rw[if_pos e5,if_pos e5]
   ·rw[if_neg e5,if_neg e5]
    by_cases e6:x.op=6
    ·rw[if_pos e6,if_pos e6]
    ·rw[if_neg e6,if_neg e6]
     by_cases e7:x.op=7
     ·rw[if_pos e7,if_pos e7]
     ·rw[if_neg e7,if_neg e7]
      by_cases e8:x.op=8
      ·rw[if_pos e8,if_pos e8]
      ·rw[if_neg e8,if_neg e8,if_pos (by omega)]
  rw[hlb]
  rw[hcells] at hget htake hlen hcell ⊢
  clear hlab hgrp hlb
  generalize c.f.getD k va0=v at hget htake hvs hle1 hle2 hho ⊢
  have hop:x.op=5∨x.op=6∨x.op=7∨x.op=8∨x.op=9:=by omega
  rcases hop with h|h|h|h|h
  all_goals
   simp(config:={ decide:=true }) only[h,if_true,if_false]
   repeat' (first|(with_reducible first|refine up hle1 ?_|refine up hle2 ?_|refine up hho ?_)|(with_reducible first|(refine wT ?_;refine wN fun _ hnl=>?_;revert hnl;(repeat refine wS fun _ _=>?_);intro hnl)|refine wD (by decide +kernel) ?_|refine wI (fun h=>?_) fun h=>?_|refine wF (fun h=>?_) fun h=>?_|refine wG (fun h=>?_) fun h=>?_|refine wH (fun h=>?_) fun h=>?_|((first|refine aF (fun h=>?_) fun h=>?_|refine aD (fun h=>?_) fun h=>?_)<;>simp only[h]))|simp(maxSteps:=4000000) (disch:=first|decide|assumption|omega|(simp only[wL];omega)) only[go_sem,simprocAttr,Tryz.f93,h,hk,hget,htake,hlen,hcell])
  ·exact yQ
  ·refine aT mixed (by decide +kernel) (fun _ _=>some ⟨[],fun r=>r=.bool (gQ v x.v),none⟩) ?_
   repeat' (first|(with_reducible refine aP rfl hle1 ?_)|(with_reducible first|(refine wT ?_;refine wN fun _ hnl=>?_;revert hnl;(repeat refine wS fun _ _=>?_);intro hnl)|refine wD (by decide +kernel) ?_|refine wI (fun h=>?_) fun h=>?_|refine wF (fun h=>?_) fun h=>?_|refine wG (fun h=>?_) fun h=>?_|refine wH (fun h=>?_) fun h=>?_|((first|refine aF (fun h=>?_) fun h=>?_|refine aD (fun h=>?_) fun h=>?_)<;>simp only[h]))|simp(maxSteps:=4000000) (disch:=first|decide|assumption|omega|(simp only[wL];omega)) only[go_sem,simprocAttr,h,hk,hget,htake,hlen,hcell])
  ·refine aT mixed (by decide +kernel) (fun _ _=>some ⟨[],fun r=>r=.bool (gQ x.v v),none⟩) ?_
   repeat' (first|(with_reducible refine aP rfl hle2 ?_)|(with_reducible first|(refine wT ?_;refine wN fun _ hnl=>?_;revert hnl;(repeat refine wS fun _ _=>?_);intro hnl)|refine wD (by decide +kernel) ?_|refine wI (fun h=>?_) fun h=>?_|refine wF (fun h=>?_) fun h=>?_|refine wG (fun h=>?_) fun h=>?_|refine wH (fun h=>?_) fun h=>?_|((first|refine aF (fun h=>?_) fun h=>?_|refine aD (fun h=>?_) fun h=>?_)<;>simp only[h]))|simp(maxSteps:=4000000) (disch:=first|decide|assumption|omega|(simp only[wL];omega)) only[go_sem,simprocAttr,h,hk,hget,htake,hlen,hcell])
  ·refine aT mixed (by decide +kernel) (fun _ _=>some ⟨[],fun r=>r=.bool (iP v x.v),none⟩) ?_
   repeat' (first|(with_reducible refine aP rfl hho ?_)|(with_reducible first|(refine wT ?_;refine wN fun _ hnl=>?_;revert hnl;(repeat refine wS fun _ _=>?_);intro hnl)|refine wD (by decide +kernel) ?_|refine wI (fun h=>?_) fun h=>?_|refine wF (fun h=>?_) fun h=>?_|refine wG (fun h=>?_) fun h=>?_|refine wH (fun h=>?_) fun h=>?_|((first|refine aF (fun h=>?_) fun h=>?_|refine aD (fun h=>?_) fun h=>?_)<;>simp only[h]))|simp(maxSteps:=4000000) (disch:=first|decide|assumption|omega|(simp only[wL];omega)) only[go_sem,simprocAttr,h,hk,hget,htake,hlen,hcell])
 ·have hlb:bT c g x=(if x.op=1 then true else if x.op=3 then hasB c.lab x.n else if x.op=4 then hasB g x.n else false):=by
   unfold bT
   rw[if_neg (show ¬x.op=5 by omega),if_neg (show ¬x.op=6 by omega),if_neg (show ¬x.op=7 by omega),if_neg (show ¬x.op=8 by omega),if_neg (show ¬x.op=9 by omega)]
  rw[hlb]
  have hff:=s5 c.f
  have hfl:=zC c.f
  rw[hc.len] at hfl
  simp only[CD.c]
  generalize fcs c.f=ff at hff hfl ⊢
  have n5:x.op≠5:=by omega
  have n6:x.op≠6:=by omega
  have n7:x.op≠7:=by omega
  have n8:x.op≠8:=by omega
  have n9:x.op≠9:=by omega
  clear hlb hcell hcells hlen h5
  by_cases e1:x.op=1
  ·rw[if_pos e1]
   repeat' (first|(with_reducible first|refine up hlab ?_|refine up hgrp ?_)|(with_reducible first|(refine wT ?_;refine wN fun _ hnl=>?_;revert hnl;(repeat refine wS fun _ _=>?_);intro hnl)|refine wD (by decide +kernel) ?_|refine wI (fun h=>?_) fun h=>?_|refine wF (fun h=>?_) fun h=>?_|refine wG (fun h=>?_) fun h=>?_|refine wH (fun h=>?_) fun h=>?_|((first|refine aF (fun h=>?_) fun h=>?_|refine aD (fun h=>?_) fun h=>?_)<;>simp only[h]))|simp(maxSteps:=4000000) (disch:=first|decide|assumption|omega|(simp only[wL];omega)) only[go_sem,simprocAttr,Tryz.f93,hff,hfl])
  ·rw[if_neg e1]
   by_cases e3:x.op=3
   ·rw[if_pos e3]
    repeat' (first|(with_reducible first|refine up hlab ?_|refine up hgrp ?_)|(with_reducible first|(refine wT ?_;refine wN fun _ hnl=>?_;revert hnl;(repeat refine wS fun _ _=>?_);intro hnl)|refine wD (by decide +kernel) ?_|refine wI (fun h=>?_) fun h=>?_|refine wF (fun h=>?_) fun h=>?_|refine wG (fun h=>?_) fun h=>?_|refine wH (fun h=>?_) fun h=>?_|((first|refine aF (fun h=>?_) fun h=>?_|refine aD (fun h=>?_) fun h=>?_)<;>simp only[h]))|simp(maxSteps:=4000000) (disch:=first|decide|assumption|omega|(simp only[wL];omega)) only[go_sem,simprocAttr,Tryz.f93,hff,hfl])
   ·rw[if_neg e3]
    by_cases e4:x.op=4
    ·rw[if_pos e4]
     repeat' (first|(with_reducible first|refine up hlab ?_|refine up hgrp ?_)|(with_reducible first|(refine wT ?_;refine wN fun _ hnl=>?_;revert hnl;(repeat refine wS fun _ _=>?_);intro hnl)|refine wD (by decide +kernel) ?_|refine wI (fun h=>?_) fun h=>?_|refine wF (fun h=>?_) fun h=>?_|refine wG (fun h=>?_) fun h=>?_|refine wH (fun h=>?_) fun h=>?_|((first|refine aF (fun h=>?_) fun h=>?_|refine aD (fun h=>?_) fun h=>?_)<;>simp only[h]))|simp(maxSteps:=4000000) (disch:=first|decide|assumption|omega|(simp only[wL];omega)) only[go_sem,simprocAttr,Tryz.f93,hff,hfl])
    ·rw[if_neg e4]
     repeat' (first|(with_reducible first|refine up hlab ?_|refine up hgrp ?_)|(with_reducible first|(refine wT ?_;refine wN fun _ hnl=>?_;revert hnl;(repeat refine wS fun _ _=>?_);intro hnl)|refine wD (by decide +kernel) ?_|refine wI (fun h=>?_) fun h=>?_|refine wF (fun h=>?_) fun h=>?_|refine wG (fun h=>?_) fun h=>?_|refine wH (fun h=>?_) fun h=>?_|((first|refine aF (fun h=>?_) fun h=>?_|refine aD (fun h=>?_) fun h=>?_)<;>simp only[h]))|simp(maxSteps:=4000000) (disch:=first|decide|assumption|omega|(simp only[wL];omega)) only[go_sem,simprocAttr,Tryz.f93,hff,hfl])
set_option maxHeartbeats 8000000 in
theorem j8 (c:CD) (hc:CF c) (g:Nat) (hg:g<4294967296):∀(t:T),Good t→t.fl.length≤1000→∀(tt:Bool),
  aA Tryz.prog 50 [.lst 5 (t.fl.map ND.c) tt,.agg c.c,.int .u32 (g:Int)] St.none (fun r _=>r=.bool (t.sem (bT c g)))
 | .leaf x,h,hl,tt=>by
  refine(aA.body 61 [.tmp 6] Tryz.func50 rfl rfl rfl rfl ?_)
  have hk:=lK (.leaf x) h.1 hl tt
  have hp:x.op≠10∧x.op≠11∧x.op≠12:=by
   refine⟨fun e=>?_,fun e=>?_,fun e=>?_⟩<;>(have h:=h.1;simp only[T.ok,e] at h;revert h;decide)
  obtain⟨p1,p2,p3⟩:=hp
  have hlf:=Ez x (h.2 x (by simp[T.fl])) c hc g hg
  have hcell:=nE c
  have hlen:=pB c
  rw[hc.len] at hlen
  have ht27:List.take 27 c.c=c.c:=List.take_of_length_le (by omega)
  have e:(T.leaf x).sem (bT c g)=bT c g x:=by
   by_cases h1:x.op=1
   ·simp[T.sem,bT,h1]
   ·by_cases h2:x.op=2
    ·simp[T.sem,bT,h2]
    ·simp[T.sem,h1,h2]
  rw[e]
  generalize c.c=cells at hcell hlen ht27 hlf ⊢
  simp only[T.fl,T.kl,T.kids,List.map_cons,List.map_nil] at hk ⊢
  repeat' (first|(with_reducible first|refine up hk ?_|refine up hlf ?_)|(with_reducible first|(refine wT ?_;refine wN fun _ hnl=>?_;revert hnl;(repeat refine wS fun _ _=>?_);intro hnl)|refine wD (by decide +kernel) ?_|refine wI (fun h=>?_) fun h=>?_|refine wF (fun h=>?_) fun h=>?_|refine wG (fun h=>?_) fun h=>?_|refine wH (fun h=>?_) fun h=>?_|((first|refine aF (fun h=>?_) fun h=>?_|refine aD (fun h=>?_) fun h=>?_)<;>simp only[h]))|simp(maxSteps:=4000000) (disch:=first|decide|assumption|omega|(simp only[wL];omega)) only[go_sem,simprocAttr,Tryz.f50,hcell,hlen])
  refine aT mixed (by decide +kernel) (fun _ _=>some ⟨[],fun r=>r=.bool (bT c g x),none⟩) ?_
  repeat' (first|(with_reducible refine aP rfl hlf ?_)|(with_reducible first|(refine wT ?_;refine wN fun _ hnl=>?_;revert hnl;(repeat refine wS fun _ _=>?_);intro hnl)|refine wD (by decide +kernel) ?_|refine wI (fun h=>?_) fun h=>?_|refine wF (fun h=>?_) fun h=>?_|refine wG (fun h=>?_) fun h=>?_|refine wH (fun h=>?_) fun h=>?_|((first|refine aF (fun h=>?_) fun h=>?_|refine aD (fun h=>?_) fun h=>?_)<;>simp only[h]))|simp(maxSteps:=4000000) (disch:=first|decide|assumption|omega|(simp only[wL];omega)) only[go_sem,simprocAttr,hcell,hlen,ht27])
 | .one x a,h,hl,tt=>by
  refine(aA.body 61 [.tmp 6] Tryz.func50 rfl rfl rfl rfl ?_)
  have hk:=lK (.one x a) h.1 hl tt
  have h1:=yG h.1.1
  have hla:a.fl.length≤1000:=by simp only[T.fl,List.length_cons] at hl;omega
  have ih:=j8 c hc g hg a (tE.1 h).2.2 hla false
  have hcell:=nE c
  have hlen:=pB c
  rw[hc.len] at hlen
  have ht27:List.take 27 c.c=c.c:=List.take_of_length_le (by omega)
  generalize c.c=cells at hcell hlen ht27 ih ⊢
  simp only[T.fl,T.kl,T.kids,List.map_cons,List.map_nil] at hk ⊢
  repeat' (first|(with_reducible first|refine up hk ?_|refine up ih ?_)|(with_reducible first|(refine wT ?_;refine wN fun _ hnl=>?_;revert hnl;(repeat refine wS fun _ _=>?_);intro hnl)|refine wD (by decide +kernel) ?_|refine wI (fun h=>?_) fun h=>?_|refine wF (fun h=>?_) fun h=>?_|refine wG (fun h=>?_) fun h=>?_|refine wH (fun h=>?_) fun h=>?_|((first|refine aF (fun h=>?_) fun h=>?_|refine aD (fun h=>?_) fun h=>?_)<;>simp only[h]))|simp(maxSteps:=4000000) (disch:=first|decide|assumption|omega|(simp only[wL];omega)) only[go_sem,simprocAttr,Tryz.f50,h1,hcell,hlen])
  refine aT mixed (by decide +kernel) (fun _ _=>some ⟨[],fun r=>r=.bool (a.sem (bT c g)),none⟩) ?_
  repeat' (first|(with_reducible refine aP rfl ih ?_)|(with_reducible first|(refine wT ?_;refine wN fun _ hnl=>?_;revert hnl;(repeat refine wS fun _ _=>?_);intro hnl)|refine wD (by decide +kernel) ?_|refine wI (fun h=>?_) fun h=>?_|refine wF (fun h=>?_) fun h=>?_|refine wG (fun h=>?_) fun h=>?_|refine wH (fun h=>?_) fun h=>?_|((first|refine aF (fun h=>?_) fun h=>?_|refine aD (fun h=>?_) fun h=>?_)<;>simp only[h]))|simp(maxSteps:=4000000) (disch:=first|decide|assumption|omega|(simp only[wL];omega)) only[go_sem,simprocAttr,hcell,hlen,ht27])
  simp[T.sem]
 | .two x a b,h,hl,tt=>by
  refine(aA.body 61 [.tmp 6] Tryz.func50 rfl rfl rfl rfl ?_)
  have hk:=lK (.two x a b) h.1 hl tt
  obtain⟨q1,_,ga,gb⟩:=tF.1 h
  have hla:a.fl.length≤1000∧b.fl.length≤1000:=by simp only[T.fl,List.length_cons,List.length_append] at hl;omega
  have iha:=j8 c hc g hg a ga hla.1 false
  have ihb:=j8 c hc g hg b gb hla.2 false
  have hs:(T.two x a b).sem (bT c g)=if x.op=11 then a.sem (bT c g)&&b.sem (bT c g) else a.sem (bT c g) || b.sem (bT c g):=by
   by_cases e:x.op=11<;>simp[T.sem,e]
  rw[hs]
  have hcell:=nE c
  have hlen:=pB c
  rw[hc.len] at hlen
  have ht27:List.take 27 c.c=c.c:=List.take_of_length_le (by omega)
  generalize c.c=cells at hcell hlen ht27 iha ihb ⊢
  obtain⟨C,hC⟩:∃C,C=kn [(50,[.lst 5 (a.fl.map ND.c) false,.agg cells,.int .u32 (g:Int)],⟨[],fun v=>v=.bool (a.sem (bT c g)),none⟩),(50,[.lst 5 (b.fl.map ND.c) false,.agg cells,.int .u32 (g:Int)],⟨[],fun v=>v=.bool (b.sem (bT c g)),none⟩)]:=⟨_,rfl⟩
  have fa:C 50 [.lst 5 (a.fl.map ND.c) false,.agg cells,.int .u32 (g:Int)]=some ⟨[],fun v=>v=.bool (a.sem (bT c g)),none⟩:=by rw[hC];exact qL
  have fb:C 50 [.lst 5 (b.fl.map ND.c) false,.agg cells,.int .u32 (g:Int)]=some ⟨[],fun v=>v=.bool (b.sem (bT c g)),none⟩:=by
   rw[hC]
   refine Fq (fun h=>?_) qL
   have h:=h.2
   simp only[List.cons.injEq,MV.lst.injEq,true_and,and_true] at h
   rw[N8 ga.1 gb.1 (B5 h)]
  clear hC hs
  generalize a.sem (bT c g)=sa at iha fa ⊢
  generalize b.sem (bT c g)=sb at ihb fb ⊢
  simp only[T.fl,T.kl,T.kids,List.map_cons,List.map_nil] at hk ⊢
  rcases yH q1 with h1|h1<;>rw[h1]
  ·rw[if_pos rfl]
   cases sa
   all_goals
    repeat' (first|(with_reducible first|refine up hk ?_|refine up iha ?_|refine up ihb ?_)|(with_reducible first|(refine wT ?_;refine wN fun _ hnl=>?_;revert hnl;(repeat refine wS fun _ _=>?_);intro hnl)|refine wD (by decide +kernel) ?_|refine wI (fun h=>?_) fun h=>?_|refine wF (fun h=>?_) fun h=>?_|refine wG (fun h=>?_) fun h=>?_|refine wH (fun h=>?_) fun h=>?_|((first|refine aF (fun h=>?_) fun h=>?_|refine aD (fun h=>?_) fun h=>?_)<;>simp only[h]))|simp(maxSteps:=4000000) (disch:=first|decide|assumption|omega|(simp only[wL];omega)) only[go_sem,simprocAttr,Tryz.f50,h1,hcell,hlen])
    refine aT mixed (by decide +kernel) C ?_
    repeat' (first|(with_reducible refine aP fa iha ?_)|(with_reducible refine aP fb ihb ?_)|(with_reducible first|(refine wT ?_;refine wN fun _ hnl=>?_;revert hnl;(repeat refine wS fun _ _=>?_);intro hnl)|refine wD (by decide +kernel) ?_|refine wI (fun h=>?_) fun h=>?_|refine wF (fun h=>?_) fun h=>?_|refine wG (fun h=>?_) fun h=>?_|refine wH (fun h=>?_) fun h=>?_|((first|refine aF (fun h=>?_) fun h=>?_|refine aD (fun h=>?_) fun h=>?_)<;>simp only[h]))|simp(maxSteps:=4000000) (disch:=first|decide|assumption|omega|(simp only[wL];omega)) only[go_sem,simprocAttr,hcell,hlen,ht27])
    all_goals (first|rfl|(cases sb<;>rfl))
  ·rw[if_neg (by decide)]
   cases sa
   all_goals
    repeat' (first|(with_reducible first|refine up hk ?_|refine up iha ?_|refine up ihb ?_)|(with_reducible first|(refine wT ?_;refine wN fun _ hnl=>?_;revert hnl;(repeat refine wS fun _ _=>?_);intro hnl)|refine wD (by decide +kernel) ?_|refine wI (fun h=>?_) fun h=>?_|refine wF (fun h=>?_) fun h=>?_|refine wG (fun h=>?_) fun h=>?_|refine wH (fun h=>?_) fun h=>?_|((first|refine aF (fun h=>?_) fun h=>?_|refine aD (fun h=>?_) fun h=>?_)<;>simp only[h]))|simp(maxSteps:=4000000) (disch:=first|decide|assumption|omega|(simp only[wL];omega)) only[go_sem,simprocAttr,Tryz.f50,h1,hcell,hlen])
    refine aT mixed (by decide +kernel) C ?_
    repeat' (first|(with_reducible refine aP fa iha ?_)|(with_reducible refine aP fb ihb ?_)|(with_reducible first|(refine wT ?_;refine wN fun _ hnl=>?_;revert hnl;(repeat refine wS fun _ _=>?_);intro hnl)|refine wD (by decide +kernel) ?_|refine wI (fun h=>?_) fun h=>?_|refine wF (fun h=>?_) fun h=>?_|refine wG (fun h=>?_) fun h=>?_|refine wH (fun h=>?_) fun h=>?_|((first|refine aF (fun h=>?_) fun h=>?_|refine aD (fun h=>?_) fun h=>?_)<;>simp only[h]))|simp(maxSteps:=4000000) (disch:=first|decide|assumption|omega|(simp only[wL];omega)) only[go_sem,simprocAttr,hcell,hlen,ht27])
    all_goals (first|rfl|(cases sb<;>rfl))
end

section
theorem LX{P:Program}{ops:Array Oper}{F:Fence}(o:Oper)(r:List Oper):∀(l:List Oper),(F=Fence.wide∨∃l0,F=Fence.wide.inRound l0∧∀x,x∈l++o::r→∀c,x.op≠.defer c)→o.guard=none→∀{Q:MQ} {Φ0:Phi} {σ0:St} {w0:World} (f:FR) (σ:St) (Φ:Phi) (w:World) (a:Act),
  dX P ops (fun f σ=>sop P o f σ fun v σ'=>dX P ops (Q .normal) r (bB f o.dst v) σ') l f σ→Inv Φ w σ→cI Φ a.tmps f→cR Φ w a.defers f.d →
  Step Φ0 σ0 w0 Φ σ w→wpListIn F 0 P ops (lift Φ0 σ0 w0 Q) (l++o::r) a w:=by
 intro l
 induction l with
 | nil =>
  intro hF hg Q Φ0 σ0 w0 f σ Φ w a h hi hr hd hs
  have hFo:F=Fence.wide∨∃l0,F=Fence.wide.inRound l0∧∀c,o.op≠.defer c:=hF.imp id fun⟨l0,e,q⟩=>⟨l0,e,q o (by simp)⟩
  have hFr:F=Fence.wide∨∃l0,F=Fence.wide.inRound l0∧∀y,y∈r→∀c,y.op≠.defer c:=hF.imp id fun⟨l0,e,q⟩=>⟨l0,e,fun y ho=>q y (by simp[ho])⟩
  have h:sop P o f σ fun v σ'=>dX P ops (Q .normal) r (bB f o.dst v) σ':=h
  simp only[List.nil_append]
  have h':eS ops f o (sop P o f σ fun v σ'=>dX P ops (Q .normal) r (bB f o.dst v) σ') False:=by unfold eS;rw[hg];exact h
  unfold wpListIn
  rcases cG h' hr with⟨hw,hy⟩|⟨hw,hn⟩
  ·rw[if_pos hw]
   refine fR hFo ?_
   exact h Φ w a _ _ hi hr (fun v mv σ' Φ' w' r1 i1 s1 hk=>tY r hFr _ _ Φ' w' (a.put o.dst v) hk i1 (cJ (hr.mono s1.le) o.dst r1) (by rw[bL,dT];exact hd.step hi s1) (hs.trans s1))
  ·exact hn.elim
 | cons x rest ih =>
  intro hF hg Q Φ0 σ0 w0 f σ Φ w a h hi hr hd hs
  have hFr:F=Fence.wide∨∃l0,F=Fence.wide.inRound l0∧∀y,y∈rest++o::r→∀c,y.op≠.defer c:=hF.imp id fun⟨l0,e,q⟩=>⟨l0,e,fun y ho=>q y (List.mem_cons_of_mem _ ho)⟩
  have hFo:F=Fence.wide∨∃l0,F=Fence.wide.inRound l0∧∀c,x.op≠.defer c:=hF.imp id fun⟨l0,e,q⟩=>⟨l0,e,q x (List.mem_cons_self ..)⟩
  have hfn:∀g,F.fn g:=fun g=>by rcases hF with rfl|⟨l,rfl,_⟩<;>trivial
  simp only[dX] at h
  simp only[List.cons_append]
  unfold wpListIn
  rcases cG h hr with⟨hw,hy⟩|⟨hw,hn⟩
  ·rw[if_pos hw]
   refine fR hFo ?_
   by_cases hdef:∃c,x.op=.defer c
   ·obtain⟨c,hc⟩:=hdef
    rw[hc] at hy
    have hy:tQ f c fun f'=>dX P ops (fun f σ=>sop P o f σ fun v σ'=>dX P ops (Q .normal) r (bB f o.dst v) σ') rest (bB f' x.dst .junk) σ:=hy
    obtain⟨d,f',h1,h2,h3,h4⟩:=pJ (P:=P) (w:=w) hc hy hr hd
    unfold Oper.wp
    rw[h1]
    refine ih hFr hg _ _ Φ w _ h4 hi (cJ (a:={ a with defers:=d::a.defers }) h2 x.dst (.junk _)) ?_ hs
    rw[bL,dT]
    exact h3
   ·exact j6 (fun c hc=>hdef ⟨c,hc⟩) hy Φ w a _ _ hi hr (fun v mv σ' Φ' w' r1 i1 s1 hk=>ih hFr hg _ _ Φ' w' (a.put x.dst v) hk i1 (cJ (hr.mono s1.le) x.dst r1) (by rw[bL,dT];exact hd.step hi s1) (hs.trans s1))
  ·rw[if_neg (by simp[hw])]
   exact⟨fun f _=>hfn f,ih hFr hg _ _ Φ w (a.put x.dst undef) hn hi (cJ hr x.dst eW) (by rw[bL,dT];exact hd) hs⟩
theorem wO{P:Program}{id:Nat}{ops:Array Oper}{f:FR}{σ:St}{Q:MQ}(l:List Oper)(o:Oper)(r:List Oper)(he:ops.toList=l++o::r)(hg:o.guard=none)
 (h:dX P ops (fun f σ=>sop P o f σ fun v σ'=>dX P ops (Q .normal) r (bB f o.dst v) σ') l f σ):mwp P (.region id ops false) f σ Q :=
 fun F hF Φ w a hi hr hd=>wpIn_region_list (by
  rw[he]
  refine LX o r l ?_ hg f σ Φ w a h hi hr hd (.refl _ _ _)
  have:=hF.ops
  rw[he] at this
  exact this)
theorem uA{P:Program}{id:Nat}{L:List Oper}{f:FR}{σ:St}{Q:MQ}(l:List Oper)(o:Oper)(r:List Oper)(he:L=l++o::r)(hg:o.guard=none)
 (h:R (dX P (@OfNat.ofNat (Array Oper) (nat_lit 0) (@_root_.id (OfNat (Array Oper) (nat_lit 0)) (OfNat.mk (L.toArray)))) (fun f σ=>sop P o f σ fun v σ'=>R (dX P (@OfNat.ofNat (Array Oper) (nat_lit 0) (@_root_.id (OfNat (Array Oper) (nat_lit 0)) (OfNat.mk (L.toArray)))) (Q .normal) r (bB f o.dst v) σ')) l f σ)):mwp P (.region id L.toArray false) f σ Q :=
 wO (ops:=L.toArray) l o r he hg h
theorem EG{P:Program}{o:Oper}{f:FR}{σ:St}{k:MV→St→Prop}{t kt et:TypeId}{x:Operand}(ho:o.op=.call { callee:=.builtin .len,args:=#[x],argTypes:=#[t] })(ht:(td P t).k=.map kt et)
 {l:Nat}{es:List (MV × MV)}(hm:aG f x=.mapv l)(hl:σ l=some (.mp es))(hk:k (.int .i64 (es.length:Int)) σ):sop P o f σ k:=by
 intro Φ w a K Q' hi hr hK
 have hum:=pX ht
 have rm:=aO hr x
 rw[hm] at rm
 obtain⟨p,R,hp,hR,hmv⟩:=rm.mB
 obtain⟨p',R',c,clock,hp',hR',hh,hs,hst,hrel⟩:=(hi.own l _ hl).Fu
 rw[hp] at hp';cases hp'
 rw[hR] at hR';cases hR'
 have hop:∀r w',(Builtin.len_ #[t] o.type #[a.eval x]).run P w=.ok r w'→(execOp a.eval o).run P w=.ok (.value r) w':=fun r w' h=>by
  unfold execOp
  simp only[ho,resolve,List.map_toArray,List.map_cons,List.map_nil,Sem.run_bind,Sem.run_pure,Result.andThen_ok,invoke]
  show Sem.run P (do pure (Next.value (←Builtin.len_ #[t] o.type #[a.eval x]))) w=_
  simp only[Sem.run_bind,h,Result.andThen_ok,Sem.run_pure]
 refine bI (hop (.int .i64 (es.length:Int)) w ?_) (hK _ _ _ Φ w (.int _ _) hi (.refl _ _ _) hk)
 rw[hmv]
 simp[Builtin.len_,aR hum,Go.MapKept.run_getObj_map hh,goInt,hs]
end
end Go.Proofs.YtaojijkdamfbnaaGreatDoor
