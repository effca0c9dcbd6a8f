/- Parts of the proof; conditions: as its theorems name them. -/
import Derived.Test.YtppdgejjmhdjhaaGreatDoorMai
set_option linter.unusedVariables false
set_option linter.unusedSimpArgs false
set_option maxHeartbeats 8000000
set_option maxRecDepth 100000
namespace Go.Proofs.YtppdgejjmhdjhaaGreatDoor
section
theorem HF(k:Int):aA Tryz.prog 161 [.int .i64 k] St.none (fun r _=>r=.bool (edG k)):=by
 refine(mB 17 [.tmp 2] Tryz.func161 ?_)
 repeat' first|(refine wY ?_ ?_<;>intro h)|refine wZ1 @Tryz.f161.eq_1 ?_|fail
 all_goals (try simp only[Classical.not_not] at *)
 all_goals (first|(simp[edG, *];done)|(simp only[edG];(repeat' split)<;>(first|(simp_all;done)|omega|(exfalso;omega)))|skip)
theorem Rw(k:Int):aA Tryz.prog 162 [.int .i64 k] St.none (fun r _=>r=.bool (edI k)):=by
 refine(mB 17 [.tmp 2] Tryz.func162 ?_)
 repeat' first|(refine wY ?_ ?_<;>intro h)|refine wZ1 @Tryz.f162.eq_1 ?_|fail
 all_goals (try simp only[Classical.not_not] at *)
 all_goals (first|(simp[edI, *];done)|(simp only[edI];(repeat' split)<;>(first|(simp_all;done)|omega|(exfalso;omega)))|skip)
theorem BU(k:Int):aA Tryz.prog 163 [.int .i64 k] St.none (fun r _=>r=.bool (edP k)):=by
 refine(mB 9 [.tmp 2] Tryz.func163 ?_)
 repeat' first|(refine wY ?_ ?_<;>intro h)|refine wZ1 @Tryz.f163.eq_1 ?_|fail
 all_goals (try simp only[Classical.not_not] at *)
 all_goals (first|(simp[edP, *];done)|(simp only[edP];(repeat' split)<;>(first|(simp_all;done)|omega|(exfalso;omega)))|skip)
set_option maxHeartbeats 4000000 in
theorem eM (e:ED):aA Tryz.prog 81 [.agg e.c] St.none (fun r _=>r=.int .i64 (aQ e)):=by
 refine aA.bS (mB 74 [.tmp 2] Tryz.func81 ?_)
 have hg:=HF e.kd
 have hi:=Rw e.kd
 have hp:=BU e.kd
 have hc:=lH e.p
 have hq:cH Tryz.prog 57 .neq (.agg (.int .u32 (e.p.mask.toNat:Int)::.int .u32 (e.p.lab.toNat:Int)::fc e.p.f)) (.agg (.int .u32 0::.int .u32 0::fc f80))=some (True,.bool (!decide (e.p=pa0))):=CE e.p pa0
 by_cases hk:e.kd<1∨7<e.kd
 ·have e1:aQ e=1:=by unfold aQ;rw[if_pos hk]
  rw[e1]
  repeat' first|(refine wO ?_;intros)|(refine wY ?_ ?_<;>intro h)|refine wZ2 @Tryz.f81.eq_1 @FXs ?_|fail
  all_goals exact lE
 ·have hk1:1≤e.kd:=by omega
  have hk2:e.kd≤7:=by omega
  obtain⟨bg,hbg⟩:∃b,edG e.kd=b:=⟨_,rfl⟩
  obtain⟨bi,hbi⟩:∃b,edI e.kd=b:=⟨_,rfl⟩
  obtain⟨bp,hbp⟩:∃b,edP e.kd=b:=⟨_,rfl⟩
  obtain⟨bz,hbz⟩:∃b,decide (e.p=pa0)=b:=⟨_,rfl⟩
  have e0:Unit→aQ e=if bg=false∧e.gr≠0∨bi=false∧e.id≠0∨bp=false∧bz=false then 1 else if e.gr<0∨16≤e.gr∨bi=true∧(e.id<1∨1073741824≤e.id) then 1 else if bp=true then bI e.p else 0:=by
   intro _
   unfold aQ mM
   rw[if_neg hk,hbg,hbi,hbp,←hbz]
   simp only[decide_eq_false_iff_not,ne_eq]
  rw[hbg] at hg
  rw[hbi] at hi
  rw[hbp] at hp
  rw[hbz] at hq
  obtain⟨res,hres⟩:∃r,aQ e=r:=⟨_,rfl⟩
  rw[hres] at e0 ⊢
  clear hbg hbi hbp hbz hres hk
  cases bg<;>cases bi<;>cases bp<;>cases bz
  all_goals
   repeat' first|(with_reducible first|refine up hg ?_|refine up hi ?_|refine up hp ?_|refine up hc ?_)|(refine wO ?_;intros)|(refine wY ?_ ?_<;>intro h)|refine wZ3 @Tryz.f81.eq_1 @FXs @hq ?_|fail
   all_goals (first|refine⟨_,St.le_refl _,?_⟩|skip)
   all_goals rw[e0 ()]
   all_goals (try simp only[Classical.not_not] at *)
   all_goals (first|(simp[*];done)|(simp only[];(repeat' split)<;>(first|(simp_all;done)|omega|(exfalso;omega)))|skip)
end

section
def k0(l:List T):Nat:=l.foldl (fun d t=>max d t.depth) 0
theorem T.IB(t:T):t.depth=k0 t.kids+1:=by
 cases t<;>simp only[T.depth,T.kids,k0,List.foldl_nil,List.foldl_cons]<;>omega
theorem Dl(l:List T)(t:T):k0 (l++[t])=max (k0 l) t.depth:=by simp[k0]
theorem T.pF:∀t:T,t.depth≤t.fl.length
 | .leaf _=>by simp[T.depth,T.fl]
 | .one _ a=>by have:=T.pF a;simp only[T.depth,T.fl,List.length_cons];omega
 | .two _ a b=>by have:=T.pF a;have:=T.pF b;simp only[T.depth,T.fl,List.length_cons,List.length_append];omega
theorem MR{t k:T}(h:k∈t.kids):k.fl.length<t.fl.length:=by
 cases t<;>simp only[T.kids,List.mem_cons,List.not_mem_nil,or_false] at h
 ·subst h;simp only[T.fl,List.length_cons];omega
 ·rcases h with rfl|rfl<;>simp only[T.fl,List.length_cons,List.length_append]<;>omega
theorem Vn{t k:T}(ht:t.ok)(h:k∈t.kids):k.ok:=by
 cases t<;>simp only[T.kids,List.mem_cons,List.not_mem_nil,or_false] at h
 ·subst h;exact ht.2
 ·rcases h with rfl|rfl
  ·exact ht.2.1
  ·exact ht.2.2
theorem Hv:∀(n:Nat) (t:T),t.ok→iR t.fl 0=(t.fl.length:Int)→t.fl.length≤n→n≤1000→∀tt:Bool,aA Tryz.prog 59 [.lst 5 (t.fl.map ND.c) tt] St.none (fun r _=>r=.int .i64 (t.depth:Int)):=by
 intro n
 induction n with
 | zero=>intro t h _ hl;have:=t.DA;omega
 | succ n ih =>
  intro t h he hl hn tt
  refine(mB 33 [.tmp 2] Tryz.func59 ?_)
  have hend:=rC t.fl oM tt 0
  rw[he] at hend
  have hk:=oP t h oM tt
  have hpos:=t.DA
  have hkl:t.kids.length≤2:=by cases t<;>simp[T.kids]
  repeat' first|(with_reducible first|refine up hend ?_|refine up hk ?_)|refine wZ1 @Tryz.f59.eq_1 ?_|fail
  refine aF (α:=Nat) (fun i=>⟨33,[(5,.int .i64 (i:Int)),(4,.int .i64 (k0 (t.kids.take i):Int)),(3,.lst 1 t.kl false)],[]⟩) (fun _=>St.none) (fun i=>i≤t.kids.length) (fun i=>t.kids.length - i) (.of (.less ?_ (St.le_refl _)) ⟨0,rfl,rfl,Nat.zero_le _⟩) ?_
  ·exact wW
  ·intro i hi
   have hi:i≤t.kids.length:=hi
   by_cases hlt:i<t.kids.length
   ·have hm:=gT (T.leaf nd0) hlt
    have hko:=Vn h hm
    have hks:=MR hm
    have hke:iR (t.kids.getD i (.leaf nd0)).fl 0=((t.kids.getD i (.leaf nd0)).fl.length:Int):=by
     have:=KW hko [] []
     simpa using this
    have hd:=ih _ hko hke oM oM false
    have hdl:=T.pF (t.kids.getD i (.leaf nd0))
    have hsn:k0 (t.kids.take (i+1))=max (k0 (t.kids.take i)) (t.kids.getD i (.leaf nd0)).depth:=by
     rw[List.take_succ_eq_append_getElem hlt,←b9 (.leaf nd0) hlt,Dl]
    repeat' (first|(with_reducible first|refine up hd ?_)|(with_reducible first|(refine wN fun _ hnl=>?_;revert hnl;(repeat refine wS fun _ _=>?_);intro hnl)|refine wE ?_|(refine wK ?_ ?_<;>intro h)|(refine wB ?_ ?_<;>intro h<;>simp only[h]))|simp(maxSteps:=4000000) (disch:=first|decide|assumption|omega|(simp only[wL];omega)) only[go_sem,simprocAttr,bW (T.leaf nd0)])
    refine .of (.less (l1:=[(5,.int .i64 ((i+1:Nat):Int)),(4,.int .i64 (k0 (t.kids.take (i+1)):Int)),(3,.lst 1 t.kl false)]) ?_ (St.le_refl _)) ⟨i+1,rfl,rfl,by omega,by omega⟩
    rw[hsn]
    simp(maxSteps:=4000000) (disch:=first|decide|assumption|omega|(simp only[wL];omega)) only[go_sem,simprocAttr,aU,aN]
    all_goals omega
   ·have:i=t.kids.length:=by omega
    subst this
    have hdk:=t.IB
    have hdl:=t.pF
    rw[List.take_length]
    repeat' first|refine wZ0 ?_|fail
    all_goals (first|rfl|(congr 1;omega)|omega)
theorem Hu(l:List ND)(hl:l.length≤1000)(tt:Bool):aA Tryz.prog 59 [.lst 5 (l.map ND.c) tt] St.none (fun r _=>r=.int .i64 (iU l:Int)):=by
 by_cases h:l=[]∨iR l 0≠l.length
 ·have e:iU l=0:=by unfold iU;rw[if_pos h]
  rw[e]
  refine(mB 33 [.tmp 2] Tryz.func59 ?_)
  have hend:=rC l oM tt 0
  rcases h with rfl|h
  ·repeat' first|(with_reducible first|refine up hend ?_)|refine wZ1 @Tryz.f59.eq_1 ?_|exact wC1 @Tryz.f59.eq_1|fail
   all_goals rfl
  ·repeat' first|(with_reducible first|refine up hend ?_)|(refine wY ?_ ?_<;>intro h)|refine wZ1 @Tryz.f59.eq_1 ?_|exact wC1 @Tryz.f59.eq_1|fail
   all_goals rfl
 ·have h2:iR l 0=l.length:=Classical.not_not.1 fun h3=>h (.inr h3)
  obtain⟨t,ht,rfl⟩:=parse h2
  rw[IC ht h2]
  exact Hv _ t ht h2 hl (Nat.le_refl _) tt
theorem EH(l:List ND)(tt:Bool):aA Tryz.prog 11 [.lst 5 (l.map ND.c) tt] St.none (fun r _=>r=.int .i64 (cR l)):=by
 refine(mB 32 [.tmp 2] Tryz.func11 ?_)
 unfold cR
 by_cases h31:31<l.length
 ·rw[if_pos h31]
  repeat' first|refine wZ1 @Tryz.f11.eq_1 ?_|exact wC1 @Tryz.f11.eq_1|fail
  all_goals rfl
 ·rw[if_neg h31]
  have hend:=rC l oM tt 0
  have hd:=Hu l oM tt
  repeat' first|refine wZ1 @Tryz.f11.eq_1 ?_|fail
  refine aF (α:=Nat) (fun i=>⟨32,[(3,.int .i64 (i:Int)),(0,.lst 5 (l.map ND.c) tt)],[]⟩) (fun _=>St.none) (fun i=>i≤l.length∧(l.take i).all fM=true) (fun i=>l.length - i) (.of (.less ?_ (St.le_refl _)) ⟨0,rfl,rfl,Nat.zero_le _,rfl⟩) ?_
  ·exact wW
  ·rintro i ⟨hi,hq⟩
   by_cases hlt:i<l.length
   ·have hn:=Km (l.getD i nd0)
    cases hok:fM (l.getD i nd0)<;>rw[hok] at hn
    ·repeat' (first|(with_reducible first|refine up hn ?_)|(with_reducible first|(refine wN fun _ hnl=>?_;revert hnl;(repeat refine wS fun _ _=>?_);intro hnl)|refine wE ?_|(refine wK ?_ ?_<;>intro h)|(refine wB ?_ ?_<;>intro h<;>simp only[h]))|simp(maxSteps:=4000000) (disch:=first|decide|assumption|omega|(simp only[wL];omega)) only[go_sem,simprocAttr,bW nd0])
     rw[if_pos]
     refine .inr (.inr ?_)
     cases hb:l.all fM
     ·rfl
     ·have:=List.all_eq_true.1 hb _ (gT nd0 hlt)
      rw[hok] at this;cases this
    ·repeat' (first|(with_reducible first|refine up hn ?_)|(with_reducible first|(refine wN fun _ hnl=>?_;revert hnl;(repeat refine wS fun _ _=>?_);intro hnl)|refine wE ?_|(refine wK ?_ ?_<;>intro h)|(refine wB ?_ ?_<;>intro h<;>simp only[h]))|simp(maxSteps:=4000000) (disch:=first|decide|assumption|omega|(simp only[wL];omega)) only[go_sem,simprocAttr,bW nd0])
     refine .of (.less ?_ (St.le_refl _)) ⟨i+1,rfl,rfl,⟨by omega,by rw[Bh hlt,hq,←b9 nd0 hlt,hok];rfl⟩,by omega⟩
     exact wW
   ·have:i=l.length:=by omega
    subst this
    rw[List.take_length] at hq
    rw[hq]
    by_cases he:l=[]∨iR l 0≠l.length
    ·rw[if_pos (by rcases he with h|h;exact .inl h;exact .inr (.inl h))]
     rcases he with rfl|he
     ·repeat' first|(with_reducible first|refine up hend ?_)|refine wZ0 ?_|exact wC0|fail
      all_goals rfl
     ·repeat' first|(with_reducible first|refine up hend ?_)|(refine wY ?_ ?_<;>intro h)|refine wZ0 ?_|exact wC0|fail
      all_goals rfl
    ·have he1:0<l.length:=by
      cases l with
      | nil=>exact absurd (.inl rfl) he
      | cons x l=>simp
     have he2:iR l 0=l.length:=Classical.not_not.1 fun h3=>he (.inr h3)
     rw[he2] at hend
     rw[if_neg (by rintro(h|h|h);exact he (.inl h);exact he (.inr h);cases h)]
     repeat' first|(with_reducible first|refine up hend ?_|refine up hd ?_)|(refine wY ?_ ?_<;>intro h)|refine wZ0 ?_|exact wC0|fail
     all_goals (try simp only[Classical.not_not] at *)
     all_goals (first|(simp[*];done)|(simp only[];(repeat' split)<;>(first|(simp_all;done)|omega|(exfalso;omega)))|skip)
     all_goals (first|(rw[if_pos oM];done)|(rw[if_neg oM];done))
end

section
structure CD where
 id:Int
 ver:Int
 lab:Nat
 f:List VA
abbrev fcs(f:List VA):List MV:=(f.map VA.c).flatten
abbrev CD.c(c:CD):List MV:=.int .i64 c.id::.int .i64 c.ver::.int .u32 (c.lab:Int)::fcs c.f
theorem Dx:∀f:List VA,(fcs f).length=3 * f.length
 | []=>rfl
 | v::f=>by have:=Dx f;simp only[fcs,List.map_cons,List.flatten_cons,List.length_append,List.length_cons,List.length_nil] at this ⊢;omega
theorem FA:∀(f:List VA) (i:Nat),(fcs f).drop (3 * i)=fcs (f.drop i)
 | f,0=>by simp
 | [],i+1=>by simp[fcs]
 | v::f,i+1=>by
  have:=FA f i
  rw[show 3 * (i+1)=3 * i+1+1+1 by omega]
  simp only[fcs,List.map_cons,List.flatten_cons,List.cons_append,List.nil_append,List.drop_succ_cons] at this ⊢
  exact this
theorem Ve{f:List VA}{i:Nat}(h:i<f.length):(fcs f).drop (3 * i)=.int .i64 (f.getD i va0).kd::.int .i64 (f.getD i va0).n::.str (f.getD i va0).s::fcs (f.drop (i+1)):=by
 rw[FA,List.drop_eq_getElem_cons h,b9 va0 h];rfl
theorem Cb(c:CD){i:Nat}(h:i<c.f.length):c.c.drop (3+i * 3)=.int .i64 (c.f.getD i va0).kd::.int .i64 (c.f.getD i va0).n::.str (c.f.getD i va0).s::fcs (c.f.drop (i+1)):=by
 rw[show 3+i * 3=3 * i+1+1+1 by omega]
 simp only[CD.c,List.drop_succ_cons]
 exact Ve h
theorem O3(c:CD){i:Nat}(h:i<c.f.length){d:MV}:c.c.getD (3+i * 3) d=.int .i64 (c.f.getD i va0).kd:=by
 have:=Cb c h
 rw[List.getD_eq_getElem?_getD,←List.head?_drop,this];rfl
theorem Mb(c:CD){i:Nat}(h:i<c.f.length):(c.c.drop (3+i * 3)).take 3=(c.f.getD i va0).c:=by
 rw[Cb c h];rfl
theorem zV:∀f:List VA,(fcs f).all MV.aL=true
 | []=>rfl
 | v::f=>by
  have:=zV f
  simp only[fcs,List.map_cons,List.flatten_cons,List.cons_append,List.nil_append,List.all_cons] at this ⊢
  rw[this];rfl
theorem qO(c:CD):c.c.all MV.aL=true:=by
 simp only[CD.c,List.all_cons,zV];rfl
theorem tC(c:CD):c.c.length=3+3 * c.f.length:=by simp only[CD.c,List.length_cons,Dx];omega
theorem C6{v w:VA}:decide (v.kd=w.kd∧v.n=w.n∧v.s=w.s)=decide (v=w) :=
 decide_eq_decide.2 ⟨fun⟨h1,h2,h3⟩=>by cases v;cases w;simp only at h1 h2 h3;rw[h1,h2,h3],fun h=>by rw[h];exact⟨rfl,rfl,rfl⟩⟩
def cE(c:CD)(g:Nat)(n:ND):Bool :=
 if n.op=1 then true else if n.op=3 then hasB c.lab n.n else if n.op=4 then hasB g n.n
 else if n.op=5 then !decide ((c.f.getD n.n.toNat va0).kd=0)
 else if n.op=6 then decide (c.f.getD n.n.toNat va0=n.v)
 else if n.op=7 then kV (c.f.getD n.n.toNat va0) n.v
 else if n.op=8 then kV n.v (c.f.getD n.n.toNat va0)
 else if n.op=9 then lT (c.f.getD n.n.toNat va0) n.v
 else false
structure CF (c:CD):Prop where
 len:c.f.length=8
 size:∀v,v∈c.f→v.s.size≤1000000
 lab:c.lab<4294967296
set_option maxHeartbeats 4000000 in
theorem Kl (x:ND) (hx:fM x=true) (c:CD) (hc:CF c) (g:Nat) (hg:g<4294967296):aA Tryz.prog 175 [.agg x.c,.agg c.c,.int .u32 (g:Int)] St.none (fun r _=>r=.bool (cE c g x)):=by
 refine(mB 73 [.tmp 6] Tryz.func175 ?_)
 have hlen:=tC c
 rw[hc.len] at hlen
 have hlab:=rD c.lab x.n hc.lab
 have hgrp:=rD g x.n hg
 have hcell:=qO c
 obtain⟨cells,hcells⟩:∃cells,c.c=cells:=⟨_,rfl⟩
 by_cases h5:5≤x.op∧x.op≤9
 ·have hn:0≤x.n∧x.n<8:=by
   have h:=hx
   have e:x.op=5∨x.op=6∨x.op=7∨x.op=8∨x.op=9:=by omega
   rcases e with e|e|e|e|e<;>simp[fM,e] at h<;>omega
  obtain⟨k,hk⟩:∃k:Nat,x.n=k:=⟨x.n.toNat,by omega⟩
  have hk8:k<8:=by omega
  have hkl:k<c.f.length:=by rw[hc.len];omega
  have hget:=O3 c hkl (d:=.junk)
  have htake:=Mb c hkl
  have hvm:=gT va0 hkl
  have hvs:=hc.size _ hvm
  have hxs:=CP hx
  have hle1:=x8 (c.f.getD k va0) x.v hvs hxs
  have hle2:=x8 x.v (c.f.getD k va0) hxs hvs
  have hho:=EJ (c.f.getD k va0) x.v hvs hxs
  have hlb:cE c g x=(if x.op=5 then !decide ((c.f.getD k va0).kd=0)
   else if x.op=6 then decide (c.f.getD k va0=x.v)
   else if x.op=7 then kV (c.f.getD k va0) x.v
   else if x.op=8 then kV x.v (c.f.getD k va0)
   else lT (c.f.getD k va0) x.v):=by
   unfold cE
   rw[if_neg oM,if_neg oM,if_neg oM,hk]
   simp only[Int.toNat_natCast]
   by_cases e5:x.op=5
   ·rw[if_pos e5,if_pos e5]
   ·rw[if_neg e5,if_neg e5]
    by_cases e6:x.op=6
    ·rw[if_pos e6,if_pos e6]
    ·rw[if_neg e6,if_neg e6]
     by_cases e7:x.op=7
     ·rw[if_pos e7,if_pos e7]
     ·rw[if_neg e7,if_neg e7]
      by_cases e8:x.op=8
      ·rw[if_pos e8,if_pos e8]
      ·rw[if_neg e8,if_neg e8,if_pos oM]
  rw[hlb]
  rw[hcells] at hget htake hlen hcell ⊢
  clear hlab hgrp hlb
  generalize c.f.getD k va0=v at hget htake hvs hle1 hle2 hho ⊢
  have hop:x.op=5∨x.op=6∨x.op=7∨x.op=8∨x.op=9:=by omega
  rcases hop with h|h|h|h|h
  all_goals
   simp(config:={ decide:=true }) only[h,if_true,if_false]
   repeat' first|(with_reducible first|refine up hle1 ?_|refine up hle2 ?_|refine up hho ?_)|(refine wO ?_;intros)|refine wZ7 @Tryz.f175.eq_1 @h @hk @hget @htake @hlen @hcell ?_|exact wC7 @Tryz.f175.eq_1 @h @hk @hget @htake @hlen @hcell|fail
  ·exact C6
  ·refine aJ mixed dK (fun _ _=>some ⟨[],fun r=>r=.bool (kV v x.v),none⟩) ?_
   repeat' first|(with_reducible refine aH rfl hle1 ?_)|refine wZ6 @h @hk @hget @htake @hlen @hcell ?_|exact wC6 @h @hk @hget @htake @hlen @hcell|fail
  ·refine aJ mixed dK (fun _ _=>some ⟨[],fun r=>r=.bool (kV x.v v),none⟩) ?_
   repeat' first|(with_reducible refine aH rfl hle2 ?_)|refine wZ6 @h @hk @hget @htake @hlen @hcell ?_|exact wC6 @h @hk @hget @htake @hlen @hcell|fail
  ·refine aJ mixed dK (fun _ _=>some ⟨[],fun r=>r=.bool (lT v x.v),none⟩) ?_
   repeat' first|(with_reducible refine aH rfl hho ?_)|refine wZ6 @h @hk @hget @htake @hlen @hcell ?_|exact wC6 @h @hk @hget @htake @hlen @hcell|fail
 ·have hlb:cE c g x=(if x.op=1 then true else if x.op=3 then hasB c.lab x.n else if x.op=4 then hasB g x.n else false):=by
   unfold cE
   rw[if_neg (show ¬x.op=5 by omega),if_neg (show ¬x.op=6 by omega),if_neg (show ¬x.op=7 by omega),if_neg (show ¬x.op=8 by omega),if_neg (show ¬x.op=9 by omega)]
  rw[hlb]
  have hff:=zV c.f
  have hfl:=Dx c.f
  rw[hc.len] at hfl
  simp only[CD.c]
  generalize fcs c.f=ff at hff hfl ⊢
  have n5:x.op≠5:=by omega
  have n6:x.op≠6:=by omega
  have n7:x.op≠7:=by omega
  have n8:x.op≠8:=by omega
  have n9:x.op≠9:=by omega
  clear hlb hcell hcells hlen h5
  by_cases e1:x.op=1
  ·rw[if_pos e1]
   repeat' first|(with_reducible first|refine up hlab ?_|refine up hgrp ?_)|(refine wO ?_;intros)|refine wZ3 @Tryz.f175.eq_1 @hff @hfl ?_|exact wC3 @Tryz.f175.eq_1 @hff @hfl|fail
  ·rw[if_neg e1]
   by_cases e3:x.op=3
   ·rw[if_pos e3]
    repeat' first|(with_reducible first|refine up hlab ?_|refine up hgrp ?_)|(refine wO ?_;intros)|refine wZ3 @Tryz.f175.eq_1 @hff @hfl ?_|exact wC3 @Tryz.f175.eq_1 @hff @hfl|fail
   ·rw[if_neg e3]
    by_cases e4:x.op=4
    ·rw[if_pos e4]
     repeat' first|(with_reducible first|refine up hlab ?_|refine up hgrp ?_)|(refine wO ?_;intros)|refine wZ3 @Tryz.f175.eq_1 @hff @hfl ?_|exact wC3 @Tryz.f175.eq_1 @hff @hfl|fail
    ·rw[if_neg e4]
     repeat' first|(with_reducible first|refine up hlab ?_|refine up hgrp ?_)|(refine wO ?_;intros)|refine wZ3 @Tryz.f175.eq_1 @hff @hfl ?_|exact wC3 @Tryz.f175.eq_1 @hff @hfl|fail
set_option maxHeartbeats 8000000 in
theorem mU (c:CD) (hc:CF c) (g:Nat) (hg:g<4294967296):∀(t:T),Good t→t.fl.length≤1000→∀(tt:Bool),
  aA Tryz.prog 90 [.lst 5 (t.fl.map ND.c) tt,.agg c.c,.int .u32 (g:Int)] St.none (fun r _=>r=.bool (t.sem (cE c g)))
 | .leaf x,h,hl,tt=>by
  refine(mB 61 [.tmp 6] Tryz.func90 ?_)
  have hk:=oP (.leaf x) h.1 hl tt
  have hp:x.op≠10∧x.op≠11∧x.op≠12:=by
   refine⟨fun e=>?_,fun e=>?_,fun e=>?_⟩<;>(have h:=h.1;simp only[T.ok,e] at h;revert h;decide)
  obtain⟨p1,p2,p3⟩:=hp
  have hlf:=Kl x (h.2 x (by simp[T.fl])) c hc g hg
  have hcell:=qO c
  have hlen:=tC c
  rw[hc.len] at hlen
  have ht27:List.take 27 c.c=c.c:=List.take_of_length_le oM
  have e:(T.leaf x).sem (cE c g)=cE c g x:=by
   by_cases h1:x.op=1
   ·simp[T.sem,cE,h1]
   ·by_cases h2:x.op=2
    ·simp[T.sem,cE,h2]
    ·simp[T.sem,h1,h2]
  rw[e]
  generalize c.c=cells at hcell hlen ht27 hlf ⊢
  simp only[T.fl,T.kl,T.kids,List.map_cons,List.map_nil] at hk ⊢
  repeat' first|(with_reducible first|refine up hk ?_|refine up hlf ?_)|(refine wO ?_;intros)|refine wZ3 @Tryz.f90.eq_1 @hcell @hlen ?_|fail
  refine aJ mixed dK (fun _ _=>some ⟨[],fun r=>r=.bool (cE c g x),none⟩) ?_
  repeat' first|(with_reducible refine aH rfl hlf ?_)|refine wZ3 @hcell @hlen @ht27 ?_|exact wC3 @hcell @hlen @ht27|fail
 | .one x a,h,hl,tt=>by
  refine(mB 61 [.tmp 6] Tryz.func90 ?_)
  have hk:=oP (.one x a) h.1 hl tt
  have h1:=CU h.1.1
  have hla:a.fl.length≤1000:=by simp only[T.fl,List.length_cons] at hl;omega
  have ih:=mU c hc g hg a (z6.1 h).2.2 hla false
  have hcell:=qO c
  have hlen:=tC c
  rw[hc.len] at hlen
  have ht27:List.take 27 c.c=c.c:=List.take_of_length_le oM
  generalize c.c=cells at hcell hlen ht27 ih ⊢
  simp only[T.fl,T.kl,T.kids,List.map_cons,List.map_nil] at hk ⊢
  repeat' first|(with_reducible first|refine up hk ?_|refine up ih ?_)|(refine wO ?_;intros)|refine wZ4 @Tryz.f90.eq_1 @h1 @hcell @hlen ?_|fail
  refine aJ mixed dK (fun _ _=>some ⟨[],fun r=>r=.bool (a.sem (cE c g)),none⟩) ?_
  repeat' first|(with_reducible refine aH rfl ih ?_)|refine wZ3 @hcell @hlen @ht27 ?_|fail
  simp[T.sem]
 | .two x a b,h,hl,tt=>by
  refine(mB 61 [.tmp 6] Tryz.func90 ?_)
  have hk:=oP (.two x a b) h.1 hl tt
  obtain⟨q1,_,ga,gb⟩:=z7.1 h
  have hla:a.fl.length≤1000∧b.fl.length≤1000:=by simp only[T.fl,List.length_cons,List.length_append] at hl;omega
  have iha:=mU c hc g hg a ga hla.1 false
  have ihb:=mU c hc g hg b gb hla.2 false
  have hs:(T.two x a b).sem (cE c g)=if x.op=11 then a.sem (cE c g)&&b.sem (cE c g) else a.sem (cE c g) || b.sem (cE c g):=by
   by_cases e:x.op=11<;>simp[T.sem,e]
  rw[hs]
  have hcell:=qO c
  have hlen:=tC c
  rw[hc.len] at hlen
  have ht27:List.take 27 c.c=c.c:=List.take_of_length_le oM
  generalize c.c=cells at hcell hlen ht27 iha ihb ⊢
  obtain⟨C,hC⟩:∃C,C=kn [(90,[.lst 5 (a.fl.map ND.c) false,.agg cells,.int .u32 (g:Int)],⟨[],fun v=>v=.bool (a.sem (cE c g)),none⟩),(90,[.lst 5 (b.fl.map ND.c) false,.agg cells,.int .u32 (g:Int)],⟨[],fun v=>v=.bool (b.sem (cE c g)),none⟩)]:=⟨_,rfl⟩
  have fa:C 90 [.lst 5 (a.fl.map ND.c) false,.agg cells,.int .u32 (g:Int)]=some ⟨[],fun v=>v=.bool (a.sem (cE c g)),none⟩:=by rw[hC];exact vR
  have fb:C 90 [.lst 5 (b.fl.map ND.c) false,.agg cells,.int .u32 (g:Int)]=some ⟨[],fun v=>v=.bool (b.sem (cE c g)),none⟩:=by
   rw[hC]
   refine Li (fun h=>?_) vR
   have h:=h.2
   simp only[List.cons.injEq,MV.lst.injEq,true_and,and_true] at h
   rw[WA ga.1 gb.1 (GQ h)]
  clear hC hs
  generalize a.sem (cE c g)=sa at iha fa ⊢
  generalize b.sem (cE c g)=sb at ihb fb ⊢
  simp only[T.fl,T.kl,T.kids,List.map_cons,List.map_nil] at hk ⊢
  rcases CV q1 with h1|h1<;>rw[h1]
  ·rw[if_pos rfl]
   cases sa
   all_goals
    repeat' first|(with_reducible first|refine up hk ?_|refine up iha ?_|refine up ihb ?_)|(refine wO ?_;intros)|refine wZ4 @Tryz.f90.eq_1 @h1 @hcell @hlen ?_|fail
    refine aJ mixed dK C ?_
    repeat' first|(with_reducible refine aH fa iha ?_)|(with_reducible refine aH fb ihb ?_)|refine wZ3 @hcell @hlen @ht27 ?_|exact wC3 @hcell @hlen @ht27|fail
    all_goals (first|rfl|(cases sb<;>rfl))
  ·rw[if_neg (by decide)]
   cases sa
   all_goals
    repeat' first|(with_reducible first|refine up hk ?_|refine up iha ?_|refine up ihb ?_)|(refine wO ?_;intros)|refine wZ4 @Tryz.f90.eq_1 @h1 @hcell @hlen ?_|fail
    refine aJ mixed dK C ?_
    repeat' first|(with_reducible refine aH fa iha ?_)|(with_reducible refine aH fb ihb ?_)|refine wZ3 @hcell @hlen @ht27 ?_|fail
    all_goals (first|rfl|(cases sb<;>rfl))
end
end Go.Proofs.YtppdgejjmhdjhaaGreatDoor
