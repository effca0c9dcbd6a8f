/- Parts of the proof; conditions: as its theorems name them. -/
import Derived.Test.YtppdgejjmhdjhaaGreatDoorMaz
set_option linter.unusedVariables false
set_option linter.unusedSimpArgs false
set_option maxHeartbeats 8000000
set_option maxRecDepth 100000
namespace Go.Proofs.YtppdgejjmhdjhaaGreatDoor
section
theorem Ew(v f sm:Nat)(mk:UInt32)(floor now:Int)(log:MV):aA Tryz.prog 22 [.ptr v 0 0] (St.none.set v (vwO f mk sm floor now log)) (fun r σ'=>r=.int .i64 floor∧σ'=St.none.set v (vwO f mk sm floor now log)):=by
 refine(mB 9 [.tmp 2] Tryz.func22 ?_)
 repeat' first|refine wZ1 @Tryz.f22.eq_1 ?_|exact wC1 @Tryz.f22.eq_1|fail
 all_goals exact⟨rfl,rfl⟩
structure S2 where
 bk:BK
 fl:List ND
 mask:UInt32
abbrev S2.c(s:S2):List MV:=s.bk.c++[.lst 5 (s.fl.map ND.c) false,.int .u32 (s.mask.toNat:Int)]
end

section
structure ASK where
 frm:Int
 cur:Int
 page:Int
 trim:Int
abbrev ASK.c(q:ASK):List MV:=[.int .i64 q.frm,.int .i64 q.cur,.int .i64 q.page,.int .i64 q.trim]
theorem Xr{n:Nat}{x:List MV}(h:CT Tryz.prog (n+2) 28 x):∃d:ASK,x=d.c:=by
 obtain⟨hl,hf⟩:=lN (congrArg TD.k Ul) h
 rw[Ul] at hl
 obtain⟨a,ha,_⟩:=AE (hf (0,3) (by simp))
 obtain⟨b,hb,_⟩:=AE (hf (1,3) (by simp))
 obtain⟨c,hc,_⟩:=AE (hf (2,3) (by simp))
 obtain⟨d,hd,_⟩:=AE (hf (3,3) (by simp))
 simp only[td3] at ha hb hc hd
 refine⟨⟨a,b,c,d⟩,?_⟩
 rw[oS hl [(0,1),(1,1),(2,1),(3,1)] rfl]
 simp only[yK,ha,hb,hc,hd]
 rfl
theorem Xi{m:MV}(h:AT Tryz.prog 10 28 m):∃s:ASK,m=.agg s.c:=by
 obtain⟨cs,rfl,h1⟩:=O0 (by rw[Ul];rfl) h
 obtain⟨x,rfl⟩:=Xr (n:=8) h1
 exact⟨x,rfl⟩
end

section
def jJ(l:List TU):List Int:=l.foldl (fun a t=>jE a t.id) []
def jQ:List TU→Int→Option Int
 | [],_=>none
 | t::l,id=>if t.id=id then some t.old else jQ l id
def iK:List TU→Int→Option TU
 | [],_=>none
 | t::l,id=>match iK l id with
  | some v=>some v
  | none=>if t.id=id then some t else none
def kU(old:Int)(t:TU):Option IT :=
 if old=t.new then none else if old=0 then some ⟨1,t.card⟩ else if t.new=0 then some ⟨2,{ ca0 with id:=t.id }⟩ else some ⟨3,t.card⟩
def itS(l:List TU)(id:Int):List IT:=match jQ l id,iK l id with
 | some o,some t=>(kU o t).toList
 | _,_=>[]
def lZ(l:List TU):List IT:=(jJ l).flatMap (itS l)
def upS(l:List TU)(from_ to_ cur:Int):List TU:=l.filter fun t=>decide (from_<t.sq∧t.sq≤to_∧t.id≤cur)
def nF(l:List TU)(pg:Nat):Nat→Nat
 | 0=>0
 | n+1=>if (lZ (l.take (n+1))).length≤pg then n+1 else nF l pg n
def pgN(page:Int):Nat:=(max page 0).toNat
def Fo(l:List TU)(now:Int)(n:Nat):List IT × Int:=(lZ (l.take n),if n=l.length then now else(l.getD n tuZ).sq - 1)
def zQ(l:List TU)(from_ now cur page:Int):List IT × Int :=
 Fo (upS l from_ now cur) now (nF (upS l from_ now cur) (pgN page) (upS l from_ now cur).length)
def TOk(t:TU):Prop:=t.new≠0→t.card.id=t.id
theorem nG(l:List TU)(t:TU):jJ (l++[t])=jE (jJ l) t.id:=by
 unfold jJ
 rw[List.foldl_append];rfl
theorem lI{α:Type}{P:List α→Prop}(h0:P [])(h1:∀l x,P l→P (l++[x])):∀l,P l:=fun l=>by
 have:∀n,n≤l.length→P (l.take n):=fun n=>by
  induction n with
  | zero=>intro _;exact h0
  | succ n ih =>
   intro h
   obtain⟨x,hx⟩:=bU l (by omega:n<l.length)
   rw[aZ hx]
   exact h1 _ _ (ih oM)
 have h:=this l.length (Nat.le_refl _)
 rwa [List.take_length] at h
theorem DG:∀l:List TU,UpI (jJ l):=lI .nil fun l x h=>by rw[nG];exact Rk h
theorem pN{id:Int}:∀l:List TU,id∈jJ l↔id∈l.map TU.id:=lI (by simp[jJ]) fun l x h=>by
 rw[nG,Eu,h,List.map_append]
 simp[or_comm]
theorem jR:∀(l:List TU) (x:TU) (id:Int),jQ (l++[x]) id=(jQ l id).or (if x.id=id then some x.old else none)
 | [],x,id=>by simp[jQ]
 | t::l,x,id=>by
  rw[List.cons_append,jQ,jQ,jR l x id]
  split<;>simp
theorem fK:∀(l:List TU) (x:TU) (id:Int),iK (l++[x]) id=if x.id=id then some x else iK l id
 | [],x,id=>by simp[iK]
 | t::l,x,id=>by
  rw[List.cons_append,iK,fK l x id,iK]
  by_cases h:x.id=id
  ·rw[if_pos h,if_pos h]
  ·rw[if_neg h,if_neg h]
theorem iL:∀{l:List TU} {id:Int},jQ l id=none↔id∉l.map TU.id
 | [],id=>by simp[jQ]
 | t::l,id=>by
  rw[jQ]
  by_cases h:t.id=id
  ·simp[h]
  ·have h':¬id=t.id:=fun e=>h e.symm
   rw[if_neg h,iL,List.map_cons,List.mem_cons]
   simp[h']
theorem sD{id:Int}:∀l:List TU,iK l id=none↔id∉l.map TU.id:=lI (by simp[iK]) fun l x h=>by
 rw[fK,List.map_append]
 by_cases e:x.id=id
 ·rw[if_pos e];simp[e]
 ·have e':¬id=x.id:=fun q=>e q.symm
  rw[if_neg e,h];simp[e']
theorem Cw{id:Int}{t:TU}:∀l:List TU,iK l id=some t→t∈l∧t.id=id:=lI (by simp[iK]) fun l x h=>by
 rw[fK]
 by_cases e:x.id=id
 ·rw[if_pos e]
  rintro h
  cases h
  exact⟨by simp,e⟩
 ·rw[if_neg e]
  intro q
  exact⟨List.mem_append.2 (.inl (h q).1),(h q).2⟩
theorem JL{id:Int}:∀l:List TU,fS l id=(iK l id).map TU.new:=lI rfl fun l x h=>by
 rw[jP,fK]
 split
 ·rfl
 ·exact h
theorem DJ(l:List TU)(id:Int):(itS l id).length≤1:=by
 unfold itS
 split
 ·unfold kU
  split
  ·simp
  ·split
   ·simp
   ·split<;>simp
 ·simp
theorem IW{l:List TU}(hl:∀t,t∈l→TOk t){id:Int}{x:IT}(hx:x∈itS l id):x.c.id=id:=by
 unfold itS at hx
 split at hx
 ·rename_i o t ho ht
  obtain⟨h1,h2⟩:=Cw l ht
  have:=hl t h1
  unfold kU at hx
  split at hx
  ·simp at hx
  ·split at hx
   ·rename_i q1 q2
    simp only[Option.toList_some,List.mem_singleton] at hx
    subst hx
    simp only
    rw[this oM,h2]
   ·split at hx
    ·simp only[Option.toList_some,List.mem_singleton] at hx
     subst hx
     exact h2
    ·rename_i q3
     simp only[Option.toList_some,List.mem_singleton] at hx
     subst hx
     simp only
     rw[this q3,h2]
 ·simp at hx
theorem Ay(l:List TU):(lZ l).length≤(jJ l).length:=by
 unfold lZ
 generalize jJ l=ids
 induction ids with
 | nil=>simp
 | cons a r ih =>
  rw[List.flatMap_cons,List.length_append,List.length_cons]
  have:=DJ l a
  omega
theorem tM:∀l:List TU,(jJ l).length≤l.length:=lI (Nat.le_refl _) fun l x h=>by
 rw[nG,List.length_append,List.length_singleton]
 unfold jE
 split
 ·omega
 ·rw[List.length_append,List.length_cons,List.length_take,List.length_drop]
  omega
theorem QV:lZ []=[]:=rfl
theorem K7{f:Int→List IT}(hf:∀i x,x∈f i→x.c.id=i)(h1:∀i,(f i).length≤1):∀{ids:List Int},UpI ids→UpI ((ids.flatMap f).map fun x=>x.c.id)
 | [],_=>.nil
 | i::r,h=>by
  obtain⟨q1,q2⟩:=List.pairwise_cons.1 h
  have ih:=K7 hf h1 q2
  rw[List.flatMap_cons,List.map_append]
  refine List.pairwise_append.2 ⟨?_,ih,fun a ha b hb=>?_⟩
  ·have hl:=h1 i
   cases hfi:f i with
   | nil=>exact .nil
   | cons a t =>
    rw[hfi] at hl
    simp only[List.length_cons] at hl
    obtain rfl:t=[]:=List.eq_nil_of_length_eq_zero oM
    exact List.pairwise_singleton _ _
  ·obtain⟨x,hx,rfl⟩:=List.mem_map.1 ha
   obtain⟨y,hy,rfl⟩:=List.mem_map.1 hb
   obtain⟨j,hj,hy⟩:=List.mem_flatMap.1 hy
   rw[hf i x hx,hf j y hy]
   exact q1 j hj
theorem MB(l:List TU)(pg n:Nat):nF l pg (n+1)=if (lZ (l.take (n+1))).length≤pg then n+1 else nF l pg n:=rfl
theorem Dy(l:List TU)(pg:Nat):∀n,nF l pg n≤n
 | 0=>Nat.le_refl _
 | n+1=>by
  unfold nF
  split
  ·exact Nat.le_refl _
  ·exact Nat.le_succ_of_le (Dy l pg n)
theorem Cl(l:List TU)(pg:Nat):∀n,(lZ (l.take (nF l pg n))).length≤pg
 | 0=>by unfold nF;simp[QV]
 | n+1=>by
  unfold nF
  split
  ·assumption
  ·exact Cl l pg n
theorem Cm(l:List TU)(pg:Nat):∀n k,nF l pg n<k→k≤n→pg<(lZ (l.take k)).length
 | 0,k,h1,h2=>by omega
 | n+1,k,h1,h2=>by
  unfold nF at h1
  split at h1
  ·omega
  ·rename_i h
   by_cases hk:k=n+1
   ·subst hk;omega
   ·exact Cm l pg n k h1 oM
end

section
def Chn(l:List TU):Prop:=∀a t b,l=a++t::b→(fS a t.id).getD t.old=t.old
theorem Chn.take{l:List TU}(h:Chn l)(n:Nat):Chn (l.take n):=fun a t b e=>by
 refine h a t (b++l.drop n) ?_
 rw[←List.cons_append,←List.append_assoc,←e,List.take_append_drop]
theorem Chn.at{l:List TU}(h:Chn l){i:Nat}{t:TU}(hi:l[i]?=some t):(fS (l.take i) t.id).getD t.old=t.old :=
 h (l.take i) t (l.drop (i+1)) (by rw[←Dp hi,List.take_append_drop])
theorem KS:Chn []:=fun a t b e=>by cases a<;>cases e
theorem Fg{l:List TU}{t:TU}(h:Chn l)(ht:(fS l t.id).getD t.old=t.old):Chn (l++[t]):=fun a u b e=>by
 rcases List.eq_nil_or_concat b with rfl|⟨b',z,rfl⟩
 ·obtain⟨rfl,e2⟩:=List.append_inj' e rfl
  cases e2
  exact ht
 ·rw[List.concat_eq_append,←List.cons_append,←List.append_assoc] at e
  obtain⟨rfl,e2⟩:=List.append_inj' e rfl
  exact h a u b' rfl
theorem Pb{l:List TU}{t:TU}(h:Chn (l++[t])):Chn l∧(fS l t.id).getD t.old=t.old :=
 ⟨by have:=h.take l.length;rwa [List.take_left' rfl] at this,h l t [] rfl⟩
theorem vN{l:List TU}{t:TU}{id:Int}(h:t.id≠id):itS (l++[t]) id=itS l id:=by
 unfold itS
 rw[jR,fK,if_neg h,if_neg h,Option.or_none]
theorem lR{f g:Int→List IT}:∀{ids:List Int},(∀i,i∈ids→f i=g i)→ids.flatMap f=ids.flatMap g
 | [],_=>rfl
 | i::r,h=>by rw[List.flatMap_cons,List.flatMap_cons,h i (List.mem_cons_self ..),lR fun j hj=>h j (List.mem_cons_of_mem _ hj)]
theorem PO{l:List TU}{id:Int}(h:id∉l.map TU.id):itS l id=[]:=by
 unfold itS
 rw[iL.2 h]
theorem vO(o:Int)(t:TU):((kU o t).toList.length:Int)=if t.new≠o then 1 else 0:=by
 unfold kU
 by_cases h:o=t.new
 ·rw[if_pos h,if_neg (by simpa using h.symm)];rfl
 ·rw[if_neg h,if_pos (fun e=>h e.symm)]
  split
  ·rfl
  ·split<;>rfl
theorem N2{l:List TU}{t:TU}(hc:(fS l t.id).getD t.old=t.old) :
  ((lZ (l++[t])).length:Int)=((lZ l).length:Int) - (if t.old≠(jQ l t.id).getD t.old then 1 else 0)+if t.new≠(jQ l t.id).getD t.old then 1 else 0:=by
 by_cases hm:t.id∈l.map TU.id
 ·have hi:t.id∈jJ l:=(pN l).2 hm
  obtain⟨o,ho⟩:∃o,jQ l t.id=some o:=by
   cases h:jQ l t.id with
   | none=>exact absurd hm (iL.1 h)
   | some o=>exact⟨o,rfl⟩
  obtain⟨u,hu⟩:∃u,iK l t.id=some u:=by
   cases h:iK l t.id with
   | none=>exact absurd hm ((sD l).1 h)
   | some o=>exact⟨o,rfl⟩
  rw[JL,hu] at hc
  simp only[Option.map_some,Option.getD_some] at hc
  have hu':UpI ((jJ l).map _root_.id):=by rw[List.map_id];exact DG l
  obtain⟨y,a,b,e,hy,-,ha,hb⟩:=nK (f:=_root_.id) (x:=t.id) hu' (by rw[List.map_id];exact hi)
  simp only[_root_.id] at hy ha hb
  subst hy
  unfold lZ
  rw[nG,show jE (jJ l) t.id=jJ l from if_pos hi,e,List.flatMap_append,List.flatMap_append,List.flatMap_cons,List.flatMap_cons,
   lR (g:=itS l) (fun i h=>vN (by have:=ha i h;omega)),lR (ids:=b) (g:=itS l) (fun i h=>vN (by have:=hb i h;omega))]
  have e1:itS l t.id=(kU o u).toList:=by unfold itS;rw[ho,hu]
  have e2:itS (l++[t]) t.id=(kU o t).toList:=by unfold itS;rw[jR,fK,ho];simp
  have n1:=vO o u
  have n2:=vO o t
  rw[←e1,hc] at n1
  rw[←e2] at n2
  rw[ho,Option.getD_some,←n1,←n2]
  simp only[List.length_append]
  omega
 ·have hi:t.id∉jJ l:=fun h=>hm ((pN l).1 h)
  have ho:=iL.2 hm
  have e0:itS (l++[t]) t.id=(kU t.old t).toList:=by unfold itS;rw[jR,fK,if_pos rfl,ho];simp
  have n2:=vO t.old t
  rw[←e0] at n2
  unfold lZ
  rw[nG,show jE (jJ l) t.id=_ from if_neg hi,List.flatMap_append,List.flatMap_cons]
  have hc1:∀i,i∈jJ l→itS (l++[t]) i=itS l i:=fun i h=>vN fun e=>hi (e ▸ h)
  rw[lR (g:=itS l) fun i h=>hc1 i (List.mem_of_mem_take h),lR (ids:=(jJ l).drop _) (g:=itS l) fun i h=>hc1 i (List.mem_of_mem_drop h)]
  have hs:((jJ l).flatMap (itS l)).length=((((jJ l).take (aR (jJ l) t.id)).flatMap (itS l))++(((jJ l).drop (aR (jJ l) t.id)).flatMap (itS l))).length:=by rw[←List.flatMap_append,List.take_append_drop]
  rw[ho,Option.getD_none,if_neg (by simp),hs,←n2]
  simp only[List.length_append]
  omega
theorem uT(l:List TU)(x:TU)(f n c:Int):upS (l++[x]) f n c=if f<x.sq∧x.sq≤n∧x.id≤c then upS l f n c++[x] else upS l f n c:=by
 unfold upS
 rw[List.filter_append,List.filter_cons,List.filter_nil]
 split
 ·rename_i h;rw[if_pos (of_decide_eq_true h)]
 ·rename_i h;rw[if_neg (fun q=>h (decide_eq_true q)),List.append_nil]
theorem uU{l:List Int}{x:Int}:UpI (l++[x])↔UpI l∧∀y,y∈l→y<x:=by
 unfold UpI
 rw[List.pairwise_append]
 simp
theorem Us{f n c id:Int}(hid:id≤c):∀l:List TU,UpI (l.map TU.sq)→(∀u,u∈l→u.sq≤n)→fS (upS l f n c) id=none∨fS (upS l f n c) id=fS l id :=
 lI (fun _ _=>.inl rfl) fun l x ih hu hn=>by
  rw[List.map_append,List.map_cons,List.map_nil,uU] at hu
  have ih':=ih hu.1 fun u h=>hn u (List.mem_append.2 (.inl h))
  have hx:=hn x (by simp)
  rw[uT,jP]
  by_cases e:x.id=id
  ·rw[if_pos e]
   by_cases hf:f<x.sq
   ·rw[if_pos ⟨hf,hx,by omega⟩,jP,if_pos e]
    exact .inr rfl
   ·rw[if_neg fun h=>hf h.1]
    have:upS l f n c=[]:=List.filter_eq_nil_iff.2 fun u h=>by
     have:=hu.2 u.sq (List.mem_map.2 ⟨u,h,rfl⟩)
     simp only[decide_eq_true_eq]
     omega
    rw[this]
    exact .inl rfl
  ·rw[if_neg e]
   split
   ·rw[jP,if_neg e];exact ih'
   ·exact ih'
theorem U3{f n c:Int}:∀l:List TU,UpI (l.map TU.sq)→(∀u,u∈l→u.sq≤n)→Chn l→Chn (upS l f n c) :=
 lI (fun _ _ _=>KS) fun l x ih hu hn hc=>by
  rw[List.map_append,List.map_cons,List.map_nil,uU] at hu
  have hn':∀u,u∈l→u.sq≤n:=fun u h=>hn u (List.mem_append.2 (.inl h))
  obtain⟨h1,h2⟩:=Pb hc
  have ih':=ih hu.1 hn' h1
  rw[uT]
  split
  ·rename_i h
   refine Fg ih' ?_
   rcases Us (f:=f) (n:=n) h.2.2 l hu.1 hn' with q|q
   ·rw[q];rfl
   ·rw[q];exact h2
  ·exact ih'
theorem EZ{l:List TU}{f n c:Int}{t:TU}:t∈upS l f n c↔t∈l∧f<t.sq∧t.sq≤n∧t.id≤c:=by
 unfold upS
 rw[List.mem_filter,decide_eq_true_eq]
theorem LS(l:List TU)(f n c:Int):(upS l f n c).length≤l.length:=List.length_filter_le _ _
end

section
theorem Fy(f:F8):∀c,c∈fc f→c.aL=true:=List.all_eq_true.1 (dP f)
theorem J5(old:Int)(t:TU):aA Tryz.prog 231 [.int .i64 old,.agg t.c] St.none (fun r _=>r=.tup [.agg ((kU old t).getD it0).k,.bool (kU old t).isSome]):=by
 refine aA.bS (mB 29 [.cell 4 164,.tmp 5] Tryz.func231 ?_)
 have hfc:=Fy t.card.f
 unfold kU
 by_cases h1:old=t.new
 ·rw[if_pos h1]
  repeat' first|(refine wO ?_;intros)|refine wZ3 @Tryz.f231.eq_1 @FXs @hfc ?_|fail
  all_goals exact lE
 ·rw[if_neg h1]
  by_cases h2:old=0
  ·rw[if_pos h2]
   repeat' first|(refine wO ?_;intros)|refine wZ3 @Tryz.f231.eq_1 @FXs @hfc ?_|fail
   all_goals exact lE
  ·rw[if_neg h2]
   by_cases h3:t.new=0
   ·rw[if_pos h3]
    repeat' first|(refine wO ?_;intros)|refine wZ3 @Tryz.f231.eq_1 @FXs @hfc ?_|fail
    all_goals exact lE
   ·rw[if_neg h3]
    repeat' first|(refine wO ?_;intros)|refine wZ3 @Tryz.f231.eq_1 @FXs @hfc ?_|fail
    all_goals exact lE
theorem BP(t:TU)(f n c:Int):aA Tryz.prog 230 [.agg t.c,.int .i64 f,.int .i64 n,.int .i64 c] St.none (fun r _=>r=.bool (decide (f<t.sq∧t.sq≤n∧t.id≤c))):=by
 refine aA.bS (mB 25 [.tmp 8] Tryz.func230 ?_)
 by_cases h1:f<t.sq
 ·by_cases h2:t.sq≤n
  ·by_cases h3:t.id≤c
   ·rw[decide_eq_true ⟨h1,h2,h3⟩]
    repeat' first|(refine wO ?_;intros)|refine wZ2 @Tryz.f230.eq_1 @FXs ?_|fail
    all_goals first|exact⟨_,St.le_refl _,rfl⟩|exact⟨_,St.le_refl _⟩|(exfalso;omega)|(refine⟨_,St.le_refl _,?_⟩;simp[*])
   ·rw[decide_eq_false fun h=>h3 h.2.2]
    repeat' first|(refine wO ?_;intros)|refine wZ2 @Tryz.f230.eq_1 @FXs ?_|fail
    all_goals first|exact⟨_,St.le_refl _,rfl⟩|exact⟨_,St.le_refl _⟩|(exfalso;omega)|(refine⟨_,St.le_refl _,?_⟩;simp[*])
  ·rw[decide_eq_false fun h=>h2 h.2.1]
   repeat' first|(refine wO ?_;intros)|refine wZ2 @Tryz.f230.eq_1 @FXs ?_|fail
   all_goals first|exact⟨_,St.le_refl _,rfl⟩|exact⟨_,St.le_refl _⟩|(exfalso;omega)|(refine⟨_,St.le_refl _,?_⟩;simp[*])
 ·rw[decide_eq_false fun h=>h1 h.1]
  repeat' first|(refine wO ?_;intros)|refine wZ2 @Tryz.f230.eq_1 @FXs ?_|fail
  all_goals first|exact⟨_,St.le_refl _,rfl⟩|exact⟨_,St.le_refl _⟩|(exfalso;omega)|(refine⟨_,St.le_refl _,?_⟩;simp[*])
end

section
theorem Oz(B:BK)(fl:List ND)(id:Int):jG B fl id=((shown B fl id).getD ca0,(shown B fl id).isSome):=by
 unfold jG shown bB
 cases h:B.cards.find? (fun c=>decide (c.id=id)) with
 | none =>
  simp only
  rw[if_neg (fun q=>by have:=q.1;split at this<;>omega)]
  rfl
 | some c =>
  simp only[true_and]
  split<;>rfl
theorem jV{B:BK}{fl:List ND}{id:Int}{c:CA}(h:shown B fl id=some c):c∈B.cards∧c.id=id:=by
 unfold shown at h
 split at h
 ·cases h
 ·rename_i d hd
  split at h
  ·cases h
   exact⟨List.mem_of_find?_eq_some hd,by simpa using List.find?_some hd⟩
  ·cases h
theorem LJ(id v j:Int):∀sh:List (Int × Int),shG (shP sh id v) j=if j=id then v else shG sh j
 | []=>by
  unfold shP shG
  by_cases h:j=id
  ·rw[if_pos h.symm,if_pos h]
  ·rw[if_neg (Ne.symm h),if_neg h];rfl
 | (i,u)::r=>by
  have ih:=LJ id v j r
  unfold shP
  by_cases h1:i=id
  ·rw[if_pos h1]
   subst h1
   unfold shG
   by_cases h:j=i
   ·rw[if_pos h.symm,if_pos h]
   ·rw[if_neg (Ne.symm h),if_neg h,if_neg (Ne.symm h)]
  ·rw[if_neg h1]
   unfold shG
   rw[ih]
   by_cases h:i=j
   ·rw[if_pos h,if_pos h,if_neg oM]
   ·rw[if_neg h,if_neg h]
theorem HP{j:Int}:∀{sh:List (Int × Int)},j∉sh.map (·.1)→shG sh j=0
 | [],_=>rfl
 | (i,u)::r,h=>by
  rw[List.map_cons,List.mem_cons] at h
  unfold shG
  rw[if_neg fun e=>h (.inl e.symm)]
  exact HP fun q=>h (.inr q)
theorem LI(id j:Int):∀sh:List (Int × Int),(sh.map (·.1)).Nodup→shG (shD sh id) j=if j=id then 0 else shG sh j
 | [],_=>by
  unfold shD
  split<;>rfl
 | (i,u)::r,hn=>by
  obtain⟨n1,n2⟩:=List.nodup_cons.1 hn
  have ih:=LI id j r n2
  unfold shD
  by_cases h1:i=id
  ·rw[if_pos h1]
   subst h1
   by_cases h:j=i
   ·rw[if_pos h,h];exact HP n1
   ·rw[if_neg h]
    show _=shG ((i,u)::r) j
    rw[shG,if_neg (Ne.symm h)]
  ·rw[if_neg h1]
   unfold shG
   rw[ih]
   by_cases h:i=j
   ·rw[if_pos h,if_pos h,if_neg oM]
   ·rw[if_neg h,if_neg h]
theorem HQ(id v:Int):∀sh:List (Int × Int),(shP sh id v).map (·.1)=if id∈sh.map (·.1) then sh.map (·.1) else sh.map (·.1)++[id]
 | []=>by simp[shP]
 | (i,u)::r=>by
  unfold shP
  by_cases h1:i=id
  ·rw[if_pos h1,if_pos (by simp[h1])];rfl
  ·rw[if_neg h1,List.map_cons,HQ id v r]
   have h1':¬id=i:=fun e=>h1 e.symm
   by_cases h:id∈r.map (·.1)
   ·rw[if_pos h,if_pos (by rw[List.map_cons];exact List.mem_cons_of_mem _ h)];rfl
   ·rw[if_neg h,if_neg (by rw[List.map_cons,List.mem_cons];exact fun q=>q.elim h1' h)];rfl
theorem HO(id:Int):∀sh:List (Int × Int),((shD sh id).map (·.1)).Sublist (sh.map (·.1))
 | []=>.slnil
 | (i,u)::r=>by
  unfold shD
  split
  ·exact List.sublist_cons_self _ _
  ·exact(HO id r).cons_cons _
theorem JM{l:List Int}{x:Int}(h:l.Nodup)(hx:x∉l):(l++[x]).Nodup:=by
 rw[List.nodup_append]
 refine⟨h,by simp,fun a ha b hb=>?_⟩
 rw[List.mem_singleton] at hb
 exact fun e=>hx (by rw[←hb,←e];exact ha)
structure LInv (z:VS):Prop where
 ch:Chn z.log
 up:UpI (z.log.map TU.sq)
 now:∀t,t∈z.log→t.sq≤z.now
 tok:∀t,t∈z.log→TOk t
 idb:∀t,t∈z.log→1≤t.id∧t.id<1073741824
 new:∀id v,fS z.log id=some v→shG z.sh id=v
 key:(z.sh.map (·.1)).Nodup
 val:∀p,p∈z.sh→p.2≠0
 len:z.log.length≤40
 flo:z.floor≤z.now
 pos:0≤z.now
 sqb:∀t,t∈z.log→1≤t.sq
theorem JK{l:List TU}{id v:Int}(h:fS (l.drop 1) id=some v):fS l id=some v:=by
 cases l with
 | nil=>exact h
 | cons t l =>
  rw[List.drop_succ_cons,List.drop_zero] at h
  rw[fS,h]
theorem Chn.tail{l:List TU}(h:Chn l):Chn (l.drop 1):=fun a t b e=>by
 cases l with
 | nil=>cases a<;>cases e
 | cons u l =>
  rw[List.drop_succ_cons,List.drop_zero] at e
  have:=h (u::a) t b (by rw[e];rfl)
  cases hn:fS a t.id with
  | none=>rfl
  | some v =>
   rw[fS,hn] at this
   exact this
theorem CQ{log:List TU}{t:TU}:(gG log t).Sublist (log++[t]):=by
 unfold gG
 split
 ·exact List.Sublist.refl _
 ·exact List.drop_sublist _ _
theorem N4{log:List TU}{t:TU}(h:Chn (log++[t])):Chn (gG log t):=by
 unfold gG
 split
 ·exact h
 ·exact h.tail
theorem N5{log:List TU}{t:TU}{id v:Int}(h:fS (gG log t) id=some v):fS (log++[t]) id=some v:=by
 unfold gG at h
 split at h
 ·exact h
 ·exact JK h
theorem GS{floor now:Int}{log:List TU}{t:TU}(h:floor≤now)(hl:∀u,u∈log++[t]→u.sq≤now):kW floor log t≤now:=by
 unfold kW
 split
 ·exact h
 ·cases log with
  | nil=>exact hl t (by simp)
  | cons u r=>exact hl u (by simp)
noncomputable def jH(B:BK)(fl:List ND)(mk:UInt32)(old seq id:Int):TU:=iP seq old id (eB ((shown B fl id).getD ca0) mk) (shown B fl id).isSome
theorem xB(B:BK)(fl:List ND)(mk:UInt32)(old seq id:Int):(jH B fl mk old seq id).new=bR B fl id:=by
 unfold jH iP bR
 cases shown B fl id<;>rfl
theorem uO(B:BK)(fl:List ND)(mk:UInt32)(z:VS)(seq id:Int):iO B fl mk z seq id=if id=0 then { z with now:=seq } else
  ⟨if (shown B fl id).isSome=true then shP z.sh id (bR B fl id) else shD z.sh id,if shG z.sh id=bR B fl id then z.floor else kW z.floor z.log (jH B fl mk (shG z.sh id) seq id),seq,if shG z.sh id=bR B fl id then z.log else gG z.log (jH B fl mk (shG z.sh id) seq id)⟩:=by
 unfold iO
 split
 ·rfl
 ·have e:=xB B fl mk (shG z.sh id) seq id
  unfold jH at e ⊢
  simp only[Oz,e]
  rfl
theorem jX{B:BK}{fl:List ND}{id:Int}(h:shown B fl id=none):bR B fl id=0:=by
 unfold bR;rw[h];rfl
theorem uP{B:BK}{fl:List ND}{mk:UInt32}{z:VS}(hk:(z.sh.map (·.1)).Nodup)(seq id j:Int):shG (iO B fl mk z seq id).sh j=if id≠0∧j=id then bR B fl id else shG z.sh j:=by
 rw[uO]
 by_cases h0:id=0
 ·rw[if_pos h0,if_neg fun h=>h.1 h0]
 ·rw[if_neg h0]
  simp only
  cases hs:shown B fl id with
  | none =>
   simp only[Option.isSome_none,Bool.false_eq_true,if_false]
   rw[LI _ _ _ hk,jX hs]
   by_cases h:j=id
   ·rw[if_pos h,if_pos ⟨h0,h⟩]
   ·rw[if_neg h,if_neg fun q=>h q.2]
  | some c =>
   simp only[Option.isSome_some,if_true]
   rw[LJ]
   by_cases h:j=id
   ·rw[if_pos h,if_pos ⟨h0,h⟩]
   ·rw[if_neg h,if_neg fun q=>h q.2]
theorem LL{id v:Int}{p:Int × Int}:∀{sh:List (Int × Int)},p∈shP sh id v→p∈sh∨p.2=v
 | [],h=>.inr (by unfold shP at h;rw[List.mem_singleton] at h;rw[h])
 | (i,u)::r,h=>by
  unfold shP at h
  split at h
  ·rcases List.mem_cons.1 h with rfl|h
   ·exact .inr rfl
   ·exact .inl (List.mem_cons_of_mem _ h)
  ·rcases List.mem_cons.1 h with rfl|h
   ·exact .inl (List.mem_cons_self ..)
   ·exact(LL h).imp (List.mem_cons_of_mem _) fun q=>q
theorem LH(id:Int):∀sh:List (Int × Int),(shD sh id).Sublist sh
 | []=>.slnil
 | (i,u)::r=>by
  unfold shD
  split
  ·exact List.sublist_cons_self _ _
  ·exact(LH id r).cons_cons _
theorem y8{B:BK}(hb:BkW B){fl:List ND}{id:Int}(h:(shown B fl id).isSome=true):bR B fl id≠0:=by
 obtain⟨c,hc⟩:=Option.isSome_iff_exists.1 h
 obtain⟨⟨p1,p2,p3,p4,p5⟩,p6⟩:=fI (hb.cds c (jV hc).1).1
 unfold bR
 rw[hc,Option.getD_some]
 omega
theorem wQ{B:BK}(hb:BkW B){fl:List ND}{mk:UInt32}{z:VS}(hz:LInv z){seq id:Int}(hs:z.now<seq)(hid:id=0∨1≤id∧id<1073741824):LInv (iO B fl mk z seq id):=by
 have hsh:=fun j=>uP (B:=B) (fl:=fl) (mk:=mk) hz.key seq id j
 have hlen:=HY (B:=B) (fl:=fl) (mk:=mk) hz.len seq id
 rw[uO] at hsh hlen ⊢
 by_cases h0:id=0
 ·rw[if_pos h0]
  exact { hz with now:=fun t ht=>by have:=hz.now t ht;simp only;omega,flo:=by have:=hz.flo;simp only;omega,pos:=by have:=hz.pos;simp only;omega }
 rw[if_neg h0] at hsh hlen ⊢
 have hid':=hid.resolve_left h0
 simp only at hsh
 have hkey:((if (shown B fl id).isSome=true then shP z.sh id (bR B fl id) else shD z.sh id).map (·.1)).Nodup:=by
  split
  ·rw[HQ]
   split
   ·exact hz.key
   ·exact JM hz.key (by assumption)
  ·exact hz.key.sublist (HO id z.sh)
 have hval:∀p,p∈(if (shown B fl id).isSome=true then shP z.sh id (bR B fl id) else shD z.sh id)→p.2≠0:=fun p hp=>by
  split at hp
  ·rename_i q
   rcases LL hp with h|h
   ·exact hz.val p h
   ·rw[h];exact y8 hb q
  ·exact hz.val p ((LH id z.sh).subset hp)
 by_cases ho:shG z.sh id=bR B fl id
 ·simp only[if_pos ho] at hlen ⊢
  refine⟨hz.ch,hz.up,fun t ht=>by have:=hz.now t ht;simp only;omega,hz.tok,hz.idb,fun j v hv=>?_,hkey,hval,hlen,by have:=hz.flo;simp only;omega,by have:=hz.pos;simp only;omega,hz.sqb⟩
  simp only
  rw[hsh]
  split
  ·rename_i q;rw[←ho,←q.2];exact hz.new j v hv
  ·exact hz.new j v hv
 ·simp only[if_neg ho] at hlen ⊢
  obtain⟨T,hT⟩:∃T,jH B fl mk (shG z.sh id) seq id=T:=⟨_,rfl⟩
  have hTn:T.new=bR B fl id:=by rw[←hT];exact xB ..
  have hTi:T.id=id:=by rw[←hT];rfl
  have hTo:T.old=shG z.sh id:=by rw[←hT];rfl
  have hTs:T.sq=seq:=by rw[←hT];rfl
  have hTk:TOk T:=fun hne=>by
   rw[←hT] at hne ⊢
   unfold jH iP at hne ⊢
   cases hs':shown B fl id with
   | none=>rw[hs'] at hne;exact absurd rfl hne
   | some c=>exact(jV hs').2
  rw[hT] at hlen ⊢
  have hc:Chn (z.log++[T]):=Fg hz.ch (by
   rw[hTi,hTo]
   cases hn:fS z.log id with
   | none=>rfl
   | some v=>exact(hz.new id v hn).symm)
  have hsub:=CQ (log:=z.log) (t:=T)
  have hall:∀u,u∈z.log++[T]→u.sq≤seq:=fun u hu=>by
   rcases List.mem_append.1 hu with hu|hu
   ·have:=hz.now u hu;omega
   ·rw[List.mem_singleton] at hu;subst hu;omega
  refine⟨N4 hc,?_,fun u hu=>hall u (hsub.subset hu),fun u hu=>?_,fun u hu=>?_,fun j v hv=>?_,hkey,hval,hlen,GS (show z.floor≤seq by have:=hz.flo;omega) hall,show 0≤seq by have:=hz.pos;omega,fun u hu=>?_⟩
  ·refine List.Pairwise.sublist (hsub.map TU.sq) ?_
   rw[List.map_append]
   exact uU.2 ⟨hz.up,fun y hy=>by
    obtain⟨u,hu,rfl⟩:=List.mem_map.1 hy
    have:=hz.now u hu
    rw[hTs];omega⟩
  ·rcases List.mem_append.1 (hsub.subset hu) with hu|hu
   ·exact hz.tok u hu
   ·rw[List.mem_singleton] at hu;subst hu;exact hTk
  ·rcases List.mem_append.1 (hsub.subset hu) with hu|hu
   ·exact hz.idb u hu
   ·rw[List.mem_singleton] at hu;subst hu;rw[hTi];exact hid'
  ·have:=N5 hv
   rw[jP,hTi] at this
   simp only
   rw[hsh]
   by_cases e:id=j
   ·rw[if_pos e] at this
    rw[if_pos ⟨h0,e.symm⟩,←hTn]
    exact Option.some.inj this
   ·rw[if_neg e] at this
    rw[if_neg fun q=>e q.2.symm]
    exact hz.new j v this
  ·rcases List.mem_append.1 (hsub.subset hu) with hu|hu
   ·exact hz.sqb u hu
   ·rw[List.mem_singleton] at hu;subst hu;rw[hTs];have:=hz.pos;omega
end

section
theorem jU{B B':BK}{fl:List ND}{j:Int}(h1:B'.cards.find? (fun c=>decide (c.id=j))=B.cards.find? (fun c=>decide (c.id=j)))(h2:grB B'.gr j=grB B.gr j):shown B' fl j=shown B fl j:=by
 unfold shown
 rw[h1]
 cases h:B.cards.find? (fun c=>decide (c.id=j)) with
 | none=>rfl
 | some c =>
  have hc:c.id=j:=by simpa using List.find?_some h
  simp only[eR,hc,h2]
theorem Lg{j:Int}{l:List GR}{f:GR→GR}(h:∀x,x∈l→(f x).no=x.no∧(j∈(f x).mem↔j∈x.mem)):grB (l.map f) j=grB l j:=by
 unfold grB
 generalize 0=s
 induction l generalizing s with
 | nil=>rfl
 | cons x l ih =>
  have ih':=fun s=>ih (fun y hy=>h y (List.mem_cons_of_mem _ hy)) (s:=s)
  have hx:=h x (List.mem_cons_self ..)
  have:grF j s (f x)=grF j s x:=by
   unfold grF
   rw[hx.1]
   by_cases q:j∈x.mem
   ·rw[if_pos q,if_pos (hx.2.2 q)]
   ·rw[if_neg q,if_neg fun z=>q (hx.2.1 z)]
  rw[List.map_cons,List.foldl_cons,List.foldl_cons,this]
  exact ih' _
theorem Tc{j g:Int}{a b:List GR}:grB (a++⟨g,[]⟩::b) j=grB (a++b) j:=by
 unfold grB
 rw[List.foldl_append,List.foldl_cons,List.foldl_append]
 rfl
theorem DC{j g:Int}{l:List GR}(h:∀x,x∈l→x.no=g→j∉x.mem):grB (mC l g) j=grB l j:=by
 unfold grB mC
 generalize 0=s
 induction l generalizing s with
 | nil=>rfl
 | cons x l ih =>
  have ih':=fun s=>ih (s:=s) fun y hy=>h y (List.mem_cons_of_mem _ hy)
  rw[List.filter_cons]
  by_cases e:x.no=g
  ·rw[if_neg (by simpa using e),List.foldl_cons]
   have:grF j s x=s:=by unfold grF;rw[if_neg (h x (List.mem_cons_self ..) e)]
   rw[this]
   exact ih' s
  ·rw[if_pos (by simpa using e),List.foldl_cons,List.foldl_cons]
   exact ih' _
theorem DF{j g:Int}{m:List Int}{l:List GR}(h:∀x,x∈l→x.no=g→(j∈m↔j∈x.mem)):grB (eW l g m) j=grB l j:=by
 unfold eW
 refine Lg fun x hx=>?_
 by_cases e:x.no=g
 ·rw[if_pos e];exact⟨e.symm,h x hx e⟩
 ·rw[if_neg e];exact⟨rfl,Iff.rfl⟩
theorem qW{α:Type}{f:α→Int}{l:List α}(hu:UpI (l.map f)){x y:α}(hx:x∈l)(hy:y∈l)(h:f x=f y):x=y:=by
 induction l with
 | nil=>cases hx
 | cons z l ih =>
  rw[List.map_cons] at hu
  obtain⟨u1,u2⟩:=List.pairwise_cons.1 hu
  rcases List.mem_cons.1 hx with rfl|hx'<;>rcases List.mem_cons.1 hy with rfl|hy'
  ·rfl
  ·have:=u1 (f y) (List.mem_map.2 ⟨y,hy',rfl⟩);omega
  ·have:=u1 (f x) (List.mem_map.2 ⟨x,hx',rfl⟩);omega
  ·exact ih u2 hx' hy'
theorem oG{l:List GR}(hu:UpI (l.map GR.no)){x:GR}(hx:x∈l):bH l x.no=x.mem:=by
 obtain⟨y,h1,h2,h3,-⟩:=fQ hu (List.mem_map.2 ⟨x,hx,rfl⟩)
 rw[h3,qW (f:=GR.no) hu h1 hx h2]
theorem S5{l:List CA}{j:Int}{p:CA→Bool}(h:∀c,c∈l→c.id=j→p c=true):(l.filter p).find? (fun c=>decide (c.id=j))=l.find? (fun c=>decide (c.id=j)):=by
 induction l with
 | nil=>rfl
 | cons c l ih =>
  have ih':=ih fun d hd=>h d (List.mem_cons_of_mem _ hd)
  rw[List.filter_cons]
  by_cases e:c.id=j
  ·rw[if_pos (h c (List.mem_cons_self ..) e),List.find?_cons,List.find?_cons]
   simp[e]
  ·split
   ·rw[List.find?_cons,List.find?_cons,ih']
   ·rw[List.find?_cons,ih'];simp[e]
theorem S6{l:List CA}{i j:Int}{x:CA}(hx:x.id=i)(h:j≠i):(wrC l i x).find? (fun c=>decide (c.id=j))=l.find? (fun c=>decide (c.id=j)):=by
 unfold wrC
 induction l with
 | nil=>rfl
 | cons c l ih =>
  rw[List.map_cons,List.find?_cons,List.find?_cons,ih]
  by_cases e:c.id=i
  ·rw[if_pos e]
   have h1:¬x.id=j:=fun q=>h (q.symm.trans hx)
   have h2:¬c.id=j:=fun q=>h (q.symm.trans e)
   simp[h1,h2]
  ·rw[if_neg e]
theorem iV{B:BK}(hb:BkW B)(x:ED)(fl:List ND) :
  (doE B x≠0∧doC B x=[]∧doB B x=B) ∨
  (doE B x=0∧∃i,doC B x=[i]∧(i=0∨1≤i∧i<1073741824)∧∀j,j≠i∨i=0→shown (doB B x) fl j=shown B fl j) ∨
  (doE B x=0∧doC B x=bH B.gr x.gr++[0]∧x.gr∈B.gr.map GR.no∧doB B x={ B with gr:=mC B.gr x.gr,sq:=B.sq+((bH B.gr x.gr).length+1:Nat) }):=by
 have err:∀{e:Int},e≠0→doT B x=(e,B,[])→(doE B x≠0∧doC B x=[]∧doB B x=B):=fun he h=>⟨by unfold doE;rw[h];exact he,by unfold doC;rw[h],lQ h⟩
 have one:∀{B':BK} {i:Int},doT B x=(0,B',[i])→(i=0∨1≤i∧i<1073741824)→(∀j,j≠i∨i=0→B'.cards.find? (fun c=>decide (c.id=j))=B.cards.find? (fun c=>decide (c.id=j))∧grB B'.gr j=grB B.gr j) →
   (doE B x=0∧∃i,doC B x=[i]∧(i=0∨1≤i∧i<1073741824)∧∀j,j≠i∨i=0→shown (doB B x) fl j=shown B fl j):=fun {B' i} h h1 h2 =>
  ⟨by unfold doE;rw[h],i,by unfold doC;rw[h],h1,fun j hj=>jU (by unfold doB;rw[h];exact(h2 j hj).1) (by unfold doB;rw[h];exact(h2 j hj).2)⟩
 by_cases he:aQ x=0
 rotate_left
 ·exact .inl (err he (by unfold doT;rw[if_pos he]))
 by_cases hs:1099511627676<B.sq
 ·exact .inl (err (e:=8) (by decide) (by unfold doT;rw[if_neg (by simpa using he),if_pos hs]))
 obtain⟨e1,e2,e3,e4,e5⟩:=bP he
 have hT:doT B x=doT B x:=rfl
 conv at hT=>rhs;unfold doT
 rw[if_neg (by simpa using he),if_neg hs] at hT
 have hn1:=hb.nx1
 by_cases k1:x.kd=1
 ·rw[if_pos k1] at hT
  by_cases hf:48≤B.cards.length∨1073741824≤B.nx
  ·rw[if_pos hf] at hT;exact .inl (err (by decide) hT)
  ·rw[if_neg hf] at hT
   refine .inr (.inl (one hT (.inr oM) fun j hj=>⟨?_,rfl⟩))
   have hj:j≠B.nx:=by rcases hj with h|h<;>omega
   have h0:¬B.nx=j:=fun q=>hj q.symm
   rw[List.find?_append]
   have:([bY B.nx x.p]:List CA).find? (fun c=>decide (c.id=j))=none:=by
    rw[List.find?_eq_none]
    intro c hc
    rw[List.mem_singleton] at hc
    subst hc
    rw[decide_eq_false (show ¬(bY B.nx x.p).id=j from h0)];exact Bool.false_ne_true
   rw[this,Option.or_none]
 rw[if_neg k1] at hT
 by_cases k2:x.kd=2
 ·rw[if_pos k2] at hT
  by_cases h1:(bB B.cards B.dead x.id).2=0
  rotate_left
  ·rw[if_pos h1] at hT;exact .inl (err h1 hT)
  rw[if_neg (by simpa using h1)] at hT
  by_cases h2:1099511627776≤(bB B.cards B.dead x.id).1.ver
  ·rw[if_pos h2] at hT;exact .inl (err (by decide) hT)
  rw[if_neg h2] at hT
  have hi:=e4 (by rw[k2];rfl)
  refine .inr (.inl (one hT (.inr hi) fun j hj=>⟨?_,rfl⟩))
  have hj:j≠x.id:=by rcases hj with h|h<;>omega
  exact S6 (pL h1).2 hj
 rw[if_neg k2] at hT
 by_cases k3:x.kd=3
 ·rw[if_pos k3] at hT
  by_cases h1:(bB B.cards B.dead x.id).2=0
  rotate_left
  ·rw[if_pos h1] at hT;exact .inl (err h1 hT)
  rw[if_neg (by simpa using h1)] at hT
  have hi:=e4 (by rw[k3];rfl)
  refine .inr (.inl (one hT (.inr hi) fun j hj=>?_))
  have hj:j≠x.id:=by rcases hj with h|h<;>omega
  refine⟨S5 fun c _ hc=>by simp[hc,hj],?_⟩
  unfold lvG
  exact Lg fun y _=>⟨rfl,by simp only;rw[pH];exact⟨fun q=>q.1,fun q=>⟨q,hj⟩⟩⟩
 rw[if_neg k3] at hT
 by_cases k4:x.kd=4
 ·rw[if_pos k4] at hT
  by_cases h1:x.gr∈B.gr.map GR.no
  ·rw[if_pos h1] at hT;exact .inl (err (by decide) hT)
  ·rw[if_neg h1] at hT
   refine .inr (.inl (one hT (.inl rfl) fun j hj=>⟨rfl,?_⟩))
   simp only[vY]
   rw[Tc,List.take_append_drop]
 rw[if_neg k4] at hT
 by_cases k5:x.kd=5
 ·rw[if_pos k5] at hT
  by_cases h1:x.gr∈B.gr.map GR.no
  ·rw[if_pos h1] at hT
   exact .inr (.inr ⟨by unfold doE;rw[hT],by unfold doC;rw[hT],h1,by unfold doB;rw[hT];simp⟩)
  ·rw[if_neg h1] at hT;exact .inl (err (by decide) hT)
 rw[if_neg k5] at hT
 have hset:∀{m:List Int} {j:Int},(j∈m↔j∈bH B.gr x.gr)→grB (eW B.gr x.gr m) j=grB B.gr j:=fun h=>DF fun y hy e=>by rw[h,←e,oG hb.upg hy]
 by_cases k6:x.kd=6
 ·rw[if_pos k6] at hT
  by_cases h1:(bB B.cards B.dead x.id).2=0
  rotate_left
  ·rw[if_pos h1] at hT;exact .inl (err h1 hT)
  rw[if_neg (by simpa using h1)] at hT
  by_cases h2:x.gr∈B.gr.map GR.no
  rotate_left
  ·rw[if_pos h2] at hT;exact .inl (err (by decide) hT)
  rw[if_neg (by simpa using h2)] at hT
  by_cases h3:x.id∈bH B.gr x.gr
  ·rw[if_pos h3] at hT;exact .inl (err (by decide) hT)
  rw[if_neg h3] at hT
  have hi:=e4 (by rw[k6];rfl)
  refine .inr (.inl (one hT (.inr hi) fun j hj=>⟨rfl,hset ?_⟩))
  have hj:j≠x.id:=by rcases hj with h|h<;>omega
  rw[Eu]
  exact⟨fun q=>q.resolve_left hj,.inr⟩
 ·rw[if_neg k6] at hT
  by_cases h2:x.gr∈B.gr.map GR.no
  rotate_left
  ·rw[if_pos h2] at hT;exact .inl (err (by decide) hT)
  rw[if_neg (by simpa using h2)] at hT
  by_cases h3:x.id∈bH B.gr x.gr
  rotate_left
  ·rw[if_pos h3] at hT;exact .inl (err (by decide) hT)
  rw[if_neg (by simpa using h3)] at hT
  have hi:=e4 (by rw[show x.kd=7 by omega];rfl)
  refine .inr (.inl (one hT (.inr hi) fun j hj=>⟨rfl,hset ?_⟩))
  have hj:j≠x.id:=by rcases hj with h|h<;>omega
  rw[pH]
  exact⟨fun q=>q.1,fun q=>⟨q,hj⟩⟩
end

section
def mT(l:List GR)(g id:Int):List GR:=if g∈l.map GR.no∧id∈bH l g then eW l g (dF (bH l g) id) else l
def cX(B:BK)(g:Int):List (Int × Int)→List BK
 | []=>[]
 | x::r=>⟨x.1,B.nx,B.cards,B.dead,mT B.gr g x.2⟩::cX ⟨x.1,B.nx,B.cards,B.dead,mT B.gr g x.2⟩ g r
def cJ(B:BK)(x:ED):List BK:=if doE B x≠0 then[] else cX B x.gr (cT B.sq (doC B x)).dropLast++[doB B x]
noncomputable def nU(was now:BK)(fl:List ND)(mk:UInt32)(z:VS)(seq id:Int):VS :=
 if id=0 then { z with now:=seq } else
  { z with floor:=if bR was fl id=bR now fl id then z.floor else kW z.floor z.log (jH now fl mk (bR was fl id) seq id),now:=seq,log:=if bR was fl id=bR now fl id then z.log else gG z.log (jH now fl mk (bR was fl id) seq id) }
noncomputable def Ch(fl:List ND)(mk:UInt32):VS→BK→List BK→List (Int × Int)→VS
 | z,was,n::r,x::s=>Ch fl mk (nU was n fl mk z x.1 x.2) n r s
 | z,_,_,_=>z
def zE(z w:VS):Prop:=z.floor=w.floor∧z.now=w.now∧z.log=w.log
structure L2 (B:BK) (fl:List ND) (z:VS):Prop extends LInv z where
 sh:∀j,shG z.sh j=bR B fl j
 at_:z.now=B.sq
theorem mA{B B':BK}{fl:List ND}{j:Int}(h:shown B fl j=shown B' fl j):bR B fl j=bR B' fl j:=by unfold bR;rw[h]
theorem wR(B:BK)(fl:List ND)(mk:UInt32)(z:VS)(seq id:Int):(iO B fl mk z seq id).now=seq:=by
 rw[uO]
 split<;>rfl
theorem wU{B was now:BK}{fl:List ND}{mk:UInt32}{z w:VS}(h:zE z w){seq id:Int}(hs:id≠0→shG z.sh id=bR was fl id∧shown B fl id=shown now fl id):zE (iO B fl mk z seq id) (nU was now fl mk w seq id):=by
 obtain⟨h1,h2,h3⟩:=h
 rw[uO]
 unfold nU
 by_cases h0:id=0
 ·rw[if_pos h0,if_pos h0]
  exact⟨h1,rfl,h3⟩
 ·rw[if_neg h0,if_neg h0]
  obtain⟨q1,q2⟩:=hs h0
  have q3:=mA (fl:=fl) q2
  have q4:jH B fl mk (bR was fl id) seq id=jH now fl mk (bR was fl id) seq id:=by unfold jH;rw[q2]
  refine⟨?_,rfl,?_⟩
  ·simp only[q1,q3,q4,h1,h3]
  ·simp only[q1,q3,q4,h1,h3]
theorem Uj{s:Int}{l:List Int}:cT s (l++[0])≠[]:=by
 cases l<;>simp[cT]
theorem Dk{l:List GR}{g:Int}{m:List Int}:mC (eW l g m) g=mC l g:=by
 unfold mC eW
 induction l with
 | nil=>rfl
 | cons x l ih =>
  rw[List.map_cons,List.filter_cons,List.filter_cons,ih]
  by_cases e:x.no=g
  ·rw[if_pos e];simp[e]
  ·rw[if_neg e]
theorem Al{l:List GR}(hu:UpI (l.map GR.no)){g:Int}(hg:g∈l.map GR.no)(m:List Int):bH (eW l g m) g=m:=by
 obtain⟨y,h1,h2,-,-⟩:=fQ hu hg
 have hy:(⟨g,m⟩:GR)∈eW l g m:=List.mem_map.2 ⟨y,h1,by rw[if_pos h2]⟩
 exact oG (l:=eW l g m) (by rw[lG];exact hu) hy
theorem Cf{m:Int}{r:List Int}(hu:UpI (m::r)):dF (m::r) m=r:=by
 obtain⟨u1,u2⟩:=List.pairwise_cons.1 hu
 unfold dF
 rw[List.filter_cons,if_neg (by simp),List.filter_eq_self]
 intro y hy
 have:=u1 y hy
 simp;omega
theorem A9(B:BK)(fl:List ND)(mk:UInt32)(z:VS)(x:Int × Int)(l:List (Int × Int)):eF B fl mk z (x::l)=eF B fl mk (iO B fl mk z x.1 x.2) l:=rfl
theorem Cc{F:BK}(hF:BkW F){fl:List ND}{mk:UInt32}{g:Int}:∀(ms:List Int) (B:BK) (z w:VS) (s:Int),LInv z→(∀j,shG z.sh j=bR B fl j)→z.now=s→zE z w→B.cards=F.cards→UpI (B.gr.map GR.no)→g∈B.gr.map GR.no→bH B.gr g=ms→UpI ms→(∀m,m∈ms→1≤m∧m<1073741824)→mC B.gr g=F.gr →
  LInv (eF F fl mk z (cT s (ms++[0])))∧(∀j,shG (eF F fl mk z (cT s (ms++[0]))).sh j=bR F fl j)∧(eF F fl mk z (cT s (ms++[0]))).now=s+(ms.length+1:Nat)∧zE (eF F fl mk z (cT s (ms++[0]))) (Ch fl mk w B (cX B g (cT s (ms++[0])).dropLast++[F]) (cT s (ms++[0])))
 | [],B,z,w,s,hz,hsh,hn,h3,hc,hu,hg,hm,_,_,hcl=>by
  have hx:∀x,x∈B.gr→x.no=g→x.mem=[]:=fun x hx e=>by rw[←oG hu hx,e,hm]
  have hsame:∀j,shown F fl j=shown B fl j:=fun j=>jU (by rw[hc]) (by rw[←hcl];exact DC fun x h e=>by rw[hx x h e];exact List.not_mem_nil)
  have hl:cT s (([]:List Int)++[0])=[(s+1,0)]:=rfl
  rw[hl]
  refine⟨wQ (fl:=fl) (mk:=mk) hF hz oM (.inl rfl),fun j=>?_,?_,?_⟩
  ·rw[A9]
   show shG (iO F fl mk z (s+1) 0).sh j=_
   rw[uP hz.key,if_neg fun h=>h.1 rfl,hsh]
   exact(mA (fl:=fl) (hsame j)).symm
  ·exact wR F fl mk z (s+1) 0
  ·exact wU (B:=F) (was:=B) (now:=F) (fl:=fl) (mk:=mk) h3 fun h=>absurd rfl h
 | m::r,B,z,w,s,hz,hsh,hn,h3,hc,hu,hg,hm,hum,hmb,hcl=>by
  obtain⟨u1,u2⟩:=List.pairwise_cons.1 hum
  have hm0:=hmb m (List.mem_cons_self ..)
  have hl:cT s ((m::r)++[0])=(s+1,m)::cT (s+1) (r++[0]):=rfl
  have hq:mT B.gr g m=eW B.gr g r:=by
   unfold mT
   rw[if_pos ⟨hg,by rw[hm];exact List.mem_cons_self ..⟩,hm,Cf hum]
  have hd:((s+1,m)::cT (s+1) (r++[0])).dropLast=(s+1,m)::(cT (s+1) (r++[0])).dropLast:=List.dropLast_cons_of_ne_nil Uj
  obtain⟨B',hB'⟩:∃B':BK,B'=⟨s+1,B.nx,B.cards,B.dead,mT B.gr g m⟩:=⟨_,rfl⟩
  have hgr':B'.gr=eW B.gr g r:=by rw[hB'];exact hq
  have hcd':B'.cards=B.cards:=by rw[hB']
  have hin:∀x,x∈eW B.gr g r→x.no=g→x.mem=r:=fun x hx e=>by
   have:=oG (l:=eW B.gr g r) (by rw[lG];exact hu) hx
   rw[e,Al hu hg] at this
   exact this.symm
  have hmr:m∉r:=fun h=>by have:=u1 m h;omega
  have hFm:shown F fl m=shown B' fl m:=jU (by rw[hcd',hc]) (by rw[←hcl,hgr',←Dk (m:=r)];exact DC fun x hx e=>by rw[hin x hx e];exact hmr)
  have hBj:∀j,j≠m→shown B' fl j=shown B fl j:=fun j hj=>jU (by rw[hcd']) (by
   rw[hgr']
   refine DF fun x hx e=>?_
   rw[←oG hu hx,e,hm,List.mem_cons]
   exact⟨.inr,fun h=>h.resolve_left hj⟩)
  rw[hl,hd,A9,cX,←hB',List.cons_append,Ch]
  have key:=Cc (fl:=fl) (mk:=mk) hF r B' (iO F fl mk z (s+1) m) (nU B B' fl mk w (s+1) m) (s+1) (wQ (fl:=fl) (mk:=mk) hF hz oM (.inr hm0)) (fun j=>by
   rw[uP hz.key]
   by_cases e:j=m
   ·rw[if_pos ⟨by omega,e⟩,e];exact mA (fl:=fl) hFm
   ·rw[if_neg fun h=>e h.2,hsh];exact(mA (fl:=fl) (hBj j e)).symm) (wR F fl mk z (s+1) m) (wU h3 fun _=>⟨hsh m,hFm⟩) (by rw[hcd',hc]) (by rw[hgr',lG];exact hu) (by rw[hgr',lG];exact hg) (by rw[hgr',Al hu hg]) u2 (fun y hy=>hmb y (List.mem_cons_of_mem _ hy)) (by rw[hgr',Dk,hcl])
  refine⟨key.1,key.2.1,by rw[key.2.2.1,List.length_cons];omega,key.2.2.2⟩
theorem IE(B:BK)(x:ED):(doB B x).sq=B.sq+((doC B x).length:Int):=rfl
theorem Mx{B:BK}(hb:BkW B){fl:List ND}{mk:UInt32}{z w:VS}(hz:L2 B fl z)(h3:zE z w)(x:ED) :
  L2 (doB B x) fl (eF (doB B x) fl mk z (cT B.sq (doC B x)))∧zE (eF (doB B x) fl mk z (cT B.sq (doC B x))) (Ch fl mk w B (cJ B x) (cT B.sq (doC B x))):=by
 have hw:=doW hb x
 rcases iV hb x fl with⟨e1,e2,e3⟩|⟨e1,i,e2,e3,e4⟩|⟨e1,e2,e3,e4⟩
 ·unfold cJ
  rw[if_pos e1,e2,e3]
  exact⟨hz,h3⟩
 ·unfold cJ
  have hsq:=IE B x
  rw[e2] at hsq
  rw[if_neg (by simpa using e1),e2]
  have hl:cT B.sq [i]=[(B.sq+1,i)]:=rfl
  rw[hl]
  have hlt:z.now<B.sq+1:=by rw[hz.at_];omega
  refine⟨⟨wQ hw hz.toLInv hlt e3,fun j=>?_,by rw[hsq];exact wR ..⟩,?_⟩
  ·show shG (iO (doB B x) fl mk z (B.sq+1) i).sh j=_
   rw[uP hz.key]
   by_cases e:i≠0∧j=i
   ·rw[if_pos e,e.2]
   ·rw[if_neg e,hz.sh]
    refine(mA (e4 j ?_)).symm
    by_cases h:j=i
    ·exact .inr (Classical.byContradiction fun q=>e ⟨q,h⟩)
    ·exact .inl h
  ·exact wU h3 fun _=>⟨hz.sh i,rfl⟩
 ·obtain⟨m1,m2⟩:=tT hb x.gr
  obtain⟨y,hy,-,hym,-⟩:=fQ hb.upg e3
  obtain⟨c1,c2,c3,c4⟩:=Cc hw (fl:=fl) (mk:=mk) (g:=x.gr) (bH B.gr x.gr) B z w B.sq hz.toLInv hz.sh hz.at_ h3 (by rw[e4]) hb.upg e3 rfl m1 (fun m hm=>by rw[hym] at hm;exact hb.mid y hy m hm) (by rw[e4])
  unfold cJ
  rw[if_neg (by simpa using e1),e2]
  exact⟨⟨c1,c2,by rw[c3,e4]⟩,c4⟩
theorem Vj{B:BK}(hb:BkW B)(fl:List ND):UpI (Tg B fl):=by
 unfold Tg
 exact hb.ups.sublist (List.Sublist.map _ List.filter_sublist)
end

section
structure E4 (l:List TU) (es:List (MV × MV)):Prop where
 k:(es.all fun p=>isK .i64 p.1)=true
 o:L0 es
 g:∀id,dQ id es=(jQ l id).map fun n=>.int .i64 n
 n:es.length≤l.length
structure KM (l:List TU) (es:List (MV × MV)):Prop where
 k:(es.all fun p=>isK .i64 p.1)=true
 g:∀id,dQ id es=(iK l id).map fun t=>.agg t.c
theorem GW:E4 [] []:=⟨rfl,List.nodup_nil,fun _=>rfl,Nat.le_refl _⟩
theorem MU:KM [] []:=⟨rfl,fun _=>rfl⟩
theorem GU{l:List TU}{es:List (MV × MV)}(h:E4 l es){t:TU}(ht:jQ l t.id=none):E4 (l++[t]) (dG .i64 t.id (.int .i64 t.old) es):=by
 refine⟨tN h.k,CR h.k h.o,fun id=>?_,?_⟩
 ·rw[qU h.k,jR]
  by_cases e:id=t.id
  ·subst e;rw[if_pos rfl,ht,if_pos rfl];rfl
  ·rw[if_neg e,if_neg (Ne.symm e),Option.or_none];exact h.g id
 ·have:=Ab (n:=t.id) (v:=.int .i64 t.old) (es:=es)
  have:=h.n
  rw[List.length_append,List.length_singleton]
  omega
theorem GX{l:List TU}{es:List (MV × MV)}(h:E4 l es){t:TU}{o:Int}(ht:jQ l t.id=some o):E4 (l++[t]) es:=by
 refine⟨h.k,h.o,fun id=>?_,?_⟩
 ·rw[h.g,jR]
  by_cases e:t.id=id
  ·subst e;rw[ht];rfl
  ·rw[if_neg e,Option.or_none]
 ·have:=h.n
  rw[List.length_append,List.length_singleton]
  omega
theorem I2{l:List TU}{es:List (MV × MV)}(h:KM l es)(t:TU):KM (l++[t]) (dG .i64 t.id (.agg t.c) es):=by
 refine⟨tN h.k,fun id=>?_⟩
 rw[qU h.k,fK]
 by_cases e:id=t.id
 ·subst e;simp
 ·rw[if_neg e,if_neg (Ne.symm e)];exact h.g id
theorem VU{a b:List Int}(ha:UpI a)(hb:UpI b)(h:∀x,x∈a↔x∈b):a=b:=by
 have nd:∀{l:List Int},UpI l→l.Nodup:=fun h=>h.imp fun h=>by omega
 have hp:a.Perm b:=(List.perm_ext_iff_of_nodup (nd ha) (nd hb)).2 h
 exact List.Perm.eq_of_pairwise (le:=fun a b:Int=>a≤b) (fun a b _ _ h1 h2=>Int.le_antisymm h1 h2) (ha.imp fun h=>by omega) (hb.imp fun h=>by omega) hp
theorem N7{l:List TU}{es:List (MV × MV)}(h:E4 l es){ns:List Int}(hp:ns.Perm (eV es))(hs:ns.Pairwise (fun a b=>a≤b)):ns=jJ l:=by
 have hn:ns.Nodup:=hp.nodup_iff.2 h.o
 refine VU ?_ (DG l) fun x=>?_
 ·have:=hs.and hn
  exact this.imp fun⟨h1,h2⟩=>by omega
 ·rw[hp.mem_iff,qX h.k,h.g,pN]
  simp only[ne_eq,Option.map_eq_none_iff,iL,Classical.not_not]
theorem VB{l:List TU}{i:Nat}{id:Int}(h:(jJ l)[i]?=some id):∃o t,jQ l id=some o∧iK l id=some t∧itS l id=(kU o t).toList:=by
 have hm:id∈l.map TU.id:=(pN l).1 (List.mem_of_getElem? h)
 obtain⟨o,ho⟩:∃o,jQ l id=some o:=by
  cases h:jQ l id with
  | none=>exact absurd hm (iL.1 h)
  | some o=>exact⟨o,rfl⟩
 obtain⟨u,hu⟩:∃u,iK l id=some u:=by
  cases h:iK l id with
  | none=>exact absurd hm ((sD l).1 h)
  | some o=>exact⟨o,rfl⟩
 exact⟨o,u,ho,hu,by unfold itS;rw[ho,hu]⟩
theorem QU(l:List TU)(ids:List Int):(ids.flatMap (itS l)).length≤ids.length:=by
 induction ids with
 | nil=>simp
 | cons a r ih =>
  rw[List.flatMap_cons,List.length_append,List.length_cons]
  have:=DJ l a
  omega
theorem Oj(l:List TU)(hl:l.length≤1000000)(hid:∀t,t∈l→1≤t.id∧t.id<1073741824)(tt:Bool):aA Tryz.prog 174 [.lst 31 (l.map TU.c) tt] St.none (fun r _=>r=.lst 28 ((lZ l).map IT.k) false):=by
 refine aA.seen (mB 66 [.tmp 2] Tryz.func174 ?_)
 repeat' first|(refine wM ?_;(first|(have _:=nl2)|(have _:=nl1;intro nl2)|(intro nl1));intros)|refine wZ1 @Tryz.f174.eq_1 ?_|fail
 have n21:nl2≠nl1:=by assumption
 have n12:=Ne.symm n21
 refine aF (α:=Nat × List (MV × MV) × List (MV × MV)) (fun z=>⟨66,[(18,.int .i64 (z.1:Int)),(17,.int .i64 (l.length:Int)),(16,.lst 31 (l.map TU.c) tt),(3,.mapv nl1),(4,.mapv nl2)],[]⟩)
  (fun z=>(St.none.set nl1 (.mp z.2.1)).set nl2 (.mp z.2.2)) (fun z=>z.1≤l.length∧E4 (l.take z.1) z.2.1∧KM (l.take z.1) z.2.2) (fun z=>l.length - z.1) (.of (.less ?_ (St.le_refl _)) ⟨(0,[],[]),rfl,rfl,Nat.zero_le _,GW,MU⟩) ?_
 ·exact wW
 ·rintro⟨i,e1,e2⟩ ⟨hi,hM,hL⟩
  simp only at hi hM hL ⊢
  by_cases hlt:i<l.length
  ·obtain⟨x,hx⟩:=bU l hlt
   have hat:=bN (f:=TU.c) hx
   have hN:=I2 hL x
   rw[←aZ hx] at hN
   have hg:=hM.g x.id
   have hk1:=hM.k
   have hk2:=hL.k
   cases ho:jQ (l.take i) x.id with
   | none =>
    rw[ho,Option.map_none] at hg
    have hO:=GU hM ho
    rw[←aZ hx] at hO
    repeat' first|(refine wM ?_;(first|(have _:=nl3)|(intro nl3));intros)|refine wZ9 @FXs @hat @hg @hk1 @hk2 @Option.getD_some.{0} @Option.getD_none.{0} @Option.isSome_some.{0} @Option.isSome_none.{0} ?_|fail
    all_goals (try (exfalso;omega))
    all_goals
     refine .of (.less ?_ (σ1:=(St.none.set nl1 (.mp (dG .i64 x.id (.int .i64 x.old) e1))).set nl2 (.mp (dG .i64 x.id (.agg x.c) e2))) (le2 sS sS)) ⟨(i+1,dG .i64 x.id (.int .i64 x.old) e1,dG .i64 x.id (.agg x.c) e2),rfl,rfl,⟨by simp only;omega,hO,hN⟩,by simp only;omega⟩
     exact wW
   | some o =>
    rw[ho,Option.map_some] at hg
    have hO:=GX hM ho
    rw[←aZ hx] at hO
    repeat' first|(refine wM ?_;(first|(have _:=nl3)|(intro nl3));intros)|refine wZ9 @FXs @hat @hg @hk1 @hk2 @Option.getD_some.{0} @Option.getD_none.{0} @Option.isSome_some.{0} @Option.isSome_none.{0} ?_|fail
    all_goals (try (exfalso;omega))
    all_goals
     refine .of (.less ?_ (σ1:=(St.none.set nl1 (.mp e1)).set nl2 (.mp (dG .i64 x.id (.agg x.c) e2))) (le2 sS sS)) ⟨(i+1,e1,dG .i64 x.id (.agg x.c) e2),rfl,rfl,⟨by simp only;omega,hO,hN⟩,by simp only;omega⟩
     exact wW
  ·obtain rfl:i=l.length:=by omega
   rw[List.take_length] at hM hL
   have hk:=IY nl1
   have hs:∀{b:Nat},b≠nl1→aA Tryz.prog 96 [.fn (.func 182) [] [.ptr b 0 0]] ((St.none.set b (.row 131 1 [[.mapv nl1]])).set nl1 (.mp e1)) fun r σ' =>
     r=.lst 1 ((jJ l).map aP) false∧σ'=(St.none.set b (.row 131 1 [[.mapv nl1]])).set nl1 (.mp e1):=fun {b} hb=>by
    refine(BZ hb hM.k (fun n hn=>?_) (by have:=hM.n;omega)).mono fun r σ' h=>?_
    ·have:n∈l.map TU.id:=Classical.byContradiction fun hnn=>by
      have:=(qX hM.k).1 hn
      rw[hM.g,iL.2 hnn] at this
      exact this rfl
     obtain⟨t,h1,rfl⟩:=List.mem_map.1 this
     have:=hid t h1
     exact H8 oM
    ·obtain⟨⟨ns,h1,h2,rfl⟩,rfl⟩:=h
     rw[N7 hM h1 h2]
     exact⟨rfl,rfl⟩
   have hil:=tM l
   have hnat:=fun {i:Nat} {id:Int}=>VB (l:=l) (i:=i) (id:=id)
   unfold lZ
   obtain⟨ids,hids⟩:∃ids,jJ l=ids:=⟨_,rfl⟩
   rw[hids] at hs hil ⊢
   rw[hids] at hnat
   have hM1:=hM.g
   have hL1:=hL.g
   have hpl:=QU l
   have hk1:=hM.k
   have hk2:=hL.k
   clear hM hL
   repeat' first|(refine gZ hk ?_;(intro b hb;simp only[aV] at hb;obtain⟨b1,b2,-⟩:=hb;have b1':=Ne.symm b1;have b2':=Ne.symm b2))|((refine b6 (hs (by assumption)) (le2 sS sS) ?_))|refine wZ0 ?_|fail
   refine aF (α:=Nat × Nat × List (List MV)) (fun s=>⟨66,[(45,.int .i64 (s.1:Int)),(44,.int .i64 (ids.length:Int)),(43,.lst 1 (ids.map aP) false),(3,.mapv nl1),(4,.mapv nl2),(9,.vec 28 s.2.1 0 ((ids.take s.1).flatMap (itS l)).length)],[]⟩)
    (fun s=>((St.none.set nl1 (.mp e1)).set nl2 (.mp e2)).set s.2.1 (.row 164 28 (((ids.take s.1).flatMap (itS l)).map IT.k++s.2.2))) (fun s=>s.1≤ids.length∧s.2.1≠nl1∧s.2.1≠nl2) (fun s=>ids.length - s.1) ?_ ?_
   ·refine Gh.AU 164 28 (fun r=>[(45,.int .i64 0),(44,.int .i64 (ids.length:Int)),(43,.lst 1 (ids.map aP) false),(42,.fn (.func 182) [] [.ptr b 0 0]),(41,.mapv nl1),(9,.vec 28 r 0 0),(19,.bool (decide ((l.length:Int)<l.length))),(18,.int .i64 (l.length:Int)),(17,.int .i64 (l.length:Int)),(16,.lst 31 (l.map TU.c) tt),(3,.mapv nl1),(4,.mapv nl2)]) (fun k=>by(repeat' (refine And.intro ?_ ?_))<;>first|exact trivial|exact .inl rfl|exact .inr ⟨rfl,.inl rfl⟩|exact .inr ⟨rfl,.inr rfl⟩) fun r hr=>?_
    simp only[aV] at hr
    obtain⟨r1,r2,r3,-⟩:=hr
    have r2':=Ne.symm r2
    have r3':=Ne.symm r3
    refine .of (.less ?_ ?_) ⟨(0,r,[]),rfl,rfl,Nat.zero_le _,by assumption,by assumption⟩
    ·exact wW
    ·exact St.aB (le2 sS sS) sS
   ·rintro⟨j,q,ex⟩ ⟨hj,q1,q2⟩
    simp only at hj q1 q2 ⊢
    have q1':=Ne.symm q1
    have q2':=Ne.symm q2
    by_cases hlt:j<ids.length
    ·obtain⟨id,hx⟩:=bU ids hlt
     have hat:=bN (f:=aP) hx
     obtain⟨o,t,ho,ht,hit⟩:=hnat hx
     have hg1:=hM1 id
     have hg2:=hL1 id
     rw[ho,Option.map_some] at hg1
     rw[ht,Option.map_some] at hg2
     have hw:=J5 o t
     have hsn:(ids.take (j+1)).flatMap (itS l)=(ids.take j).flatMap (itS l)++(kU o t).toList:=by
      rw[aZ hx,List.flatMap_append,←hit];simp
     have hfl:((ids.take j).flatMap (itS l)).length≤j:=Nat.le_trans (hpl _) (by rw[List.length_take];omega)
     obtain⟨L,hL⟩:∃L,(ids.take j).flatMap (itS l)=L:=⟨_,rfl⟩
     rw[hL] at hsn hfl ⊢
     have htk:(L.map IT.k++ex).take L.length=L.map IT.k:=sU
     have hdr:(L.map IT.k++ex).drop (L.length+1)=ex.drop 1:=vG
     have hLl:(L.map IT.k).length=L.length:=List.length_map _
     have hmi:(ids.map aP).length=ids.length:=List.length_map _
     clear hM1 hL1 hnat hit hs
     cases hi:kU o t with
     | none =>
      rw[hi] at hw hsn
      simp only[Option.getD_none,Option.isSome_none,Option.toList_none,List.append_nil] at hw hsn
      repeat' first|(with_reducible first|refine up hw ?_)|(refine wM ?_;(first|(have _:=nl3)|(intro nl3));intros)|refine wZ11 @FXs @hat @hmi @hk1 @hk2 @hg1 @hg2 @Option.getD_some.{0} @Option.getD_none.{0} @Option.isSome_some.{0} @Option.isSome_none.{0} ?_|fail
      all_goals (try (exfalso;omega))
      all_goals
       refine .of (.less ?_ (σ1:=((St.none.set nl1 (.mp e1)).set nl2 (.mp e2)).set q (.row 164 28 (L.map IT.k++ex))) (St.aB (le2 sS sS) sS)) ⟨(j+1,q,ex),rfl,by simp only[hsn],⟨by simp only;omega,q1,q2⟩,by simp only;omega⟩
       simp only[hsn]
       exact wW
     | some x =>
      rw[hi] at hw hsn
      simp only[Option.getD_some,Option.isSome_some,Option.toList_some] at hw hsn
      have hnm:(L++[x]).map IT.k=L.map IT.k++[x.k]:=List.map_append
      repeat' first|(with_reducible first|refine up hw ?_)|(refine wM ?_;(first|(have _:=nl5)|(have _:=nl4;intro nl5)|(have _:=nl3;intro nl4)|(intro nl3));intros)|(refine wY ?_ ?_<;>intro h)|refine wZ14 @FXs @hat @hmi @hk1 @hk2 @hg1 @hg2 @hLl @htk @hdr @Option.getD_some.{0} @Option.getD_none.{0} @Option.isSome_some.{0} @Option.isSome_none.{0} ?_|fail
      all_goals (try (exfalso;omega))
      ·skip
       obtain rfl:ex=[]:=List.eq_nil_of_length_eq_zero oM
       clear h
       refine .of (.less ?_ (σ1:=((St.none.set nl1 (.mp e1)).set nl2 (.mp e2)).set nl5 (.row 164 28 ((L++[x]).map IT.k++[]))) ?_) ⟨(j+1,nl5,[]),rfl,by simp only[hsn],⟨by simp only;omega,by assumption,by assumption⟩,by simp only;omega⟩
       ·simp only[hsn,List.length_append,List.length_singleton]
        exact wW
       ·rw[hnm]
        exact St.aB (le2 sS sS) sS
      ·clear h
       refine .of (.less ?_ (σ1:=((St.none.set nl1 (.mp e1)).set nl2 (.mp e2)).set nl5 (.row 164 28 ((L++[x]).map IT.k++ex.drop 1))) ?_) ⟨(j+1,nl5,ex.drop 1),rfl,by simp only[hsn],⟨by simp only;omega,by assumption,by assumption⟩,by simp only;omega⟩
       ·simp only[hsn,List.length_append,List.length_singleton]
        exact wW
       ·rw[hnm]
        exact St.aB (le2 sS sS) sS
    ·obtain rfl:j=ids.length:=by omega
     rw[List.take_length]
     repeat' first|refine wZ0 ?_|fail
     all_goals exact fN (aD _ _ _) (by rw[List.length_map])
end

section
theorem MY{σ:St}{q:Nat}{o:aT}(h:σ q=none):σ.le (σ.set q o):=fun k o' hk=>by
 unfold St.set
 rw[if_neg (fun e=>by subst e;rw[h] at hk;cases hk)]
 exact hk
theorem Hr(g:Nat)(l:List TU)(hl:l.length≤1000000)(ex0:List (List MV))(f n c:Int):aA Tryz.prog 173 [.vec 31 g 0 l.length,.int .i64 f,.int .i64 n,.int .i64 c] (St.none.set g (lgO l ex0)) (fun r σ'=>r=.lst 31 ((upS l f n c).map TU.c) false∧σ'=St.none.set g (lgO l ex0)):=by
 refine aA.RL (Q:=fun σ'=>σ'=St.none.set g (lgO l ex0)) (mB 29 [.tmp 8] Tryz.func173 ?_)
 have hlm:(l.map TU.c).length=l.length:=List.length_map _
 unfold upS
 obtain⟨P,hP⟩:∃P:TU→Bool,(fun t:TU=>decide (f<t.sq∧t.sq≤n∧t.id≤c))=P:=⟨_,rfl⟩
 have hPx:∀t:TU,P t=decide (f<t.sq∧t.sq≤n∧t.id≤c):=fun t=>by rw[←hP]
 rw[hP]
 clear hP
 repeat' first|refine wZ1 @Tryz.f173.eq_1 ?_|fail
 refine aF (α:=Nat × Nat × List (List MV)) (fun s=>⟨29,[(14,.int .i64 (s.1:Int)),(13,.int .i64 (l.length:Int)),(12,.vec 31 g 0 l.length),(9,.vec 31 s.2.1 0 ((l.take s.1).filter P).length),(1,.int .i64 f),(2,.int .i64 n),(3,.int .i64 c)],[]⟩)
  (fun s=>(St.none.set g (lgO l ex0)).set s.2.1 (.row 128 31 (((l.take s.1).filter P).map TU.c++s.2.2))) (fun s=>s.1≤l.length∧s.2.1≠g) (fun s=>l.length - s.1) ?_ ?_
 ·refine Gh.AU 128 31 (fun r=>[(14,.int .i64 0),(13,.int .i64 (l.length:Int)),(12,.vec 31 g 0 l.length),(9,.vec 31 r 0 0),(1,.int .i64 f),(2,.int .i64 n),(3,.int .i64 c)]) (fun k=>by(repeat' (refine And.intro ?_ ?_))<;>first|exact trivial|exact .inl rfl|exact .inr ⟨rfl,.inl rfl⟩|exact .inr ⟨rfl,.inr rfl⟩) fun r hr=>?_
  simp only[aV] at hr
  exact .done ⟨(0,r,[]),rfl,rfl,Nat.zero_le _,hr.1⟩
 ·rintro⟨i,q,ex⟩ ⟨hi,hqg⟩
  simp only at hi hqg ⊢
  have hgq:=Ne.symm hqg
  by_cases hlt:i<l.length
  ·obtain⟨x,hx⟩:=bU l hlt
   have hat:(l.map TU.c++ex0).getD i []=x.c:=by rw[List.getD_eq_getElem?_getD,List.getElem?_append_left (by rw[List.length_map];omega),List.getElem?_map,hx];rfl
   have hln:(l.map TU.c++ex0).length=l.length+ex0.length:=by rw[List.length_append,List.length_map]
   have hsn:=xI (p:=P) hx
   have hw:=BP x f n c
   rw[←hPx] at hw
   obtain⟨sb,hsb⟩:∃z,P x=z:=⟨_,rfl⟩
   rw[hsb] at hw hsn
   have hfl:((l.take i).filter P).length≤i:=Nat.le_trans (List.length_filter_le _ _) (by rw[List.length_take];omega)
   obtain⟨L,hL⟩:∃L,(l.take i).filter P=L:=⟨_,rfl⟩
   rw[hL] at hsn hfl ⊢
   have htk:(L.map TU.c++ex).take L.length=L.map TU.c:=sU
   have hdr:(L.map TU.c++ex).drop (L.length+1)=ex.drop 1:=vG
   have hLl:(L.map TU.c).length=L.length:=List.length_map _
   cases sb
   ·rw[if_neg (by simp),List.append_nil] at hsn
    repeat' first|(with_reducible first|refine up hw ?_)|(refine wM ?_;(first|(have _:=nl1)|(intro nl1));intros)|refine wZ3 @FXs @hat @hln ?_|fail
    all_goals (try (exfalso;omega))
    all_goals
     refine .of (.less ?_ (σ1:=(St.none.set g (lgO l ex0)).set q (.row 128 31 (L.map TU.c++ex))) (le2 sS sS)) ⟨(i+1,q,ex),rfl,by simp only[hsn],⟨by simp only;omega,hqg⟩,by simp only;omega⟩
     simp only[hsn]
     exact wW
   ·rw[if_pos rfl] at hsn
    have hnm:(L++[x]).map TU.c=L.map TU.c++[x.c]:=List.map_append
    repeat' first|(with_reducible first|refine up hw ?_)|(refine wM ?_;(first|(have _:=nl3)|(have _:=nl2;intro nl3)|(have _:=nl1;intro nl2)|(intro nl1));intros)|(refine wY ?_ ?_<;>intro h)|refine wZ6 @FXs @hat @hln @hLl @htk @hdr ?_|fail
    all_goals (try (exfalso;omega))
    ·obtain rfl:ex=[]:=List.eq_nil_of_length_eq_zero oM
     clear h
     refine .of (.less ?_ (σ1:=(St.none.set g (lgO l ex0)).set nl3 (.row 128 31 ((L++[x]).map TU.c++[]))) ?_) ⟨(i+1,nl3,[]),rfl,by simp only[hsn],⟨by simp only;omega,by assumption⟩,by simp only;omega⟩
     ·simp only[hsn,List.length_append,List.length_singleton]
      exact wW
     ·rw[hnm]
      exact le2 sS sS
    ·clear h
     refine .of (.less ?_ (σ1:=(St.none.set g (lgO l ex0)).set nl3 (.row 128 31 ((L++[x]).map TU.c++ex.drop 1))) ?_) ⟨(i+1,nl3,ex.drop 1),rfl,by simp only[hsn],⟨by simp only;omega,by assumption⟩,by simp only;omega⟩
     ·simp only[hsn,List.length_append,List.length_singleton]
      exact wW
     ·rw[hnm]
      exact le2 sS sS
  ·have:i=l.length:=by omega
   subst this
   rw[List.take_length]
   repeat' first|refine wZ0 ?_|fail
   all_goals exact RM (Q:=fun σ'=>σ'=St.none.set g (lgO l ex0)) rfl (aD _ _ _) (MY (by simp[St.set,St.none,hqg])) (by simp[St.set,St.none,hqg]) (by rw[List.length_map])
end
end Go.Proofs.YtppdgejjmhdjhaaGreatDoor
