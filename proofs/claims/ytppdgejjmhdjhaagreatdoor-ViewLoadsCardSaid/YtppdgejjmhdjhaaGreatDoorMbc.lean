/- Parts of the proof, joined; conditions: those that its theorems name. -/
import Derived.Test.YtppdgejjmhdjhaaGreatDoorMbb
import Derived.Test.YtppdgejjmhdjhaaGreatDoorRows
import Derived.KernelRfl
set_option linter.unusedVariables false
set_option linter.unusedSimpArgs false
set_option maxHeartbeats 4000000
namespace Go.Proofs.YtppdgejjmhdjhaaGreatDoor
section
def o3(P:Program)(C:bR)(g:FuncId)(ms:List MV)(σ:St)(k:MV→St→Prop):Prop :=
 (∃rd q os,C g ms=some ⟨rd,q,none⟩∧rd.map σ=os.map some∧aA P g ms (St.ofList rd os) (fun v σ'=>q v∧σ'=St.ofList rd os)∧(∃v,q v)∧∀v,q v→k v σ) ∨
 ∃rd q o u,C g ms=some ⟨rd,q,some ([o],u)⟩∧aA P g ms St.none (fun v σ'=>∃l,v=u l∧σ'=St.none.set l o)∧∀l,σ l=none→k (u l) (σ.set l o)
def lJ(P:Program)(C:bR)(g:FuncId)(ms:List MV)(σ:St)(k:MV→St→Prop):Prop :=
 (∃rd q os,C g ms=some ⟨rd,q,none⟩∧rd.map σ=os.map some∧aA P g ms (St.ofList rd os) (fun v σ'=>q v∧σ'=St.ofList rd os)∧(∃v,q v)∧∀v,q v→k v σ) ∨
 (∃q o u,C g ms=some ⟨[],q,some ([o],u)⟩∧aA P g ms St.none (fun v σ'=>∃l,v=u l∧σ'=St.none.set l o)∧∀l,σ l=none→k (u l) (σ.set l o)) ∨
 ∃l rd q ts os u,C g ms=some ⟨l::rd,q,some (ts,u)⟩∧(l::rd).map σ=os.map some∧aA P g ms (St.ofList (l::rd) os) (fun v σ'=>v=u l∧σ'=(St.ofList (l::rd) ts).over (St.ofList (l::rd) os))∧k (u l) ((St.ofList (l::rd) ts).over σ)
def xO(P:Program)(MC:FuncId→List MV→St→(MV→St→Prop)→Prop)(f:FR)(σ:St)(k:MV→St→Prop):Op→Prop
 | .call ⟨.value x,args,ts⟩=>match aH f x with
  | .fn (.func g) ms ns=>MC g (ms++args.toList.map (aH f)++ns) σ k
  | _=>False
 | .defer _=>False
 | op=>mop P f σ k op
section
variable {P:Program} {C:bR} {f:FR} {σ:St} {U:Nat→Prop}
theorem rG:∀(rd:List Nat) (os:List aW),rd.map σ=os.map some→(St.ofList rd os).le σ
 | [],_,_=>by
  intro l o h
  simp[St.ofList,St.none] at h
 | l::ls,[],h=>by simp at h
 | l::ls,o::os,h=>by
  simp only[List.map_cons,List.cons.injEq] at h
  (try simp only[St.ofList])
  exact St.aD (rG ls os h.2) h.1
theorem lG{pv:PV}{k:MV→St→Prop}(h:mpure σ k pv):gs U σ (eD pv) fun v _ σ'=>k v σ':=by
 cases pv with
 | none=>exact h.elim
 | some x =>
  obtain⟨Cd,v⟩:=x
  refine⟨[],⟨Cd,none,none,none,fun _ u=>u=v⟩,rfl,rfl,h.1,fun _=>⟨v,rfl⟩,fun u U' σ' ho=>?_⟩
  obtain⟨rfl,-,rfl⟩:=ho
  rw[dE ⟨rfl,rfl⟩]
  exact h.2
theorem lQ{pv:PV}{k:MV→(Nat→Prop)→St→Prop}(h:gs U σ (eD pv) k):mpure σ (fun v σ'=>∃U',(∀l,U' l→U l∨σ' l≠none)∧k v U' σ') pv:=by
 obtain⟨os,e,h1,h2,h3,h4,h5⟩:=h
 cases pv with
 | none=>simp[eD] at h2
 | some x =>
  obtain⟨Cd,v⟩:=x
  simp only[eD,Option.map_some,Option.some.injEq] at h2
  subst h2
  refine⟨h3,U,fun l h=>.inl h,h5 v U σ ⟨rfl,rfl,?_⟩⟩
  rw[dE ⟨rfl,rfl⟩]
theorem jM{Cd:Prop}{o:aW}{v:Nat→MV}{k:MV→St→Prop}(hd:Dom U σ)(h:Cd∧∀l,σ l=none→k (v l) (σ.set l o)):gs U σ (fS Cd o v) fun v _ σ'=>k v σ':=by
 refine⟨[],⟨Cd,none,none,some o,fun l u=>u=v l⟩,rfl,rfl,h.1,fun l=>⟨v l,rfl⟩,fun u U' σ' ho=>?_⟩
 obtain⟨l,hl,rfl,-,rfl⟩:=ho
 rw[dE ⟨rfl,rfl⟩]
 exact h.2 l (by
  cases hs:σ l with
  | none=>rfl
  | some x=>exact absurd (hd l (by simp[hs])) hl)
def jY(U:Nat→Prop)(σ:St)(k:MV→(Nat→Prop)→St→Prop)(v:MV)(σ':St):Prop :=
 (∀l,σ' l≠none→σ l=none→¬U l)→∃U',(∀l,U' l→U l∨σ' l≠none)∧k v U' σ'
theorem kM{Cd:Prop}{o:aW}{v:Nat→MV}{k:MV→(Nat→Prop)→St→Prop}(h:gs U σ (fS Cd o v) k):Cd∧∀l,σ l=none→jY U σ k (v l) (σ.set l o):=by
 obtain⟨os,e,h1,h2,h3,h4,h5⟩:=h
 simp only[fS,Option.some.injEq] at h2
 subst h2
 refine⟨h3,fun l hl hn=>⟨fun x=>x=l∨U x,fun x hx=>hx.elim (fun e=>.inr (by rw[e,aJ];simp)) .inl,h5 _ _ _ ⟨l,hn l (by rw[aJ];simp) hl,rfl,rfl,?_⟩⟩⟩
 rw[dE ⟨rfl,rfl⟩]
theorem uY{pv:PV}{k k':MV→St→Prop}(h:mpure σ k pv)(hk:∀v σ',k v σ'→k' v σ'):mpure σ k' pv:=by
 cases pv with
 | none=>exact h.elim
 | some x=>exact⟨h.1,hk _ _ h.2⟩
theorem jJ{e:Nat}{x:MV}{os:List aW}(h:(jU x).map σ=os.map some):gO (Dy os) e x=gO σ e x:=by
 cases x<;>try rfl
 rename_i e' l lo n
 cases os with
 | nil=>simp[jU] at h
 | cons o r =>
  simp only[jU,List.map_cons,List.map_nil,List.cons.injEq] at h
  (try simp only[gO,Dy,List.head?_cons,h.1])
theorem LR{e:Nat}{x:MV}{ys:List (List MV)}(h:gO σ e x=some ys):∃os:List aW,(jU x).map σ=os.map some:=by
 cases x<;>try exact⟨[],rfl⟩
 rename_i e' l lo n
 simp only[gO] at h
 split at h
 ·split at h
  ·rename_i t e2 xs hs;exact⟨[.row t e2 xs],by simp[jU,hs]⟩
  ·cases h
 ·cases h
theorem MH{t:TypeId}{x:MV}{k:MV→St→Prop}(h:kA P t x σ k):gs U σ (mF P t x) fun v _ σ'=>k v σ':=by
 unfold kA at h
 unfold mF
 split at h
 ·rename_i l i o
  split at h
  ·rename_i tt e xs hs
   refine⟨[.row tt e xs],_,by simp[hs],rfl,h.1,fun _=>⟨_,rfl⟩,fun v U' σ' ho=>?_⟩
   obtain⟨rfl,-,rfl⟩:=ho
   rw[dE ⟨rfl,rfl⟩];exact h.2
  ·exact h.elim
 ·exact lG (σ:=σ) (pv:=some (_,_)) h
 ·exact h.elim
theorem MY{t:TypeId}{x:MV}{k:MV→(Nat→Prop)→St→Prop}(h:gs U σ (mF P t x) k):kA P t x σ (jY U σ k):=by
 unfold mF at h
 unfold kA
 split at h
 ·rename_i l i o
  obtain⟨os,e,h1,h2,h3,h4,h5⟩:=h
  simp only at h1 h2
  split at h2
  ·rename_i tt ee xs
   cases h2
   simp only[List.map_cons,List.map_nil,List.cons.injEq,and_true] at h1
   (try simp only[h1])
   refine⟨h3,fun _=>⟨U,fun _ h=>.inl h,h5 _ _ _ ⟨rfl,rfl,?_⟩⟩⟩
   rw[dE ⟨rfl,rfl⟩]
  ·cases h2
 ·obtain⟨h1,U',h2,h3⟩:=lQ (σ:=σ) h
  exact⟨h1,fun _=>⟨U',h2,h3⟩⟩
 ·obtain⟨os,e,h1,h2,_⟩:=h
  simp[bS] at h2
theorem tI{Cd:Prop}{u:St}{n:Option aW}{v:Nat→MV→Prop}:(Eff.app ⟨Cd,none,some u,n,v⟩ σ)=u.over σ:=by
 funext k
 (try simp only[Eff.app,Eff.upl,St.over,reduceCtorEq,if_false])
 cases u k<;>simp
theorem sU{Cd:Prop}{l:Nat}{o:aW}{n:Option aW}{v:Nat→MV→Prop}:(Eff.app ⟨Cd,none,some (St.none.set l o),n,v⟩ σ)=σ.set l o:=by
 rw[tI,a8,cT]
theorem J5{t:TypeId}{x y:MV}{k:MV→St→Prop}(h:mN P t x y σ k):gs U σ (lH P t x y) fun v _ σ'=>k v σ':=by
 unfold mN at h
 unfold lH
 split at h
 ·rename_i l i o
  split at h
  ·rename_i tt e xs hs
   refine⟨[.row tt e xs],_,by simp[hs],rfl,h.1,fun _=>⟨_,rfl⟩,fun v U' σ' ho=>?_⟩
   obtain⟨rfl,-,rfl⟩:=ho
   rw[sU];exact h.2
  ·exact h.elim
 ·exact h.elim
theorem LU{t:TypeId}{x y:MV}{k:MV→(Nat→Prop)→St→Prop}(h:gs U σ (lH P t x y) k):mN P t x y σ (jY U σ k):=by
 unfold lH at h
 unfold mN
 split at h
 ·rename_i l i o
  obtain⟨os,e,h1,h2,h3,h4,h5⟩:=h
  simp only at h1 h2
  split at h2
  ·rename_i tt ee xs
   cases h2
   simp only[List.map_cons,List.map_nil,List.cons.injEq,and_true] at h1
   (try simp only[h1])
   refine⟨h3,fun _=>⟨U,fun _ h=>.inl h,h5 _ _ _ ⟨rfl,rfl,?_⟩⟩⟩
   rw[sU]
  ·cases h2
 ·obtain⟨os,e,h1,h2,_⟩:=h
  simp[bS] at h2
theorem HF{t:TypeId}{m x:MV}{ok:Bool}{k:MV→St→Prop}(h:fP P t m x ok (mapOf σ m) σ k):gs U σ (jA P t m x ok) fun v _ σ'=>k v σ':=by
 unfold fP at h
 split at h
 ·rename_i kt et l kd n es h1 h2
  have hl:σ l=some (.mp es):=h2
  unfold jA
  (try simp only[h1])
  refine⟨[.mp es],_,by simp[hl],rfl,h.1,fun _=>⟨_,rfl⟩,fun v U' σ' ho=>?_⟩
  obtain⟨rfl,-,rfl⟩:=ho
  rw[dE ⟨rfl,rfl⟩];exact h.2
 ·exact h.elim
theorem HS{t:TypeId}{m x:MV}{ok:Bool}{k:MV→(Nat→Prop)→St→Prop}(h:gs U σ (jA P t m x ok) k):fP P t m x ok (mapOf σ m) σ (jY U σ k):=by
 unfold jA at h
 split at h
 ·rename_i kt et l kd n h1
  obtain⟨os,e,h2,h3,h4,h5,h6⟩:=h
  simp only at h2 h3
  split at h3
  ·rename_i es
   cases h3
   simp only[List.map_cons,List.map_nil,List.cons.injEq,and_true] at h2
   unfold fP
   (try simp only[h1,mapOf,h2])
   refine⟨h4,fun _=>⟨U,fun _ h=>.inl h,h6 _ _ _ ⟨rfl,rfl,?_⟩⟩⟩
   rw[dE ⟨rfl,rfl⟩]
  ·cases h3
 ·obtain⟨os,e,h1,h2,_⟩:=h
  simp[bS] at h2
theorem HG{t:TypeId}{m x y:MV}{k:MV→St→Prop}(h:fB P t m x y (mapOf σ m) σ k):gs U σ (lF P t m x y) fun v _ σ'=>k v σ':=by
 unfold fB at h
 split at h
 ·rename_i kt et l kd n es h1 h2
  have hl:σ l=some (.mp es):=h2
  unfold lF
  (try simp only[h1])
  refine⟨[.mp es],_,by simp[hl],rfl,h.1,fun _=>⟨_,rfl⟩,fun v U' σ' ho=>?_⟩
  obtain⟨rfl,-,rfl⟩:=ho
  rw[sU];exact h.2
 ·exact h.elim
theorem HU{t:TypeId}{m x y:MV}{k:MV→(Nat→Prop)→St→Prop}(h:gs U σ (lF P t m x y) k):fB P t m x y (mapOf σ m) σ (jY U σ k):=by
 unfold lF at h
 split at h
 ·rename_i kt et l kd n h1
  obtain⟨os,e,h2,h3,h4,h5,h6⟩:=h
  simp only at h2 h3
  split at h3
  ·rename_i es
   cases h3
   simp only[List.map_cons,List.map_nil,List.cons.injEq,and_true] at h2
   unfold fB
   (try simp only[h1,mapOf,h2])
   refine⟨h4,fun _=>⟨U,fun _ h=>.inl h,h6 _ _ _ ⟨rfl,rfl,?_⟩⟩⟩
   rw[sU]
  ·cases h3
 ·obtain⟨os,e,h1,h2,_⟩:=h
  simp[bS] at h2
theorem Bl{Cd:Prop}{l:Nat}{n:Option aW}{v:Nat→MV→Prop}:(Eff.app ⟨Cd,some l,none,n,v⟩ σ)=σ.del l:=by
 funext k
 have h:Eff.upl ⟨Cd,some l,none,n,v⟩ k=none:=rfl
 (try simp only[Eff.app,St.del,h,Option.isSome_none,Bool.false_eq_true,if_false,Option.some.injEq])
 by_cases hk:k=l
 ·simp[hk]
 ·rw[if_neg (Ne.symm hk),if_neg hk]
theorem tW(hd:Dom U σ){l:Nat}(hl:¬U l):σ l=none:=by
 cases hs:σ l with
 | none=>rfl
 | some x=>exact absurd (hd l (by simp[hs])) hl
theorem HE{t xt:TypeId}{s x:MV}{k:MV→St→Prop}(hd:Dom U σ)(h:jE P t xt s x σ k):gs U σ (j7 P t xt s x) fun v _ σ'=>k v σ':=by
 unfold jE at h
 unfold j7
 split at h
 ·rename_i el hk
  (try simp only[hk])
  split at h
  ·rename_i ys hy
   obtain⟨os,hos⟩:=LR hy
   have hsrc:=jJ (e:=(td P el).size) hos
   rw[hy] at hsrc
   split at h
   ·refine⟨os,⟨(td P xt).k.eW=true∧(td P el).zok=true∧Fits ys.length (td P el).bytes,none,none,some (.row el (td P el).size ys),fun l u=>u=.vec (td P el).size l 0 ys.length⟩,hos,by simp only[hsrc],h.1,fun l=>⟨_,rfl⟩,fun u U' σ' ho=>?_⟩
    obtain⟨l,hl,rfl,-,rfl⟩:=ho
    rw[dE ⟨rfl,rfl⟩]
    exact h.2 l (tW hd hl)
   ·rename_i e xs
    refine⟨os,⟨(td P xt).k.eW=true∧(td P el).zok=true∧e=(td P el).size∧(xs=[]∨0<ys.length)∧Fits (xs.length+ys.length) (td P el).bytes,none,none,some (.row el (td P el).size (xs++ys)),fun l u=>u=.vec (td P el).size l 0 (xs.length+ys.length)⟩,hos,by simp only[hsrc],h.1,fun l=>⟨_,rfl⟩,fun u U' σ' ho=>?_⟩
    obtain⟨l,hl,rfl,-,rfl⟩:=ho
    rw[dE ⟨rfl,rfl⟩]
    exact h.2 l (tW hd hl)
   ·rename_i e l lo n
    split at h
    ·rename_i tt e' xs hs
     refine⟨.row tt e' xs::os,⟨(td P xt).k.eW=true∧(td P el).zok=true∧e=(td P el).size∧e'=(td P el).size∧tt=el∧lo=0∧lo+n≤xs.length∧Fits (n+ys.length) (td P el).bytes,some l,none,some (.row el (td P el).size (eO xs lo n ys)),fun l' u=>u=.vec (td P el).size l' 0 (n+ys.length)⟩,by simp[hs,hos],by simp only[hsrc],h.1,fun l=>⟨_,rfl⟩,fun u U' σ' ho=>?_⟩
     obtain⟨l',hl,rfl,-,rfl⟩:=ho
     rw[Bl]
     exact h.2 l' (tW hd hl)
    ·exact h.elim
   ·exact h.elim
  ·exact h.elim
 ·exact h.elim
theorem GY{t xt:TypeId}{s x:MV}{k:MV→(Nat→Prop)→St→Prop}(h:gs U σ (j7 P t xt s x) k):jE P t xt s x σ (jY U σ k):=by
 unfold j7 at h
 unfold jE
 split at h
 ·rename_i el hk
  split at h
  ·obtain⟨os,e,h1,h2,h3,h4,h5⟩:=h
   simp only at h1 h2
   split at h2
   ·rename_i ys hy
    cases h2
    rw[jJ h1] at hy
    (try simp only[hk,hy])
    refine⟨h3,fun l hl hn=>⟨fun x=>x=l∨U x,fun x hx=>hx.elim (fun e=>.inr (by rw[e,aJ];simp)) .inl,h5 _ _ _ ⟨l,hn l (by rw[aJ];simp) hl,rfl,rfl,?_⟩⟩⟩
    rw[dE ⟨rfl,rfl⟩]
   ·cases h2
  ·obtain⟨os,e,h1,h2,h3,h4,h5⟩:=h
   simp only at h1 h2
   split at h2
   ·rename_i ys hy
    cases h2
    rw[jJ h1] at hy
    (try simp only[hk,hy])
    refine⟨h3,fun l hl hn=>⟨fun x=>x=l∨U x,fun x hx=>hx.elim (fun e=>.inr (by rw[e,aJ];simp)) .inl,h5 _ _ _ ⟨l,hn l (by rw[aJ];simp) hl,rfl,rfl,?_⟩⟩⟩
    rw[dE ⟨rfl,rfl⟩]
   ·cases h2
  ·obtain⟨os,e,h1,h2,h3,h4,h5⟩:=h
   simp only at h1 h2
   split at h2
   ·rename_i tt e' xs os'
    simp only[List.map_cons,List.cons.injEq] at h1
    split at h2
    ·rename_i ys hy
     cases h2
     rw[jJ h1.2] at hy
     (try simp only[hk,hy,h1.1])
     refine⟨h3,fun l hl hn=>⟨fun x=>x=l∨U x,fun x hx=>hx.elim (fun e=>.inr (by rw[e,aJ];simp)) .inl,h5 _ _ _ ⟨l,hn l (by rw[aJ];simp) hl,rfl,rfl,?_⟩⟩⟩
     rw[Bl]
    ·cases h2
   ·cases h2
  ·obtain⟨os,e,h1,h2,_⟩:=h
   simp[bS] at h2
 ·obtain⟨os,e,h1,h2,_⟩:=h
  simp[bS] at h2
theorem eQ{k:MV→(Nat→Prop)→St→Prop}(h:gs U σ bS k):False:=by
 obtain⟨os,e,h1,h2,_⟩:=h
 simp[bS] at h2
theorem Oy{D:Prop}{x:MV}{k:MV→St→Prop}(h:match gO σ 1 x with|some ys=>(D∧ys.all isByte=true)∧k (.str (bytesOf ys)) σ|none=>False) :
  gs U σ (jU x,fun os=>match gO (Dy os) 1 x with
  | some ys=>some ⟨D∧ys.all isByte=true,none,none,none,fun _ u=>u=.str (bytesOf ys)⟩
  | none=>none) fun v _ σ'=>k v σ':=by
 split at h
 ·rename_i ys hy
  obtain⟨os,hos⟩:=LR hy
  have hsrc:=jJ (e:=1) hos
  rw[hy] at hsrc
  refine⟨os,⟨D∧ys.all isByte=true,none,none,none,fun _ u=>u=.str (bytesOf ys)⟩,hos,by simp only[hsrc],h.1,fun _=>⟨_,rfl⟩,fun u U' σ' ho=>?_⟩
  obtain⟨rfl,-,rfl⟩:=ho
  rw[dE ⟨rfl,rfl⟩];exact h.2
 ·exact h.elim
theorem OT{D:Prop}{x:MV}{k:MV→(Nat→Prop)→St→Prop}(h:gs U σ (jU x,fun os=>match gO (Dy os) 1 x with
  | some ys=>some ⟨D∧ys.all isByte=true,none,none,none,fun _ u=>u=.str (bytesOf ys)⟩
  | none=>none) k):match gO σ 1 x with|some ys=>(D∧ys.all isByte=true)∧jY U σ k (.str (bytesOf ys)) σ|none=>False:=by
 obtain⟨os,e,h1,h2,h3,h4,h5⟩:=h
 simp only at h1 h2
 split at h2
 ·rename_i ys hy
  cases h2
  rw[jJ h1] at hy
  (try simp only[hy])
  refine⟨h3,fun _=>⟨U,fun _ h=>.inl h,h5 _ _ _ ⟨rfl,rfl,?_⟩⟩⟩
  rw[dE ⟨rfl,rfl⟩]
 ·cases h2
theorem Eo{s d:TypeId}{x:MV}{k:MV→St→Prop}(hd:Dom U σ)(h:gN P s d x σ k):gs U σ (gK P s d x) fun v _ σ'=>k v σ':=by
 unfold gN at h
 unfold gK
 cases hs:(td P s).k<;>cases hk:(td P d).k<;>simp only[hs,hk] at h ⊢<;>first
  | exact lG h
  | (cases x<;>first|exact lG h|exact jM hd h|exact h.elim|exact Oy h)
theorem Ee{s d:TypeId}{x:MV}{k:MV→(Nat→Prop)→St→Prop}(h:gs U σ (gK P s d x) k):gN P s d x σ (jY U σ k):=by
 unfold gK at h
 unfold gN
 have hp:∀{pv:PV},gs U σ (eD pv) k→mpure σ (jY U σ k) pv:=fun h=>uY (lQ h) fun v σ' hh _=>hh
 cases hs:(td P s).k<;>cases hk:(td P d).k<;>simp only[hs,hk] at h ⊢<;>first
  | exact hp h
  | (cases x<;>first|exact hp h|exact kM h|exact(eQ h).elim|exact OT h)
theorem BO{g:FuncId}{ms:List MV}{k:MV→St→Prop}{rd:List Nat}{q:MV→Prop}{os:List aW}(h1:C g ms=some ⟨rd,q,none⟩)(h2:rd.map σ=os.map some)(h3:aA P g ms (St.ofList rd os) (fun v σ'=>q v∧σ'=St.ofList rd os))(h4:∃v,q v)(h5:∀v,q v→k v σ):gs U σ (fY P C g ms) fun v _ σ'=>k v σ':=by
 unfold fY
 rw[h1]
 refine⟨os,⟨aA P g ms (St.ofList rd os) (fun v σ'=>q v∧σ'=St.ofList rd os),none,none,none,fun _ u=>q u⟩,h2,rfl,h3,fun _=>h4,fun u U' σ' ho=>?_⟩
 obtain⟨hq,-,rfl⟩:=ho
 rw[dE ⟨rfl,rfl⟩]
 exact h5 u hq
theorem sX{g:FuncId}{ms:List MV}{k:MV→St→Prop}(hd:Dom U σ)(h:o3 P C g ms σ k):gs U σ (fY P C.pl g ms) fun v _ σ'=>k v σ':=by
 rcases h with⟨rd,q,os,h1,h2,h3,h4,h5⟩|⟨rd,q,o,u,h1,h2,h3⟩
 ·exact BO (by unfold bR.pl;rw[h1];rfl) h2 h3 h4 h5
 ·have hC:C.pl g ms=some ⟨[],q,some ([o],u)⟩:=by unfold bR.pl;rw[h1];rfl
  unfold fY
  rw[hC]
  exact jM hd ⟨h2,h3⟩
theorem J4{g:FuncId}{ms:List MV}{k:MV→St→Prop}(hd:Dom U σ)(h:lJ P C g ms σ k):gs U σ (fY P C g ms) fun v _ σ'=>k v σ':=by
 rcases h with⟨rd,q,os,h1,h2,h3,h4,h5⟩|⟨q,o,u,h1,h2,h3⟩|⟨l,rd,q,ts,os,u,h1,h2,h3,h4⟩
 ·exact BO h1 h2 h3 h4 h5
 ·unfold fY
  rw[h1]
  exact jM hd ⟨h2,h3⟩
 ·unfold fY
  rw[h1]
  refine⟨os,⟨aA P g ms (St.ofList (l::rd) os) (fun v σ'=>v=u l∧σ'=(St.ofList (l::rd) ts).over (St.ofList (l::rd) os)),none,some (St.ofList (l::rd) ts),none,fun _ w=>w=u l⟩,h2,rfl,h3,fun _=>⟨_,rfl⟩,fun v U' σ' ho=>?_⟩
  obtain⟨hv,-,rfl⟩:=ho
  rw[tI,hv]
  exact h4
theorem Mn{g:FuncId}{ms:List MV}{k:MV→(Nat→Prop)→St→Prop}(h:gs U σ (fY P C g ms) k):aA P g ms σ (jY U σ k):=by
 unfold fY at h
 split at h
 ·rename_i rd q hC
  obtain⟨os,e,h1,h2,h3,h4,h5⟩:=h
  simp only[Option.some.injEq] at h2
  subst h2
  simp only at h1 h3
  have hle:=rG rd os h1
  refine(h3.frame hle).mono ?_
  rintro v σ1 ⟨σ',⟨hq,rfl⟩,rfl,-⟩
  rw[o5 hle]
  refine fun _=>⟨U,fun _ h=>.inl h,h5 _ _ _ ⟨hq,rfl,?_⟩⟩
  rw[dE ⟨rfl,rfl⟩]
 ·rename_i rd q ts u hC
  unfold MF at h
  split at h
  ·rename_i o
   obtain⟨h1,h2⟩:=kM h
   refine(h1.frame (St.none_le σ)).mono ?_
   rintro v σ1 ⟨σ',⟨l,rfl,rfl⟩,rfl,hf⟩
   rw[hE,a8,cT]
   refine h2 l ?_
   rcases hf l o (aJ _ _ _) with h|⟨o',h⟩
   ·exact h
   ·simp[St.none] at h
  ·exact(eQ h).elim
 ·rename_i l rd q ts u hC
  obtain⟨os,e,h1,h2,h3,h4,h5⟩:=h
  simp only[Option.some.injEq] at h2
  subst h2
  have hle:=rG (l::rd) os h1
  refine(aA.frame h3 hle).mono ?_
  rintro v σ1 ⟨σ',⟨hv,rfl⟩,rfl,-⟩
  have e:((St.ofList (l::rd) ts).over (St.ofList (l::rd) os)).over (σ.minus (St.ofList (l::rd) os))=(St.ofList (l::rd) ts).over σ:=by
   funext j
   (try simp only[St.over,St.minus])
   cases St.ofList (l::rd) ts j with
   | some o=>rfl
   | none =>
    cases ht:St.ofList (l::rd) os j with
    | none=>rfl
    | some o1=>simp only[hle j o1 ht]
  rw[e]
  exact fun _=>⟨U,fun _ h=>.inl h,h5 _ _ _ ⟨hv,rfl,tI.symm⟩⟩
 ·exact(eQ h).elim
theorem Ox{MC:FuncId→List MV→St→(MV→St→Prop)→Prop}(hMC:∀g ms k,MC g ms σ k→gs U σ (fY P C g ms) fun v _ σ'=>k v σ'){op:Op}{k:MV→St→Prop}(hd:Dom U σ)(h:xO P MC f σ k op):gs U σ (gop P C f op) fun v _ σ'=>k v σ':=by
 cases op
 case alloc t=>exact jM hd h
 case box t x=>exact jM hd h
 case load t x=>exact MH h
 case store t x y=>exact J5 h
 case lookup t m x ok=>exact HF h
 case mapUpdate t m x y=>exact HG h
 case convert s d x=>exact Eo hd h
 case buildSlice t n p =>
  have h:dL P f t n p σ k:=h
  (try simp only[gop])
  unfold dL at h
  unfold dI
  split at h
  ·rename_i el hk;(try simp only[hk]);exact jM hd h
  ·exact h.elim
 case makeSlice t x y =>
  have h:hJ P t (aH f x) (aH f y) σ k:=h
  (try simp only[gop])
  unfold hJ at h
  unfold eT
  split at h
  ·rename_i el n c hk hx hy;(try simp only[hk,hx,hy]);exact jM hd h
  ·exact h.elim
 case defer c=>exact h.elim
 case call c =>
  obtain⟨callee,args,ts⟩:=c
  cases callee with
  | value x =>
   simp only[xO] at h
   (try simp only[gop])
   split at h
   ·rename_i g ms ns hx;first|(simp only[hx];exact hMC _ _ _ h)|exact hMC _ _ _ h
   ·exact h.elim
  | invoke r m=>exact h.elim
  | builtin b =>
   by_cases hb:b=.append
   ·subst hb
    have h:eX P f .append args.toList ts.toList σ k:=h
    (try simp only[gop])
    simp only[eX] at h
    split at h
    ·rename_i s x t xt ha ht;(try simp only[ha,ht]);exact HE hd h
    ·exact h.elim
   ·have h:eX P f b args.toList ts.toList σ k:=h
    have e1:gop P C f (.call ⟨.builtin b,args,ts⟩)=if ts.toList.length=args.toList.length then eD (dM P b ts.toList.toArray (args.toList.map (aH f))) else bS:=by
     cases b<;>first|rfl|exact absurd rfl hb
    have e2:eX P f b args.toList ts.toList σ k=(ts.toList.length=args.toList.length∧mpure σ k (dM P b ts.toList.toArray (args.toList.map (aH f)))):=by
     cases b<;>first|rfl|exact absurd rfl hb
    rw[e2] at h
    rw[e1,if_pos h.1]
    exact lG h.2
 all_goals exact lG h
theorem N3{op:Op}{k:MV→(Nat→Prop)→St→Prop}(h:gs U σ (gop P C f op) k):mop P f σ (jY U σ k) op:=by
 have hp:∀{pv:PV},gs U σ (eD pv) k→mpure σ (jY U σ k) pv:=fun h=>uY (lQ h) fun v σ' hh _=>hh
 cases op
 case alloc t=>exact kM h
 case box t x=>exact kM h
 case load t x=>exact MY h
 case store t x y=>exact LU h
 case lookup t m x ok=>exact HS h
 case mapUpdate t m x y=>exact HU h
 case convert s d x=>exact Ee h
 case buildSlice t n p =>
  simp only[gop] at h
  show dL P f t n p σ _
  unfold dL
  unfold dI at h
  split at h
  ·rename_i el hk;(try simp only[hk]);exact kM h
  ·exact(eQ h).elim
 case makeSlice t x y =>
  simp only[gop] at h
  show hJ P t (aH f x) (aH f y) σ _
  unfold hJ
  unfold eT at h
  split at h
  ·rename_i el n c hk hx hy;(try simp only[hk,hx,hy]);exact kM h
  ·exact(eQ h).elim
 case defer c=>exact(eQ h).elim
 case call c =>
  obtain⟨callee,args,ts⟩:=c
  cases callee with
  | value x =>
   simp only[gop] at h
   show Gq P f ⟨.value x,args,ts⟩ σ _
   (try simp only[Gq])
   split at h
   ·rename_i g ms ns hx;(try simp only[hx]);exact Mn h
   ·exact(eQ h).elim
  | invoke r m=>exact(eQ h).elim
  | builtin b =>
   show eX P f b args.toList ts.toList σ _
   by_cases hb:b=.append
   ·subst hb
    simp only[gop] at h
    (try simp only[eX])
    split at h
    ·rename_i s x t xt ha ht;(try simp only[ha,ht]);exact GY h
    ·exact(eQ h).elim
   ·have e1:gop P C f (.call ⟨.builtin b,args,ts⟩)=if ts.toList.length=args.toList.length then eD (dM P b ts.toList.toArray (args.toList.map (aH f))) else bS:=by
     cases b<;>first|rfl|exact absurd rfl hb
    have e2:eX P f b args.toList ts.toList σ (jY U σ k)=(ts.toList.length=args.toList.length∧mpure σ (jY U σ k) (dM P b ts.toList.toArray (args.toList.map (aH f)))):=by
     cases b<;>first|rfl|exact absurd rfl hb
    rw[e1] at h
    rw[e2]
    split at h
    ·rename_i hl;exact⟨hl,hp h⟩
    ·exact(eQ h).elim
 all_goals exact hp h
end
end

section
section
variable {P:Program} {C:bR} {ops:Array Oper}
def FEq(f f':FR):Prop:=f.n=f'.n∧f.d=f'.d∧∀t,f.get t=f'.get t
theorem FEq.refl(f:FR):FEq f f:=⟨rfl,rfl,fun _=>rfl⟩
theorem FEq.symm{f f':FR}(h:FEq f f'):FEq f' f:=⟨h.1.symm,h.2.1.symm,fun t=>(h.2.2 t).symm⟩
theorem FEq.trans{f f' f'':FR}(h:FEq f f')(k:FEq f' f''):FEq f f'':=⟨h.1.trans k.1,h.2.1.trans k.2.1,fun t=>(h.2.2 t).trans (k.2.2 t)⟩
theorem lE(f:FR)(dst:Option Tmp)(v:MV)(t:Nat):(bD f dst v).get t=if dst=some t∧t<f.n then v else f.get t:=by
 cases dst with
 | none=>simp[bD]
 | some d =>
  (try simp only[bD])
  split
  ·rename_i hd
   (try simp only[FR.get,cA])
   by_cases ht:t=d
   ·subst ht;simp[hd]
   ·rw[if_neg ht,if_neg (by simp;intro e;exact absurd e.symm ht)]
  ·rename_i hd
   rw[if_neg]
   rintro⟨e,h⟩
   cases e
   exact hd h
theorem GG(f:FR)(dst:Option Tmp)(v:MV):(bD f dst v).n=f.n:=by
 unfold bD
 split<;>(try split)<;>rfl
theorem FEq.put{f f':FR}(h:FEq f f')(dst:Option Tmp)(v:MV):FEq (bD f dst v) (bD f' dst v) :=
 ⟨by rw[GG,GG];exact h.1,by rw[eF,eF];exact h.2.1,fun t=>by rw[lE,lE,h.1,h.2.2 t]⟩
theorem FEq.comm(f:FR){x y:Option Tmp}(v u:MV)(h:∀d,x=some d→y≠some d):FEq (bD (bD f x v) y u) (bD (bD f y u) x v) :=
 ⟨by simp only[GG],by simp only[eF],fun t=>by
  (try simp only[lE,GG])
  by_cases hx:x=some t
  ·have:=h t hx
   simp[hx,this]
  ·simp[hx]⟩
theorem FEq.aH{f f':FR}(h:FEq f f'):aH f=aH f':=by
 funext x
 cases x with
 | tmp t=>exact h.2.2 t
 | _=>rfl
theorem KY{f:FR}{dst:Option Tmp}{v:MV}{x:Operand}(h:∀d,dst=some d→x≠.tmp d):aH (bD f dst v) x=aH f x:=by
 cases x with
 | tmp t =>
  show(bD f dst v).get t=f.get t
  rw[lE,if_neg]
  rintro⟨e,_⟩
  exact h t e rfl
 | _=>rfl
theorem sP{f f':FR}{place:Nat→Option (Nat × TypeId)}:∀(parts:List (Nat × Operand)) (cs:List MV),(∀p,p∈parts→aH f p.2=aH f' p.2)→dV P f place parts cs=dV P f' place parts cs:=by
 intro parts
 induction parts with
 | nil=>intro cs _;rfl
 | cons p r ih =>
  intro cs h
  obtain⟨i,x⟩:=p
  (try simp only[dV])
  have hx:aH f x=aH f' x:=h (i,x) (by simp)
  rw[hx]
  cases place i with
  | none=>rfl
  | some q=>simp only[];rw[ih _ (fun p hp=>h p (by simp[hp]))]
theorem Au{f f':FR}{t:TypeId}{parts:Array (Nat × Operand)}(h:∀p,p∈parts.toList→aH f p.2=aH f' p.2):mJ P f t parts=mJ P f' t parts:=by
 unfold mJ
 cases (td P t).k<;>simp only[]<;>rw[sP _ _ h]
theorem oY{f f':FR}{xs:List Operand}(h:∀x,x∈xs→aH f x=aH f' x):xs.map (aH f)=xs.map (aH f'):=List.map_congr_left h
theorem yV{f f':FR}{op:Op}(h:∀x,x∈op.operands→aH f x=aH f' x):gop P C f op=gop P C f' op:=by
 cases op<;>simp only[Op.operands] at h
 case buildSlice t n ps =>
  (try simp only[gop,dI])
  have hp:∀p,p∈ps.toList→aH f p.2=aH f' p.2:=fun p hp=>h p.2 (by simpa using⟨p.1,by simpa using hp⟩)
  have e1:(ps.toList.all fun p=>(aH f p.2).cells.all MV.aN&&(aH f p.2).cells.length==0)=(ps.toList.all fun p=>(aH f' p.2).cells.all MV.aN&&(aH f' p.2).cells.length==0):=by
   rw[Bool.eq_iff_iff];(try simp only[List.all_eq_true])
   exact⟨fun q x hx=>by rw[←hp x hx];exact q x hx,fun q x hx=>by rw[hp x hx];exact q x hx⟩
  have e2:∀z,(ps.toList.all fun p=>(aH f p.2).cells.all MV.aN&&(aH f p.2).cells.length==z)=(ps.toList.all fun p=>(aH f' p.2).cells.all MV.aN&&(aH f' p.2).cells.length==z):=fun z=>by
   rw[Bool.eq_iff_iff];(try simp only[List.all_eq_true])
   exact⟨fun q x hx=>by rw[←hp x hx];exact q x hx,fun q x hx=>by rw[hp x hx];exact q x hx⟩
  have e3:(ps.toList.map fun p=>(aH f p.2).cells)=(ps.toList.map fun p=>(aH f' p.2).cells):=List.map_congr_left fun p hq=>by rw[hp p hq]
  (try simp only[e2,e3])
 case build t ps =>
  (try simp only[gop,qop])
  rw[Au fun p hp=>h p.2 (by simpa using⟨p.1,by simpa using hp⟩)]
 case makeFunc fn first captured =>
  (try simp only[gop,qop])
  rw[oY (xs:=first.toList) fun x hx=>h x (by simp at hx ⊢;exact .inl hx),oY (xs:=captured.toList) fun x hx=>h x (by simp at hx ⊢;exact .inr hx)]
 case indexAddr t x i =>
  have h1:=h x (by simp)
  have h2:=h i (by simp)
  (try simp only[gop])
  cases x<;>simp only[qop]<;>simp[h1,h2]
 case slice t x lo hi mx =>
  (try simp only[gop,qop])
  rw[h x (by simp)]
  cases lo<;>cases hi<;>cases mx<;>simp_all
 case call c =>
  obtain⟨callee,args,ts⟩:=c
  have ha:args.toList.map (aH f)=args.toList.map (aH f'):=oY fun x hx=>h x (by simp[Call.operands];exact .inr (by simpa using hx))
  cases callee with
  | value x=>simp only[gop];rw[h x (by simp[Call.operands]),ha]
  | invoke r m=>rfl
  | builtin b =>
   by_cases hb:b=.append
   ·subst hb
    (try simp only[gop])
    have hm:∀y,y∈args.toList→aH f y=aH f' y:=fun y hy=>h y (by simp[Call.operands];simpa using hy)
    split
    ·rename_i s x t xt hl _
     rw[hm s (by simp[hl]),hm x (by simp[hl])]
    ·rfl
   ·have e1:∀f,gop P C f (.call ⟨.builtin b,args,ts⟩)=if ts.toList.length=args.toList.length then eD (dM P b ts.toList.toArray (args.toList.map (aH f))) else bS:=fun f=>by
     cases b<;>first|rfl|exact absurd rfl hb
    rw[e1,e1,ha]
 all_goals first
  | rfl
  | (simp_all [gop,qop];done)
def gfo(P:Program)(C:bR)(ops:Array Oper)(f:FR)(o:Oper):GF :=
 match o.guard with
 | none=>gop P C f o.op
 | some (j,want)=>match (ops[j]?).bind (·.dst) with
  | some t=>match f.get t with
   | .bool b=>if b=want then gop P C f o.op else eD (some (True,.tup []))
   | .tup []=>eD (some (True,.tup []))
   | _=>bS
  | none=>bS
theorem Mb{u:gF}(hu:PlU u C)(f:FR)(o:Oper):Wf (gfo P C ops f o)∧(vA u o.op=true→jK (gfo P C ops f o))∧(noW u o.op=true→NoW (gfo P C ops f o))∧(rd0 o.op=true→(gfo P C ops f o).1=[]):=by
 have hf:Wf bS∧(vA u o.op=true→jK bS)∧(noW u o.op=true→NoW bS)∧(rd0 o.op=true→bS.1=[]):=⟨bA.1,fun _=>bA.2.2.1,fun _=>bA.2.1,fun _=>rfl⟩
 unfold gfo
 split
 ·exact FM P C hu f o.op
 ·split
  ·split
   ·split
    ·exact FM P C hu f o.op
    ·exact⟨(cK _).1,fun _=>(cK _).2.2.1,fun _=>(cK _).2.1,fun _=>rfl⟩
   ·exact⟨(cK _).1,fun _=>(cK _).2.2.1,fun _=>(cK _).2.1,fun _=>rfl⟩
   ·exact hf
  ·exact hf
theorem HD{f f':FR}(h:FEq f f')(o:Oper):gfo P C ops f o=gfo P C ops f' o:=by
 unfold gfo
 rw[yV (f:=f) (f':=f') fun x _=>by rw[h.aH]]
 (try simp only[h.2.2])
theorem Gg{f:FR}{dst:Option Tmp}{v:MV}{o:Oper}(h:∀d,dst=some d→d∉o.looksAt ops):gfo P C ops (bD f dst v) o=gfo P C ops f o:=by
 have h1:gop P C (bD f dst v) o.op=gop P C f o.op:=yV fun x hx=>KY fun d hd e=>h d hd (by
  subst e
  exact List.mem_append_left _ (List.mem_filterMap.2 ⟨.tmp d,by simpa using hx,rfl⟩))
 unfold gfo
 rw[h1]
 split
 ·rfl
 ·rename_i j want hg
  split
  ·rename_i t ht
   have:(bD f dst v).get t=f.get t:=by
    rw[lE,if_neg]
    rintro⟨e,-⟩
    exact h t e (by simp[Oper.looksAt,hg,ht])
   rw[this]
  ·rfl
def gl(P:Program)(C:bR)(ops:Array Oper)(K:FR→(Nat→Prop)→St→Prop):List Oper→FR→(Nat→Prop)→St→Prop
 | [],f,U,σ=>K f U σ
 | o::r,f,U,σ=>gs U σ (gfo P C ops f o) fun v U' σ'=>gl P C ops K r (bD f o.dst v) U' σ'
def KOk(K:FR→(Nat→Prop)→St→Prop):Prop:=∀f f' U U' σ,FEq f f'→(∀l,U l→U' l)→K f U σ→K f' U' σ
theorem qX{U:Nat→Prop}{σ:St}{g:GF}{k k':MV→(Nat→Prop)→St→Prop}(h:gs U σ g k)(hk:∀v U' σ',k v U' σ'→k' v U' σ'):gs U σ g k':=by
 obtain⟨os,e,h1,h2,h3,h4,h5⟩:=h
 exact⟨os,e,h1,h2,h3,h4,fun v U' σ' ho=>hk v U' σ' (h5 v U' σ' ho)⟩
theorem Gi{K:FR→(Nat→Prop)→St→Prop}(hK:KOk K):∀l,KOk (gl P C ops K l)
 | []=>hK
 | o::r=>fun f f' U U' σ hf hu h=>by
  simp only[gl] at h ⊢
  rw[←HD hf]
  refine MG (qX h fun v U' σ' hh=>Gi hK r _ (bD f' o.dst v) U' U' σ' (hf.put o.dst v) (fun _ h=>h) hh) hu fun v V V' σ hv hh=>Gi hK r _ _ V V' σ (.refl _) hv hh
def N6(u:gF)(ops:Array Oper)(x y:Oper):Bool:=x.apart ops y&&((rd0 y.op || vA u x.op)&&(rd0 x.op || noW u y.op)&&(noW u x.op || noW u y.op))
structure RX where
 Ds:List Nat
 Rs:List (Nat × Nat)
 dr:Option Nat
 u:gF
def DOk(X:RX)(loc:Nat→Nat→Prop)(f:FR):Prop:=(∀t,t∈X.Ds→∃l i o,f.get t=.ptr l i o∧loc t l)∧(∀t t',t∈X.Ds→t'∈X.Ds→t≠t'→∀l,loc t l→¬loc t' l)∧∀p,p∈X.Rs→p.2∈X.Ds∧∀l i o,f.get p.1=.ptr l i o→loc p.2 l
def lX(X:RX)(loc:Nat→Nat→Prop)(C:bR):Prop:=PlU X.u C∧match X.dr with
 | none=>True
 | some d=>d∈X.Ds∧∀g ms F,C g ms=some F→∀l,l∈F.rd→loc d l
def sF(X:RX)(t:Nat):Option Nat:=if X.Ds.contains t then some t else(X.Rs.find? fun p=>p.1==t).map (·.2)
def dsr(X:RX):Op→Option Nat
 | .load _ (.tmp t)=>sF X t
 | .store _ (.tmp t) _=>sF X t
 | .call ⟨.value _,_,_⟩=>X.dr
 | _=>none
def NY(X:RX)(x y:Op):Bool:=match dsr X x,dsr X y with
 | some a,some b=>a != b
 | _,_=>false
def wQ(X:RX)(ops:Array Oper)(x y:Oper):Bool:=N6 X.u ops x y || (x.apart ops y&&NY X x.op y.op)
def Ac(X:RX)(r:Nat):Op→Bool
 | .fieldAddr _ (.tmp s) _|.move (.tmp s)=>sF X s==some r
 | _=>false
def oV(X:RX)(o:Oper):Bool:=match o.dst with
 | some d=>!X.Ds.contains d&&X.Rs.all fun p=>p.1 != d || Ac X p.2 o.op
 | none=>true
def GV(g:GF)(v:MV):Prop:=∃os e l,g.2 os=some e∧e.v l v
theorem Ep{U:Nat→Prop}{σ:St}{g:GF}{k:MV→(Nat→Prop)→St→Prop}(h:gs U σ g k):gs U σ g fun v U' σ'=>GV g v∧k v U' σ':=by
 obtain⟨os,e,h1,h2,h3,h4,h5⟩:=h
 refine⟨os,e,h1,h2,h3,h4,fun v U' σ' ho=>⟨?_,h5 v U' σ' ho⟩⟩
 unfold Eff.out at ho
 split at ho
 ·exact⟨os,e,0,h2,ho.1⟩
 ·obtain⟨l,-,hv,-⟩:=ho
  exact⟨os,e,l,h2,hv⟩
theorem vV{X:RX}{loc:Nat→Nat→Prop}{f:FR}(h:DOk X loc f){t r:Nat}(hr:sF X t=some r):r∈X.Ds∧∀l i o,f.get t=.ptr l i o→loc r l:=by
 unfold sF at hr
 split at hr
 ·rename_i hm
  cases hr
  have hm:t∈X.Ds:=by simpa using hm
  refine⟨hm,fun l i o e=>?_⟩
  obtain⟨l',i',o',e',hl⟩:=h.1 t hm
  rw[e] at e'
  cases e'
  exact hl
 ·obtain⟨p,hp,rfl⟩:=Option.map_eq_some_iff.1 hr
  have h1:=List.find?_some hp
  have h2:=List.mem_of_find?_eq_some hp
  obtain⟨h3,h4⟩:=h.2.2 p h2
  refine⟨h3,fun l i o e=>h4 l i o ?_⟩
  have:p.1=t:=by simpa using h1
  rw[this];exact e
theorem sZ{pv:PV}{v:MV}(h:GV (eD pv) v):∃c,pv=some (c,v):=by
 obtain⟨os,e,l,h1,h2⟩:=h
 simp only[eD,Option.map_eq_some_iff] at h1
 obtain⟨x,hx,rfl⟩:=h1
 exact⟨x.1,by rw[hx];congr 1;exact Prod.ext rfl h2.symm⟩
theorem Ei{X:RX}{loc:Nat→Nat→Prop}{f:FR}(h:DOk X loc f){r:Nat}{o:Oper}(hd:Ac X r o.op=true){v:MV}(hv:GV (gfo P C ops f o) v){l i j:Nat}(e:v=.ptr l i j):loc r l:=by
 subst e
 have key:GV (gop P C f o.op) (.ptr l i j)→loc r l:=by
  intro hv
  unfold Ac at hd
  split at hd
  ·rename_i ty s k hop
   rw[hop] at hv
   obtain⟨c,hc⟩:=sZ hv
   have hr:sF X s=some r:=by simpa using hd
   simp only[qop,gZ,aH] at hc
   split at hc
   ·split at hc
    ·rename_i l' i' o' hs
     simp only[Option.some.injEq,Prod.mk.injEq,MV.ptr.injEq] at hc
     rw[←hc.2.1]
     exact(vV h hr).2 _ _ _ (by assumption)
    ·simp at hc
    ·cases hc
   ·cases hc
  ·rename_i s hop
   rw[hop] at hv
   obtain⟨c,hc⟩:=sZ hv
   have hr:sF X s=some r:=by simpa using hd
   simp only[qop,aH,Option.some.injEq,Prod.mk.injEq] at hc
   exact(vV h hr).2 _ _ _ hc.2
  ·cases hd
 unfold gfo at hv
 split at hv
 ·exact key hv
 ·split at hv
  ·split at hv
   ·split at hv
    ·exact key hv
    ·obtain⟨c,hc⟩:=sZ hv;simp at hc
   ·obtain⟨c,hc⟩:=sZ hv;simp at hc
   ·obtain⟨os,e,l,h1,h2⟩:=hv;simp[bS] at h1
  ·obtain⟨os,e,l,h1,h2⟩:=hv;simp[bS] at h1
theorem DOk.put{X:RX}{loc:Nat→Nat→Prop}{f:FR}(h:DOk X loc f){o:Oper}(hk:oV X o=true){v:MV}(hv:GV (gfo P C ops f o) v):DOk X loc (bD f o.dst v):=by
 refine⟨fun t ht=>?_,h.2.1,fun p hp=>⟨(h.2.2 p hp).1,fun l i j e=>?_⟩⟩
 ·rw[lE,if_neg]
  ·exact h.1 t ht
  ·rintro⟨e,-⟩
   simp only[oV,e,Bool.and_eq_true,Bool.not_eq_true',List.contains_iff_mem] at hk
   simp[ht] at hk
 ·rw[lE] at e
  split at e
  ·rename_i hd
   simp only[oV,hd.1,Bool.and_eq_true,List.all_eq_true,Bool.or_eq_true,bne_iff_ne,ne_eq] at hk
   rcases hk.2 p hp with hn|hn
   ·exact absurd rfl hn
   ·exact Ei h hn hv e
  ·exact(h.2.2 p hp).2 l i j e
theorem yO{X:RX}{loc:Nat→Nat→Prop}{f:FR}(h:DOk X loc f)(hC:lX X loc C){o:Oper}{r:Nat}(ho:dsr X o.op=some r):r∈X.Ds∧∀l,l∈(gfo P C ops f o).1→loc r l:=by
 have ld:∀{t:Nat},sF X t=some r→r∈X.Ds∧∀g:MV→GF,(∀v,(∀l i j,v≠.ptr l i j)→(g v).1=[])→(∀l i j,(g (.ptr l i j)).1=[l])→∀l,l∈(g (f.get t)).1→loc r l:=by
  intro t ht
  obtain⟨h1,h2⟩:=vV h ht
  refine⟨h1,fun g hg1 hg2 l hl=>?_⟩
  by_cases hp:∃l' i j,f.get t=.ptr l' i j
  ·obtain⟨l',i,j,e⟩:=hp
   rw[e,hg2] at hl
   rw[List.mem_singleton.1 hl]
   exact h2 _ _ _ e
  ·rw[hg1 _ (fun l i j e=>hp ⟨l,i,j,e⟩)] at hl
   cases hl
 have key:r∈X.Ds∧∀l,l∈(gop P C f o.op).1→loc r l:=by
  unfold dsr at ho
  split at ho
  ·rename_i ty u hop
   obtain⟨h1,h2⟩:=ld ho
   refine⟨h1,fun l hl=>?_⟩
   rw[hop] at hl
   exact h2 (mF P ty) (fun v hv=>by unfold mF;split<;>first|rfl|exact absurd rfl (hv _ _ _)) (fun l i j=>rfl) l hl
  ·rename_i ty u y hop
   obtain⟨h1,h2⟩:=ld ho
   refine⟨h1,fun l hl=>?_⟩
   rw[hop] at hl
   exact h2 (fun v=>lH P ty v (aH f y)) (fun v hv=>by unfold lH;split<;>first|rfl|exact absurd rfl (hv _ _ _)) (fun l i j=>rfl) l hl
  ·rename_i x args ts hop
   unfold lX at hC
   replace hC:=hC.2
   rw[ho] at hC
   simp only at hC
   refine⟨hC.1,fun l hl=>?_⟩
   rw[hop] at hl
   simp only[gop] at hl
   split at hl
   ·unfold fY at hl
    split at hl
    ·rename_i hc;exact hC.2 _ _ _ hc l hl
    ·unfold MF at hl;split at hl<;>cases hl
    ·rename_i hc;exact hC.2 _ _ _ hc l hl
    ·cases hl
   ·cases hl
  ·cases ho
 refine⟨key.1,fun l hl=>?_⟩
 unfold gfo at hl
 split at hl
 ·exact key.2 l hl
 ·split at hl
  ·split at hl
   ·split at hl
    ·exact key.2 l hl
    ·simp[eD] at hl
   ·simp[eD] at hl
   ·simp[bS] at hl
  ·simp[bS] at hl
theorem lX.u{X:RX}{loc:Nat→Nat→Prop}(h:lX X loc C):PlU X.u C:=h.1
theorem pull{K:FR→(Nat→Prop)→St→Prop}(hK:KOk K){X:RX}{loc:Nat→Nat→Prop}(hC:lX X loc C)(l2:List Oper)(o:Oper):∀(l1:List Oper) (f:FR) (U:Nat→Prop) (σ:St),Dom U σ→Fin U→DOk X loc f→(∀x,x∈l1→wQ X ops x o=true)→(∀x,x∈l1→oV X x=true) →
  gl P C ops K (l1++o::l2) f U σ→gs U σ (gfo P C ops f o) fun v U1 σ1=>∀U1',(∀l,U1 l→U1' l)→gl P C ops K (l1++l2) (bD f o.dst v) U1' σ1:=by
 intro l1
 induction l1 with
 | nil =>
  intro f U σ hd hf _ _ _ h
  exact qX h fun v U' σ' hh U1' hu=>Gi hK _ _ _ U' U1' σ' (.refl _) hu hh
 | cons x l1 ih =>
  intro f U σ hd hf hD hsw hkp h
  have hx:=hsw x (by simp)
  have wx:=Mb (P:=P) (C:=C) (ops:=ops) hC.u f x
  have wo:=Mb (P:=P) (C:=C) (ops:=ops) hC.u f o
  have hx2:x.apart ops o=true∧((((gfo P C ops f o).1=[]∨jK (gfo P C ops f x))∧((gfo P C ops f x).1=[]∨NoW (gfo P C ops f o))∧(NoW (gfo P C ops f x)∨NoW (gfo P C ops f o)))∨∀l,l∈(gfo P C ops f x).1→l∉(gfo P C ops f o).1):=by
   simp only[wQ,N6,Bool.or_eq_true,Bool.and_eq_true] at hx
   rcases hx with⟨hap,⟨c1,c2⟩,c3⟩|⟨hap,hdj⟩
   ·exact⟨hap,.inl ⟨c1.imp wo.2.2.2 wx.2.1,c2.imp wx.2.2.2 wo.2.2.1,c3.imp wx.2.2.1 wo.2.2.1⟩⟩
   ·refine⟨hap,.inr ?_⟩
    unfold NY at hdj
    split at hdj
    ·rename_i a b ha hb
     obtain⟨m1,r1⟩:=yO (P:=P) (C:=C) (ops:=ops) hD hC ha
     obtain⟨m2,r2⟩:=yO (P:=P) (C:=C) (ops:=ops) hD hC hb
     intro l h1 h2
     have e1:=r1 l h1
     have e2:=r2 l h2
     exact hD.2.1 a b m1 m2 (by simpa using hdj) l e1 e2
    ·cases hdj
  obtain⟨hap,hc⟩:=hx2
  obtain⟨a1,a2,a3⟩:=Oper.apart_spec hap
  simp only[List.cons_append,gl] at h
  have h':=sY (Ep h) hd hf (k':=fun v U1 σ1=>gs U1 σ1 (gfo P C ops f o) fun u U2 σ2=>∀U2',(∀l,U2 l→U2' l)→gl P C ops K (l1++l2) (bD (bD f x.dst v) o.dst u) U2' σ2) (fun v U1 σ1 hd1 hf1 _ ⟨hgv,hh⟩=>by
   have:=ih (bD f x.dst v) U1 σ1 hd1 hf1 (hD.put (hkp x (by simp)) hgv) (fun y hy=>hsw y (by simp[hy])) (fun y hy=>hkp y (by simp[hy])) hh
   rwa [Gg a1] at this) wx.1
  have h2:=MI (K:=fun v u U2 σ2=>∀U2',(∀l,U2 l→U2' l)→gl P C ops K (l1++l2) (bD (bD f x.dst v) o.dst u) U2' σ2) hd hf wx.1 wo.1 hc
   (fun v u V V' σ hv hh U2' hu=>hh U2' fun l hl=>hu l (hv l hl)) h'
  refine qX h2 fun u U1 σ1 hh U1' hu=>?_
  (try simp only[List.cons_append,gl])
  rw[Gg a3]
  refine qX (hh U1' hu) fun v U2 σ2 hk=>?_
  exact Gi hK _ _ _ U2 U2 σ2 (FEq.comm f v u a2) (fun _ h=>h) (hk U2 fun _ h=>h)
end
end

section
def oF:List Oper→List Nat→List Nat
 | [],acc=>acc
 | o::r,acc=>oF r (acc++[o.after.toList.foldl (fun m e=>if Region.binds .any e then(m ||| 2 ^ e.on) ||| acc.getD e.on 0 else m) 0])
def oO(X:RX)(ops:Array Oper):Bool :=
 let ms:=oF ops.toList []
 (ops.toList.all (oV X))&&(List.range ops.size).all fun i=>match ops[i]? with
  | none=>true
  | some oi=>(oi.after.toList.all fun e=>!Region.binds .any e || decide (e.on<i)) &&
   ((List.range i).all fun j=>match ops[j]? with
    | none=>true
    | some oj=>(ms.getD i 0).testBit j || wQ X ops oj oi)
def chk(ops:Array Oper):Bool:=oO ⟨[],[],none,.no⟩ ops
section
variable {P:Program} {C:bR} {ops:Array Oper}
def qL(ops:Array Oper)(L:Nat→Prop):Prop:=∀i o,ops[i]?=some o→L i→∀e,e∈o.after.toList→Region.binds .any e=true→L e.on
theorem J1{L:Nat→Prop}{acc:List Nat}{B:Edge→Bool}(hacc:∀i,L i→∀j,(acc.getD i 0).testBit j=true→L j):∀(es:List Edge) (m:Nat),(∀e,e∈es→B e=true→L e.on)→(∀j,m.testBit j=true→L j) →
  ∀j,(es.foldl (fun m e=>if B e then(m ||| 2 ^ e.on) ||| acc.getD e.on 0 else m) m).testBit j=true→L j:=by
 intro es
 induction es with
 | nil=>intro m _ hm j h;exact hm j h
 | cons e r ih =>
  intro m he hm j h
  simp only[List.foldl_cons] at h
  refine ih _ (fun e' h'=>he e' (by simp[h'])) (fun k hk=>?_) j h
  split at hk
  ·rename_i hb
   simp only[Nat.testBit_or,Bool.or_eq_true] at hk
   rcases hk with(hk|hk)|hk
   ·exact hm k hk
   ·rw[Nat.testBit_two_pow] at hk
    have:e.on=k:=by simpa using hk
    exact this ▸ he e (by simp) hb
   ·exact hacc e.on (he e (by simp) hb) k hk
  ·exact hm k hk
theorem oZ{L:Nat→Prop}:∀(l pre:List Oper) (acc:List Nat),acc.length=pre.length→qL (pre++l).toArray L →
  (∀i,(L i∨∃o,(pre++l)[i]?=some o∧∀e,e∈o.after.toList→Region.binds .any e=true→L e.on)→∀j,(acc.getD i 0).testBit j=true→L j) →
  ∀i,(L i∨∃o,(pre++l)[i]?=some o∧∀e,e∈o.after.toList→Region.binds .any e=true→L e.on)→∀j,((oF l acc).getD i 0).testBit j=true→L j:=by
 intro l
 induction l with
 | nil=>intro pre acc _ _ h;exact h
 | cons o r ih =>
  intro pre acc hl hc h
  have e1:pre++o::r=(pre++[o])++r:=by simp
  (try simp only[oF])
  rw[e1] at hc h ⊢
  refine ih (pre++[o]) _ (by simp[hl]) hc (fun i hi j hj=>?_)
  rcases Nat.lt_trichotomy i acc.length with q|q|q
  ·refine h i hi j ?_
   simpa[List.getD,List.getElem?_append_left q] using hj
  ·have ho:((pre++[o])++r)[i]?=some o:=by
    rw[q,hl];simp
   have hpre:∀e,e∈o.after.toList→Region.binds .any e=true→L e.on:=by
    rcases hi with hi|⟨o',h1,h2⟩
    ·exact hc i o (by simpa using ho) hi
    ·rw[ho] at h1;cases h1;exact h2
   rw[q] at hj
   simp only[List.getD,List.getElem?_append_right (Nat.le_refl _),Nat.sub_self,List.getElem?_cons_zero,Option.getD_some] at hj
   exact J1 (B:=Region.binds .any) (fun k hk=>h k (.inl hk)) o.after.toList 0 hpre (fun j hj=>by simp at hj) j hj
  ·have:(acc++[o.after.toList.foldl (fun m e=>if Region.binds .any e then(m ||| 2 ^ e.on) ||| acc.getD e.on 0 else m) 0])[i]?=none:=by
    rw[List.getElem?_eq_none];simp;omega
   rw[List.getD,this] at hj
   simp at hj
def left(listed:Array Bool)(n:Nat):List Nat:=(List.range n).filter fun i=>!listed.getD i true
theorem uF{listed:Array Bool}{n i:Nat}(hs:listed.size=n):left (listed.setIfInBounds i true) n=(left listed n).filter fun j=>j != i:=by
 unfold left
 rw[List.filter_filter]
 refine List.filter_congr fun j hj=>?_
 have hj:j<n:=by simpa using hj
 by_cases h:j=i
 ·subst h;simp[hs,hj]
 ·have:(i:Nat)≠j:=fun e=>h e.symm
  simp[h,Array.getElem?_setIfInBounds_ne this]
theorem oX{listed:Array Bool}{n i:Nat}(h:i∈left listed n):∃l1 l2,left listed n=l1++i::l2∧(∀j,j∈l1→j<i)∧(left listed n).filter (fun j=>j != i)=l1++l2:=by
 obtain⟨l1,l2,he⟩:=List.append_of_mem h
 have hp:(left listed n).Pairwise (·<·):=List.Pairwise.filter _ List.pairwise_lt_range
 rw[he] at hp
 obtain⟨h1,h2,h3⟩:=List.pairwise_append.1 hp
 have h4:=(List.pairwise_cons.1 h2).1
 refine⟨l1,l2,he,fun j hj=>h3 j hj i (by simp),?_⟩
 rw[he]
 (try simp only[List.filter_append,List.filter_cons,bne_self_eq_false,Bool.false_eq_true,if_false])
 congr 1
 ·exact List.filter_eq_self.2 fun j hj=>by have:=h3 j hj i (by simp);simp;omega
 ·exact List.filter_eq_self.2 fun j hj=>by have:=h4 j hj;simp;omega
def opsOf(ops:Array Oper)(is:List Nat):List Oper:=is.filterMap fun i=>ops[i]?
theorem mem_left{listed:Array Bool}{n i:Nat}:i∈left listed n↔i<n∧listed.getD i true=false:=by simp[left]
theorem GW{X:RX}{loc:Nat→Nat→Prop}(hC:lX X loc C)(hchk:oO X ops=true){F:Fence}(hF:F=Fence.wide∨∃l0,F=Fence.wide.inRound l0∧∀o,o∈ops.toList→∀c,o.op≠.defer c){Q:MQ}{Φ0:Phi}{σ0:St}{w0:World}:∀(fuel:Nat) (listed:Array Bool) (f:FR) (σ:St) (Φ:Phi) (w:World) (a:Act),listed.size=ops.size→(left listed ops.size).length=fuel →
  qL ops (fun i=>listed.getD i false=true)→Inv Φ w σ→cL Φ a.tmps f→dR Φ w a.defers f.d→DOk X loc f→Step Φ0 σ0 w0 Φ σ w →
  gl P C ops (fun f' _ σ'=>∃f'',FEq f' f''∧Q .normal f'' σ') (opsOf ops (left listed ops.size)) f (fun l=>Φ.obj l≠none) σ→wpAnyIn F 0 P .any ops (lift Φ0 σ0 w0 Q) fuel listed a w:=by
 have hKok:KOk (fun f' (_:Nat→Prop) σ'=>∃f'',FEq f' f''∧Q .normal f'' σ'):=fun f f' U U' σ hf _ ⟨f'',h1,h2⟩=>⟨f'',hf.symm.trans h1,h2⟩
 have fin:∀(listed:Array Bool) (f:FR) (σ:St) (Φ:Phi) (w:World) (a:Act),left listed ops.size=[]→Inv Φ w σ→cL Φ a.tmps f→dR Φ w a.defers f.d→Step Φ0 σ0 w0 Φ σ w →
   gl P C ops (fun f' _ σ'=>∃f'',FEq f' f''∧Q .normal f'' σ') (opsOf ops (left listed ops.size)) f (fun l=>Φ.obj l≠none) σ→lift Φ0 σ0 w0 Q .normal a w:=by
  intro listed f σ Φ w a hl hi hr hd hs h
  rw[hl] at h
  obtain⟨f'',h1,h2⟩:=h
  exact⟨f'',σ,Φ,h1.2.1 ▸ hd,⟨hr.1.trans h1.1,fun t=>by rw[←h1.2.2 t];exact hr.2 t⟩,hi,hs,h2⟩
 have ready_left:∀(listed:Array Bool) i,i∈Region.ready .any ops listed→i∈left listed ops.size:=fun listed i hi=>by
  obtain⟨h0,o,ho,-⟩:=mem_ready.1 hi
  exact mem_left.2 ⟨(Array.getElem?_eq_some_iff.1 ho).1,h0⟩
 have chk1:∀i oi,ops[i]?=some oi→(∀e,e∈oi.after.toList→Region.binds .any e=true→e.on<i)∧∀j oj,j<i→ops[j]?=some oj→((oF ops.toList []).getD i 0).testBit j=true∨wQ X ops oj oi=true:=by
  intro i oi hoi
  have hlt:=(Array.getElem?_eq_some_iff.1 hoi).1
  have h:=hchk
  simp only[oO,Bool.and_eq_true] at h
  replace h:=h.2
  simp only[List.all_eq_true,List.mem_range] at h
  have h1:=h i hlt
  rw[hoi] at h1
  simp only[Bool.and_eq_true,List.all_eq_true,Bool.or_eq_true,Bool.not_eq_true',decide_eq_true_eq,List.mem_range] at h1
  refine⟨fun e he hb=>?_,fun j oj hj hoj=>?_⟩
  ·rcases h1.1 e he with q|q
   ·rw[hb] at q;cases q
   ·exact q
  ·have:=h1.2 j hj
   rw[hoj] at this
   simpa using this
 intro fuel
 induction fuel with
 | zero =>
  intro listed f σ Φ w a hsz hl hc hi hr hd hD hs h
  have hnil:left listed ops.size=[]:=List.eq_nil_of_length_eq_zero hl
  refine⟨?_,fin listed f σ Φ w a hnil hi hr hd hs h⟩
  rw[List.eq_nil_iff_forall_not_mem]
  intro i hi
  have:=ready_left listed i hi
  rw[hnil] at this;cases this
 | succ fuel ih =>
  intro listed f σ Φ w a hsz hl hc hi hr hd hD hs h
  refine⟨fun hnone=>?_,fun i hrd=>?_⟩
  ·-- the first that is left is ready
   exfalso
   cases hleft:left listed ops.size with
   | nil=>rw[hleft] at hl;cases hl
   | cons i0 r =>
    have h0:i0∈left listed ops.size:=by rw[hleft];simp
    obtain⟨hlt,h0'⟩:=mem_left.1 h0
    have hoi:ops[i0]?=some ops[i0]:=Array.getElem?_eq_getElem hlt
    have:i0∈Region.ready .any ops listed:=mem_ready.2 ⟨h0',_,hoi,fun e he hb=>by
     have hlt':=(chk1 i0 _ hoi).1 e (by simpa using he) hb
     cases hq:listed.getD e.on false with
     | true=>rfl
     | false =>
      exfalso
      have hm:e.on∈left listed ops.size:=mem_left.2 ⟨by omega,by
       have hb2:e.on<listed.size:=by omega
       simpa[hb2] using hq⟩
      have hp:(left listed ops.size).Pairwise (·<·):=List.Pairwise.filter _ List.pairwise_lt_range
      rw[hleft] at hp hm
      have:=(List.pairwise_cons.1 hp).1
      rcases List.mem_cons.1 hm with q|q
      ·omega
      ·have:=this e.on q;omega⟩
    rw[hnone] at this;cases this
  ·have hmem:=ready_left listed i hrd
   obtain⟨l1,l2,he,hlt,hflt⟩:=oX hmem
   obtain⟨h0,o,ho,hpre⟩:=mem_ready.1 hrd
   have hsw:∀x,x∈opsOf ops l1→wQ X ops x o=true:=by
    intro x hx
    obtain⟨j,hj,hx⟩:=List.mem_filterMap.1 hx
    rcases (chk1 i o ho).2 j x (hlt j hj) hx with q|q
    ·exfalso
     have:=oZ (L:=fun i=>listed.getD i false=true) ops.toList [] [] rfl (by simpa using hc) (fun i hi j hj=>by simp at hj) i (.inr ⟨o,by simpa using ho,fun e he hb=>hpre e (by simpa using he) hb⟩) j q
     have hjl:j∈left listed ops.size:=by rw[he];simp[hj]
     have hj2:=(mem_left.1 hjl)
     have hb2:j<listed.size:=by omega
     simp[hb2] at this hj2
     simp[this] at hj2
    ·exact q
   have e2:opsOf ops (left listed ops.size)=opsOf ops l1++o::opsOf ops l2:=by rw[he];simp[opsOf,List.filterMap_append,ho]
   rw[e2] at h
   have hdom:Dom (fun l=>Φ.obj l≠none) σ:=fun l hl q=>hl (hi.eL q)
   have hfin:Fin (fun l=>Φ.obj l≠none):=by
    obtain⟨n,hn⟩:=hi.fresh.1.1
    exact⟨n,fun l hl q=>q (hn l hl)⟩
   have hkall:∀(j:Nat) x,ops[j]?=some x→oV X x=true:=fun j x hx=>by
    have h:=hchk
    simp only[oO,Bool.and_eq_true,List.all_eq_true] at h
    exact h.1 x (by rw[←Array.getElem?_toList] at hx;exact List.mem_of_getElem? hx)
   have hp:=Ep (pull hKok hC (opsOf ops l2) o (opsOf ops l1) f _ σ hdom hfin hD hsw (fun x hx=>by
    obtain⟨j,hj,hx⟩:=List.mem_filterMap.1 hx
    exact hkall j x hx) h)
   have e3:opsOf ops (left (listed.setIfInBounds i true) ops.size)=opsOf ops l1++opsOf ops l2:=by rw[uF hsz,hflt];simp[opsOf,List.filterMap_append]
   have hlen:(left (listed.setIfInBounds i true) ops.size).length=fuel:=by
    rw[uF hsz,hflt]
    rw[he] at hl
    simp at hl ⊢;omega
   have hcl:qL ops (fun k=>(listed.setIfInBounds i true).getD k false=true):=by
    intro k ok hk hlk e hek hb
    by_cases hki:k=i
    ·subst hki
     rw[ho] at hk;cases hk
     exact getD_set_true (hpre e (by simpa using hek) hb)
    ·have:listed.getD k false=true:=by rw[←hlk,getD_set_ne _ (Ne.symm hki)]
     exact getD_set_true (hc k ok hk this e hek hb)
   -- what comes then
   have next:∀v mv σ' Φ' w' ,Rel Φ' v mv→Inv Φ' w' σ'→Step Φ σ w Φ' σ' w' →
     (∃U':Nat→Prop,(∀l,U' l→Φ.obj l≠none∨σ' l≠none)∧GV (gfo P C ops f o) mv∧∀U1',(∀l,U' l→U1' l)→gl P C ops (fun f' _ σ'=>∃f'',FEq f' f''∧Q .normal f'' σ') (opsOf ops l1++opsOf ops l2) (bD f o.dst mv) U1' σ') →
     wpAnyIn F 0 P .any ops (lift Φ0 σ0 w0 Q) fuel (listed.setIfInBounds i true) (a.put o.dst v) w':=by
    rintro v mv σ' Φ' w' r1 i1 s1 ⟨U',hu,hgv,hk⟩
    refine ih _ (bD f o.dst mv) σ' Φ' w' (a.put o.dst v) (by simpa using hsz) hlen hcl i1 (cO (hr.mono s1.le) o.dst r1) (by rw[bN,eF];exact hd.step hi s1) (hD.put (hkall i o ho) hgv) (hs.trans s1) ?_
    rw[e3]
    refine hk _ fun l hl=>?_
    rcases hu l hl with q|q
    ·intro hn
     cases hp:Φ.obj l with
     | none=>exact q hp
     | some p=>rw[s1.le.obj l p hp] at hn;cases hn
    ·intro hn;exact q (i1.eL hn)
   unfold wpOpIn
   rw[ho]
   simp only
   have hFo:F=Fence.wide∨∃l0,F=Fence.wide.inRound l0∧∀c,o.op≠.defer c:=hF.imp id fun⟨l0,e,q⟩=>⟨l0,e,q o (by rw[←Array.getElem?_toList] at ho;exact List.mem_of_getElem? ho)⟩
   have hfn:∀g,F.fn g:=fun g=>by rcases hF with rfl|⟨l,rfl,_⟩<;>trivial
   have run:gs (fun l=>Φ.obj l≠none) σ (gop P C f o.op) (fun v U1 σ1=>GV (gfo P C ops f o) v∧∀U1',(∀l,U1 l→U1' l)→gl P C ops (fun f' _ σ'=>∃f'',FEq f' f''∧Q .normal f'' σ') (opsOf ops l1++opsOf ops l2) (bD f o.dst v) U1' σ1) →
     o.wpIn F 0 P a w (wpAnyIn F 0 P .any ops (lift Φ0 σ0 w0 Q) fuel (listed.setIfInBounds i true)) (lift Φ0 σ0 w0 Q):=by
    intro hg
    refine eZ hFo ?_
    refine kT (N3 hg) Φ w a _ _ hi hr fun v mv σ' Φ' w' r1 i1 s1 hk=>next v mv σ' Φ' w' r1 i1 s1 (hk fun l h1 h2 q=>?_)
    rcases s1.locs l _ (Option.ne_none_iff_exists'.1 h1).choose_spec with⟨o',ho'⟩|ho'
    ·rw[h2] at ho';cases ho'
    ·exact q ho'
   obtain⟨G,hG⟩:∃G,GV (gfo P C ops f o)=G:=⟨_,rfl⟩
   rw[hG] at hp run next
   unfold gfo at hp
   split at hp
   ·rename_i hg
    have hw:Region.wanted o (yielded ops a.tmps)=true:=by unfold Region.wanted;rw[hg]
    rw[if_pos hw]
    exact run hp
   ·rename_i j want hg
    split at hp
    ·rename_i t ht
     split at hp
     ·rename_i b hb
      have hmg:∀{A B:Prop},(b=want→A)∧(b=(!want)→B)→(Region.wanted o (yielded ops a.tmps)=true∧A)∨(Region.wanted o (yielded ops a.tmps)=false∧B):=fun {A B} h =>
       cF (ops:=ops) (o:=o) (f:=f) (by unfold fJ;rw[hg];(try simp only[ht,hb]);exact h) hr
      split at hp
      ·rename_i hbw
       rcases hmg (A:=True) (B:=False) ⟨fun _=>trivial,fun e=>by rw[hbw] at e;cases want<;>cases e⟩ with⟨hw,-⟩|⟨-,hw⟩
       ·rw[if_pos hw];exact run hp
       ·exact hw.elim
      ·rename_i hbw
       rcases hmg (A:=False) (B:=True) ⟨fun e=>hbw e,fun _=>trivial⟩ with⟨-,hw⟩|⟨hw,-⟩
       ·exact hw.elim
       ·rw[if_neg (by simp[hw])]
        obtain⟨-,U',hu,hgv,hk⟩:=lQ hp
        exact⟨fun f _=>hfn f,next undef (.tup []) σ Φ w gA hi (.refl _ _ _) ⟨U',hu,hgv,hk⟩⟩
     ·rename_i hb
      rcases cF (ops:=ops) (o:=o) (f:=f) (yes:=False) (no:=True) (by unfold fJ;rw[hg];simp only[ht,hb]) hr with⟨-,hw⟩|⟨hw,-⟩
      ·exact hw.elim
      ·rw[if_neg (by simp[hw])]
       obtain⟨-,U',hu,hgv,hk⟩:=lQ hp
       exact⟨fun f _=>hfn f,next undef (.tup []) σ Φ w gA hi (.refl _ _ _) ⟨U',hu,hgv,hk⟩⟩
     ·exact(eQ hp).elim
    ·exact(eQ hp).elim
def eK(P:Program)(MC:FuncId→List MV→St→(MV→St→Prop)→Prop)(ops:Array Oper)(K:FR→St→Prop):List Oper→FR→St→Prop
 | [],f,σ=>K f σ
 | o::rest,f,σ=>fJ ops f o (xO P MC f σ (fun v σ'=>eK P MC ops K rest (bD f o.dst v) σ') o.op) (eK P MC ops K rest (bD f o.dst (.tup [])) σ)
abbrev iN(P:Program)(C:bR):=eK P (o3 P C)
theorem N0{MC:FuncId→List MV→St→(MV→St→Prop)→Prop}(hMC:∀U σ,Dom U σ→∀g ms k,MC g ms σ k→gs U σ (fY P C g ms) fun v _ σ'=>k v σ'){u:gF}(hu:PlU u C){K:FR→St→Prop}:∀(l:List Oper) (f:FR) (U:Nat→Prop) (σ:St),Dom U σ→Fin U→eK P MC ops K l f σ→gl P C ops (fun f' _ σ'=>∃f'',FEq f' f''∧K f'' σ') l f U σ:=by
 intro l
 induction l with
 | nil=>intro f U σ _ _ h;exact⟨f,.refl f,h⟩
 | cons o r ih =>
  intro f U σ hd hf h
  simp only[eK] at h
  (try simp only[gl])
  have run:xO P MC f σ (fun v σ'=>eK P MC ops K r (bD f o.dst v) σ') o.op→gs U σ (gop P C f o.op) fun v U' σ'=>gl P C ops (fun f' _ σ'=>∃f'',FEq f' f''∧K f'' σ') r (bD f o.dst v) U' σ':=fun h =>
   sY (Ox (hMC U σ hd) hd h) hd hf (fun v U' σ' hd' hf' _ hh=>ih _ U' σ' hd' hf' hh) (FM P C hu f o.op).1
  unfold fJ at h
  unfold gfo
  split at h
  ·rename_i hg;(try simp only[hg]);exact run h
  ·rename_i j want hg
   (try simp only[hg])
   split at h
   ·rename_i t ht
    (try simp only[ht])
    split at h
    ·rename_i b hb
     (try simp only[hb])
     split
     ·rename_i hbw;exact run (h.1 hbw)
     ·rename_i hbw
      have hb':b=!want:=by cases b<;>cases want<;>simp at hbw ⊢
      refine qX (sY (lG (U:=U) (pv:=some (True,.tup [])) (k:=fun v σ'=>v=.tup []∧σ'=σ) ⟨trivial,rfl,rfl⟩) hd hf (k':=fun v U' σ'=>v=.tup []∧σ'=σ∧Dom U' σ'∧Fin U') (fun v U' σ' h1 h2 _ h3=>⟨h3.1,h3.2,h1,h2⟩) (cK _).1) ?_
      rintro v U' σ' ⟨rfl,rfl,h1,h2⟩
      exact ih _ U' _ h1 h2 (h.2 hb')
    ·rename_i hb
     (try simp only[hb])
     refine qX (sY (lG (U:=U) (pv:=some (True,.tup [])) (k:=fun v σ'=>v=.tup []∧σ'=σ) ⟨trivial,rfl,rfl⟩) hd hf (k':=fun v U' σ'=>v=.tup []∧σ'=σ∧Dom U' σ'∧Fin U') (fun v U' σ' h1 h2 _ h3=>⟨h3.1,h3.2,h1,h2⟩) (cK _).1) ?_
     rintro v U' σ' ⟨rfl,rfl,h1,h2⟩
     exact ih _ U' _ h1 h2 h
    ·exact h.elim
   ·exact h.elim
theorem rF(hm:P.follows .mixedOrders=true){X:RX}{loc:Nat→Nat→Prop}(hC:lX X loc C)(hchk:oO X ops=true){MC:FuncId→List MV→St→(MV→St→Prop)→Prop}(hMC:∀U σ,Dom U σ→∀g ms k,MC g ms σ k→gs U σ (fY P C g ms) fun v _ σ'=>k v σ'){id:Nat}{f:FR}{σ:St}{Q:MQ}(hD:DOk X loc f)(h:eK P MC ops (Q .normal) ops.toList f σ):mwp P (.region id ops true) f σ Q:=by
 intro F hF Φ w a hi hr hd
 have hi':Inv Φ { w with drawn:=w.drawn+1 } σ:=⟨fun l o hl=>by
  have:=hi.own l o hl
  cases o<;>exact this,hi.inj,hi.snap,hi.apart,hi.fresh⟩
 have hst:Step Φ σ w Φ σ { w with drawn:=w.drawn+1 }:=⟨.refl Φ,rfl,rfl,rfl,iR (Nat.le_succ _),Nat.le_refl _,fun _ _ _=>rfl,fun _ _ h=>.inl h,fun l o h=>.inl ⟨o,h⟩,fun _ h=>.inl h⟩
 have hall:left (Array.replicate ops.size false) ops.size=List.range ops.size:=by
  unfold left
  refine List.filter_eq_self.2 fun j hj=>?_
  have hj:j<ops.size:=by simpa using hj
  simp[hj]
 have hops:opsOf ops (List.range ops.size)=ops.toList:=by
  unfold opsOf
  apply List.ext_getElem?
  intro i
  have:∀(l:List Oper),(List.range l.length).filterMap (fun i=>l[i]?)=l:=by
   intro l
   induction l with
   | nil=>rfl
   | cons a r ih =>
    rw[List.length_cons,List.range_succ_eq_map,List.filterMap_cons]
    (try simp only[List.getElem?_cons_zero,List.filterMap_map])
    congr 1
  have:=this ops.toList
  simp only[Array.length_toList,Array.getElem?_toList] at this
  rw[this]
 refine wpIn_region_any hm (GW (C:=C) hC hchk hF.ops ops.size _ f σ Φ _ a (by simp) (by rw[hall];simp) ?_ hi' hr (hd.step hi hst) hD hst ?_)
 ·intro i o ho hl
  simp only[Array.getD_eq_getD_getElem?,Array.getElem?_replicate] at hl
  split at hl<;>simp at hl
 ·rw[hall,hops]
  refine N0 hMC hC.u ops.toList f _ σ (fun l hl q=>hl (hi.eL q)) ?_ h
  obtain⟨n,hn⟩:=hi.fresh.1.1
  exact⟨n,fun l hl q=>q (hn l hl)⟩
theorem II(hm:P.follows .mixedOrders=true){Ds:List Nat}{loc:Nat→Nat→Prop}(hchk:oO ⟨Ds,[],none,.no⟩ ops=true)(C:bR){id:Nat}{f:FR}{σ:St}{Q:MQ}(hD:DOk ⟨Ds,[],none,.no⟩ loc f)(h:iN P C ops (Q .normal) ops.toList f σ):mwp P (.region id ops true) f σ Q :=
 rF (C:=C.pl) (X:=⟨Ds,[],none,.no⟩) (loc:=loc) hm (show lX ⟨Ds,[],none,.no⟩ loc C.pl from⟨C.GD.u,trivial⟩) hchk (fun _ _ hd _ _ _ h=>sX hd h) hD h
theorem CN(hm:P.follows .mixedOrders=true)(hchk:chk ops=true)(C:bR){id:Nat}{f:FR}{σ:St}{Q:MQ}(h:iN P C ops (Q .normal) ops.toList f σ):mwp P (.region id ops true) f σ Q :=
 II (loc:=fun _ _=>True) hm hchk C ⟨fun t ht=>(by cases ht),fun t t' ht=>(by cases ht),fun p hp=>(by cases hp)⟩ h
theorem IK(hm:P.follows .mixedOrders=true){X:RX}{loc:Nat→Nat→Prop}(C:bR)(hC:lX X loc C)(hchk:oO X ops=true){id:Nat}{f:FR}{σ:St}{Q:MQ}(hD:DOk X loc f)(h:eK P (lJ P C) ops (Q .normal) ops.toList f σ):mwp P (.region id ops true) f σ Q :=
 rF hm hC hchk (fun _ _ hd _ _ _ h=>J4 hd h) hD h
theorem IJ(hm:P.follows .mixedOrders=true)(L:List FuncId)(C:bR)(hC:PlU (.these L) C)(hchk:oO ⟨[],[],none,.these L⟩ ops=true){id:Nat}{f:FR}{σ:St}{Q:MQ}(h:eK P (lJ P C) ops (Q .normal) ops.toList f σ):mwp P (.region id ops true) f σ Q :=
 IK (X:=⟨[],[],none,.these L⟩) (loc:=fun _ _=>True) hm C ⟨hC,trivial⟩ hchk ⟨fun t ht=>(by cases ht),fun t t' ht=>(by cases ht),fun p hp=>(by cases hp)⟩ h
end
end

section
def lO:Op→Bool
 | .call ⟨.value _,_,_⟩|.defer _=>false
 | _=>true
section
variable {P:Program} {C:bR} {MC:FuncId→List MV→St→(MV→St→Prop)→Prop} {f:FR} {σ:St} {Q:MQ} {k:MV→St→Prop} {K:FR→St→Prop} {ops:Array Oper} {rest:List Oper}
theorem E1{op:Op}(h:lO op=true):xO P MC f σ k op=mop P f σ k op:=by
 cases op<;>first|rfl|(simp[lO] at h;done)|skip
 rename_i c
 obtain⟨callee,args,ts⟩:=c
 cases callee<;>first|rfl|(simp[lO] at h;done)
theorem Ck{id:Nat}{l:List Oper}(hm:P.follows .mixedOrders=true)(hchk:(chk l.toArray&&l.all fun o=>lO o.op)=true)(h:R (iN P (fun _ _=>none) (@OfNat.ofNat (Array Oper) (nat_lit 0) (@_root_.id (OfNat (Array Oper) (nat_lit 0)) (OfNat.mk (l.toArray)))) (Q .normal) (@OfNat.ofNat (List Oper) (nat_lit 0) (@_root_.id (OfNat (List Oper) (nat_lit 0)) (OfNat.mk l))) f σ)):R (oG P id (@OfNat.ofNat (List Oper) (nat_lit 0) (@_root_.id (OfNat (List Oper) (nat_lit 0)) (OfNat.mk l))) f σ Q):=by
 simp only[Bool.and_eq_true] at hchk
 exact CN hm hchk.1 (fun _ _=>none) h
theorem aK{id:Nat}{l:List Oper}(hm:P.follows .mixedOrders=true)(hchk:chk l.toArray=true)(C:bR)(h:R (iN P C (@OfNat.ofNat (Array Oper) (nat_lit 0) (@_root_.id (OfNat (Array Oper) (nat_lit 0)) (OfNat.mk (l.toArray)))) (Q .normal) (@OfNat.ofNat (List Oper) (nat_lit 0) (@_root_.id (OfNat (List Oper) (nat_lit 0)) (OfNat.mk l))) f σ)):R (oG P id (@OfNat.ofNat (List Oper) (nat_lit 0) (@_root_.id (OfNat (List Oper) (nat_lit 0)) (OfNat.mk l))) f σ Q) :=
 CN hm hchk C h
def uI(ds:List (Nat × Nat))(t:Nat):Nat:=((ds.find? fun p=>p.1==t).map (·.2)).getD 0
theorem s6:∀{ds:List (Nat × Nat)},(ds.map (·.1)).Pairwise (·≠·)→∀p,p∈ds→uI ds p.1=p.2
 | [],_,p,hp=>by cases hp
 | q::r,h3,p,hp=>by
  simp only[List.map_cons] at h3
  obtain⟨b1,b2⟩:=List.pairwise_cons.1 h3
  rcases List.mem_cons.1 hp with rfl|hp'
  ·simp[uI]
  ·have:(q.1==p.1)=false:=by simpa using b1 p.1 (List.mem_map.2 ⟨p,hp',rfl⟩)
   unfold uI
   rw[List.find?_cons,this]
   exact s6 b2 p hp'
theorem Kn{ds:List (Nat × Nat)}{f:FR}(h1:∀p,p∈ds→∃i o,f.get p.1=.ptr p.2 i o)(h3:(ds.map (·.1)).Pairwise (·≠·)):∀t,t∈ds.map (·.1)→∃i o,f.get t=.ptr (uI ds t) i o:=fun t ht=>by
 obtain⟨p,hp,rfl⟩:=List.mem_map.1 ht
 rw[s6 h3 p hp]
 exact h1 p hp
theorem MZ{ds:List (Nat × Nat)}(h2:(ds.map (·.2)).Pairwise (·≠·))(h3:(ds.map (·.1)).Pairwise (·≠·)):∀t t',t∈ds.map (·.1)→t'∈ds.map (·.1)→t≠t'→uI ds t≠uI ds t':=fun t t' ht ht' hne=>by
 obtain⟨p,hp,rfl⟩:=List.mem_map.1 ht
 obtain⟨q,hq,rfl⟩:=List.mem_map.1 ht'
 rw[s6 h3 p hp,s6 h3 q hq]
 intro e
 obtain⟨i,hi,e1⟩:=List.mem_iff_getElem.1 hp
 obtain⟨j,hj,e2⟩:=List.mem_iff_getElem.1 hq
 have hij:i≠j:=fun e=>by subst e;exact hne (by rw[←e1,←e2])
 rw[List.pairwise_iff_getElem] at h2
 rcases Nat.lt_or_gt_of_ne hij with hlt|hgt
 ·have:=h2 i j (by simpa using hi) (by simpa using hj) hlt
  simp only[List.getElem_map,e1,e2] at this
  exact this e
 ·have:=h2 j i (by simpa using hj) (by simpa using hi) hgt
  simp only[List.getElem_map,e1,e2] at this
  exact this e.symm
theorem DOk.of{ds:List (Nat × Nat)}{Rs:List (Nat × Nat)}{dr:Option Nat}{tu:gF}{f:FR}(h1:∀p,p∈ds→∃i o,f.get p.1=.ptr p.2 i o)(h2:(ds.map (·.2)).Pairwise (·≠·))(h3:(ds.map (·.1)).Pairwise (·≠·))(h4:∀p,p∈Rs→p.2∈ds.map (·.1)∧∀l i o,f.get p.1=.ptr l i o→l=uI ds p.2):DOk ⟨ds.map (·.1),Rs,dr,tu⟩ (fun t l=>l=uI ds t) f :=
 ⟨fun t ht=>by obtain⟨i,o,e⟩:=Kn h1 h3 t ht;exact⟨_,i,o,e,rfl⟩,fun t t' ht ht' hne l e1 e2=>MZ h2 h3 t t' ht ht' hne (e1.symm.trans e2),h4⟩
theorem dO{id:Nat}{l:List Oper}(hm:P.follows .mixedOrders=true)(L:List FuncId)(hchk:oO ⟨[],[],none,.these L⟩ l.toArray=true)(C:bR)(hC:PlU (.these L) C)
 (h:R (eK P (lJ P C) (@OfNat.ofNat (Array Oper) (nat_lit 0) (@_root_.id (OfNat (Array Oper) (nat_lit 0)) (OfNat.mk (l.toArray)))) (Q .normal) (@OfNat.ofNat (List Oper) (nat_lit 0) (@_root_.id (OfNat (List Oper) (nat_lit 0)) (OfNat.mk l))) f σ)):R (oG P id (@OfNat.ofNat (List Oper) (nat_lit 0) (@_root_.id (OfNat (List Oper) (nat_lit 0)) (OfNat.mk l))) f σ Q) :=
 IJ hm L C hC hchk h
theorem IA:R (eK P MC ops K [] f σ)=R (K f σ):=rfl
theorem E4{dst:Option Tmp}{op:Op}{ty:TypeId}{pos:String}{after:Array Edge}:R (eK P MC ops K (⟨dst,op,ty,pos,after,none⟩::rest) f σ)=R (xO P MC f σ (fun v σ'=>eK P MC ops K (@OfNat.ofNat (List Oper) (nat_lit 0) (@_root_.id (OfNat (List Oper) (nat_lit 0)) (OfNat.mk rest))) (bD f dst v) σ') op):=congrArg R rfl
theorem E5{l:List Oper}:R (eK P MC ops K (@OfNat.ofNat (List Oper) (nat_lit 0) (@_root_.id (OfNat (List Oper) (nat_lit 0)) (OfNat.mk l))) f σ)=R (eK P MC ops K l f σ):=congrArg R rfl
theorem CB{l:List Oper}{dst:Option Tmp}{op:Op}{ty:TypeId}{pos:String}{after:Array Edge}{j:Nat}{want:Bool}:R (eK P MC (@OfNat.ofNat (Array Oper) (nat_lit 0) (@_root_.id (OfNat (Array Oper) (nat_lit 0)) (OfNat.mk (l.toArray)))) K (⟨dst,op,ty,pos,after,some (j,want)⟩::rest) f σ)=R (bY (E (J6 f (nV (@OfNat.ofNat (List Oper) (nat_lit 0) (@_root_.id (OfNat (List Oper) (nat_lit 0)) (OfNat.mk l))) j))) want (xO P MC f σ (fun v σ'=>eK P MC (@OfNat.ofNat (Array Oper) (nat_lit 0) (@_root_.id (OfNat (Array Oper) (nat_lit 0)) (OfNat.mk (l.toArray)))) K (@OfNat.ofNat (List Oper) (nat_lit 0) (@_root_.id (OfNat (List Oper) (nat_lit 0)) (OfNat.mk rest))) (bD f dst v) σ') op) (eK P MC (@OfNat.ofNat (Array Oper) (nat_lit 0) (@_root_.id (OfNat (Array Oper) (nat_lit 0)) (OfNat.mk (l.toArray)))) K (@OfNat.ofNat (List Oper) (nat_lit 0) (@_root_.id (OfNat (List Oper) (nat_lit 0)) (OfNat.mk rest))) (bD f dst (.tup [])) σ)):=congrArg R (by
 show eK P MC l.toArray K (⟨dst,op,ty,pos,after,some (j,want)⟩::rest) f σ=bY (J6 f (nV l j)) want (xO P MC f σ (fun v σ'=>eK P MC l.toArray K rest (bD f dst v) σ') op) (eK P MC l.toArray K rest (bD f dst (.tup [])) σ)
 simp only[eK,fJ,Gf]
 cases nV l j<;>rfl)
theorem Nj{op:Op}(h:lO op=true):R (xO P MC f σ k op)=R (mop P f σ k op):=by rw[E1 h]
def Gr(MC:FuncId→List MV→St→(MV→St→Prop)→Prop)(x:MV)(args:List MV)(σ:St)(k:MV→St→Prop):Prop:=match x with
 | .fn (.func g) ms ns=>MC g (ms++args++ns) σ k
 | _=>False
theorem Is{x:Operand}{args:Array Operand}{ts:Array TypeId}:R (xO P MC f σ k (.call ⟨.value x,args,ts⟩))=R (Gr MC (E (aH f x)) (E (args.toList.map (aH f))) σ k):=congrArg R rfl
theorem EH{g:FuncId}{ms ns args:List MV}:R (Gr MC (.fn (.func g) ms ns) args σ k)=R (MC g (E (ms++args++ns)) σ k):=congrArg R rfl
theorem aI{g:FuncId}{ms:List MV}{r:MV}(hC:C g ms=some ⟨[],fun v=>v=r,none⟩)(h:aA P g ms St.none fun v _=>v=r)(hk:R (bQ r σ k)):R (o3 P C g ms σ k) :=
 .inl ⟨[],_,[],hC,rfl,h.Ir,⟨r,rfl⟩,fun v hv=>hv ▸ hk⟩
theorem MP{g:FuncId}{ms:List MV}(rd:List Nat)(os:List aW){q:MV→Prop}(hC:C g ms=some ⟨rd,q,none⟩)(hos:rd.map σ=os.map some)(h:aA P g ms (St.ofList rd os) fun v σ'=>q v∧σ'=St.ofList rd os)(hq:∃v,q v)(hk:∀v,q v→R (bQ v σ k)):R (o3 P C g ms σ k) :=
 .inl ⟨rd,q,os,hC,hos,h,hq,hk⟩
theorem ofList_nil(ls:List Nat):St.ofList ls []=St.none:=by cases ls<;>rfl
theorem rW{g:FuncId}{ms:List MV}{l:Nat}{rd:List Nat}{q:MV→Prop}{os ts:List aW}{r:MV}(hC:C g ms=some ⟨l::rd,q,some (ts,fun _=>r)⟩)(hos:(l::rd).map σ=os.map some)
 (h:aA P g ms (St.ofList (l::rd) os) fun v σ'=>v=r∧σ'=(St.ofList (l::rd) ts).over (St.ofList (l::rd) os))(hk:R (bQ r ((St.ofList (l::rd) ts).over σ) k)):R (lJ P C g ms σ k) :=
 .inr (.inr ⟨l,rd,q,ts,os,fun _=>r,hC,hos,h,hk⟩)
theorem gW{g:FuncId}{ms:List MV}{l:Nat}{rd:List Nat}{q:MV→Prop}{o':aW}{os:List aW}{r:MV}(hC:C g ms=some ⟨l::rd,q,some ([o'],fun _=>r)⟩)(hos:(l::rd).map σ=os.map some)
 (h:aA P g ms (St.ofList (l::rd) os) fun v σ'=>v=r∧σ'=(St.ofList (l::rd) os).set l o')(hk:R (bQ r (σ.set l o') k)):R (lJ P C g ms σ k) :=
 rW hC hos (by simp only[St.ofList,ofList_nil,a8,cT];exact h) (by simp only[St.ofList,ofList_nil,a8,cT];exact hk)
theorem B3{g:FuncId}{ms:List MV}{l m:Nat}{rd:List Nat}{q:MV→Prop}{o' p':aW}{os:List aW}{r:MV}(hC:C g ms=some ⟨l::m::rd,q,some ([o',p'],fun _=>r)⟩)(hos:(l::m::rd).map σ=os.map some)
 (h:aA P g ms (St.ofList (l::m::rd) os) fun v σ'=>v=r∧σ'=((St.ofList (l::m::rd) os).set m p').set l o')(hk:R (bQ r ((σ.set m p').set l o') k)):R (lJ P C g ms σ k) :=
 rW hC hos (by simp only[St.ofList,ofList_nil,a8,cT];exact h) (by simp only[St.ofList,ofList_nil,a8,cT];exact hk)
theorem y0{g:FuncId}{ms:List MV}{l:Nat}{q:MV→Prop}{o o':aW}{r:MV}(hC:C g ms=some ⟨[l],q,some ([o'],fun _=>r)⟩)(ho:σ l=some o)(h:aA P g ms (St.none.set l o) fun v σ'=>v=r∧σ'=St.none.set l o')(hk:R (bQ r (σ.set l o') k)):R (lJ P C g ms σ k) :=
 gW (os:=[o]) hC (by simp[ho]) (h.mono (by
  rintro v σ' ⟨h1,rfl⟩
  refine⟨h1,funext fun j=>?_⟩
  by_cases hj:j=l<;>simp[St.ofList,St.set,hj])) hk
theorem B2{g:FuncId}{ms:List MV}(rd:List Nat)(os:List aW){r:MV}(hC:C g ms=some ⟨rd,fun v=>v=r,none⟩)(hos:rd.map σ=os.map some)(h:aA P g ms (St.ofList rd os) fun v σ'=>v=r∧σ'=St.ofList rd os)(hk:R (bQ r σ k)):R (lJ P C g ms σ k) :=
 .inl ⟨rd,_,os,hC,hos,h,⟨r,rfl⟩,fun v hv=>hv ▸ hk⟩
end
attribute [go_sem ↓] E5 IA E4 CB Is Nj
attribute [go_sem] EH
noncomputable def kn(L:List (FuncId × List MV × Fact)):bR:=fun g ms=>by
 classical exact(L.find? fun p=>decide (p.1=g∧p.2.1=ms)).map (·.2.2)
theorem rA{g:FuncId}{ms:List MV}{F:Fact}{L:List (FuncId × List MV × Fact)}:kn ((g,ms,F)::L) g ms=some F:=by
 simp[kn]
theorem Gl{g g':FuncId}{ms ms':List MV}{F F':Fact}{L:List (FuncId × List MV × Fact)}(h:g'=g∧ms'=ms→F'=F)(k:kn L g ms=some F):kn ((g',ms',F')::L) g ms=some F:=by
 by_cases e:g'=g∧ms'=ms
 ·obtain⟨rfl,rfl⟩:=e
  rw[rA,h ⟨rfl,rfl⟩]
 ·unfold kn at k ⊢
  rw[List.find?_cons_of_neg (by simpa using e)]
  exact k
end

section
theorem td3:td Tryz.prog 3=⟨true,1,8,true,[.int .i64 0],.int .i64⟩:=by kernel_rfl
theorem td4:td Tryz.prog 4=⟨true,1,1,true,[.bool false],.bool⟩:=by kernel_rfl
theorem td5:td Tryz.prog 5=⟨true,1,1,true,[.int .u8 0],.int .u8⟩:=by kernel_rfl
theorem td9:td Tryz.prog 9=⟨true,1,16,true,[.str ⟨#[]⟩],.str⟩:=by kernel_rfl
theorem OU:td Tryz.prog 22=⟨true,1,24,true,[.aZ],.slice 121⟩:=by kernel_rfl
theorem FD:td Tryz.prog 23=⟨true,1,4,true,[.int .u32 0],.int .u32⟩:=by kernel_rfl
theorem Qs:td Tryz.prog 34=⟨true,1,8,true,[.nilp],.ptr 140⟩:=by kernel_rfl
theorem OV:td Tryz.prog 35=⟨true,1,24,true,[.aZ],.slice 126⟩:=by kernel_rfl
theorem OW:td Tryz.prog 36=⟨true,1,24,true,[.aZ],.slice 197⟩:=by kernel_rfl
theorem Qt:td Tryz.prog 38=⟨true,3,56,true,[.int .i64 0,.aZ,.aZ],.struct [(0,3),(1,35),(2,36)]⟩:=by kernel_rfl
theorem OX:td Tryz.prog 39=⟨true,1,24,true,[.aZ],.slice 200⟩:=by kernel_rfl
theorem Qu:td Tryz.prog 41=⟨true,5,88,true,[.int .i64 0,.int .i64 0,.aZ,.aZ,.aZ],.struct [(0,3),(1,38),(4,39)]⟩:=by kernel_rfl
theorem Qv:td Tryz.prog 44=⟨true,1,8,true,[.nilp],.ptr 133⟩:=by kernel_rfl
theorem NK:td Tryz.prog 47=⟨true,5,88,true,[.int .i64 0,.int .i64 0,.aZ,.aZ,.aZ],.struct [(0,3),(1,3),(2,35),(3,36),(4,39)]⟩:=by kernel_rfl
theorem Qw:td Tryz.prog 50=⟨true,1,24,true,[.aZ],.slice 73⟩:=by kernel_rfl
theorem wV:td Tryz.prog 54=⟨true,3,32,true,[.int .i64 0,.int .i64 0,.str ⟨#[]⟩],.struct [(0,3),(1,3),(2,9)]⟩:=by kernel_rfl
theorem FE:td Tryz.prog 55=⟨true,24,256,true,[.int .i64 0,.int .i64 0,.str ⟨#[]⟩,.int .i64 0,.int .i64 0,.str ⟨#[]⟩,.int .i64 0,.int .i64 0,.str ⟨#[]⟩,.int .i64 0,.int .i64 0,.str ⟨#[]⟩,.int .i64 0,.int .i64 0,.str ⟨#[]⟩,.int .i64 0,.int .i64 0,.str ⟨#[]⟩,.int .i64 0,.int .i64 0,.str ⟨#[]⟩,.int .i64 0,.int .i64 0,.str ⟨#[]⟩],.array 8 54⟩:=by kernel_rfl
theorem Qa:td Tryz.prog 57=⟨true,26,264,true,[.int .u32 0,.int .u32 0,.int .i64 0,.int .i64 0,.str ⟨#[]⟩,.int .i64 0,.int .i64 0,.str ⟨#[]⟩,.int .i64 0,.int .i64 0,.str ⟨#[]⟩,.int .i64 0,.int .i64 0,.str ⟨#[]⟩,.int .i64 0,.int .i64 0,.str ⟨#[]⟩,.int .i64 0,.int .i64 0,.str ⟨#[]⟩,.int .i64 0,.int .i64 0,.str ⟨#[]⟩,.int .i64 0,.int .i64 0,.str ⟨#[]⟩],.struct [(0,23),(1,23),(2,55)]⟩:=by kernel_rfl
theorem Qy:td Tryz.prog 59=⟨true,29,288,true,[.int .i64 0,.int .i64 0,.int .i64 0,.int .u32 0,.int .u32 0,.int .i64 0,.int .i64 0,.str ⟨#[]⟩,.int .i64 0,.int .i64 0,.str ⟨#[]⟩,.int .i64 0,.int .i64 0,.str ⟨#[]⟩,.int .i64 0,.int .i64 0,.str ⟨#[]⟩,.int .i64 0,.int .i64 0,.str ⟨#[]⟩,.int .i64 0,.int .i64 0,.str ⟨#[]⟩,.int .i64 0,.int .i64 0,.str ⟨#[]⟩,.int .i64 0,.int .i64 0,.str ⟨#[]⟩],.struct [(0,3),(1,3),(2,3),(3,57)]⟩:=by kernel_rfl
theorem Qz:td Tryz.prog 73=⟨true,2,16,true,[.int .i64 0,.int .i64 0],.struct [(0,3),(1,3)]⟩:=by kernel_rfl
theorem OY:td Tryz.prog 75=⟨true,1,24,true,[.aZ],.slice 3⟩:=by kernel_rfl
theorem NL:td Tryz.prog 77=⟨true,1,24,true,[.aZ],.slice 128⟩:=by kernel_rfl
theorem QA:td Tryz.prog 79=⟨true,1,8,true,[.nilp],.ptr 192⟩:=by kernel_rfl
theorem QB:td Tryz.prog 84=⟨true,5,72,true,[.aZ,.int .u32 0,.int .i64 0,.int .i64 0,.aZ],.struct [(0,22),(1,23),(2,3),(3,3),(4,77)]⟩:=by kernel_rfl
theorem NM:td Tryz.prog 92=⟨true,7,120,true,[.int .i64 0,.int .i64 0,.aZ,.aZ,.aZ,.aZ,.int .u32 0],.struct [(0,47),(5,22),(6,23)]⟩:=by kernel_rfl
theorem GJ:td Tryz.prog 121=⟨true,5,48,true,[.int .i64 0,.int .i64 0,.int .i64 0,.int .i64 0,.str ⟨#[]⟩],.struct [(0,3),(1,3),(2,54)]⟩:=by kernel_rfl
theorem wU:td Tryz.prog 126=⟨true,27,280,true,[.int .i64 0,.int .i64 0,.int .u32 0,.int .i64 0,.int .i64 0,.str ⟨#[]⟩,.int .i64 0,.int .i64 0,.str ⟨#[]⟩,.int .i64 0,.int .i64 0,.str ⟨#[]⟩,.int .i64 0,.int .i64 0,.str ⟨#[]⟩,.int .i64 0,.int .i64 0,.str ⟨#[]⟩,.int .i64 0,.int .i64 0,.str ⟨#[]⟩,.int .i64 0,.int .i64 0,.str ⟨#[]⟩,.int .i64 0,.int .i64 0,.str ⟨#[]⟩],.struct [(0,3),(1,3),(2,23),(3,55)]⟩:=by kernel_rfl
theorem DA:td Tryz.prog 128=⟨true,31,312,true,[.int .i64 0,.int .i64 0,.int .i64 0,.int .i64 0,.int .i64 0,.int .i64 0,.int .u32 0,.int .i64 0,.int .i64 0,.str ⟨#[]⟩,.int .i64 0,.int .i64 0,.str ⟨#[]⟩,.int .i64 0,.int .i64 0,.str ⟨#[]⟩,.int .i64 0,.int .i64 0,.str ⟨#[]⟩,.int .i64 0,.int .i64 0,.str ⟨#[]⟩,.int .i64 0,.int .i64 0,.str ⟨#[]⟩,.int .i64 0,.int .i64 0,.str ⟨#[]⟩,.int .i64 0,.int .i64 0,.str ⟨#[]⟩],.struct [(0,3),(1,3),(2,3),(3,3),(4,126)]⟩:=by kernel_rfl
theorem GK:td Tryz.prog 131=⟨true,1,8,true,[.nilm],.map 3 3⟩:=by kernel_rfl
theorem PT:td Tryz.prog 133=⟨true,6,64,true,[.nilp,.int .u32 0,.nilm,.int .i64 0,.int .i64 0,.aZ],.struct [(0,79),(1,23),(2,131),(3,3),(4,3),(5,77)]⟩:=by kernel_rfl
theorem PU:td Tryz.prog 138=⟨true,1,8,true,[.nilp],.ptr 251⟩:=by kernel_rfl
theorem PW:td Tryz.prog 140=⟨true,3,40,true,[.int .i64 0,.nilp,.aZ],.struct [(0,3),(1,138),(2,39)]⟩:=by kernel_rfl
theorem PX:td Tryz.prog 141=⟨true,1,8,true,[.nilfn],.func⟩:=by kernel_rfl
theorem PY:td Tryz.prog 142=⟨true,7,56,true,[.nilfn,.nilfn,.nilfn,.nilfn,.nilfn,.nilfn,.nilfn],.array 7 141⟩:=by kernel_rfl
theorem PZ:td Tryz.prog 182=⟨true,1,4,true,[.int .u32 0],.struct [(0,180),(0,23)]⟩:=by kernel_rfl
theorem P0:td Tryz.prog 186=⟨true,2,8,true,[.int .i32 0,.int .u32 0],.struct [(0,179),(0,184)]⟩:=by kernel_rfl
theorem P1:td Tryz.prog 188=⟨true,3,12,true,[.int .u32 0,.int .i32 0,.int .u32 0],.struct [(0,179),(0,182),(1,186)]⟩:=by kernel_rfl
theorem P2:td Tryz.prog 190=⟨true,1,8,true,[.nilfn],.func⟩:=by kernel_rfl
theorem P3:td Tryz.prog 192=⟨true,5,48,true,[.aZ,.int .u32 0,.int .i32 0,.int .u32 0,.nilfn],.struct [(0,22),(1,188),(4,190)]⟩:=by kernel_rfl
theorem GL:td Tryz.prog 197=⟨true,3,24,true,[.int .i64 0,.int .i64 0,.int .i64 0],.struct [(0,3),(1,3),(2,3)]⟩:=by kernel_rfl
theorem GM:td Tryz.prog 200=⟨true,2,32,true,[.int .i64 0,.aZ],.struct [(0,3),(1,75)]⟩:=by kernel_rfl
theorem P4:td Tryz.prog 214=⟨true,1,24,true,[.aZ],.slice 22⟩:=by kernel_rfl
theorem N7:td Tryz.prog 249=⟨true,1,8,true,[.nilm],.map 3 126⟩:=by kernel_rfl
theorem P5:td Tryz.prog 251=⟨true,3,40,true,[.int .i64 0,.nilm,.aZ],.struct [(0,3),(1,249),(2,36)]⟩:=by kernel_rfl
theorem P6:td Tryz.prog 254=⟨true,3,3,true,[.bool false,.bool false,.bool false],.struct [(0,4),(1,4),(2,4)]⟩:=by kernel_rfl
theorem P7:td Tryz.prog 263=⟨true,1,8,true,[.int .u64 0],.int .u64⟩:=by kernel_rfl
theorem P8:td Tryz.prog 287=⟨true,1,24,true,[.aZ],.slice 54⟩:=by kernel_rfl
theorem N8:td Tryz.prog 325=⟨true,32,32,true,List.replicate 32 (.int .u8 0),.array 32 5⟩:=by kernel_rfl
theorem P9:td Tryz.prog 327=⟨true,1,24,true,[.aZ],.slice 5⟩:=by kernel_rfl
theorem Pw:cP Tryz.prog 54=true:=by kernel_rfl
theorem mixed:Tryz.prog.follows .mixedOrders=true:=by kernel_rfl
theorem wD{id:Nat}{l:List Oper}{f:FR}{σ:St}{Q:MQ}(hchk:(chk l.toArray&&l.all fun o=>lO o.op)=true)(h:R (iN Tryz.prog (fun _ _=>none) (@OfNat.ofNat (Array Oper) (nat_lit 0) (@_root_.id (OfNat (Array Oper) (nat_lit 0)) (OfNat.mk (l.toArray)))) (Q .normal) (@OfNat.ofNat (List Oper) (nat_lit 0) (@_root_.id (OfNat (List Oper) (nat_lit 0)) (OfNat.mk l))) f σ)):R (oG Tryz.prog id (@OfNat.ofNat (List Oper) (nat_lit 0) (@_root_.id (OfNat (List Oper) (nat_lit 0)) (OfNat.mk l))) f σ Q):=Ck mixed hchk h
attribute [go_sem] td3 td4 td5 td9 OU FD Qs OV OW Qt OX Qu Qv NK Qw wV FE Qa Qy Qz OY NL QA QB NM GJ wU DA GK PT PU PW PX PY PZ P0 P1 P2 P3 GL GM P4 N7 P5 P6 P7 P8 N8 P9 Pw
end
end Go.Proofs.YtppdgejjmhdjhaaGreatDoor
