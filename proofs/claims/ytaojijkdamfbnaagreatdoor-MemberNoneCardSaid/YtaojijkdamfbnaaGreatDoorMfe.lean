/- Parts of the proof, joined; conditions: those that its theorems name. -/
import Derived.Test.YtaojijkdamfbnaaGreatDoorMfb
set_option linter.unusedVariables false
set_option linter.unusedSimpArgs false
set_option maxHeartbeats 4000000
namespace Go.Proofs.YtaojijkdamfbnaaGreatDoor
section
structure Eff where
 C:Prop
 kill:Option Nat
 upd:Option St
 new:Option aV
 v:Nat→MV→Prop
abbrev GF:=List Nat × (List aV→Option Eff)
def Eff.upl(e:Eff)(l:Nat):Option aV:=match e.upd with|some u=>u l|none=>none
def Eff.app(e:Eff)(σ:St):St:=fun l=>if (e.upl l).isSome=true then e.upl l else if e.kill=some l then none else σ l
theorem pP{e:Eff}{l:Nat}(h:(e.upl l).isSome=true):∃p,e.upd=some p∧p l≠none:=by
 unfold Eff.upl at h
 cases hu:e.upd with
 | none=>rw[hu] at h;cases h
 | some p=>rw[hu] at h;exact⟨p,rfl,fun q=>by simp only[q] at h;cases h⟩
theorem Cn{e:Eff}{l:Nat}(h:∀p,e.upd=some p→p l=none):e.upl l=none:=by
 unfold Eff.upl
 cases hu:e.upd with
 | none=>rfl
 | some p=>exact h p hu
def Eff.out(e:Eff)(U:Nat→Prop)(σ:St)(v:MV)(U':Nat→Prop)(σ':St):Prop :=
 match e.new with
 | none=>e.v 0 v∧U'=U∧σ'=e.app σ
 | some o=>∃l,¬U l∧e.v l v∧U'=(fun x=>x=l∨U x)∧σ'=(e.app σ).set l o
def gs(U:Nat→Prop)(σ:St)(g:GF)(k:MV→(Nat→Prop)→St→Prop):Prop :=
 ∃os e,g.1.map σ=os.map some∧g.2 os=some e∧e.C∧(∀l,∃v,e.v l v)∧∀v U' σ',e.out U σ v U' σ'→k v U' σ'
def Wf(g:GF):Prop:=∀os e,os.length=g.1.length→g.2 os=some e→(∀l,e.kill=some l→l∈g.1)∧(∀p,e.upd=some p→∀l,p l≠none→l∈g.1)
def jE(g:GF):Prop:=∀os e,os.length=g.1.length→g.2 os=some e→e.upd=none
def NoW(g:GF):Prop:=∀os e,os.length=g.1.length→g.2 os=some e→e.upd=none∧e.kill=none
def Dom(U:Nat→Prop)(σ:St):Prop:=∀l,σ l≠none→U l
def Fin(U:Nat→Prop):Prop:=∃n,∀l,n≤l→¬U l
theorem dB{e:Eff}(h:e.upd=none∧e.kill=none)(σ:St):e.app σ=σ:=by
 funext l;simp[Eff.app,Eff.upl,h.1,h.2]
theorem iW{rd:List Nat}{σ:St}{os:List aV}(h:rd.map σ=os.map some):os.length=rd.length:=by
 have:=congrArg List.length h;simpa using this.symm
theorem iX{rd:List Nat}{σ:St}{os:List aV}(h:rd.map σ=os.map some){l:Nat}(hl:l∈rd):σ l≠none:=by
 have:σ l∈rd.map σ:=List.mem_map_of_mem hl
 rw[h] at this
 obtain⟨o,_,ho⟩:=List.mem_map.1 this
 rw[←ho];simp
theorem map_inj{rd:List Nat}{σ σ':St}{os os':List aV}(h:rd.map σ=os.map some)(h':rd.map σ'=os'.map some)(he:∀l,l∈rd→σ l=σ' l):os=os':=by
 have:rd.map σ=rd.map σ':=List.map_congr_left he
 rw[h,h'] at this
 clear h h' he
 induction os generalizing os' with
 | nil=>cases os' with
  | nil=>rfl
  | cons a r=>simp at this
 | cons b r ih=>cases os' with
  | nil=>simp at this
  | cons a r' =>
   simp only[List.map_cons,List.cons.injEq,Option.some.injEq] at this
   rw[this.1,ih this.2]
theorem rV{U:Nat→Prop}{σ:St}{g:GF}{k k':MV→(Nat→Prop)→St→Prop}(h:gs U σ g k)(hd:Dom U σ)(hf:Fin U)(hk:∀v U' σ',Dom U' σ'→Fin U'→(∀l,U l→U' l)→k v U' σ'→k' v U' σ')(wf:Wf g):gs U σ g k':=by
 obtain⟨os,e,h1,h2,h3,h4,h5⟩:=h
 refine⟨os,e,h1,h2,h3,h4,fun v U' σ' ho=>?_⟩
 have hw:=wf os e (iW h1) h2
 have hdom:Dom U (e.app σ):=fun l hl=>by
  simp only[Eff.app] at hl
  split at hl
  ·rename_i hu
   obtain⟨p,hup,hp⟩:=pP hu
   exact hd l (iX h1 (hw.2 p hup l hp))
  ·split at hl
   ·exact absurd rfl hl
   ·exact hd l hl
 refine hk v U' σ' ?_ ?_ ?_ (h5 v U' σ' ho)
 all_goals
  unfold Eff.out at ho
  split at ho
 ·obtain⟨-,rfl,rfl⟩:=ho;exact hdom
 ·obtain⟨l,-,-,rfl,rfl⟩:=ho
  intro k hk
  simp only[St.set] at hk
  split at hk
  ·rename_i e;exact .inl e
  ·exact .inr (hdom k hk)
 ·obtain⟨-,rfl,rfl⟩:=ho;exact hf
 ·obtain⟨l,-,-,rfl,rfl⟩:=ho
  obtain⟨n,hn⟩:=hf
  exact⟨max n (l+1),fun k hk q=>q.elim (fun e=>by omega) (hn k (by omega))⟩
 ·obtain⟨-,rfl,rfl⟩:=ho;exact fun _ h=>h
 ·obtain⟨l,-,-,rfl,rfl⟩:=ho;exact fun _ h=>.inr h
theorem KO{U U':Nat→Prop}{σ:St}{g:GF}{k:MV→(Nat→Prop)→St→Prop}(h:gs U σ g k)(hu:∀l,U l→U' l)(hk:∀v V V' σ,(∀l,V l→V' l)→k v V σ→k v V' σ):gs U' σ g k:=by
 obtain⟨os,e,h1,h2,h3,h4,h5⟩:=h
 refine⟨os,e,h1,h2,h3,h4,fun v V σ' ho=>?_⟩
 unfold Eff.out at ho h5
 split at ho
 ·rename_i hn
  obtain⟨a,rfl,rfl⟩:=ho
  refine hk v U _ _ hu (h5 v U _ ?_)
  rw[hn];exact⟨a,rfl,rfl⟩
 ·rename_i o hn
  obtain⟨l,a,b,rfl,rfl⟩:=ho
  refine hk v (fun x=>x=l∨U x) _ _ (fun x hx=>hx.imp id (hu x)) (h5 v _ _ ?_)
  rw[hn];exact⟨l,fun q=>a (hu l q),b,rfl,rfl⟩
theorem JH{e:Eff}{U:Nat→Prop}{σ:St}(hf:Fin U)(hv:∀l,∃v,e.v l v)(rd:List Nat):∃v U' σ',e.out U σ v U' σ'∧∀l,l∈rd→σ' l=(e.app σ) l:=by
 unfold Eff.out
 cases e.new with
 | none=>obtain⟨v,hv⟩:=hv 0;exact⟨v,U,e.app σ,⟨hv,rfl,rfl⟩,fun _ _=>rfl⟩
 | some o =>
  obtain⟨n,hn⟩:=hf
  have key:∃m,∀l,l∈rd→l<m:=by
   clear hv
   induction rd with
   | nil=>exact⟨0,by simp⟩
   | cons a r ih =>
    obtain⟨m,hm⟩:=ih
    refine⟨max m (a+1),fun l hl=>?_⟩
    rcases List.mem_cons.1 hl with q|q
    ·omega
    ·have:=hm l q;omega
  obtain⟨m,hm⟩:=key
  obtain⟨v,hv⟩:=hv (max n m)
  refine⟨v,_,_,⟨max n m,hn _ (by omega),hv,rfl,rfl⟩,fun l hl=>?_⟩
  have:=hm l hl
  exact aG _ _ _ _ (by omega)
theorem rS{e:Eff}{σ:St}{l:Nat}{o:aV}(hk:e.kill≠some l)(hu:∀p,e.upd=some p→p l=none):e.app (σ.set l o)=(e.app σ).set l o:=by
 funext k
 simp only[Eff.app,St.set]
 by_cases h:k=l
 ·subst h
  simp[Cn hu,hk]
 ·simp only[if_neg h]
theorem KQ{U:Nat→Prop}{σ:St}{gx gy:GF}{K:MV→MV→(Nat→Prop)→St→Prop}(hd:Dom U σ)(hf:Fin U)(wx:Wf gx)(wy:Wf gy)
 (hc:((gy.1=[]∨jE gx)∧(gx.1=[]∨NoW gy)∧(NoW gx∨NoW gy))∨∀l,l∈gx.1→l∉gy.1)
 (hK:∀v u V V' σ,(∀l,V l→V' l)→K v u V σ→K v u V' σ)
 (h:gs U σ gx fun v U1 σ1=>gs U1 σ1 gy fun u U2 σ2=>K v u U2 σ2) :
  gs U σ gy fun u U1 σ1=>∀U1',(∀l,U1 l→U1' l)→gs U1' σ1 gx fun v U2 σ2=>K v u U2 σ2:=by
 obtain⟨ox,ex,x1,x2,x3,x4,x5⟩:=h
 have wx':=wx ox ex (iW x1) x2
 -- what y reads is there already
 have agree:∀v U1 σ1,ex.out U σ v U1 σ1→∀oy:List aV,gy.1.map σ1=oy.map some→(∀l,l∈gy.1→σ1 l=(ex.app σ) l)→∀l,l∈gy.1→σ1 l=σ l:=by
  intro v U1 σ1 ho oy hoy hsame l hl
  rw[hsame l hl]
  rcases hc.imp_left (·.1) with(c|c)|c
  ·rw[c] at hl;cases hl
  ·have hu:=c ox ex (iW x1) x2
   have hne:=iX hoy hl
   rw[hsame l hl] at hne
   have hun:ex.upl l=none:=Cn fun p hp=>by rw[hu] at hp;cases hp
   simp only[Eff.app,hun,Option.isSome_none,Bool.false_eq_true,if_false] at hne ⊢
   split at hne
   ·exact absurd rfl hne
   ·rename_i q2;rw[if_neg q2]
  ·simp only[Eff.app]
   rw[if_neg,if_neg]
   ·intro e;exact c l (wx'.1 l e) hl
   ·intro e
    obtain⟨p,hp,he⟩:=pP e
    exact c l (wx'.2 p hp l he) hl
 obtain⟨v0,V0,σ0,out0,same0⟩:=JH (σ:=σ) hf x4 gy.1
 obtain⟨oy,ey,y1,y2,y3,y4,y5⟩:=x5 v0 V0 σ0 out0
 have ag0:=agree v0 V0 σ0 out0 oy y1 same0
 have y1':gy.1.map σ=oy.map some:=by rw[←y1];exact(List.map_congr_left ag0).symm
 have wy':=wy oy ey (iW y1) y2
 refine⟨oy,ey,y1',y2,y3,y4,fun u U1 σ1 hoy U1' hU1=>?_⟩
 -- what x reads is there still
 have hx1:gx.1.map σ1=ox.map some:=by
  rw[←x1]
  refine List.map_congr_left fun l hl=>?_
  rcases hc.imp_left (·.2.1) with(c|c)|c
  ·rw[c] at hl;cases hl
  ·have hw:=c oy ey (iW y1) y2
   unfold Eff.out at hoy
   split at hoy
   ·obtain⟨-,-,rfl⟩:=hoy;rw[dB hw]
   ·obtain⟨k,q1,q2,q3,rfl⟩:=hoy
    rw[dB hw]
    refine aG _ _ _ _ (fun e=>q1 ?_)
    subst e
    exact hd l (iX x1 hl)
  ·have hap:(ey.app σ) l=σ l:=by
    simp only[Eff.app]
    rw[if_neg,if_neg]
    ·intro e;exact c l hl (wy'.1 l e)
    ·intro e
     obtain⟨p,hp,he⟩:=pP e
     exact c l hl (wy'.2 p hp l he)
   unfold Eff.out at hoy
   split at hoy
   ·obtain⟨-,-,rfl⟩:=hoy;exact hap
   ·obtain⟨k,q1,q2,q3,rfl⟩:=hoy
    rw[←hap]
    refine aG _ _ _ _ (fun e=>q1 ?_)
    subst e
    exact hd l (iX x1 hl)
 refine⟨ox,ex,hx1,x2,x3,x4,fun v U2 σ2 hox=>?_⟩
 -- the two in their old order,at the same places
 have noty:∀l,¬U l→ey.kill≠some l∧∀p,ey.upd=some p→p l=none:=fun l hl =>
  ⟨fun e=>hl (hd l (iX y1' (wy'.1 l e))),fun p hp=>Classical.byContradiction fun e=>hl (hd l (iX y1' (wy'.2 p hp l e)))⟩
 have notx:∀l,¬U l→ex.kill≠some l∧∀p,ex.upd=some p→p l=none:=fun l hl =>
  ⟨fun e=>hl (hd l (iX x1 (wx'.1 l e))),fun p hp=>Classical.byContradiction fun e=>hl (hd l (iX x1 (wx'.2 p hp l e)))⟩
 have comm:ex.app (ey.app σ)=ey.app (ex.app σ):=by
  rcases hc.imp_left (·.2.2) with(c|c)|c
  ·rw[dB (c ox ex (iW x1) x2),dB (c ox ex (iW x1) x2)]
  ·rw[dB (c oy ey (iW y1) y2),dB (c oy ey (iW y1) y2)]
  ·funext l
   by_cases hx:l∈gx.1
   ·have hy:=c l hx
    have n1:¬(ey.upl l).isSome=true:=fun e=>by
     obtain⟨p,hp,he⟩:=pP e
     exact hy (wy'.2 p hp l he)
    have n2:ey.kill≠some l:=fun e=>hy (wy'.1 l e)
    simp only[Eff.app,if_neg n1,if_neg n2]
   ·have n1:¬(ex.upl l).isSome=true:=fun e=>by
     obtain⟨p,hp,he⟩:=pP e
     exact hx (wx'.2 p hp l he)
    have n2:ex.kill≠some l:=fun e=>hx (wx'.1 l e)
    simp only[Eff.app,if_neg n1,if_neg n2]
 have finish:∀V σ',ex.out U σ v V σ'→(∀l,l∈gy.1→σ' l=(ex.app σ) l)→∀W σ'',ey.out V σ' u W σ''→K v u W σ'':=by
  intro V σ' ho hsame W σ'' hoy'
  obtain⟨oy2,ey2,z1,z2,z3,z4,z5⟩:=x5 v V σ' ho
  have ag:=agree v V σ' ho oy2 z1 hsame
  have:oy=oy2:=map_inj y1' z1 (fun l hl=>(ag l hl).symm)
  subst this
  rw[y2] at z2;cases z2
  exact z5 u W σ'' hoy'
 have hmem:∀l,¬U l→l∉gy.1:=fun l hl q=>hl (hd l (iX y1' q))
 unfold Eff.out at hox hoy
 cases hnx:ex.new with
 | none =>
  rw[hnx] at hox
  obtain⟨a1,rfl,rfl⟩:=hox
  have hout:ex.out U σ v U (ex.app σ):=by unfold Eff.out;rw[hnx];exact⟨a1,rfl,rfl⟩
  cases hny:ey.new with
  | none =>
   rw[hny] at hoy
   obtain⟨b1,rfl,rfl⟩:=hoy
   refine hK v u U1 U2 _ hU1 (finish _ _ hout (fun _ _=>rfl) _ _ ?_)
   unfold Eff.out;rw[hny];exact⟨b1,rfl,comm⟩
  | some o =>
   rw[hny] at hoy
   obtain⟨l,b0,b1,rfl,rfl⟩:=hoy
   refine hK v u _ U2 _ hU1 (finish _ _ hout (fun _ _=>rfl) _ _ ?_)
   unfold Eff.out;rw[hny]
   refine⟨l,b0,b1,rfl,?_⟩
   rw[rS (notx l b0).1 (notx l b0).2,comm]
 | some p =>
  rw[hnx] at hox
  obtain⟨k,a0,a1,rfl,rfl⟩:=hox
  have hout:∀W:Nat→Prop,(∀l,U l→W l)→¬W k→ex.out U σ v (fun x=>x=k∨U x) ((ex.app σ).set k p):=fun W hW hk=>by
   unfold Eff.out;rw[hnx];exact⟨k,fun q=>hk (hW k q),a1,rfl,rfl⟩
  cases hny:ey.new with
  | none =>
   rw[hny] at hoy
   obtain⟨b1,rfl,rfl⟩:=hoy
   have hk:¬U1 k:=fun q=>a0 (hU1 k q)
   refine hK v u (fun x=>x=k∨U1 x) _ _ (fun l q=>q.imp id (hU1 l)) (finish _ _ (hout U1' hU1 a0) (fun l hl=>aG _ _ _ _ (fun e=>hmem k hk (e ▸ hl))) _ _ ?_)
   unfold Eff.out;rw[hny]
   refine⟨b1,rfl,?_⟩
   rw[comm,rS (noty k hk).1 (noty k hk).2]
  | some o =>
   rw[hny] at hoy
   obtain⟨l,b0,b1,rfl,rfl⟩:=hoy
   have hk:¬U k:=fun q=>a0 (hU1 k (.inr q))
   have hkl:k≠l:=fun e=>a0 (hU1 k (.inl e))
   refine hK v u (fun x=>x=l∨(x=k∨U x)) _ _ (fun x q=>?_) (finish _ _ (hout U1' (fun x q=>hU1 x (.inr q)) a0) (fun x hx=>aG _ _ _ _ (fun e=>hmem k hk (e ▸ hx))) _ _ ?_)
   ·rcases q with q|q|q
    ·exact .inr (hU1 x (.inl q))
    ·exact .inl q
    ·exact .inr (hU1 x (.inr q))
   ·unfold Eff.out;rw[hny]
    refine⟨l,fun q=>q.elim (fun e=>hkl e.symm) b0,b1,rfl,?_⟩
    rw[rS (notx l b0).1 (notx l b0).2,comm,rS (noty k hk).1 (noty k hk).2,set_comm _ _ _ (Ne.symm hkl)]
end

section
def St.ofList:List Nat→List aV→St
 | l::ls,o::os=>(St.ofList ls os).set l o
 | _,_=>St.none
structure Fact where
 rd:List Nat
 q:MV→Prop
 new:Option (List aV × (Nat→MV))
abbrev b9:=FuncId→List MV→Option Fact
def bQ:GF:=([],fun _=>none)
def dV(pv:PV):GF:=([],fun _=>pv.map fun x=>⟨x.1,none,none,none,fun _ u=>u=x.2⟩)
def fH(C:Prop)(o:aV)(v:Nat→MV):GF:=([],fun _=>some ⟨C,none,none,some o,fun l u=>u=v l⟩)
def jN:MV→List Nat
 | .vec _ l _ _=>[l]
 | _=>[]
def Ci(os:List aV):St:=fun _=>os.head?
def lW(P:Program)(t:TypeId):MV→GF
 | .ptr l i o=>([l],fun os=>match os with
  | [.row _ _ xs]=>some ⟨(td P t).ok=true∧i<xs.length∧o+(td P t).size≤(xs.getD i []).length∧0<(td P t).size,none,none,none,fun _ u=>u=dA (td P t) (xs.getD i []) o⟩
  | _=>none)
 | .cptr cs=>dV (some ((td P t).ok=true∧(td P t).size≤cs.length∧0<(td P t).size,dA (td P t) cs 0))
 | _=>bQ
def kY(P:Program)(t:TypeId)(x y:MV):GF :=
 match x with
 | .ptr l i o=>([l],fun os=>match os with
  | [.row tt e xs]=>some ⟨(td P t).ok=true∧i<xs.length∧y.cells.all MV.aP=true∧y.cells.length=(td P t).size∧o+y.cells.length≤(xs.getD i []).length,none,some (St.none.set l (.row tt e (xs.set i (laid (xs.getD i []) o y.cells)))),none,fun _ u=>u=.junk⟩
  | _=>none)
 | _=>bQ
def jW(P:Program)(t xt:TypeId)(s x:MV):GF :=
 match (td P t).k with
 | .slice el=>match s with
  | .bC=>(jN x,fun os=>match gB (Ci os) (td P el).size x with
   | some ys=>some ⟨(td P xt).k.eN=true∧(td P el).zok=true∧Fits ys.length (td P el).bytes,none,none,some (.row el (td P el).size ys),fun l u=>u=.vec (td P el).size l 0 ys.length⟩
   | none=>none)
  | .lst e xs true=>(jN x,fun os=>match gB (Ci os) (td P el).size x with
   | some ys=>some ⟨(td P xt).k.eN=true∧(td P el).zok=true∧e=(td P el).size∧(xs=[]∨0<ys.length)∧Fits (xs.length+ys.length) (td P el).bytes,none,none,some (.row el (td P el).size (xs++ys)),fun l u=>u=.vec (td P el).size l 0 (xs.length+ys.length)⟩
   | none=>none)
  | .vec e l lo n=>(l::jN x,fun os=>match os with
   | .row tt e' xs::os=>match gB (Ci os) (td P el).size x with
    | some ys=>some ⟨(td P xt).k.eN=true∧(td P el).zok=true∧e=(td P el).size∧e'=(td P el).size∧tt=el∧lo=0∧lo+n≤xs.length∧Fits (n+ys.length) (td P el).bytes,some l,none,some (.row el (td P el).size (eG xs lo n ys)),fun l' u=>u=.vec (td P el).size l' 0 (n+ys.length)⟩
    | none=>none
   | _=>none)
  | _=>bQ
 | _=>bQ
def dD(P:Program)(ρ:Operand→MV)(t:TypeId)(len:Nat)(parts:Array (Nat × Operand)):GF :=
 match (td P t).k with
 | .slice el=>fH ((td P el).zok=true∧parts.toList.map (·.1)=List.range len∧(parts.toList.all fun p=>(ρ p.2).cells.all MV.aP&&(ρ p.2).cells.length==(td P el).size)=true∧len * (td P el).size≤16777216∧len≤16777216)
   (.row el (td P el).size (parts.toList.map fun p=>(ρ p.2).cells)) (fun l=>.vec (td P el).size l 0 len)
 | _=>bQ
def eM(P:Program)(t:TypeId)(x y:MV):GF :=
 match (td P t).k,x,y with
 | .slice el,.int .i64 n,.int .i64 c=>fH ((td P el).zok=true∧0≤n∧n≤c∧Fits c.toNat (td P el).bytes) (.row el (td P el).size (List.replicate n.toNat (td P el).zero)) (fun l=>.vec (td P el).size l 0 n.toNat)
 | _,_,_=>bQ
def fX(P:Program)(s d:TypeId)(x:MV):GF :=
 match (td P s).k,(td P d).k,x with
 | .str,.slice el,.str b=>fH ((td P el).k=.int .u8∧b.size≤140737488355328) (.row el 1 (b.toList.map fun c=>[.int .u8 (c.toNat:Int)])) (fun l=>.vec 1 l 0 b.size)
 | .slice el,.str,.str _=>bQ
 | .slice el,.str,x=>(jN x,fun os=>match gB (Ci os) 1 x with
  | some ys=>some ⟨(td P el).k=.int .u8∧ys.all isByte=true,none,none,none,fun _ u=>u=.str (bytesOf ys)⟩
  | none=>none)
 | _,_,x=>dV (o5 P s d x)
def KM(P:Program)(g:FuncId)(ms:List MV)(ts:List aV)(u:Nat→MV):GF:=match ts with
 | [o]=>fH (aA P g ms St.none fun v σ'=>∃l,v=u l∧σ'=St.none.set l o) o u
 | _=>bQ
def fP(P:Program)(C:b9)(g:FuncId)(ms:List MV):GF :=
 match C g ms with
 | some ⟨rd,q,none⟩=>(rd,fun os=>some ⟨aA P g ms (St.ofList rd os) (fun v σ'=>q v∧σ'=St.ofList rd os),none,none,none,fun _ u=>q u⟩)
 | some ⟨[],_,some (ts,u)⟩=>KM P g ms ts u
 | some ⟨l::rd,_,some (ts,u)⟩=>(l::rd,fun os=>some ⟨aA P g ms (St.ofList (l::rd) os) (fun v σ'=>v=u l∧σ'=(St.ofList (l::rd) ts).over (St.ofList (l::rd) os)),none,some (St.ofList (l::rd) ts),none,fun _ w=>w=u l⟩)
 | _=>bQ
def iV(P:Program)(t:TypeId)(m x:MV)(ok:Bool):GF :=
 match (td P t).k,m,x with
 | .map kt et,.mapv l,.int kd n=>([l],fun os=>match os with
  | [.mp es]=>some ⟨(td P kt).k=.int kd∧(td P et).zok=true∧(es.all fun p=>isK kd p.1)=true,none,none,none,fun _ u=>u=if ok=true then .tup [(eQ n es).getD (qT (td P et)),.bool (eQ n es).isSome] else(eQ n es).getD (qT (td P et))⟩
  | _=>none)
 | _,_,_=>bQ
def kW(P:Program)(t:TypeId)(m x y:MV):GF :=
 match (td P t).k,m,x with
 | .map kt _,.mapv l,.int kd n=>([l],fun os=>match os with
  | [.mp es]=>some ⟨(td P kt).k=.int kd∧(es.all fun p=>isK kd p.1)=true,none,some (St.none.set l (.mp (l3 kd n y es))),none,fun _ u=>u=.junk⟩
  | _=>none)
 | _,_,_=>bQ
def Pl(C:b9):Prop:=∀g ms rd q x,C g ms=some ⟨rd,q,some x⟩→rd=[]
def b9.pl(C:b9):b9:=fun g ms=>(C g ms).map fun F=>match F with
 | ⟨rd,q,none⟩=>⟨rd,q,none⟩
 | ⟨_,q,some x⟩=>⟨[],q,some x⟩
theorem b9.Mf(C:b9):Pl C.pl:=by
 intro g ms rd q x h
 unfold b9.pl at h
 cases hC:C g ms with
 | none=>rw[hC] at h;cases h
 | some F =>
  rw[hC] at h
  obtain⟨rd',q',n⟩:=F
  cases n with
  | none=>simp at h
  | some y=>simp at h;exact h.1.symm ▸ rfl
inductive fR where
 | no
 | all
 | these (L:List FuncId)
def fR.stays:fR→Operand→Bool
 | .no,_=>true
 | .these L,.func g=>!L.contains g
 | _,_=>false
def fR.may:fR→FuncId→Prop
 | .no,_=>False
 | .all,_=>True
 | .these L,g=>g∈L
def PlU(u:fR)(C:b9):Prop:=∀g ms rd q x,C g ms=some ⟨rd,q,some x⟩→rd=[]∨u.may g
theorem Pl.u{C:b9}(h:Pl C){u:fR}:PlU u C:=fun g ms rd q x e=>.inl (h g ms rd q x e)
def gop(P:Program)(C:b9)(f:FR):Op→GF
 | .alloc t=>fH ((td P t).zok=true) (.row t (td P t).size [(td P t).zero]) (fun l=>.ptr l 0 0)
 | .box t x=>fH ((aE f x).cells.all MV.aP=true) (.row t (aE f x).cells.length [(aE f x).cells]) (fun l=>.ptr l 0 0)
 | .load t x=>lW P t (aE f x)
 | .store t x y=>kY P t (aE f x) (aE f y)
 | .lookup t m x ok=>iV P t (aE f m) (aE f x) ok
 | .mapUpdate t m x y=>kW P t (aE f m) (aE f x) (aE f y)
 | .buildSlice t len parts=>dD P (aE f) t len parts
 | .makeSlice t x y=>eM P t (aE f x) (aE f y)
 | .convert s d x=>fX P s d (aE f x)
 | .call ⟨.builtin .append,args,ts⟩=>match args.toList,ts.toList with
  | [s,x],[t,xt]=>jW P t xt (aE f s) (aE f x)
  | _,_=>bQ
 | .call ⟨.builtin b,args,ts⟩=>if ts.toList.length=args.toList.length then dV (dO P b ts.toList.toArray (args.toList.map (aE f))) else bQ
 | .call ⟨.value x,args,ts⟩=>match aE f x with
  | .fn (.func g) ms ns=>fP P C g (ms++args.toList.map (aE f)++ns)
  | _=>bQ
 | .call ⟨.invoke _ _,_,_⟩=>bQ
 | .defer _=>bQ
 | op=>dV (qop P f op)
theorem tM:∀{ls:List Nat} {os:List aV} {k:Nat},St.ofList ls os k≠none→k∈ls
 | [],_,k,h=>absurd rfl h
 | l::ls,[],k,h=>absurd rfl h
 | l::ls,o::os,k,h=>by
  by_cases e:k=l
  ·subst e;exact List.mem_cons_self ..
  ·refine List.mem_cons_of_mem _ (tM (os:=os) fun q=>h ?_)
   simp only[St.ofList]
   rw[aG _ _ _ _ e];exact q
theorem Kn{l:Nat}{o:aV}{rd:List Nat}:∀p:St,some (St.none.set l o)=some p→∀k,p k≠none→k∈l::rd:=fun p h k hk=>by
 cases h
 by_cases e:k=l
 ·subst e;exact List.mem_cons_self ..
 ·exact absurd (aG _ _ _ _ e) hk
theorem cL(pv:PV):Wf (dV pv)∧NoW (dV pv)∧jE (dV pv)∧(dV pv).1=[]:=by
 have key:∀os e,(dV pv).2 os=some e→e.upd=none∧e.kill=none:=fun os e h=>by
  simp only[dV,Option.map_eq_some_iff] at h
  obtain⟨x,-,rfl⟩:=h
  exact⟨rfl,rfl⟩
 exact⟨fun os e _ h=>by simp[key os e h],fun os e _ h=>key os e h,fun os e _ h=>(key os e h).1,rfl⟩
theorem dH(C:Prop)(o:aV)(v:Nat→MV):Wf (fH C o v)∧NoW (fH C o v)∧jE (fH C o v)∧(fH C o v).1=[]:=by
 have key:∀os e,(fH C o v).2 os=some e→e.upd=none∧e.kill=none:=fun os e h=>by
  simp only[fH,Option.some.injEq] at h
  subst h;exact⟨rfl,rfl⟩
 exact⟨fun os e _ h=>by simp[key os e h],fun os e _ h=>key os e h,fun os e _ h=>(key os e h).1,rfl⟩
theorem bA:Wf bQ∧NoW bQ∧jE bQ∧bQ.1=[]:=⟨fun os e _ h=>by simp[bQ] at h,fun os e _ h=>by simp[bQ] at h,fun os e _ h=>by simp[bQ] at h,rfl⟩
def rd0:Op→Bool
 | .load ..|.store ..|.lookup ..|.mapUpdate ..|.convert ..|.call ⟨.builtin .append,_,_⟩|.call ⟨.value _,_,_⟩=>false
 | _=>true
def tK(u:fR):Op→Bool
 | .store ..|.mapUpdate ..=>false
 | .call ⟨.value x,_,_⟩=>u.stays x
 | _=>true
def noW(u:fR):Op→Bool
 | .store ..|.mapUpdate ..|.call ⟨.builtin .append,_,_⟩=>false
 | .call ⟨.value x,_,_⟩=>u.stays x
 | _=>true
theorem Aj(P:Program)(t:TypeId)(x:MV):Wf (lW P t x)∧NoW (lW P t x)∧jE (lW P t x):=by
 unfold lW
 split
 ·have key:∀(os:List aV) (e:Eff) (l i o:Nat),(match os with
   | [.row _ _ xs]=>some (⟨(td P t).ok=true∧i<xs.length∧o+(td P t).size≤(xs.getD i []).length∧0<(td P t).size,none,none,none,fun _ u=>u=dA (td P t) (xs.getD i []) o⟩:Eff)
   | _=>none)=some e→e.upd=none∧e.kill=none:=by
   intro os e l i o h
   split at h
   ·cases h;exact⟨rfl,rfl⟩
   ·cases h
  exact⟨fun os e _ h=>by simp[key os e 0 _ _ h],fun os e _ h=>key os e 0 _ _ h,fun os e _ h=>(key os e 0 _ _ h).1⟩
 ·exact⟨(cL _).1,(cL _).2.1,(cL _).2.2.1⟩
 ·exact⟨bA.1,bA.2.1,bA.2.2.1⟩
theorem Kp(P:Program)(t:TypeId)(x y:MV):Wf (kY P t x y):=by
 unfold kY
 split
 ·intro os e _ h
  simp only at h
  split at h
  ·cases h;exact⟨fun l h=>by(cases h),Kn⟩
  ·cases h
 ·exact bA.1
theorem xY(P:Program)(t xt:TypeId)(s x:MV):Wf (jW P t xt s x)∧jE (jW P t xt s x):=by
 unfold jW
 split
 ·split
  ·refine⟨fun os e _ h=>?_,fun os e _ h=>?_⟩ <;>
   ·simp only at h
    split at h
    ·cases h;simp
    ·cases h
  ·refine⟨fun os e _ h=>?_,fun os e _ h=>?_⟩ <;>
   ·simp only at h
    split at h
    ·cases h;simp
    ·cases h
  ·refine⟨fun os e _ h=>?_,fun os e _ h=>?_⟩ <;>
   ·simp only at h
    split at h
    ·split at h
     ·cases h;simp
     ·cases h
    ·cases h
  ·exact⟨bA.1,bA.2.2.1⟩
 ·exact⟨bA.1,bA.2.2.1⟩
theorem oQ(P:Program)(s d:TypeId)(x:MV):Wf (fX P s d x)∧NoW (fX P s d x)∧jE (fX P s d x):=by
 unfold fX
 split
 ·exact⟨(dH _ _ _).1,(dH _ _ _).2.1,(dH _ _ _).2.2.1⟩
 ·exact⟨bA.1,bA.2.1,bA.2.2.1⟩
 ·refine⟨fun os e _ h=>?_,fun os e _ h=>?_,fun os e _ h=>?_⟩ <;>
  ·simp only at h
   split at h
   ·cases h;simp
   ·cases h
 ·exact⟨(cL _).1,(cL _).2.1,(cL _).2.2.1⟩
theorem Ai(P:Program)(C:b9)(g:FuncId)(ms:List MV):Wf (fP P C g ms)∧((∀rd q x,C g ms=some ⟨rd,q,some x⟩→rd=[])→NoW (fP P C g ms)∧jE (fP P C g ms)):=by
 unfold fP
 split
 ·refine⟨fun os e _ h=>?_,fun _=>⟨fun os e _ h=>?_,fun os e _ h=>?_⟩⟩ <;>
  ·simp only[Option.some.injEq] at h
   subst h;simp
 ·unfold KM
  split
  ·exact⟨(dH _ _ _).1,fun _=>⟨(dH _ _ _).2.1,(dH _ _ _).2.2.1⟩⟩
  ·exact⟨bA.1,fun _=>⟨bA.2.1,bA.2.2.1⟩⟩
 ·rename_i l rd q ts u hC
  refine⟨fun os e _ h=>?_,fun hp=>?_⟩
  ·simp only[Option.some.injEq] at h
   subst h
   exact⟨fun l h=>by(cases h),fun p h k hk=>by cases h;exact tM hk⟩
  ·have:=hp _ _ _ hC;cases this
 ·exact⟨bA.1,fun _=>⟨bA.2.1,bA.2.2.1⟩⟩
theorem iC(P:Program)(ρ:Operand→MV)(t:TypeId)(len:Nat)(parts:Array (Nat × Operand)):Wf (dD P ρ t len parts)∧NoW (dD P ρ t len parts)∧jE (dD P ρ t len parts)∧(dD P ρ t len parts).1=[]:=by
 unfold dD
 split
 ·exact dH _ _ _
 ·exact bA
theorem i7(P:Program)(t:TypeId)(x y:MV):Wf (eM P t x y)∧NoW (eM P t x y)∧jE (eM P t x y)∧(eM P t x y).1=[]:=by
 unfold eM
 split
 ·exact dH _ _ _
 ·exact bA
theorem qS(P:Program)(t:TypeId)(m x:MV)(ok:Bool):Wf (iV P t m x ok)∧NoW (iV P t m x ok)∧jE (iV P t m x ok):=by
 unfold iV
 split
 ·refine⟨fun os e _ h=>?_,fun os e _ h=>?_,fun os e _ h=>?_⟩ <;>
  ·simp only at h
   split at h
   ·cases h;simp
   ·cases h
 ·exact⟨bA.1,bA.2.1,bA.2.2.1⟩
theorem HQ(P:Program)(t:TypeId)(m x y:MV):Wf (kW P t m x y):=by
 unfold kW
 split
 ·intro os e _ h
  simp only at h
  split at h
  ·cases h;exact⟨fun l h=>by(cases h),Kn⟩
  ·cases h
 ·exact bA.1
theorem Eu(P:Program)(C:b9){u:fR}(hu:PlU u C)(f:FR)(op:Op):Wf (gop P C f op)∧(tK u op=true→jE (gop P C f op))∧(noW u op=true→NoW (gop P C f op))∧(rd0 op=true→(gop P C f op).1=[]):=by
 cases op
 case load t x=>exact⟨(Aj _ _ _).1,fun _=>(Aj _ _ _).2.2,fun _=>(Aj _ _ _).2.1,fun h=>by simp[rd0] at h⟩
 case store t x y=>exact⟨Kp _ _ _ _,fun h=>by simp[tK] at h,fun h=>by simp[noW] at h,fun h=>by simp[rd0] at h⟩
 case convert s d x=>exact⟨(oQ _ _ _ _).1,fun _=>(oQ _ _ _ _).2.2,fun _=>(oQ _ _ _ _).2.1,fun h=>by simp[rd0] at h⟩
 case lookup t m x ok=>exact⟨(qS _ _ _ _ _).1,fun _=>(qS _ _ _ _ _).2.2,fun _=>(qS _ _ _ _ _).2.1,fun h=>by simp[rd0] at h⟩
 case mapUpdate t m x y=>exact⟨HQ _ _ _ _ _,fun h=>by simp[tK] at h,fun h=>by simp[noW] at h,fun h=>by simp[rd0] at h⟩
 case alloc t=>exact⟨(dH _ _ _).1,fun _=>(dH _ _ _).2.2.1,fun _=>(dH _ _ _).2.1,fun _=>rfl⟩
 case box t x=>exact⟨(dH _ _ _).1,fun _=>(dH _ _ _).2.2.1,fun _=>(dH _ _ _).2.1,fun _=>rfl⟩
 case buildSlice t n p=>exact⟨(iC _ _ _ _ _).1,fun _=>(iC _ _ _ _ _).2.2.1,fun _=>(iC _ _ _ _ _).2.1,fun _=>(iC _ _ _ _ _).2.2.2⟩
 case makeSlice t x y=>exact⟨(i7 _ _ _ _).1,fun _=>(i7 _ _ _ _).2.2.1,fun _=>(i7 _ _ _ _).2.1,fun _=>(i7 _ _ _ _).2.2.2⟩
 case defer c=>exact⟨bA.1,fun _=>bA.2.2.1,fun _=>bA.2.1,fun _=>rfl⟩
 case call c =>
  obtain⟨callee,args,ts⟩:=c
  cases callee with
  | value x =>
   simp only[gop]
   split
   ·rename_i g ms ns hx
    have hp:u.stays x=true→∀rd q y,C g (ms++args.toList.map (aE f)++ns)=some ⟨rd,q,some y⟩→rd=[]:=fun h rd q y e=>by
     rcases hu _ _ _ _ _ e with q1|q1
     ·exact q1
     ·cases u with
      | no=>exact q1.elim
      | all=>simp[fR.stays] at h
      | these L =>
       cases x with
       | func g0 =>
        have:g0=g:=by simp[aE] at hx;exact hx.1
        subst this
        simp[fR.stays] at h
        exact absurd q1 h
       | _=>simp[fR.stays] at h
    exact⟨(Ai _ _ _ _).1,fun h=>((Ai _ _ _ _).2 (hp (by simpa[tK] using h))).2,fun h=>((Ai _ _ _ _).2 (hp (by simpa[noW] using h))).1,fun h=>by simp[rd0] at h⟩
   ·exact⟨bA.1,fun _=>bA.2.2.1,fun _=>bA.2.1,fun _=>rfl⟩
  | invoke r m=>exact⟨bA.1,fun _=>bA.2.2.1,fun _=>bA.2.1,fun _=>rfl⟩
  | builtin b =>
   by_cases hb:b=.append
   ·subst hb
    simp only[gop]
    split
    ·exact⟨(xY _ _ _ _ _).1,fun _=>(xY _ _ _ _ _).2,fun h=>by simp[noW] at h,fun h=>by simp[rd0] at h⟩
    ·exact⟨bA.1,fun _=>bA.2.2.1,fun _=>bA.2.1,fun _=>rfl⟩
   ·have:gop P C f (.call ⟨.builtin b,args,ts⟩)=if ts.toList.length=args.toList.length then dV (dO P b ts.toList.toArray (args.toList.map (aE f))) else bQ:=by
     cases b<;>first|rfl|exact absurd rfl hb
    rw[this]
    split
    ·exact⟨(cL _).1,fun _=>(cL _).2.2.1,fun _=>(cL _).2.1,fun _=>rfl⟩
    ·exact⟨bA.1,fun _=>bA.2.2.1,fun _=>bA.2.1,fun _=>rfl⟩
 all_goals exact⟨(cL _).1,fun _=>(cL _).2.2.1,fun _=>(cL _).2.1,fun _=>rfl⟩
end

section
def qC(P:Program)(C:b9)(g:FuncId)(ms:List MV)(σ:St)(k:MV→St→Prop):Prop :=
 (∃rd q os,C g ms=some ⟨rd,q,none⟩∧rd.map σ=os.map some∧aA P g ms (St.ofList rd os) (fun v σ'=>q v∧σ'=St.ofList rd os)∧(∃v,q v)∧∀v,q v→k v σ) ∨
 ∃rd q o u,C g ms=some ⟨rd,q,some ([o],u)⟩∧aA P g ms St.none (fun v σ'=>∃l,v=u l∧σ'=St.none.set l o)∧∀l,σ l=none→k (u l) (σ.set l o)
def eA(P:Program)(C:b9)(g:FuncId)(ms:List MV)(σ:St)(k:MV→St→Prop):Prop :=
 (∃rd q os,C g ms=some ⟨rd,q,none⟩∧rd.map σ=os.map some∧aA P g ms (St.ofList rd os) (fun v σ'=>q v∧σ'=St.ofList rd os)∧(∃v,q v)∧∀v,q v→k v σ) ∨
 (∃q o u,C g ms=some ⟨[],q,some ([o],u)⟩∧aA P g ms St.none (fun v σ'=>∃l,v=u l∧σ'=St.none.set l o)∧∀l,σ l=none→k (u l) (σ.set l o)) ∨
 ∃l rd q ts os u,C g ms=some ⟨l::rd,q,some (ts,u)⟩∧(l::rd).map σ=os.map some∧aA P g ms (St.ofList (l::rd) os) (fun v σ'=>v=u l∧σ'=(St.ofList (l::rd) ts).over (St.ofList (l::rd) os))∧k (u l) ((St.ofList (l::rd) ts).over σ)
def vE(P:Program)(MC:FuncId→List MV→St→(MV→St→Prop)→Prop)(f:FR)(σ:St)(k:MV→St→Prop):Op→Prop
 | .call ⟨.value x,args,ts⟩=>match aE f x with
  | .fn (.func g) ms ns=>MC g (ms++args.toList.map (aE f)++ns) σ k
  | _=>False
 | .defer _=>False
 | op=>mop P f σ k op
section
variable {P:Program} {C:b9} {f:FR} {σ:St} {U:Nat→Prop}
theorem qF:∀(rd:List Nat) (os:List aV),rd.map σ=os.map some→(St.ofList rd os).le σ
 | [],_,_=>by
  intro l o h
  simp[St.ofList,St.none] at h
 | l::ls,[],h=>by simp at h
 | l::ls,o::os,h=>by
  simp only[List.map_cons,List.cons.injEq] at h
  (try simp only[St.ofList])
  exact St.aD (qF ls os h.2) h.1
theorem kX{pv:PV}{k:MV→St→Prop}(h:mpure σ k pv):gs U σ (dV pv) fun v _ σ'=>k v σ':=by
 cases pv with
 | none=>exact h.elim
 | some x =>
  obtain⟨Cd,v⟩:=x
  refine⟨[],⟨Cd,none,none,none,fun _ u=>u=v⟩,rfl,rfl,h.1,fun _=>⟨v,rfl⟩,fun u U' σ' ho=>?_⟩
  obtain⟨rfl,-,rfl⟩:=ho
  rw[dB ⟨rfl,rfl⟩]
  exact h.2
theorem lB{pv:PV}{k:MV→(Nat→Prop)→St→Prop}(h:gs U σ (dV pv) k):mpure σ (fun v σ'=>∃U',(∀l,U' l→U l∨σ' l≠none)∧k v U' σ') pv:=by
 obtain⟨os,e,h1,h2,h3,h4,h5⟩:=h
 cases pv with
 | none=>simp[dV] at h2
 | some x =>
  obtain⟨Cd,v⟩:=x
  simp only[dV,Option.map_some,Option.some.injEq] at h2
  subst h2
  refine⟨h3,U,fun l h=>.inl h,h5 v U σ ⟨rfl,rfl,?_⟩⟩
  rw[dB ⟨rfl,rfl⟩]
theorem jG{Cd:Prop}{o:aV}{v:Nat→MV}{k:MV→St→Prop}(hd:Dom U σ)(h:Cd∧∀l,σ l=none→k (v l) (σ.set l o)):gs U σ (fH Cd o v) fun v _ σ'=>k v σ':=by
 refine⟨[],⟨Cd,none,none,some o,fun l u=>u=v l⟩,rfl,rfl,h.1,fun l=>⟨v l,rfl⟩,fun u U' σ' ho=>?_⟩
 obtain⟨l,hl,rfl,-,rfl⟩:=ho
 rw[dB ⟨rfl,rfl⟩]
 exact h.2 l (by
  cases hs:σ l with
  | none=>rfl
  | some x=>exact absurd (hd l (by simp[hs])) hl)
def jQ(U:Nat→Prop)(σ:St)(k:MV→(Nat→Prop)→St→Prop)(v:MV)(σ':St):Prop :=
 (∀l,σ' l≠none→σ l=none→¬U l)→∃U',(∀l,U' l→U l∨σ' l≠none)∧k v U' σ'
theorem kA{Cd:Prop}{o:aV}{v:Nat→MV}{k:MV→(Nat→Prop)→St→Prop}(h:gs U σ (fH Cd o v) k):Cd∧∀l,σ l=none→jQ U σ k (v l) (σ.set l o):=by
 obtain⟨os,e,h1,h2,h3,h4,h5⟩:=h
 simp only[fH,Option.some.injEq] at h2
 subst h2
 refine⟨h3,fun l hl hn=>⟨fun x=>x=l∨U x,fun x hx=>hx.elim (fun e=>.inr (by rw[e,aF];simp)) .inl,h5 _ _ _ ⟨l,hn l (by rw[aF];simp) hl,rfl,rfl,?_⟩⟩⟩
 rw[dB ⟨rfl,rfl⟩]
theorem tF{pv:PV}{k k':MV→St→Prop}(h:mpure σ k pv)(hk:∀v σ',k v σ'→k' v σ'):mpure σ k' pv:=by
 cases pv with
 | none=>exact h.elim
 | some x=>exact⟨h.1,hk _ _ h.2⟩
theorem jA{e:Nat}{x:MV}{os:List aV}(h:(jN x).map σ=os.map some):gB (Ci os) e x=gB σ e x:=by
 cases x<;>try rfl
 rename_i e' l lo n
 cases os with
 | nil=>simp[jN] at h
 | cons o r =>
  simp only[jN,List.map_cons,List.map_nil,List.cons.injEq] at h
  (try simp only[gB,Ci,List.head?_cons,h.1])
theorem J9{e:Nat}{x:MV}{ys:List (List MV)}(h:gB σ e x=some ys):∃os:List aV,(jN x).map σ=os.map some:=by
 cases x<;>try exact⟨[],rfl⟩
 rename_i e' l lo n
 simp only[gB] at h
 split at h
 ·split at h
  ·rename_i t e2 xs hs;exact⟨[.row t e2 xs],by simp[jN,hs]⟩
  ·cases h
 ·cases h
theorem KP{t:TypeId}{x:MV}{k:MV→St→Prop}(h:jY P t x σ k):gs U σ (lW P t x) fun v _ σ'=>k v σ':=by
 unfold jY at h
 unfold lW
 split at h
 ·rename_i l i o
  split at h
  ·rename_i tt e xs hs
   refine⟨[.row tt e xs],_,by simp[hs],rfl,h.1,fun _=>⟨_,rfl⟩,fun v U' σ' ho=>?_⟩
   obtain⟨rfl,-,rfl⟩:=ho
   rw[dB ⟨rfl,rfl⟩];exact h.2
  ·exact h.elim
 ·exact kX (σ:=σ) (pv:=some (_,_)) h
 ·exact h.elim
theorem K4{t:TypeId}{x:MV}{k:MV→(Nat→Prop)→St→Prop}(h:gs U σ (lW P t x) k):jY P t x σ (jQ U σ k):=by
 unfold lW at h
 unfold jY
 split at h
 ·rename_i l i o
  obtain⟨os,e,h1,h2,h3,h4,h5⟩:=h
  simp only at h1 h2
  split at h2
  ·rename_i tt ee xs
   cases h2
   simp only[List.map_cons,List.map_nil,List.cons.injEq,and_true] at h1
   (try simp only[h1])
   refine⟨h3,fun _=>⟨U,fun _ h=>.inl h,h5 _ _ _ ⟨rfl,rfl,?_⟩⟩⟩
   rw[dB ⟨rfl,rfl⟩]
  ·cases h2
 ·obtain⟨h1,U',h2,h3⟩:=lB (σ:=σ) h
  exact⟨h1,fun _=>⟨U',h2,h3⟩⟩
 ·obtain⟨os,e,h1,h2,_⟩:=h
  simp[bQ] at h2
theorem sB{Cd:Prop}{u:St}{n:Option aV}{v:Nat→MV→Prop}:(Eff.app ⟨Cd,none,some u,n,v⟩ σ)=u.over σ:=by
 funext k
 (try simp only[Eff.app,Eff.upl,St.over,reduceCtorEq,if_false])
 cases u k<;>simp
theorem rT{Cd:Prop}{l:Nat}{o:aV}{n:Option aV}{v:Nat→MV→Prop}:(Eff.app ⟨Cd,none,some (St.none.set l o),n,v⟩ σ)=σ.set l o:=by
 rw[sB,bU,dS]
theorem Ir{t:TypeId}{x y:MV}{k:MV→St→Prop}(h:mB P t x y σ k):gs U σ (kY P t x y) fun v _ σ'=>k v σ':=by
 unfold mB at h
 unfold kY
 split at h
 ·rename_i l i o
  split at h
  ·rename_i tt e xs hs
   refine⟨[.row tt e xs],_,by simp[hs],rfl,h.1,fun _=>⟨_,rfl⟩,fun v U' σ' ho=>?_⟩
   obtain⟨rfl,-,rfl⟩:=ho
   rw[rT];exact h.2
  ·exact h.elim
 ·exact h.elim
theorem Ka{t:TypeId}{x y:MV}{k:MV→(Nat→Prop)→St→Prop}(h:gs U σ (kY P t x y) k):mB P t x y σ (jQ U σ k):=by
 unfold kY at h
 unfold mB
 split at h
 ·rename_i l i o
  obtain⟨os,e,h1,h2,h3,h4,h5⟩:=h
  simp only at h1 h2
  split at h2
  ·rename_i tt ee xs
   cases h2
   simp only[List.map_cons,List.map_nil,List.cons.injEq,and_true] at h1
   (try simp only[h1])
   refine⟨h3,fun _=>⟨U,fun _ h=>.inl h,h5 _ _ _ ⟨rfl,rfl,?_⟩⟩⟩
   rw[rT]
  ·cases h2
 ·obtain⟨os,e,h1,h2,_⟩:=h
  simp[bQ] at h2
theorem F0{t:TypeId}{m x:MV}{ok:Bool}{k:MV→St→Prop}(h:fB P t m x ok (mapOf σ m) σ k):gs U σ (iV P t m x ok) fun v _ σ'=>k v σ':=by
 unfold fB at h
 split at h
 ·rename_i kt et l kd n es h1 h2
  have hl:σ l=some (.mp es):=h2
  unfold iV
  (try simp only[h1])
  refine⟨[.mp es],_,by simp[hl],rfl,h.1,fun _=>⟨_,rfl⟩,fun v U' σ' ho=>?_⟩
  obtain⟨rfl,-,rfl⟩:=ho
  rw[dB ⟨rfl,rfl⟩];exact h.2
 ·exact h.elim
theorem Ge{t:TypeId}{m x:MV}{ok:Bool}{k:MV→(Nat→Prop)→St→Prop}(h:gs U σ (iV P t m x ok) k):fB P t m x ok (mapOf σ m) σ (jQ U σ k):=by
 unfold iV at h
 split at h
 ·rename_i kt et l kd n h1
  obtain⟨os,e,h2,h3,h4,h5,h6⟩:=h
  simp only at h2 h3
  split at h3
  ·rename_i es
   cases h3
   simp only[List.map_cons,List.map_nil,List.cons.injEq,and_true] at h2
   unfold fB
   (try simp only[h1,mapOf,h2])
   refine⟨h4,fun _=>⟨U,fun _ h=>.inl h,h6 _ _ _ ⟨rfl,rfl,?_⟩⟩⟩
   rw[dB ⟨rfl,rfl⟩]
  ·cases h3
 ·obtain⟨os,e,h1,h2,_⟩:=h
  simp[bQ] at h2
theorem F1{t:TypeId}{m x y:MV}{k:MV→St→Prop}(h:fA P t m x y (mapOf σ m) σ k):gs U σ (kW P t m x y) fun v _ σ'=>k v σ':=by
 unfold fA at h
 split at h
 ·rename_i kt et l kd n es h1 h2
  have hl:σ l=some (.mp es):=h2
  unfold kW
  (try simp only[h1])
  refine⟨[.mp es],_,by simp[hl],rfl,h.1,fun _=>⟨_,rfl⟩,fun v U' σ' ho=>?_⟩
  obtain⟨rfl,-,rfl⟩:=ho
  rw[rT];exact h.2
 ·exact h.elim
theorem Gg{t:TypeId}{m x y:MV}{k:MV→(Nat→Prop)→St→Prop}(h:gs U σ (kW P t m x y) k):fA P t m x y (mapOf σ m) σ (jQ U σ k):=by
 unfold kW at h
 split at h
 ·rename_i kt et l kd n h1
  obtain⟨os,e,h2,h3,h4,h5,h6⟩:=h
  simp only at h2 h3
  split at h3
  ·rename_i es
   cases h3
   simp only[List.map_cons,List.map_nil,List.cons.injEq,and_true] at h2
   unfold fA
   (try simp only[h1,mapOf,h2])
   refine⟨h4,fun _=>⟨U,fun _ h=>.inl h,h6 _ _ _ ⟨rfl,rfl,?_⟩⟩⟩
   rw[rT]
  ·cases h3
 ·obtain⟨os,e,h1,h2,_⟩:=h
  simp[bQ] at h2
theorem An{Cd:Prop}{l:Nat}{n:Option aV}{v:Nat→MV→Prop}:(Eff.app ⟨Cd,some l,none,n,v⟩ σ)=σ.del l:=by
 funext k
 have h:Eff.upl ⟨Cd,some l,none,n,v⟩ k=none:=rfl
 (try simp only[Eff.app,St.del,h,Option.isSome_none,Bool.false_eq_true,if_false,Option.some.injEq])
 by_cases hk:k=l
 ·simp[hk]
 ·rw[if_neg (Ne.symm hk),if_neg hk]
theorem sQ(hd:Dom U σ){l:Nat}(hl:¬U l):σ l=none:=by
 cases hs:σ l with
 | none=>rfl
 | some x=>exact absurd (hd l (by simp[hs])) hl
theorem FZ{t xt:TypeId}{s x:MV}{k:MV→St→Prop}(hd:Dom U σ)(h:iY P t xt s x σ k):gs U σ (jW P t xt s x) fun v _ σ'=>k v σ':=by
 unfold iY at h
 unfold jW
 split at h
 ·rename_i el hk
  (try simp only[hk])
  split at h
  ·rename_i ys hy
   obtain⟨os,hos⟩:=J9 hy
   have hsrc:=jA (e:=(td P el).size) hos
   rw[hy] at hsrc
   split at h
   ·refine⟨os,⟨(td P xt).k.eN=true∧(td P el).zok=true∧Fits ys.length (td P el).bytes,none,none,some (.row el (td P el).size ys),fun l u=>u=.vec (td P el).size l 0 ys.length⟩,hos,by simp only[hsrc],h.1,fun l=>⟨_,rfl⟩,fun u U' σ' ho=>?_⟩
    obtain⟨l,hl,rfl,-,rfl⟩:=ho
    rw[dB ⟨rfl,rfl⟩]
    exact h.2 l (sQ hd hl)
   ·rename_i e xs
    refine⟨os,⟨(td P xt).k.eN=true∧(td P el).zok=true∧e=(td P el).size∧(xs=[]∨0<ys.length)∧Fits (xs.length+ys.length) (td P el).bytes,none,none,some (.row el (td P el).size (xs++ys)),fun l u=>u=.vec (td P el).size l 0 (xs.length+ys.length)⟩,hos,by simp only[hsrc],h.1,fun l=>⟨_,rfl⟩,fun u U' σ' ho=>?_⟩
    obtain⟨l,hl,rfl,-,rfl⟩:=ho
    rw[dB ⟨rfl,rfl⟩]
    exact h.2 l (sQ hd hl)
   ·rename_i e l lo n
    split at h
    ·rename_i tt e' xs hs
     refine⟨.row tt e' xs::os,⟨(td P xt).k.eN=true∧(td P el).zok=true∧e=(td P el).size∧e'=(td P el).size∧tt=el∧lo=0∧lo+n≤xs.length∧Fits (n+ys.length) (td P el).bytes,some l,none,some (.row el (td P el).size (eG xs lo n ys)),fun l' u=>u=.vec (td P el).size l' 0 (n+ys.length)⟩,by simp[hs,hos],by simp only[hsrc],h.1,fun l=>⟨_,rfl⟩,fun u U' σ' ho=>?_⟩
     obtain⟨l',hl,rfl,-,rfl⟩:=ho
     rw[An]
     exact h.2 l' (sQ hd hl)
    ·exact h.elim
   ·exact h.elim
  ·exact h.elim
 ·exact h.elim
theorem Fu{t xt:TypeId}{s x:MV}{k:MV→(Nat→Prop)→St→Prop}(h:gs U σ (jW P t xt s x) k):iY P t xt s x σ (jQ U σ k):=by
 unfold jW at h
 unfold iY
 split at h
 ·rename_i el hk
  split at h
  ·obtain⟨os,e,h1,h2,h3,h4,h5⟩:=h
   simp only at h1 h2
   split at h2
   ·rename_i ys hy
    cases h2
    rw[jA h1] at hy
    (try simp only[hk,hy])
    refine⟨h3,fun l hl hn=>⟨fun x=>x=l∨U x,fun x hx=>hx.elim (fun e=>.inr (by rw[e,aF];simp)) .inl,h5 _ _ _ ⟨l,hn l (by rw[aF];simp) hl,rfl,rfl,?_⟩⟩⟩
    rw[dB ⟨rfl,rfl⟩]
   ·cases h2
  ·obtain⟨os,e,h1,h2,h3,h4,h5⟩:=h
   simp only at h1 h2
   split at h2
   ·rename_i ys hy
    cases h2
    rw[jA h1] at hy
    (try simp only[hk,hy])
    refine⟨h3,fun l hl hn=>⟨fun x=>x=l∨U x,fun x hx=>hx.elim (fun e=>.inr (by rw[e,aF];simp)) .inl,h5 _ _ _ ⟨l,hn l (by rw[aF];simp) hl,rfl,rfl,?_⟩⟩⟩
    rw[dB ⟨rfl,rfl⟩]
   ·cases h2
  ·obtain⟨os,e,h1,h2,h3,h4,h5⟩:=h
   simp only at h1 h2
   split at h2
   ·rename_i tt e' xs os'
    simp only[List.map_cons,List.cons.injEq] at h1
    split at h2
    ·rename_i ys hy
     cases h2
     rw[jA h1.2] at hy
     (try simp only[hk,hy,h1.1])
     refine⟨h3,fun l hl hn=>⟨fun x=>x=l∨U x,fun x hx=>hx.elim (fun e=>.inr (by rw[e,aF];simp)) .inl,h5 _ _ _ ⟨l,hn l (by rw[aF];simp) hl,rfl,rfl,?_⟩⟩⟩
     rw[An]
    ·cases h2
   ·cases h2
  ·obtain⟨os,e,h1,h2,_⟩:=h
   simp[bQ] at h2
 ·obtain⟨os,e,h1,h2,_⟩:=h
  simp[bQ] at h2
theorem eK{k:MV→(Nat→Prop)→St→Prop}(h:gs U σ bQ k):False:=by
 obtain⟨os,e,h1,h2,_⟩:=h
 simp[bQ] at h2
theorem MD{D:Prop}{x:MV}{k:MV→St→Prop}(h:match gB σ 1 x with|some ys=>(D∧ys.all isByte=true)∧k (.str (bytesOf ys)) σ|none=>False) :
  gs U σ (jN x,fun os=>match gB (Ci os) 1 x with
  | some ys=>some ⟨D∧ys.all isByte=true,none,none,none,fun _ u=>u=.str (bytesOf ys)⟩
  | none=>none) fun v _ σ'=>k v σ':=by
 split at h
 ·rename_i ys hy
  obtain⟨os,hos⟩:=J9 hy
  have hsrc:=jA (e:=1) hos
  rw[hy] at hsrc
  refine⟨os,⟨D∧ys.all isByte=true,none,none,none,fun _ u=>u=.str (bytesOf ys)⟩,hos,by simp only[hsrc],h.1,fun _=>⟨_,rfl⟩,fun u U' σ' ho=>?_⟩
  obtain⟨rfl,-,rfl⟩:=ho
  rw[dB ⟨rfl,rfl⟩];exact h.2
 ·exact h.elim
theorem M0{D:Prop}{x:MV}{k:MV→(Nat→Prop)→St→Prop}(h:gs U σ (jN x,fun os=>match gB (Ci os) 1 x with
  | some ys=>some ⟨D∧ys.all isByte=true,none,none,none,fun _ u=>u=.str (bytesOf ys)⟩
  | none=>none) k):match gB σ 1 x with|some ys=>(D∧ys.all isByte=true)∧jQ U σ k (.str (bytesOf ys)) σ|none=>False:=by
 obtain⟨os,e,h1,h2,h3,h4,h5⟩:=h
 simp only at h1 h2
 split at h2
 ·rename_i ys hy
  cases h2
  rw[jA h1] at hy
  (try simp only[hy])
  refine⟨h3,fun _=>⟨U,fun _ h=>.inl h,h5 _ _ _ ⟨rfl,rfl,?_⟩⟩⟩
  rw[dB ⟨rfl,rfl⟩]
 ·cases h2
theorem C4{s d:TypeId}{x:MV}{k:MV→St→Prop}(hd:Dom U σ)(h:gA P s d x σ k):gs U σ (fX P s d x) fun v _ σ'=>k v σ':=by
 unfold gA at h
 unfold fX
 cases hs:(td P s).k<;>cases hk:(td P d).k<;>simp only[hs,hk] at h ⊢<;>first
  | exact kX h
  | (cases x<;>first|exact kX h|exact jG hd h|exact h.elim|exact MD h)
theorem CS{s d:TypeId}{x:MV}{k:MV→(Nat→Prop)→St→Prop}(h:gs U σ (fX P s d x) k):gA P s d x σ (jQ U σ k):=by
 unfold fX at h
 unfold gA
 have hp:∀{pv:PV},gs U σ (dV pv) k→mpure σ (jQ U σ k) pv:=fun h=>tF (lB h) fun v σ' hh _=>hh
 cases hs:(td P s).k<;>cases hk:(td P d).k<;>simp only[hs,hk] at h ⊢<;>first
  | exact hp h
  | (cases x<;>first|exact hp h|exact kA h|exact(eK h).elim|exact M0 h)
theorem AP{g:FuncId}{ms:List MV}{k:MV→St→Prop}{rd:List Nat}{q:MV→Prop}{os:List aV}(h1:C g ms=some ⟨rd,q,none⟩)(h2:rd.map σ=os.map some)(h3:aA P g ms (St.ofList rd os) (fun v σ'=>q v∧σ'=St.ofList rd os))(h4:∃v,q v)(h5:∀v,q v→k v σ):gs U σ (fP P C g ms) fun v _ σ'=>k v σ':=by
 unfold fP
 rw[h1]
 refine⟨os,⟨aA P g ms (St.ofList rd os) (fun v σ'=>q v∧σ'=St.ofList rd os),none,none,none,fun _ u=>q u⟩,h2,rfl,h3,fun _=>h4,fun u U' σ' ho=>?_⟩
 obtain⟨hq,-,rfl⟩:=ho
 rw[dB ⟨rfl,rfl⟩]
 exact h5 u hq
theorem EW{g:FuncId}{ms:List MV}{k:MV→St→Prop}(hd:Dom U σ)(h:qC P C g ms σ k):gs U σ (fP P C.pl g ms) fun v _ σ'=>k v σ':=by
 rcases h with⟨rd,q,os,h1,h2,h3,h4,h5⟩|⟨rd,q,o,u,h1,h2,h3⟩
 ·exact AP (by unfold b9.pl;rw[h1];rfl) h2 h3 h4 h5
 ·have hC:C.pl g ms=some ⟨[],q,some ([o],u)⟩:=by unfold b9.pl;rw[h1];rfl
  unfold fP
  rw[hC]
  exact jG hd ⟨h2,h3⟩
theorem AO{g:FuncId}{ms:List MV}{k:MV→St→Prop}(hd:Dom U σ)(h:eA P C g ms σ k):gs U σ (fP P C g ms) fun v _ σ'=>k v σ':=by
 rcases h with⟨rd,q,os,h1,h2,h3,h4,h5⟩|⟨q,o,u,h1,h2,h3⟩|⟨l,rd,q,ts,os,u,h1,h2,h3,h4⟩
 ·exact AP h1 h2 h3 h4 h5
 ·unfold fP
  rw[h1]
  exact jG hd ⟨h2,h3⟩
 ·unfold fP
  rw[h1]
  refine⟨os,⟨aA P g ms (St.ofList (l::rd) os) (fun v σ'=>v=u l∧σ'=(St.ofList (l::rd) ts).over (St.ofList (l::rd) os)),none,some (St.ofList (l::rd) ts),none,fun _ w=>w=u l⟩,h2,rfl,h3,fun _=>⟨_,rfl⟩,fun v U' σ' ho=>?_⟩
  obtain⟨hv,-,rfl⟩:=ho
  rw[sB,hv]
  exact h4
theorem Kw{g:FuncId}{ms:List MV}{k:MV→(Nat→Prop)→St→Prop}(h:gs U σ (fP P C g ms) k):aA P g ms σ (jQ U σ k):=by
 unfold fP at h
 split at h
 ·rename_i rd q hC
  obtain⟨os,e,h1,h2,h3,h4,h5⟩:=h
  simp only[Option.some.injEq] at h2
  subst h2
  simp only at h1 h3
  have hle:=qF rd os h1
  refine(h3.frame hle).mono ?_
  rintro v σ1 ⟨σ',⟨hq,rfl⟩,rfl,-⟩
  rw[k8 hle]
  refine fun _=>⟨U,fun _ h=>.inl h,h5 _ _ _ ⟨hq,rfl,?_⟩⟩
  rw[dB ⟨rfl,rfl⟩]
 ·rename_i rd q ts u hC
  unfold KM at h
  split at h
  ·rename_i o
   obtain⟨h1,h2⟩:=kA h
   refine(h1.frame (St.none_le σ)).mono ?_
   rintro v σ1 ⟨σ',⟨l,rfl,rfl⟩,rfl,hf⟩
   rw[gS,bU,dS]
   refine h2 l ?_
   rcases hf l o (aF _ _ _) with h|⟨o',h⟩
   ·exact h
   ·simp[St.none] at h
  ·exact(eK h).elim
 ·rename_i l rd q ts u hC
  obtain⟨os,e,h1,h2,h3,h4,h5⟩:=h
  simp only[Option.some.injEq] at h2
  subst h2
  have hle:=qF (l::rd) os h1
  refine(aA.frame h3 hle).mono ?_
  rintro v σ1 ⟨σ',⟨hv,rfl⟩,rfl,-⟩
  have e:((St.ofList (l::rd) ts).over (St.ofList (l::rd) os)).over (σ.minus (St.ofList (l::rd) os))=(St.ofList (l::rd) ts).over σ:=by
   funext j
   (try simp only[St.over,St.minus])
   cases St.ofList (l::rd) ts j with
   | some o=>rfl
   | none =>
    cases ht:St.ofList (l::rd) os j with
    | none=>rfl
    | some o1=>simp only[hle j o1 ht]
  rw[e]
  exact fun _=>⟨U,fun _ h=>.inl h,h5 _ _ _ ⟨hv,rfl,sB.symm⟩⟩
 ·exact(eK h).elim
theorem MB{MC:FuncId→List MV→St→(MV→St→Prop)→Prop}(hMC:∀g ms k,MC g ms σ k→gs U σ (fP P C g ms) fun v _ σ'=>k v σ'){op:Op}{k:MV→St→Prop}(hd:Dom U σ)(h:vE P MC f σ k op):gs U σ (gop P C f op) fun v _ σ'=>k v σ':=by
 cases op
 case alloc t=>exact jG hd h
 case box t x=>exact jG hd h
 case load t x=>exact KP h
 case store t x y=>exact Ir h
 case lookup t m x ok=>exact F0 h
 case mapUpdate t m x y=>exact F1 h
 case convert s d x=>exact C4 hd h
 case buildSlice t n p =>
  have h:dE P f t n p σ k:=h
  (try simp only[gop])
  unfold dE at h
  unfold dD
  split at h
  ·rename_i el hk;(try simp only[hk]);exact jG hd h
  ·exact h.elim
 case makeSlice t x y =>
  have h:gT P t (aE f x) (aE f y) σ k:=h
  (try simp only[gop])
  unfold gT at h
  unfold eM
  split at h
  ·rename_i el n c hk hx hy;(try simp only[hk,hx,hy]);exact jG hd h
  ·exact h.elim
 case defer c=>exact h.elim
 case call c =>
  obtain⟨callee,args,ts⟩:=c
  cases callee with
  | value x =>
   simp only[vE] at h
   (try simp only[gop])
   split at h
   ·rename_i g ms ns hx;first|(simp only[hx];exact hMC _ _ _ h)|exact hMC _ _ _ h
   ·exact h.elim
  | invoke r m=>exact h.elim
  | builtin b =>
   by_cases hb:b=.append
   ·subst hb
    have h:fL P f .append args.toList ts.toList σ k:=h
    (try simp only[gop])
    simp only[fL] at h
    split at h
    ·rename_i s x t xt ha ht;(try simp only[ha,ht]);exact FZ hd h
    ·exact h.elim
   ·have h:fL P f b args.toList ts.toList σ k:=h
    have e1:gop P C f (.call ⟨.builtin b,args,ts⟩)=if ts.toList.length=args.toList.length then dV (dO P b ts.toList.toArray (args.toList.map (aE f))) else bQ:=by
     cases b<;>first|rfl|exact absurd rfl hb
    have e2:fL P f b args.toList ts.toList σ k=(ts.toList.length=args.toList.length∧mpure σ k (dO P b ts.toList.toArray (args.toList.map (aE f)))):=by
     cases b<;>first|rfl|exact absurd rfl hb
    rw[e2] at h
    rw[e1,if_pos h.1]
    exact kX h.2
 all_goals exact kX h
theorem Me{op:Op}{k:MV→(Nat→Prop)→St→Prop}(h:gs U σ (gop P C f op) k):mop P f σ (jQ U σ k) op:=by
 have hp:∀{pv:PV},gs U σ (dV pv) k→mpure σ (jQ U σ k) pv:=fun h=>tF (lB h) fun v σ' hh _=>hh
 cases op
 case alloc t=>exact kA h
 case box t x=>exact kA h
 case load t x=>exact K4 h
 case store t x y=>exact Ka h
 case lookup t m x ok=>exact Ge h
 case mapUpdate t m x y=>exact Gg h
 case convert s d x=>exact CS h
 case buildSlice t n p =>
  simp only[gop] at h
  show dE P f t n p σ _
  unfold dE
  unfold dD at h
  split at h
  ·rename_i el hk;(try simp only[hk]);exact kA h
  ·exact(eK h).elim
 case makeSlice t x y =>
  simp only[gop] at h
  show gT P t (aE f x) (aE f y) σ _
  unfold gT
  unfold eM at h
  split at h
  ·rename_i el n c hk hx hy;(try simp only[hk,hx,hy]);exact kA h
  ·exact(eK h).elim
 case defer c=>exact(eK h).elim
 case call c =>
  obtain⟨callee,args,ts⟩:=c
  cases callee with
  | value x =>
   simp only[gop] at h
   show E1 P f ⟨.value x,args,ts⟩ σ _
   (try simp only[E1])
   split at h
   ·rename_i g ms ns hx;(try simp only[hx]);exact Kw h
   ·exact(eK h).elim
  | invoke r m=>exact(eK h).elim
  | builtin b =>
   show fL P f b args.toList ts.toList σ _
   by_cases hb:b=.append
   ·subst hb
    simp only[gop] at h
    (try simp only[fL])
    split at h
    ·rename_i s x t xt ha ht;(try simp only[ha,ht]);exact Fu h
    ·exact(eK h).elim
   ·have e1:gop P C f (.call ⟨.builtin b,args,ts⟩)=if ts.toList.length=args.toList.length then dV (dO P b ts.toList.toArray (args.toList.map (aE f))) else bQ:=by
     cases b<;>first|rfl|exact absurd rfl hb
    have e2:fL P f b args.toList ts.toList σ (jQ U σ k)=(ts.toList.length=args.toList.length∧mpure σ (jQ U σ k) (dO P b ts.toList.toArray (args.toList.map (aE f)))):=by
     cases b<;>first|rfl|exact absurd rfl hb
    rw[e1] at h
    rw[e2]
    split at h
    ·rename_i hl;exact⟨hl,hp h⟩
    ·exact(eK h).elim
 all_goals exact hp h
end
end

section
section
variable {P:Program} {C:b9} {ops:Array Oper}
def FEq(f f':FR):Prop:=f.n=f'.n∧f.d=f'.d∧∀t,f.get t=f'.get t
theorem FEq.refl(f:FR):FEq f f:=⟨rfl,rfl,fun _=>rfl⟩
theorem FEq.symm{f f':FR}(h:FEq f f'):FEq f' f:=⟨h.1.symm,h.2.1.symm,fun t=>(h.2.2 t).symm⟩
theorem FEq.trans{f f' f'':FR}(h:FEq f f')(k:FEq f' f''):FEq f f'':=⟨h.1.trans k.1,h.2.1.trans k.2.1,fun t=>(h.2.2 t).trans (k.2.2 t)⟩
theorem kV(f:FR)(dst:Option Tmp)(v:MV)(t:Nat):(bB f dst v).get t=if dst=some t∧t<f.n then v else f.get t:=by
 cases dst with
 | none=>simp[bB]
 | some d =>
  (try simp only[bB])
  split
  ·rename_i hd
   (try simp only[FR.get,bY])
   by_cases ht:t=d
   ·subst ht;simp[hd]
   ·rw[if_neg ht,if_neg (by simp;intro e;exact absurd e.symm ht)]
  ·rename_i hd
   rw[if_neg]
   rintro⟨e,h⟩
   cases e
   exact hd h
theorem Fh(f:FR)(dst:Option Tmp)(v:MV):(bB f dst v).n=f.n:=by
 unfold bB
 split<;>(try split)<;>rfl
theorem FEq.put{f f':FR}(h:FEq f f')(dst:Option Tmp)(v:MV):FEq (bB f dst v) (bB f' dst v) :=
 ⟨by rw[Fh,Fh];exact h.1,by rw[dQ,dQ];exact h.2.1,fun t=>by rw[kV,kV,h.1,h.2.2 t]⟩
theorem FEq.comm(f:FR){x y:Option Tmp}(v u:MV)(h:∀d,x=some d→y≠some d):FEq (bB (bB f x v) y u) (bB (bB f y u) x v) :=
 ⟨by simp only[Fh],by simp only[dQ],fun t=>by
  (try simp only[kV,Fh])
  by_cases hx:x=some t
  ·have:=h t hx
   simp[hx,this]
  ·simp[hx]⟩
theorem FEq.aE{f f':FR}(h:FEq f f'):aE f=aE f':=by
 funext x
 cases x with
 | tmp t=>exact h.2.2 t
 | _=>rfl
theorem Jq{f:FR}{dst:Option Tmp}{v:MV}{x:Operand}(h:∀d,dst=some d→x≠.tmp d):aE (bB f dst v) x=aE f x:=by
 cases x with
 | tmp t =>
  show(bB f dst v).get t=f.get t
  rw[kV,if_neg]
  rintro⟨e,_⟩
  exact h t e rfl
 | _=>rfl
theorem rN{f f':FR}{place:Nat→Option (Nat × TypeId)}:∀(parts:List (Nat × Operand)) (cs:List MV),(∀p,p∈parts→aE f p.2=aE f' p.2)→dK P f place parts cs=dK P f' place parts cs:=by
 intro parts
 induction parts with
 | nil=>intro cs _;rfl
 | cons p r ih =>
  intro cs h
  obtain⟨i,x⟩:=p
  (try simp only[dK])
  have hx:aE f x=aE f' x:=h (i,x) (by simp)
  rw[hx]
  cases place i with
  | none=>rfl
  | some q=>simp only[];rw[ih _ (fun p hp=>h p (by simp[hp]))]
theorem yU{f f':FR}{t:TypeId}{parts:Array (Nat × Operand)}(h:∀p,p∈parts.toList→aE f p.2=aE f' p.2):l7 P f t parts=l7 P f' t parts:=by
 unfold l7
 cases (td P t).k<;>simp only[]<;>rw[rN _ _ h]
theorem oA{f f':FR}{xs:List Operand}(h:∀x,x∈xs→aE f x=aE f' x):xs.map (aE f)=xs.map (aE f'):=List.map_congr_left h
theorem wY{f f':FR}{op:Op}(h:∀x,x∈op.operands→aE f x=aE f' x):gop P C f op=gop P C f' op:=by
 cases op<;>simp only[Op.operands] at h
 case buildSlice t n ps =>
  (try simp only[gop,dD])
  have hp:∀p,p∈ps.toList→aE f p.2=aE f' p.2:=fun p hp=>h p.2 (by simpa using⟨p.1,by simpa using hp⟩)
  have e1:(ps.toList.all fun p=>(aE f p.2).cells.all MV.aP&&(aE f p.2).cells.length==0)=(ps.toList.all fun p=>(aE f' p.2).cells.all MV.aP&&(aE f' p.2).cells.length==0):=by
   rw[Bool.eq_iff_iff];(try simp only[List.all_eq_true])
   exact⟨fun q x hx=>by rw[←hp x hx];exact q x hx,fun q x hx=>by rw[hp x hx];exact q x hx⟩
  have e2:∀z,(ps.toList.all fun p=>(aE f p.2).cells.all MV.aP&&(aE f p.2).cells.length==z)=(ps.toList.all fun p=>(aE f' p.2).cells.all MV.aP&&(aE f' p.2).cells.length==z):=fun z=>by
   rw[Bool.eq_iff_iff];(try simp only[List.all_eq_true])
   exact⟨fun q x hx=>by rw[←hp x hx];exact q x hx,fun q x hx=>by rw[hp x hx];exact q x hx⟩
  have e3:(ps.toList.map fun p=>(aE f p.2).cells)=(ps.toList.map fun p=>(aE f' p.2).cells):=List.map_congr_left fun p hq=>by rw[hp p hq]
  (try simp only[e2,e3])
 case build t ps =>
  (try simp only[gop,qop])
  rw[yU fun p hp=>h p.2 (by simpa using⟨p.1,by simpa using hp⟩)]
 case makeFunc fn first captured =>
  (try simp only[gop,qop])
  rw[oA (xs:=first.toList) fun x hx=>h x (by simp at hx ⊢;exact .inl hx),oA (xs:=captured.toList) fun x hx=>h x (by simp at hx ⊢;exact .inr hx)]
 case indexAddr t x i =>
  have h1:=h x (by simp)
  have h2:=h i (by simp)
  (try simp only[gop])
  cases x<;>simp only[qop]<;>simp[h1,h2]
 case slice t x lo hi mx =>
  (try simp only[gop,qop])
  rw[h x (by simp)]
  cases lo<;>cases hi<;>cases mx<;>simp_all
 case call c =>
  obtain⟨callee,args,ts⟩:=c
  have ha:args.toList.map (aE f)=args.toList.map (aE f'):=oA fun x hx=>h x (by simp[Call.operands];exact .inr (by simpa using hx))
  cases callee with
  | value x=>simp only[gop];rw[h x (by simp[Call.operands]),ha]
  | invoke r m=>rfl
  | builtin b =>
   by_cases hb:b=.append
   ·subst hb
    (try simp only[gop])
    have hm:∀y,y∈args.toList→aE f y=aE f' y:=fun y hy=>h y (by simp[Call.operands];simpa using hy)
    split
    ·rename_i s x t xt hl _
     rw[hm s (by simp[hl]),hm x (by simp[hl])]
    ·rfl
   ·have e1:∀f,gop P C f (.call ⟨.builtin b,args,ts⟩)=if ts.toList.length=args.toList.length then dV (dO P b ts.toList.toArray (args.toList.map (aE f))) else bQ:=fun f=>by
     cases b<;>first|rfl|exact absurd rfl hb
    rw[e1,e1,ha]
 all_goals first
  | rfl
  | (simp_all [gop,qop];done)
def gfo(P:Program)(C:b9)(ops:Array Oper)(f:FR)(o:Oper):GF :=
 match o.guard with
 | none=>gop P C f o.op
 | some (j,want)=>match (ops[j]?).bind (·.dst) with
  | some t=>match f.get t with
   | .bool b=>if b=want then gop P C f o.op else dV (some (True,.tup []))
   | .tup []=>dV (some (True,.tup []))
   | _=>bQ
  | none=>bQ
theorem Km{u:fR}(hu:PlU u C)(f:FR)(o:Oper):Wf (gfo P C ops f o)∧(tK u o.op=true→jE (gfo P C ops f o))∧(noW u o.op=true→NoW (gfo P C ops f o))∧(rd0 o.op=true→(gfo P C ops f o).1=[]):=by
 have hf:Wf bQ∧(tK u o.op=true→jE bQ)∧(noW u o.op=true→NoW bQ)∧(rd0 o.op=true→bQ.1=[]):=⟨bA.1,fun _=>bA.2.2.1,fun _=>bA.2.1,fun _=>rfl⟩
 unfold gfo
 split
 ·exact Eu P C hu f o.op
 ·split
  ·split
   ·split
    ·exact Eu P C hu f o.op
    ·exact⟨(cL _).1,fun _=>(cL _).2.2.1,fun _=>(cL _).2.1,fun _=>rfl⟩
   ·exact⟨(cL _).1,fun _=>(cL _).2.2.1,fun _=>(cL _).2.1,fun _=>rfl⟩
   ·exact hf
  ·exact hf
theorem FY{f f':FR}(h:FEq f f')(o:Oper):gfo P C ops f o=gfo P C ops f' o:=by
 unfold gfo
 rw[wY (f:=f) (f':=f') fun x _=>by rw[h.aE]]
 (try simp only[h.2.2])
theorem ET{f:FR}{dst:Option Tmp}{v:MV}{o:Oper}(h:∀d,dst=some d→d∉o.looksAt ops):gfo P C ops (bB f dst v) o=gfo P C ops f o:=by
 have h1:gop P C (bB f dst v) o.op=gop P C f o.op:=wY fun x hx=>Jq fun d hd e=>h d hd (by
  subst e
  exact List.mem_append_left _ (List.mem_filterMap.2 ⟨.tmp d,by simpa using hx,rfl⟩))
 unfold gfo
 rw[h1]
 split
 ·rfl
 ·rename_i j want hg
  split
  ·rename_i t ht
   have:(bB f dst v).get t=f.get t:=by
    rw[kV,if_neg]
    rintro⟨e,-⟩
    exact h t e (by simp[Oper.looksAt,hg,ht])
   rw[this]
  ·rfl
def gl(P:Program)(C:b9)(ops:Array Oper)(K:FR→(Nat→Prop)→St→Prop):List Oper→FR→(Nat→Prop)→St→Prop
 | [],f,U,σ=>K f U σ
 | o::r,f,U,σ=>gs U σ (gfo P C ops f o) fun v U' σ'=>gl P C ops K r (bB f o.dst v) U' σ'
def KOk(K:FR→(Nat→Prop)→St→Prop):Prop:=∀f f' U U' σ,FEq f f'→(∀l,U l→U' l)→K f U σ→K f' U' σ
theorem p9{U:Nat→Prop}{σ:St}{g:GF}{k k':MV→(Nat→Prop)→St→Prop}(h:gs U σ g k)(hk:∀v U' σ',k v U' σ'→k' v U' σ'):gs U σ g k':=by
 obtain⟨os,e,h1,h2,h3,h4,h5⟩:=h
 exact⟨os,e,h1,h2,h3,h4,fun v U' σ' ho=>hk v U' σ' (h5 v U' σ' ho)⟩
theorem EU{K:FR→(Nat→Prop)→St→Prop}(hK:KOk K):∀l,KOk (gl P C ops K l)
 | []=>hK
 | o::r=>fun f f' U U' σ hf hu h=>by
  simp only[gl] at h ⊢
  rw[←FY hf]
  refine KO (p9 h fun v U' σ' hh=>EU hK r _ (bB f' o.dst v) U' U' σ' (hf.put o.dst v) (fun _ h=>h) hh) hu fun v V V' σ hv hh=>EU hK r _ _ V V' σ (.refl _) hv hh
def Mi(u:fR)(ops:Array Oper)(x y:Oper):Bool:=x.apart ops y&&((rd0 y.op || tK u x.op)&&(rd0 x.op || noW u y.op)&&(noW u x.op || noW u y.op))
structure RX where
 Ds:List Nat
 Rs:List (Nat × Nat)
 dr:Option Nat
 u:fR
def DOk(X:RX)(loc:Nat→Nat→Prop)(f:FR):Prop:=(∀t,t∈X.Ds→∃l i o,f.get t=.ptr l i o∧loc t l)∧(∀t t',t∈X.Ds→t'∈X.Ds→t≠t'→∀l,loc t l→¬loc t' l)∧∀p,p∈X.Rs→p.2∈X.Ds∧∀l i o,f.get p.1=.ptr l i o→loc p.2 l
def lL(X:RX)(loc:Nat→Nat→Prop)(C:b9):Prop:=PlU X.u C∧match X.dr with
 | none=>True
 | some d=>d∈X.Ds∧∀g ms F,C g ms=some F→∀l,l∈F.rd→loc d l
def rG(X:RX)(t:Nat):Option Nat:=if X.Ds.contains t then some t else(X.Rs.find? fun p=>p.1==t).map (·.2)
def dsr(X:RX):Op→Option Nat
 | .load _ (.tmp t)=>rG X t
 | .store _ (.tmp t) _=>rG X t
 | .call ⟨.value _,_,_⟩=>X.dr
 | _=>none
def L8(X:RX)(x y:Op):Bool:=match dsr X x,dsr X y with
 | some a,some b=>a != b
 | _,_=>false
def uN(X:RX)(ops:Array Oper)(x y:Oper):Bool:=Mi X.u ops x y || (x.apart ops y&&L8 X x.op y.op)
def yG(X:RX)(r:Nat):Op→Bool
 | .fieldAddr _ (.tmp s) _|.move (.tmp s)=>rG X s==some r
 | _=>false
def nZ(X:RX)(o:Oper):Bool:=match o.dst with
 | some d=>!X.Ds.contains d&&X.Rs.all fun p=>p.1 != d || yG X p.2 o.op
 | none=>true
def GV(g:GF)(v:MV):Prop:=∃os e l,g.2 os=some e∧e.v l v
theorem C5{U:Nat→Prop}{σ:St}{g:GF}{k:MV→(Nat→Prop)→St→Prop}(h:gs U σ g k):gs U σ g fun v U' σ'=>GV g v∧k v U' σ':=by
 obtain⟨os,e,h1,h2,h3,h4,h5⟩:=h
 refine⟨os,e,h1,h2,h3,h4,fun v U' σ' ho=>⟨?_,h5 v U' σ' ho⟩⟩
 unfold Eff.out at ho
 split at ho
 ·exact⟨os,e,0,h2,ho.1⟩
 ·obtain⟨l,-,hv,-⟩:=ho
  exact⟨os,e,l,h2,hv⟩
theorem uD{X:RX}{loc:Nat→Nat→Prop}{f:FR}(h:DOk X loc f){t r:Nat}(hr:rG X t=some r):r∈X.Ds∧∀l i o,f.get t=.ptr l i o→loc r l:=by
 unfold rG at hr
 split at hr
 ·rename_i hm
  cases hr
  have hm:t∈X.Ds:=by simpa using hm
  refine⟨hm,fun l i o e=>?_⟩
  obtain⟨l',i',o',e',hl⟩:=h.1 t hm
  rw[e] at e'
  cases e'
  exact hl
 ·obtain⟨p,hp,rfl⟩:=Option.map_eq_some_iff.1 hr
  have h1:=List.find?_some hp
  have h2:=List.mem_of_find?_eq_some hp
  obtain⟨h3,h4⟩:=h.2.2 p h2
  refine⟨h3,fun l i o e=>h4 l i o ?_⟩
  have:p.1=t:=by simpa using h1
  rw[this];exact e
theorem rW{pv:PV}{v:MV}(h:GV (dV pv) v):∃c,pv=some (c,v):=by
 obtain⟨os,e,l,h1,h2⟩:=h
 simp only[dV,Option.map_eq_some_iff] at h1
 obtain⟨x,hx,rfl⟩:=h1
 exact⟨x.1,by rw[hx];congr 1;exact Prod.ext rfl h2.symm⟩
theorem CW{X:RX}{loc:Nat→Nat→Prop}{f:FR}(h:DOk X loc f){r:Nat}{o:Oper}(hd:yG X r o.op=true){v:MV}(hv:GV (gfo P C ops f o) v){l i j:Nat}(e:v=.ptr l i j):loc r l:=by
 subst e
 have key:GV (gop P C f o.op) (.ptr l i j)→loc r l:=by
  intro hv
  unfold yG at hd
  split at hd
  ·rename_i ty s k hop
   rw[hop] at hv
   obtain⟨c,hc⟩:=rW hv
   have hr:rG X s=some r:=by simpa using hd
   simp only[qop,gR,aE] at hc
   split at hc
   ·split at hc
    ·rename_i l' i' o' hs
     simp only[Option.some.injEq,Prod.mk.injEq,MV.ptr.injEq] at hc
     rw[←hc.2.1]
     exact(uD h hr).2 _ _ _ (by assumption)
    ·simp at hc
    ·cases hc
   ·cases hc
  ·rename_i s hop
   rw[hop] at hv
   obtain⟨c,hc⟩:=rW hv
   have hr:rG X s=some r:=by simpa using hd
   simp only[qop,aE,Option.some.injEq,Prod.mk.injEq] at hc
   exact(uD h hr).2 _ _ _ hc.2
  ·cases hd
 unfold gfo at hv
 split at hv
 ·exact key hv
 ·split at hv
  ·split at hv
   ·split at hv
    ·exact key hv
    ·obtain⟨c,hc⟩:=rW hv;simp at hc
   ·obtain⟨c,hc⟩:=rW hv;simp at hc
   ·obtain⟨os,e,l,h1,h2⟩:=hv;simp[bQ] at h1
  ·obtain⟨os,e,l,h1,h2⟩:=hv;simp[bQ] at h1
theorem DOk.put{X:RX}{loc:Nat→Nat→Prop}{f:FR}(h:DOk X loc f){o:Oper}(hk:nZ X o=true){v:MV}(hv:GV (gfo P C ops f o) v):DOk X loc (bB f o.dst v):=by
 refine⟨fun t ht=>?_,h.2.1,fun p hp=>⟨(h.2.2 p hp).1,fun l i j e=>?_⟩⟩
 ·rw[kV,if_neg]
  ·exact h.1 t ht
  ·rintro⟨e,-⟩
   simp only[nZ,e,Bool.and_eq_true,Bool.not_eq_true',List.contains_iff_mem] at hk
   simp[ht] at hk
 ·rw[kV] at e
  split at e
  ·rename_i hd
   simp only[nZ,hd.1,Bool.and_eq_true,List.all_eq_true,Bool.or_eq_true,bne_iff_ne,ne_eq] at hk
   rcases hk.2 p hp with hn|hn
   ·exact absurd rfl hn
   ·exact CW h hn hv e
  ·exact(h.2.2 p hp).2 l i j e
theorem wO{X:RX}{loc:Nat→Nat→Prop}{f:FR}(h:DOk X loc f)(hC:lL X loc C){o:Oper}{r:Nat}(ho:dsr X o.op=some r):r∈X.Ds∧∀l,l∈(gfo P C ops f o).1→loc r l:=by
 have ld:∀{t:Nat},rG X t=some r→r∈X.Ds∧∀g:MV→GF,(∀v,(∀l i j,v≠.ptr l i j)→(g v).1=[])→(∀l i j,(g (.ptr l i j)).1=[l])→∀l,l∈(g (f.get t)).1→loc r l:=by
  intro t ht
  obtain⟨h1,h2⟩:=uD h ht
  refine⟨h1,fun g hg1 hg2 l hl=>?_⟩
  by_cases hp:∃l' i j,f.get t=.ptr l' i j
  ·obtain⟨l',i,j,e⟩:=hp
   rw[e,hg2] at hl
   rw[List.mem_singleton.1 hl]
   exact h2 _ _ _ e
  ·rw[hg1 _ (fun l i j e=>hp ⟨l,i,j,e⟩)] at hl
   cases hl
 have key:r∈X.Ds∧∀l,l∈(gop P C f o.op).1→loc r l:=by
  unfold dsr at ho
  split at ho
  ·rename_i ty u hop
   obtain⟨h1,h2⟩:=ld ho
   refine⟨h1,fun l hl=>?_⟩
   rw[hop] at hl
   exact h2 (lW P ty) (fun v hv=>by unfold lW;split<;>first|rfl|exact absurd rfl (hv _ _ _)) (fun l i j=>rfl) l hl
  ·rename_i ty u y hop
   obtain⟨h1,h2⟩:=ld ho
   refine⟨h1,fun l hl=>?_⟩
   rw[hop] at hl
   exact h2 (fun v=>kY P ty v (aE f y)) (fun v hv=>by unfold kY;split<;>first|rfl|exact absurd rfl (hv _ _ _)) (fun l i j=>rfl) l hl
  ·rename_i x args ts hop
   unfold lL at hC
   replace hC:=hC.2
   rw[ho] at hC
   simp only at hC
   refine⟨hC.1,fun l hl=>?_⟩
   rw[hop] at hl
   simp only[gop] at hl
   split at hl
   ·unfold fP at hl
    split at hl
    ·rename_i hc;exact hC.2 _ _ _ hc l hl
    ·unfold KM at hl;split at hl<;>cases hl
    ·rename_i hc;exact hC.2 _ _ _ hc l hl
    ·cases hl
   ·cases hl
  ·cases ho
 refine⟨key.1,fun l hl=>?_⟩
 unfold gfo at hl
 split at hl
 ·exact key.2 l hl
 ·split at hl
  ·split at hl
   ·split at hl
    ·exact key.2 l hl
    ·simp[dV] at hl
   ·simp[dV] at hl
   ·simp[bQ] at hl
  ·simp[bQ] at hl
theorem lL.u{X:RX}{loc:Nat→Nat→Prop}(h:lL X loc C):PlU X.u C:=h.1
theorem pull{K:FR→(Nat→Prop)→St→Prop}(hK:KOk K){X:RX}{loc:Nat→Nat→Prop}(hC:lL X loc C)(l2:List Oper)(o:Oper):∀(l1:List Oper) (f:FR) (U:Nat→Prop) (σ:St),Dom U σ→Fin U→DOk X loc f→(∀x,x∈l1→uN X ops x o=true)→(∀x,x∈l1→nZ X x=true) →
  gl P C ops K (l1++o::l2) f U σ→gs U σ (gfo P C ops f o) fun v U1 σ1=>∀U1',(∀l,U1 l→U1' l)→gl P C ops K (l1++l2) (bB f o.dst v) U1' σ1:=by
 intro l1
 induction l1 with
 | nil =>
  intro f U σ hd hf _ _ _ h
  exact p9 h fun v U' σ' hh U1' hu=>EU hK _ _ _ U' U1' σ' (.refl _) hu hh
 | cons x l1 ih =>
  intro f U σ hd hf hD hsw hkp h
  have hx:=hsw x (by simp)
  have wx:=Km (P:=P) (C:=C) (ops:=ops) hC.u f x
  have wo:=Km (P:=P) (C:=C) (ops:=ops) hC.u f o
  have hx2:x.apart ops o=true∧((((gfo P C ops f o).1=[]∨jE (gfo P C ops f x))∧((gfo P C ops f x).1=[]∨NoW (gfo P C ops f o))∧(NoW (gfo P C ops f x)∨NoW (gfo P C ops f o)))∨∀l,l∈(gfo P C ops f x).1→l∉(gfo P C ops f o).1):=by
   simp only[uN,Mi,Bool.or_eq_true,Bool.and_eq_true] at hx
   rcases hx with⟨hap,⟨c1,c2⟩,c3⟩|⟨hap,hdj⟩
   ·exact⟨hap,.inl ⟨c1.imp wo.2.2.2 wx.2.1,c2.imp wx.2.2.2 wo.2.2.1,c3.imp wx.2.2.1 wo.2.2.1⟩⟩
   ·refine⟨hap,.inr ?_⟩
    unfold L8 at hdj
    split at hdj
    ·rename_i a b ha hb
     obtain⟨m1,r1⟩:=wO (P:=P) (C:=C) (ops:=ops) hD hC ha
     obtain⟨m2,r2⟩:=wO (P:=P) (C:=C) (ops:=ops) hD hC hb
     intro l h1 h2
     have e1:=r1 l h1
     have e2:=r2 l h2
     exact hD.2.1 a b m1 m2 (by simpa using hdj) l e1 e2
    ·cases hdj
  obtain⟨hap,hc⟩:=hx2
  obtain⟨a1,a2,a3⟩:=Oper.apart_spec hap
  simp only[List.cons_append,gl] at h
  have h':=rV (C5 h) hd hf (k':=fun v U1 σ1=>gs U1 σ1 (gfo P C ops f o) fun u U2 σ2=>∀U2',(∀l,U2 l→U2' l)→gl P C ops K (l1++l2) (bB (bB f x.dst v) o.dst u) U2' σ2) (fun v U1 σ1 hd1 hf1 _ ⟨hgv,hh⟩=>by
   have:=ih (bB f x.dst v) U1 σ1 hd1 hf1 (hD.put (hkp x (by simp)) hgv) (fun y hy=>hsw y (by simp[hy])) (fun y hy=>hkp y (by simp[hy])) hh
   rwa [ET a1] at this) wx.1
  have h2:=KQ (K:=fun v u U2 σ2=>∀U2',(∀l,U2 l→U2' l)→gl P C ops K (l1++l2) (bB (bB f x.dst v) o.dst u) U2' σ2) hd hf wx.1 wo.1 hc
   (fun v u V V' σ hv hh U2' hu=>hh U2' fun l hl=>hu l (hv l hl)) h'
  refine p9 h2 fun u U1 σ1 hh U1' hu=>?_
  (try simp only[List.cons_append,gl])
  rw[ET a3]
  refine p9 (hh U1' hu) fun v U2 σ2 hk=>?_
  exact EU hK _ _ _ U2 U2 σ2 (FEq.comm f v u a2) (fun _ h=>h) (hk U2 fun _ h=>h)
end
end

section
def nO:List Oper→List Nat→List Nat
 | [],acc=>acc
 | o::r,acc=>nO r (acc++[o.after.toList.foldl (fun m e=>if Region.binds .any e then(m ||| 2 ^ e.on) ||| acc.getD e.on 0 else m) 0])
def nD(X:RX)(ops:Array Oper):Bool :=
 let ms:=nO ops.toList []
 (ops.toList.all (nZ X))&&(List.range ops.size).all fun i=>match ops[i]? with
  | none=>true
  | some oi=>(oi.after.toList.all fun e=>!Region.binds .any e || decide (e.on<i)) &&
   ((List.range i).all fun j=>match ops[j]? with
    | none=>true
    | some oj=>(ms.getD i 0).testBit j || uN X ops oj oi)
def chk(ops:Array Oper):Bool:=nD ⟨[],[],none,.no⟩ ops
section
variable {P:Program} {C:b9} {ops:Array Oper}
def pR(ops:Array Oper)(L:Nat→Prop):Prop:=∀i o,ops[i]?=some o→L i→∀e,e∈o.after.toList→Region.binds .any e=true→L e.on
theorem Io{L:Nat→Prop}{acc:List Nat}{B:Edge→Bool}(hacc:∀i,L i→∀j,(acc.getD i 0).testBit j=true→L j):∀(es:List Edge) (m:Nat),(∀e,e∈es→B e=true→L e.on)→(∀j,m.testBit j=true→L j) →
  ∀j,(es.foldl (fun m e=>if B e then(m ||| 2 ^ e.on) ||| acc.getD e.on 0 else m) m).testBit j=true→L j:=by
 intro es
 induction es with
 | nil=>intro m _ hm j h;exact hm j h
 | cons e r ih =>
  intro m he hm j h
  simp only[List.foldl_cons] at h
  refine ih _ (fun e' h'=>he e' (by simp[h'])) (fun k hk=>?_) j h
  split at hk
  ·rename_i hb
   simp only[Nat.testBit_or,Bool.or_eq_true] at hk
   rcases hk with(hk|hk)|hk
   ·exact hm k hk
   ·rw[Nat.testBit_two_pow] at hk
    have:e.on=k:=by simpa using hk
    exact this ▸ he e (by simp) hb
   ·exact hacc e.on (he e (by simp) hb) k hk
  ·exact hm k hk
theorem oB{L:Nat→Prop}:∀(l pre:List Oper) (acc:List Nat),acc.length=pre.length→pR (pre++l).toArray L →
  (∀i,(L i∨∃o,(pre++l)[i]?=some o∧∀e,e∈o.after.toList→Region.binds .any e=true→L e.on)→∀j,(acc.getD i 0).testBit j=true→L j) →
  ∀i,(L i∨∃o,(pre++l)[i]?=some o∧∀e,e∈o.after.toList→Region.binds .any e=true→L e.on)→∀j,((nO l acc).getD i 0).testBit j=true→L j:=by
 intro l
 induction l with
 | nil=>intro pre acc _ _ h;exact h
 | cons o r ih =>
  intro pre acc hl hc h
  have e1:pre++o::r=(pre++[o])++r:=by simp
  (try simp only[nO])
  rw[e1] at hc h ⊢
  refine ih (pre++[o]) _ (by simp[hl]) hc (fun i hi j hj=>?_)
  rcases Nat.lt_trichotomy i acc.length with q|q|q
  ·refine h i hi j ?_
   simpa[List.getD,List.getElem?_append_left q] using hj
  ·have ho:((pre++[o])++r)[i]?=some o:=by
    rw[q,hl];simp
   have hpre:∀e,e∈o.after.toList→Region.binds .any e=true→L e.on:=by
    rcases hi with hi|⟨o',h1,h2⟩
    ·exact hc i o (by simpa using ho) hi
    ·rw[ho] at h1;cases h1;exact h2
   rw[q] at hj
   simp only[List.getD,List.getElem?_append_right (Nat.le_refl _),Nat.sub_self,List.getElem?_cons_zero,Option.getD_some] at hj
   exact Io (B:=Region.binds .any) (fun k hk=>h k (.inl hk)) o.after.toList 0 hpre (fun j hj=>by simp at hj) j hj
  ·have:(acc++[o.after.toList.foldl (fun m e=>if Region.binds .any e then(m ||| 2 ^ e.on) ||| acc.getD e.on 0 else m) 0])[i]?=none:=by
    rw[List.getElem?_eq_none];simp;omega
   rw[List.getD,this] at hj
   simp at hj
def left(listed:Array Bool)(n:Nat):List Nat:=(List.range n).filter fun i=>!listed.getD i true
theorem sW{listed:Array Bool}{n i:Nat}(hs:listed.size=n):left (listed.setIfInBounds i true) n=(left listed n).filter fun j=>j != i:=by
 unfold left
 rw[List.filter_filter]
 refine List.filter_congr fun j hj=>?_
 have hj:j<n:=by simpa using hj
 by_cases h:j=i
 ·subst h;simp[hs,hj]
 ·have:(i:Nat)≠j:=fun e=>h e.symm
  simp[h,Array.getElem?_setIfInBounds_ne this]
theorem n4{listed:Array Bool}{n i:Nat}(h:i∈left listed n):∃l1 l2,left listed n=l1++i::l2∧(∀j,j∈l1→j<i)∧(left listed n).filter (fun j=>j != i)=l1++l2:=by
 obtain⟨l1,l2,he⟩:=List.append_of_mem h
 have hp:(left listed n).Pairwise (·<·):=List.Pairwise.filter _ List.pairwise_lt_range
 rw[he] at hp
 obtain⟨h1,h2,h3⟩:=List.pairwise_append.1 hp
 have h4:=(List.pairwise_cons.1 h2).1
 refine⟨l1,l2,he,fun j hj=>h3 j hj i (by simp),?_⟩
 rw[he]
 (try simp only[List.filter_append,List.filter_cons,bne_self_eq_false,Bool.false_eq_true,if_false])
 congr 1
 ·exact List.filter_eq_self.2 fun j hj=>by have:=h3 j hj i (by simp);simp;omega
 ·exact List.filter_eq_self.2 fun j hj=>by have:=h4 j hj;simp;omega
def opsOf(ops:Array Oper)(is:List Nat):List Oper:=is.filterMap fun i=>ops[i]?
theorem mem_left{listed:Array Bool}{n i:Nat}:i∈left listed n↔i<n∧listed.getD i true=false:=by simp[left]
theorem Fs{X:RX}{loc:Nat→Nat→Prop}(hC:lL X loc C)(hchk:nD X ops=true){F:Fence}(hF:F=Fence.wide∨∃l0,F=Fence.wide.inRound l0∧∀o,o∈ops.toList→∀c,o.op≠.defer c){Q:MQ}{Φ0:Phi}{σ0:St}{w0:World}:∀(fuel:Nat) (listed:Array Bool) (f:FR) (σ:St) (Φ:Phi) (w:World) (a:Act),listed.size=ops.size→(left listed ops.size).length=fuel →
  pR ops (fun i=>listed.getD i false=true)→Inv Φ w σ→cF Φ a.tmps f→cR Φ w a.defers f.d→DOk X loc f→Step Φ0 σ0 w0 Φ σ w →
  gl P C ops (fun f' _ σ'=>∃f'',FEq f' f''∧Q .normal f'' σ') (opsOf ops (left listed ops.size)) f (fun l=>Φ.obj l≠none) σ→wpAnyIn F 0 P .any ops (lift Φ0 σ0 w0 Q) fuel listed a w:=by
 have hKok:KOk (fun f' (_:Nat→Prop) σ'=>∃f'',FEq f' f''∧Q .normal f'' σ'):=fun f f' U U' σ hf _ ⟨f'',h1,h2⟩=>⟨f'',hf.symm.trans h1,h2⟩
 have fin:∀(listed:Array Bool) (f:FR) (σ:St) (Φ:Phi) (w:World) (a:Act),left listed ops.size=[]→Inv Φ w σ→cF Φ a.tmps f→cR Φ w a.defers f.d→Step Φ0 σ0 w0 Φ σ w →
   gl P C ops (fun f' _ σ'=>∃f'',FEq f' f''∧Q .normal f'' σ') (opsOf ops (left listed ops.size)) f (fun l=>Φ.obj l≠none) σ→lift Φ0 σ0 w0 Q .normal a w:=by
  intro listed f σ Φ w a hl hi hr hd hs h
  rw[hl] at h
  obtain⟨f'',h1,h2⟩:=h
  exact⟨f'',σ,Φ,h1.2.1 ▸ hd,⟨hr.1.trans h1.1,fun t=>by rw[←h1.2.2 t];exact hr.2 t⟩,hi,hs,h2⟩
 have ready_left:∀(listed:Array Bool) i,i∈Region.ready .any ops listed→i∈left listed ops.size:=fun listed i hi=>by
  obtain⟨h0,o,ho,-⟩:=mem_ready.1 hi
  exact mem_left.2 ⟨(Array.getElem?_eq_some_iff.1 ho).1,h0⟩
 have chk1:∀i oi,ops[i]?=some oi→(∀e,e∈oi.after.toList→Region.binds .any e=true→e.on<i)∧∀j oj,j<i→ops[j]?=some oj→((nO ops.toList []).getD i 0).testBit j=true∨uN X ops oj oi=true:=by
  intro i oi hoi
  have hlt:=(Array.getElem?_eq_some_iff.1 hoi).1
  have h:=hchk
  simp only[nD,Bool.and_eq_true] at h
  replace h:=h.2
  simp only[List.all_eq_true,List.mem_range] at h
  have h1:=h i hlt
  rw[hoi] at h1
  simp only[Bool.and_eq_true,List.all_eq_true,Bool.or_eq_true,Bool.not_eq_true',decide_eq_true_eq,List.mem_range] at h1
  refine⟨fun e he hb=>?_,fun j oj hj hoj=>?_⟩
  ·rcases h1.1 e he with q|q
   ·rw[hb] at q;cases q
   ·exact q
  ·have:=h1.2 j hj
   rw[hoj] at this
   simpa using this
 intro fuel
 induction fuel with
 | zero =>
  intro listed f σ Φ w a hsz hl hc hi hr hd hD hs h
  have hnil:left listed ops.size=[]:=List.eq_nil_of_length_eq_zero hl
  refine⟨?_,fin listed f σ Φ w a hnil hi hr hd hs h⟩
  rw[List.eq_nil_iff_forall_not_mem]
  intro i hi
  have:=ready_left listed i hi
  rw[hnil] at this;cases this
 | succ fuel ih =>
  intro listed f σ Φ w a hsz hl hc hi hr hd hD hs h
  refine⟨fun hnone=>?_,fun i hrd=>?_⟩
  ·-- the first that is left is ready
   exfalso
   cases hleft:left listed ops.size with
   | nil=>rw[hleft] at hl;cases hl
   | cons i0 r =>
    have h0:i0∈left listed ops.size:=by rw[hleft];simp
    obtain⟨hlt,h0'⟩:=mem_left.1 h0
    have hoi:ops[i0]?=some ops[i0]:=Array.getElem?_eq_getElem hlt
    have:i0∈Region.ready .any ops listed:=mem_ready.2 ⟨h0',_,hoi,fun e he hb=>by
     have hlt':=(chk1 i0 _ hoi).1 e (by simpa using he) hb
     cases hq:listed.getD e.on false with
     | true=>rfl
     | false =>
      exfalso
      have hm:e.on∈left listed ops.size:=mem_left.2 ⟨by omega,by
       have hb2:e.on<listed.size:=by omega
       simpa[hb2] using hq⟩
      have hp:(left listed ops.size).Pairwise (·<·):=List.Pairwise.filter _ List.pairwise_lt_range
      rw[hleft] at hp hm
      have:=(List.pairwise_cons.1 hp).1
      rcases List.mem_cons.1 hm with q|q
      ·omega
      ·have:=this e.on q;omega⟩
    rw[hnone] at this;cases this
  ·have hmem:=ready_left listed i hrd
   obtain⟨l1,l2,he,hlt,hflt⟩:=n4 hmem
   obtain⟨h0,o,ho,hpre⟩:=mem_ready.1 hrd
   have hsw:∀x,x∈opsOf ops l1→uN X ops x o=true:=by
    intro x hx
    obtain⟨j,hj,hx⟩:=List.mem_filterMap.1 hx
    rcases (chk1 i o ho).2 j x (hlt j hj) hx with q|q
    ·exfalso
     have:=oB (L:=fun i=>listed.getD i false=true) ops.toList [] [] rfl (by simpa using hc) (fun i hi j hj=>by simp at hj) i (.inr ⟨o,by simpa using ho,fun e he hb=>hpre e (by simpa using he) hb⟩) j q
     have hjl:j∈left listed ops.size:=by rw[he];simp[hj]
     have hj2:=(mem_left.1 hjl)
     have hb2:j<listed.size:=by omega
     simp[hb2] at this hj2
     simp[this] at hj2
    ·exact q
   have e2:opsOf ops (left listed ops.size)=opsOf ops l1++o::opsOf ops l2:=by rw[he];simp[opsOf,List.filterMap_append,ho]
   rw[e2] at h
   have hdom:Dom (fun l=>Φ.obj l≠none) σ:=fun l hl q=>hl (hi.eD q)
   have hfin:Fin (fun l=>Φ.obj l≠none):=by
    obtain⟨n,hn⟩:=hi.fresh.1.1
    exact⟨n,fun l hl q=>q (hn l hl)⟩
   have hkall:∀(j:Nat) x,ops[j]?=some x→nZ X x=true:=fun j x hx=>by
    have h:=hchk
    simp only[nD,Bool.and_eq_true,List.all_eq_true] at h
    exact h.1 x (by rw[←Array.getElem?_toList] at hx;exact List.mem_of_getElem? hx)
   have hp:=C5 (pull hKok hC (opsOf ops l2) o (opsOf ops l1) f _ σ hdom hfin hD hsw (fun x hx=>by
    obtain⟨j,hj,hx⟩:=List.mem_filterMap.1 hx
    exact hkall j x hx) h)
   have e3:opsOf ops (left (listed.setIfInBounds i true) ops.size)=opsOf ops l1++opsOf ops l2:=by rw[sW hsz,hflt];simp[opsOf,List.filterMap_append]
   have hlen:(left (listed.setIfInBounds i true) ops.size).length=fuel:=by
    rw[sW hsz,hflt]
    rw[he] at hl
    simp at hl ⊢;omega
   have hcl:pR ops (fun k=>(listed.setIfInBounds i true).getD k false=true):=by
    intro k ok hk hlk e hek hb
    by_cases hki:k=i
    ·subst hki
     rw[ho] at hk;cases hk
     exact getD_set_true (hpre e (by simpa using hek) hb)
    ·have:listed.getD k false=true:=by rw[←hlk,getD_set_ne _ (Ne.symm hki)]
     exact getD_set_true (hc k ok hk this e hek hb)
   -- what comes then
   have next:∀v mv σ' Φ' w' ,Rel Φ' v mv→Inv Φ' w' σ'→Step Φ σ w Φ' σ' w' →
     (∃U':Nat→Prop,(∀l,U' l→Φ.obj l≠none∨σ' l≠none)∧GV (gfo P C ops f o) mv∧∀U1',(∀l,U' l→U1' l)→gl P C ops (fun f' _ σ'=>∃f'',FEq f' f''∧Q .normal f'' σ') (opsOf ops l1++opsOf ops l2) (bB f o.dst mv) U1' σ') →
     wpAnyIn F 0 P .any ops (lift Φ0 σ0 w0 Q) fuel (listed.setIfInBounds i true) (a.put o.dst v) w':=by
    rintro v mv σ' Φ' w' r1 i1 s1 ⟨U',hu,hgv,hk⟩
    refine ih _ (bB f o.dst mv) σ' Φ' w' (a.put o.dst v) (by simpa using hsz) hlen hcl i1 (cG (hr.mono s1.le) o.dst r1) (by rw[bM,dQ];exact hd.step hi s1) (hD.put (hkall i o ho) hgv) (hs.trans s1) ?_
    rw[e3]
    refine hk _ fun l hl=>?_
    rcases hu l hl with q|q
    ·intro hn
     cases hp:Φ.obj l with
     | none=>exact q hp
     | some p=>rw[s1.le.obj l p hp] at hn;cases hn
    ·intro hn;exact q (i1.eD hn)
   unfold wpOpIn
   rw[ho]
   simp only
   have hFo:F=Fence.wide∨∃l0,F=Fence.wide.inRound l0∧∀c,o.op≠.defer c:=hF.imp id fun⟨l0,e,q⟩=>⟨l0,e,q o (by rw[←Array.getElem?_toList] at ho;exact List.mem_of_getElem? ho)⟩
   have hfn:∀g,F.fn g:=fun g=>by rcases hF with rfl|⟨l,rfl,_⟩<;>trivial
   have run:gs (fun l=>Φ.obj l≠none) σ (gop P C f o.op) (fun v U1 σ1=>GV (gfo P C ops f o) v∧∀U1',(∀l,U1 l→U1' l)→gl P C ops (fun f' _ σ'=>∃f'',FEq f' f''∧Q .normal f'' σ') (opsOf ops l1++opsOf ops l2) (bB f o.dst v) U1' σ1) →
     o.wpIn F 0 P a w (wpAnyIn F 0 P .any ops (lift Φ0 σ0 w0 Q) fuel (listed.setIfInBounds i true)) (lift Φ0 σ0 w0 Q):=by
    intro hg
    refine fO hFo ?_
    refine kF (Me hg) Φ w a _ _ hi hr fun v mv σ' Φ' w' r1 i1 s1 hk=>next v mv σ' Φ' w' r1 i1 s1 (hk fun l h1 h2 q=>?_)
    rcases s1.locs l _ (Option.ne_none_iff_exists'.1 h1).choose_spec with⟨o',ho'⟩|ho'
    ·rw[h2] at ho';cases ho'
    ·exact q ho'
   obtain⟨G,hG⟩:∃G,GV (gfo P C ops f o)=G:=⟨_,rfl⟩
   rw[hG] at hp run next
   unfold gfo at hp
   split at hp
   ·rename_i hg
    have hw:Region.wanted o (yielded ops a.tmps)=true:=by unfold Region.wanted;rw[hg]
    rw[if_pos hw]
    exact run hp
   ·rename_i j want hg
    split at hp
    ·rename_i t ht
     split at hp
     ·rename_i b hb
      have hmg:∀{A B:Prop},(b=want→A)∧(b=(!want)→B)→(Region.wanted o (yielded ops a.tmps)=true∧A)∨(Region.wanted o (yielded ops a.tmps)=false∧B):=fun {A B} h =>
       cD (ops:=ops) (o:=o) (f:=f) (by unfold eO;rw[hg];(try simp only[ht,hb]);exact h) hr
      split at hp
      ·rename_i hbw
       rcases hmg (A:=True) (B:=False) ⟨fun _=>trivial,fun e=>by rw[hbw] at e;cases want<;>cases e⟩ with⟨hw,-⟩|⟨-,hw⟩
       ·rw[if_pos hw];exact run hp
       ·exact hw.elim
      ·rename_i hbw
       rcases hmg (A:=False) (B:=True) ⟨fun e=>hbw e,fun _=>trivial⟩ with⟨-,hw⟩|⟨hw,-⟩
       ·exact hw.elim
       ·rw[if_neg (by simp[hw])]
        obtain⟨-,U',hu,hgv,hk⟩:=lB hp
        exact⟨fun f _=>hfn f,next undef (.tup []) σ Φ w eR hi (.refl _ _ _) ⟨U',hu,hgv,hk⟩⟩
     ·rename_i hb
      rcases cD (ops:=ops) (o:=o) (f:=f) (yes:=False) (no:=True) (by unfold eO;rw[hg];simp only[ht,hb]) hr with⟨-,hw⟩|⟨hw,-⟩
      ·exact hw.elim
      ·rw[if_neg (by simp[hw])]
       obtain⟨-,U',hu,hgv,hk⟩:=lB hp
       exact⟨fun f _=>hfn f,next undef (.tup []) σ Φ w eR hi (.refl _ _ _) ⟨U',hu,hgv,hk⟩⟩
     ·exact(eK hp).elim
    ·exact(eK hp).elim
def cK(P:Program)(MC:FuncId→List MV→St→(MV→St→Prop)→Prop)(ops:Array Oper)(K:FR→St→Prop):List Oper→FR→St→Prop
 | [],f,σ=>K f σ
 | o::rest,f,σ=>eO ops f o (vE P MC f σ (fun v σ'=>cK P MC ops K rest (bB f o.dst v) σ') o.op) (cK P MC ops K rest (bB f o.dst (.tup [])) σ)
abbrev l9(P:Program)(C:b9):=cK P (qC P C)
theorem Mb{MC:FuncId→List MV→St→(MV→St→Prop)→Prop}(hMC:∀U σ,Dom U σ→∀g ms k,MC g ms σ k→gs U σ (fP P C g ms) fun v _ σ'=>k v σ'){u:fR}(hu:PlU u C){K:FR→St→Prop}:∀(l:List Oper) (f:FR) (U:Nat→Prop) (σ:St),Dom U σ→Fin U→cK P MC ops K l f σ→gl P C ops (fun f' _ σ'=>∃f'',FEq f' f''∧K f'' σ') l f U σ:=by
 intro l
 induction l with
 | nil=>intro f U σ _ _ h;exact⟨f,.refl f,h⟩
 | cons o r ih =>
  intro f U σ hd hf h
  simp only[cK] at h
  (try simp only[gl])
  have run:vE P MC f σ (fun v σ'=>cK P MC ops K r (bB f o.dst v) σ') o.op→gs U σ (gop P C f o.op) fun v U' σ'=>gl P C ops (fun f' _ σ'=>∃f'',FEq f' f''∧K f'' σ') r (bB f o.dst v) U' σ':=fun h =>
   rV (MB (hMC U σ hd) hd h) hd hf (fun v U' σ' hd' hf' _ hh=>ih _ U' σ' hd' hf' hh) (Eu P C hu f o.op).1
  unfold eO at h
  unfold gfo
  split at h
  ·rename_i hg;(try simp only[hg]);exact run h
  ·rename_i j want hg
   (try simp only[hg])
   split at h
   ·rename_i t ht
    (try simp only[ht])
    split at h
    ·rename_i b hb
     (try simp only[hb])
     split
     ·rename_i hbw;exact run (h.1 hbw)
     ·rename_i hbw
      have hb':b=!want:=by cases b<;>cases want<;>simp at hbw ⊢
      refine p9 (rV (kX (U:=U) (pv:=some (True,.tup [])) (k:=fun v σ'=>v=.tup []∧σ'=σ) ⟨trivial,rfl,rfl⟩) hd hf (k':=fun v U' σ'=>v=.tup []∧σ'=σ∧Dom U' σ'∧Fin U') (fun v U' σ' h1 h2 _ h3=>⟨h3.1,h3.2,h1,h2⟩) (cL _).1) ?_
      rintro v U' σ' ⟨rfl,rfl,h1,h2⟩
      exact ih _ U' _ h1 h2 (h.2 hb')
    ·rename_i hb
     (try simp only[hb])
     refine p9 (rV (kX (U:=U) (pv:=some (True,.tup [])) (k:=fun v σ'=>v=.tup []∧σ'=σ) ⟨trivial,rfl,rfl⟩) hd hf (k':=fun v U' σ'=>v=.tup []∧σ'=σ∧Dom U' σ'∧Fin U') (fun v U' σ' h1 h2 _ h3=>⟨h3.1,h3.2,h1,h2⟩) (cL _).1) ?_
     rintro v U' σ' ⟨rfl,rfl,h1,h2⟩
     exact ih _ U' _ h1 h2 h
    ·exact h.elim
   ·exact h.elim
theorem xM(hm:P.follows .mixedOrders=true){X:RX}{loc:Nat→Nat→Prop}(hC:lL X loc C)(hchk:nD X ops=true){MC:FuncId→List MV→St→(MV→St→Prop)→Prop}(hMC:∀U σ,Dom U σ→∀g ms k,MC g ms σ k→gs U σ (fP P C g ms) fun v _ σ'=>k v σ'){id:Nat}{f:FR}{σ:St}{Q:MQ}(hD:DOk X loc f)(h:cK P MC ops (Q .normal) ops.toList f σ):mwp P (.region id ops true) f σ Q:=by
 intro F hF Φ w a hi hr hd
 have hi':Inv Φ { w with drawn:=w.drawn+1 } σ:=⟨fun l o hl=>by
  have:=hi.own l o hl
  cases o<;>exact this,hi.inj,hi.snap,hi.apart,hi.fresh⟩
 have hst:Step Φ σ w Φ σ { w with drawn:=w.drawn+1 }:=⟨.refl Φ,rfl,rfl,rfl,iM (Nat.le_succ _),Nat.le_refl _,fun _ _ _=>rfl,fun _ _ h=>.inl h,fun l o h=>.inl ⟨o,h⟩,fun _ h=>.inl h⟩
 have hall:left (Array.replicate ops.size false) ops.size=List.range ops.size:=by
  unfold left
  refine List.filter_eq_self.2 fun j hj=>?_
  have hj:j<ops.size:=by simpa using hj
  simp[hj]
 have hops:opsOf ops (List.range ops.size)=ops.toList:=by
  unfold opsOf
  apply List.ext_getElem?
  intro i
  have:∀(l:List Oper),(List.range l.length).filterMap (fun i=>l[i]?)=l:=by
   intro l
   induction l with
   | nil=>rfl
   | cons a r ih =>
    rw[List.length_cons,List.range_succ_eq_map,List.filterMap_cons]
    (try simp only[List.getElem?_cons_zero,List.filterMap_map])
    congr 1
  have:=this ops.toList
  simp only[Array.length_toList,Array.getElem?_toList] at this
  rw[this]
 refine wpIn_region_any hm (Fs (C:=C) hC hchk hF.ops ops.size _ f σ Φ _ a (by simp) (by rw[hall];simp) ?_ hi' hr (hd.step hi hst) hD hst ?_)
 ·intro i o ho hl
  simp only[Array.getD_eq_getD_getElem?,Array.getElem?_replicate] at hl
  split at hl<;>simp at hl
 ·rw[hall,hops]
  refine Mb hMC hC.u ops.toList f _ σ (fun l hl q=>hl (hi.eD q)) ?_ h
  obtain⟨n,hn⟩:=hi.fresh.1.1
  exact⟨n,fun l hl q=>q (hn l hl)⟩
theorem G6(hm:P.follows .mixedOrders=true){Ds:List Nat}{loc:Nat→Nat→Prop}(hchk:nD ⟨Ds,[],none,.no⟩ ops=true)(C:b9){id:Nat}{f:FR}{σ:St}{Q:MQ}(hD:DOk ⟨Ds,[],none,.no⟩ loc f)(h:l9 P C ops (Q .normal) ops.toList f σ):mwp P (.region id ops true) f σ Q :=
 xM (C:=C.pl) (X:=⟨Ds,[],none,.no⟩) (loc:=loc) hm (show lL ⟨Ds,[],none,.no⟩ loc C.pl from⟨C.Mf.u,trivial⟩) hchk (fun _ _ hd _ _ _ h=>EW hd h) hD h
theorem BC(hm:P.follows .mixedOrders=true)(hchk:chk ops=true)(C:b9){id:Nat}{f:FR}{σ:St}{Q:MQ}(h:l9 P C ops (Q .normal) ops.toList f σ):mwp P (.region id ops true) f σ Q :=
 G6 (loc:=fun _ _=>True) hm hchk C ⟨fun t ht=>(by cases ht),fun t t' ht=>(by cases ht),fun p hp=>(by cases hp)⟩ h
theorem G8(hm:P.follows .mixedOrders=true){X:RX}{loc:Nat→Nat→Prop}(C:b9)(hC:lL X loc C)(hchk:nD X ops=true){id:Nat}{f:FR}{σ:St}{Q:MQ}(hD:DOk X loc f)(h:cK P (eA P C) ops (Q .normal) ops.toList f σ):mwp P (.region id ops true) f σ Q :=
 xM hm hC hchk (fun _ _ hd _ _ _ h=>AO hd h) hD h
theorem G7(hm:P.follows .mixedOrders=true)(L:List FuncId)(C:b9)(hC:PlU (.these L) C)(hchk:nD ⟨[],[],none,.these L⟩ ops=true){id:Nat}{f:FR}{σ:St}{Q:MQ}(h:cK P (eA P C) ops (Q .normal) ops.toList f σ):mwp P (.region id ops true) f σ Q :=
 G8 (X:=⟨[],[],none,.these L⟩) (loc:=fun _ _=>True) hm C ⟨hC,trivial⟩ hchk ⟨fun t ht=>(by cases ht),fun t t' ht=>(by cases ht),fun p hp=>(by cases hp)⟩ h
end
end

section
def lA:Op→Bool
 | .call ⟨.value _,_,_⟩|.defer _=>false
 | _=>true
section
variable {P:Program} {C:b9} {MC:FuncId→List MV→St→(MV→St→Prop)→Prop} {f:FR} {σ:St} {Q:MQ} {k:MV→St→Prop} {K:FR→St→Prop} {ops:Array Oper} {rest:List Oper}
theorem DM{op:Op}(h:lA op=true):vE P MC f σ k op=mop P f σ k op:=by
 cases op<;>first|rfl|(simp[lA] at h;done)|skip
 rename_i c
 obtain⟨callee,args,ts⟩:=c
 cases callee<;>first|rfl|(simp[lA] at h;done)
theorem Be{id:Nat}{l:List Oper}(hm:P.follows .mixedOrders=true)(hchk:(chk l.toArray&&l.all fun o=>lA o.op)=true)(h:R (l9 P (fun _ _=>none) (@OfNat.ofNat (Array Oper) (nat_lit 0) (@_root_.id (OfNat (Array Oper) (nat_lit 0)) (OfNat.mk (l.toArray)))) (Q .normal) (@OfNat.ofNat (List Oper) (nat_lit 0) (@_root_.id (OfNat (List Oper) (nat_lit 0)) (OfNat.mk l))) f σ)):R (qZ P id (@OfNat.ofNat (List Oper) (nat_lit 0) (@_root_.id (OfNat (List Oper) (nat_lit 0)) (OfNat.mk l))) f σ Q):=by
 simp only[Bool.and_eq_true] at hchk
 exact BC hm hchk.1 (fun _ _=>none) h
theorem aZ{id:Nat}{l:List Oper}(hm:P.follows .mixedOrders=true)(hchk:chk l.toArray=true)(C:b9)(h:R (l9 P C (@OfNat.ofNat (Array Oper) (nat_lit 0) (@_root_.id (OfNat (Array Oper) (nat_lit 0)) (OfNat.mk (l.toArray)))) (Q .normal) (@OfNat.ofNat (List Oper) (nat_lit 0) (@_root_.id (OfNat (List Oper) (nat_lit 0)) (OfNat.mk l))) f σ)):R (qZ P id (@OfNat.ofNat (List Oper) (nat_lit 0) (@_root_.id (OfNat (List Oper) (nat_lit 0)) (OfNat.mk l))) f σ Q) :=
 BC hm hchk C h
def A6(ds:List (Nat × Nat))(t:Nat):Nat:=((ds.find? fun p=>p.1==t).map (·.2)).getD 0
theorem rY:∀{ds:List (Nat × Nat)},(ds.map (·.1)).Pairwise (·≠·)→∀p,p∈ds→A6 ds p.1=p.2
 | [],_,p,hp=>by cases hp
 | q::r,h3,p,hp=>by
  simp only[List.map_cons] at h3
  obtain⟨b1,b2⟩:=List.pairwise_cons.1 h3
  rcases List.mem_cons.1 hp with rfl|hp'
  ·simp[A6]
  ·have:(q.1==p.1)=false:=by simpa using b1 p.1 (List.mem_map.2 ⟨p,hp',rfl⟩)
   unfold A6
   rw[List.find?_cons,this]
   exact rY b2 p hp'
theorem IM{ds:List (Nat × Nat)}{f:FR}(h1:∀p,p∈ds→∃i o,f.get p.1=.ptr p.2 i o)(h3:(ds.map (·.1)).Pairwise (·≠·)):∀t,t∈ds.map (·.1)→∃i o,f.get t=.ptr (A6 ds t) i o:=fun t ht=>by
 obtain⟨p,hp,rfl⟩:=List.mem_map.1 ht
 rw[rY h3 p hp]
 exact h1 p hp
theorem K5{ds:List (Nat × Nat)}(h2:(ds.map (·.2)).Pairwise (·≠·))(h3:(ds.map (·.1)).Pairwise (·≠·)):∀t t',t∈ds.map (·.1)→t'∈ds.map (·.1)→t≠t'→A6 ds t≠A6 ds t':=fun t t' ht ht' hne=>by
 obtain⟨p,hp,rfl⟩:=List.mem_map.1 ht
 obtain⟨q,hq,rfl⟩:=List.mem_map.1 ht'
 rw[rY h3 p hp,rY h3 q hq]
 intro e
 obtain⟨i,hi,e1⟩:=List.mem_iff_getElem.1 hp
 obtain⟨j,hj,e2⟩:=List.mem_iff_getElem.1 hq
 have hij:i≠j:=fun e=>by subst e;exact hne (by rw[←e1,←e2])
 rw[List.pairwise_iff_getElem] at h2
 rcases Nat.lt_or_gt_of_ne hij with hlt|hgt
 ·have:=h2 i j (by simpa using hi) (by simpa using hj) hlt
  simp only[List.getElem_map,e1,e2] at this
  exact this e
 ·have:=h2 j i (by simpa using hj) (by simpa using hi) hgt
  simp only[List.getElem_map,e1,e2] at this
  exact this e.symm
theorem DOk.of{ds:List (Nat × Nat)}{Rs:List (Nat × Nat)}{dr:Option Nat}{tu:fR}{f:FR}(h1:∀p,p∈ds→∃i o,f.get p.1=.ptr p.2 i o)(h2:(ds.map (·.2)).Pairwise (·≠·))(h3:(ds.map (·.1)).Pairwise (·≠·))(h4:∀p,p∈Rs→p.2∈ds.map (·.1)∧∀l i o,f.get p.1=.ptr l i o→l=A6 ds p.2):DOk ⟨ds.map (·.1),Rs,dr,tu⟩ (fun t l=>l=A6 ds t) f :=
 ⟨fun t ht=>by obtain⟨i,o,e⟩:=IM h1 h3 t ht;exact⟨_,i,o,e,rfl⟩,fun t t' ht ht' hne l e1 e2=>K5 h2 h3 t t' ht ht' hne (e1.symm.trans e2),h4⟩
theorem Bf{id:Nat}{l:List Oper}(hm:P.follows .mixedOrders=true)(L:List FuncId)(hchk:nD ⟨[],[],none,.these L⟩ l.toArray=true)(C:b9)(hC:PlU (.these L) C)
 (h:R (cK P (eA P C) (@OfNat.ofNat (Array Oper) (nat_lit 0) (@_root_.id (OfNat (Array Oper) (nat_lit 0)) (OfNat.mk (l.toArray)))) (Q .normal) (@OfNat.ofNat (List Oper) (nat_lit 0) (@_root_.id (OfNat (List Oper) (nat_lit 0)) (OfNat.mk l))) f σ)):R (qZ P id (@OfNat.ofNat (List Oper) (nat_lit 0) (@_root_.id (OfNat (List Oper) (nat_lit 0)) (OfNat.mk l))) f σ Q) :=
 G7 hm L C hC hchk h
theorem GY:R (cK P MC ops K [] f σ)=R (K f σ):=rfl
theorem DP{dst:Option Tmp}{op:Op}{ty:TypeId}{pos:String}{after:Array Edge}:R (cK P MC ops K (⟨dst,op,ty,pos,after,none⟩::rest) f σ)=R (vE P MC f σ (fun v σ'=>cK P MC ops K (@OfNat.ofNat (List Oper) (nat_lit 0) (@_root_.id (OfNat (List Oper) (nat_lit 0)) (OfNat.mk rest))) (bB f dst v) σ') op):=congrArg R rfl
theorem DQ{l:List Oper}:R (cK P MC ops K (@OfNat.ofNat (List Oper) (nat_lit 0) (@_root_.id (OfNat (List Oper) (nat_lit 0)) (OfNat.mk l))) f σ)=R (cK P MC ops K l f σ):=congrArg R rfl
theorem Bv{l:List Oper}{dst:Option Tmp}{op:Op}{ty:TypeId}{pos:String}{after:Array Edge}{j:Nat}{want:Bool}:R (cK P MC (@OfNat.ofNat (Array Oper) (nat_lit 0) (@_root_.id (OfNat (Array Oper) (nat_lit 0)) (OfNat.mk (l.toArray)))) K (⟨dst,op,ty,pos,after,some (j,want)⟩::rest) f σ)=R (bP (E (C7 f (kU (@OfNat.ofNat (List Oper) (nat_lit 0) (@_root_.id (OfNat (List Oper) (nat_lit 0)) (OfNat.mk l))) j))) want (vE P MC f σ (fun v σ'=>cK P MC (@OfNat.ofNat (Array Oper) (nat_lit 0) (@_root_.id (OfNat (Array Oper) (nat_lit 0)) (OfNat.mk (l.toArray)))) K (@OfNat.ofNat (List Oper) (nat_lit 0) (@_root_.id (OfNat (List Oper) (nat_lit 0)) (OfNat.mk rest))) (bB f dst v) σ') op) (cK P MC (@OfNat.ofNat (Array Oper) (nat_lit 0) (@_root_.id (OfNat (Array Oper) (nat_lit 0)) (OfNat.mk (l.toArray)))) K (@OfNat.ofNat (List Oper) (nat_lit 0) (@_root_.id (OfNat (List Oper) (nat_lit 0)) (OfNat.mk rest))) (bB f dst (.tup [])) σ)):=congrArg R (by
 show cK P MC l.toArray K (⟨dst,op,ty,pos,after,some (j,want)⟩::rest) f σ=bP (C7 f (kU l j)) want (vE P MC f σ (fun v σ'=>cK P MC l.toArray K rest (bB f dst v) σ') op) (cK P MC l.toArray K rest (bB f dst (.tup [])) σ)
 simp only[cK,eO,yN]
 cases kU l j<;>rfl)
theorem Ln{op:Op}(h:lA op=true):R (vE P MC f σ k op)=R (mop P f σ k op):=by rw[DM h]
def E2(MC:FuncId→List MV→St→(MV→St→Prop)→Prop)(x:MV)(args:List MV)(σ:St)(k:MV→St→Prop):Prop:=match x with
 | .fn (.func g) ms ns=>MC g (ms++args++ns) σ k
 | _=>False
theorem GO{x:Operand}{args:Array Operand}{ts:Array TypeId}:R (vE P MC f σ k (.call ⟨.value x,args,ts⟩))=R (E2 MC (E (aE f x)) (E (args.toList.map (aE f))) σ k):=congrArg R rfl
theorem Dp{g:FuncId}{ms ns args:List MV}:R (E2 MC (.fn (.func g) ms ns) args σ k)=R (MC g (E (ms++args++ns)) σ k):=congrArg R rfl
theorem aW{g:FuncId}{ms:List MV}{r:MV}(hC:C g ms=some ⟨[],fun v=>v=r,none⟩)(h:aA P g ms St.none fun v _=>v=r)(hk:R (bR r σ k)):R (qC P C g ms σ k) :=
 .inl ⟨[],_,[],hC,rfl,h.GN,⟨r,rfl⟩,fun v hv=>hv ▸ hk⟩
theorem KV{g:FuncId}{ms:List MV}(rd:List Nat)(os:List aV){q:MV→Prop}(hC:C g ms=some ⟨rd,q,none⟩)(hos:rd.map σ=os.map some)(h:aA P g ms (St.ofList rd os) fun v σ'=>q v∧σ'=St.ofList rd os)(hq:∃v,q v)(hk:∀v,q v→R (bR v σ k)):R (qC P C g ms σ k) :=
 .inl ⟨rd,q,os,hC,hos,h,hq,hk⟩
theorem ofList_nil(ls:List Nat):St.ofList ls []=St.none:=by cases ls<;>rfl
theorem qX{g:FuncId}{ms:List MV}{l:Nat}{rd:List Nat}{q:MV→Prop}{os ts:List aV}{r:MV}(hC:C g ms=some ⟨l::rd,q,some (ts,fun _=>r)⟩)(hos:(l::rd).map σ=os.map some)
 (h:aA P g ms (St.ofList (l::rd) os) fun v σ'=>v=r∧σ'=(St.ofList (l::rd) ts).over (St.ofList (l::rd) os))(hk:R (bR r ((St.ofList (l::rd) ts).over σ) k)):R (eA P C g ms σ k) :=
 .inr (.inr ⟨l,rd,q,ts,os,fun _=>r,hC,hos,h,hk⟩)
theorem De{g:FuncId}{ms:List MV}{l:Nat}{rd:List Nat}{q:MV→Prop}{o':aV}{os:List aV}{r:MV}(hC:C g ms=some ⟨l::rd,q,some ([o'],fun _=>r)⟩)(hos:(l::rd).map σ=os.map some)
 (h:aA P g ms (St.ofList (l::rd) os) fun v σ'=>v=r∧σ'=(St.ofList (l::rd) os).set l o')(hk:R (bR r (σ.set l o') k)):R (eA P C g ms σ k) :=
 qX hC hos (by simp only[St.ofList,ofList_nil,bU,dS];exact h) (by simp only[St.ofList,ofList_nil,bU,dS];exact hk)
theorem AW{g:FuncId}{ms:List MV}{l m:Nat}{rd:List Nat}{q:MV→Prop}{o' p':aV}{os:List aV}{r:MV}(hC:C g ms=some ⟨l::m::rd,q,some ([o',p'],fun _=>r)⟩)(hos:(l::m::rd).map σ=os.map some)
 (h:aA P g ms (St.ofList (l::m::rd) os) fun v σ'=>v=r∧σ'=((St.ofList (l::m::rd) os).set m p').set l o')(hk:R (bR r ((σ.set m p').set l o') k)):R (eA P C g ms σ k) :=
 qX hC hos (by simp only[St.ofList,ofList_nil,bU,dS];exact h) (by simp only[St.ofList,ofList_nil,bU,dS];exact hk)
theorem xC{g:FuncId}{ms:List MV}{l:Nat}{q:MV→Prop}{o o':aV}{r:MV}(hC:C g ms=some ⟨[l],q,some ([o'],fun _=>r)⟩)(ho:σ l=some o)(h:aA P g ms (St.none.set l o) fun v σ'=>v=r∧σ'=St.none.set l o')(hk:R (bR r (σ.set l o') k)):R (eA P C g ms σ k) :=
 De (os:=[o]) hC (by simp[ho]) (h.mono (by
  rintro v σ' ⟨h1,rfl⟩
  refine⟨h1,funext fun j=>?_⟩
  by_cases hj:j=l<;>simp[St.ofList,St.set,hj])) hk
theorem AV{g:FuncId}{ms:List MV}(rd:List Nat)(os:List aV){r:MV}(hC:C g ms=some ⟨rd,fun v=>v=r,none⟩)(hos:rd.map σ=os.map some)(h:aA P g ms (St.ofList rd os) fun v σ'=>v=r∧σ'=St.ofList rd os)(hk:R (bR r σ k)):R (eA P C g ms σ k) :=
 .inl ⟨rd,_,os,hC,hos,h,⟨r,rfl⟩,fun v hv=>hv ▸ hk⟩
end
attribute [go_sem ↓] DQ GY DP Bv GO Ln
attribute [go_sem] Dp
end
end Go.Proofs.YtaojijkdamfbnaaGreatDoor
