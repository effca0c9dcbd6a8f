/- Parts of the proof; conditions: as its theorems name them. -/
import Derived.Test.YtppdgejjmhdjhaaGreatDoorMab
import Derived.Test.YtppdgejjmhdjhaaGreatDoorRows
import Derived.KernelRfl
set_option linter.unusedVariables false
set_option linter.unusedSimpArgs false
set_option maxHeartbeats 8000000
set_option maxRecDepth 100000
namespace Go.Proofs.YtppdgejjmhdjhaaGreatDoor
section
def rR:List Oper→List Nat→List Nat
 | [],acc=>acc
 | o::r,acc=>rR r (acc++[o.after.toList.foldl (fun m e=>if Region.binds .any e then(m ||| 2 ^ e.on) ||| acc.getD e.on 0 else m) 0])
def r4(X:RX)(ops:Array Oper):Bool :=
 let ms:=rR ops.toList []
 (ops.toList.all (vP X))&&(List.range ops.size).all fun i=>match ops[i]? with
  | none=>true
  | some oi=>(oi.after.toList.all fun e=>!Region.binds .any e || decide (e.on<i)) &&
   ((List.range i).all fun j=>match ops[j]? with
    | none=>true
    | some oj=>(ms.getD i 0).testBit j || yB X ops oj oi)
def chk(ops:Array Oper):Bool:=r4 ⟨[],[],none,.no,[]⟩ ops
section
variable {P:Program} {C:cD} {ops:Array Oper}
def uZ(ops:Array Oper)(L:Nat→Prop):Prop:=∀i o,ops[i]?=some o→L i→∀e,e∈o.after.toList→Region.binds .any e=true→L e.on
theorem Pv{L:Nat→Prop}{acc:List Nat}{B:Edge→Bool}(hacc:∀i,L i→∀j,(acc.getD i 0).testBit j=true→L j):∀(es:List Edge) (m:Nat),(∀e,e∈es→B e=true→L e.on)→(∀j,m.testBit j=true→L j) →
  ∀j,(es.foldl (fun m e=>if B e then(m ||| 2 ^ e.on) ||| acc.getD e.on 0 else m) m).testBit j=true→L j:=by
 intro es
 induction es with
 | nil=>intro m _ hm j h;exact hm j h
 | cons e r ih =>
  intro m he hm j h
  simp only[List.foldl_cons] at h
  refine ih _ (fun e' h'=>he e' (by simp[h'])) (fun k hk=>?_) j h
  split at hk
  ·rename_i hb
   simp only[Nat.testBit_or,Bool.or_eq_true] at hk
   rcases hk with(hk|hk)|hk
   ·exact hm k hk
   ·rw[Nat.testBit_two_pow] at hk
    have:e.on=k:=by simpa using hk
    exact this ▸ he e (by simp) hb
   ·exact hacc e.on (he e (by simp) hb) k hk
  ·exact hm k hk
theorem sH{L:Nat→Prop}:∀(l pre:List Oper) (acc:List Nat),acc.length=pre.length→uZ (pre++l).toArray L →
  (∀i,(L i∨∃o,(pre++l)[i]?=some o∧∀e,e∈o.after.toList→Region.binds .any e=true→L e.on)→∀j,(acc.getD i 0).testBit j=true→L j) →
  ∀i,(L i∨∃o,(pre++l)[i]?=some o∧∀e,e∈o.after.toList→Region.binds .any e=true→L e.on)→∀j,((rR l acc).getD i 0).testBit j=true→L j:=by
 intro l
 induction l with
 | nil=>intro pre acc _ _ h;exact h
 | cons o r ih =>
  intro pre acc hl hc h
  have e1:pre++o::r=(pre++[o])++r:=by simp
  (try simp only[rR])
  rw[e1] at hc h ⊢
  refine ih (pre++[o]) _ (by simp[hl]) hc (fun i hi j hj=>?_)
  rcases Nat.lt_trichotomy i acc.length with q|q|q
  ·refine h i hi j ?_
   simpa[List.getD,List.getElem?_append_left q] using hj
  ·have ho:((pre++[o])++r)[i]?=some o:=by
    rw[q,hl];simp
   have hpre:∀e,e∈o.after.toList→Region.binds .any e=true→L e.on:=by
    rcases hi with hi|⟨o',h1,h2⟩
    ·exact hc i o (by simpa using ho) hi
    ·rw[ho] at h1;cases h1;exact h2
   rw[q] at hj
   simp only[List.getD,List.getElem?_append_right (Nat.le_refl _),Nat.sub_self,List.getElem?_cons_zero,Option.getD_some] at hj
   exact Pv (B:=Region.binds .any) (fun k hk=>h k (.inl hk)) o.after.toList 0 hpre (fun j hj=>by simp at hj) j hj
  ·have:(acc++[o.after.toList.foldl (fun m e=>if Region.binds .any e then(m ||| 2 ^ e.on) ||| acc.getD e.on 0 else m) 0])[i]?=none:=by
    rw[List.getElem?_eq_none];simp;omega
   rw[List.getD,this] at hj
   simp at hj
def left(listed:Array Bool)(n:Nat):List Nat:=(List.range n).filter fun i=>!listed.getD i true
theorem Ac{listed:Array Bool}{n i:Nat}(hs:listed.size=n):left (listed.setIfInBounds i true) n=(left listed n).filter fun j=>j != i:=by
 unfold left
 rw[List.filter_filter]
 refine List.filter_congr fun j hj=>?_
 have hj:j<n:=by simpa using hj
 by_cases h:j=i
 ·subst h;simp[hs,hj]
 ·have:(i:Nat)≠j:=fun e=>h e.symm
  simp[h,Array.getElem?_setIfInBounds_ne this]
theorem sE{listed:Array Bool}{n i:Nat}(h:i∈left listed n):∃l1 l2,left listed n=l1++i::l2∧(∀j,j∈l1→j<i)∧(left listed n).filter (fun j=>j != i)=l1++l2:=by
 obtain⟨l1,l2,he⟩:=List.append_of_mem h
 have hp:(left listed n).Pairwise (·<·):=List.Pairwise.filter _ List.pairwise_lt_range
 rw[he] at hp
 obtain⟨h1,h2,h3⟩:=List.pairwise_append.1 hp
 have h4:=(List.pairwise_cons.1 h2).1
 refine⟨l1,l2,he,fun j hj=>h3 j hj i (by simp),?_⟩
 rw[he]
 (try simp only[List.filter_append,List.filter_cons,bne_self_eq_false,Bool.false_eq_true,if_false])
 congr 1
 ·exact List.filter_eq_self.2 fun j hj=>by have:=h3 j hj i (by simp);simp;omega
 ·exact List.filter_eq_self.2 fun j hj=>by have:=h4 j hj;simp;omega
def opsOf(ops:Array Oper)(is:List Nat):List Oper:=is.filterMap fun i=>ops[i]?
theorem mem_left{listed:Array Bool}{n i:Nat}:i∈left listed n↔i<n∧listed.getD i true=false:=by simp[left]
theorem L3{X:RX}{loc:Nat→Nat→Prop}(hC:oV X loc C)(hchk:r4 X ops=true){F:Fence}(hF:F=Fence.wide∨∃l0,F=Fence.wide.inRound l0∧∀o,o∈ops.toList→∀c,o.op≠.defer c){Q:MQ}{Φ0:Phi}{σ0:St}{w0:World}:∀(fuel:Nat) (listed:Array Bool) (f:FR) (σ:St) (Φ:Phi) (w:World) (a:Act),listed.size=ops.size→(left listed ops.size).length=fuel →
  uZ ops (fun i=>listed.getD i false=true)→Inv Φ w σ→dD Φ a.tmps f→eC Φ w a.defers f.d→DOk P X loc f→Step Φ0 σ0 w0 Φ σ w →
  gl P C ops (fun f' _ σ'=>∃f'',FEq f' f''∧Q .normal f'' σ') (opsOf ops (left listed ops.size)) f (fun l=>Φ.obj l≠none) σ→wpAnyIn F 0 P .any ops (lift Φ0 σ0 w0 Q) fuel listed a w:=by
 have hKok:KOk (fun f' (_:Nat→Prop) σ'=>∃f'',FEq f' f''∧Q .normal f'' σ'):=fun f f' U U' σ hf _ ⟨f'',h1,h2⟩=>⟨f'',hf.symm.trans h1,h2⟩
 have fin:∀(listed:Array Bool) (f:FR) (σ:St) (Φ:Phi) (w:World) (a:Act),left listed ops.size=[]→Inv Φ w σ→dD Φ a.tmps f→eC Φ w a.defers f.d→Step Φ0 σ0 w0 Φ σ w →
   gl P C ops (fun f' _ σ'=>∃f'',FEq f' f''∧Q .normal f'' σ') (opsOf ops (left listed ops.size)) f (fun l=>Φ.obj l≠none) σ→lift Φ0 σ0 w0 Q .normal a w:=by
  intro listed f σ Φ w a hl hi hr hd hs h
  rw[hl] at h
  obtain⟨f'',h1,h2⟩:=h
  exact⟨f'',σ,Φ,h1.2.1 ▸ hd,⟨hr.1.trans h1.1,fun t=>by rw[←h1.2.2 t];exact hr.2 t⟩,hi,hs,h2⟩
 have ready_left:∀(listed:Array Bool) i,i∈Region.ready .any ops listed→i∈left listed ops.size:=fun listed i hi=>by
  obtain⟨h0,o,ho,-⟩:=mem_ready.1 hi
  exact mem_left.2 ⟨(Array.getElem?_eq_some_iff.1 ho).1,h0⟩
 have chk1:∀i oi,ops[i]?=some oi→(∀e,e∈oi.after.toList→Region.binds .any e=true→e.on<i)∧∀j oj,j<i→ops[j]?=some oj→((rR ops.toList []).getD i 0).testBit j=true∨yB X ops oj oi=true:=by
  intro i oi hoi
  have hlt:=(Array.getElem?_eq_some_iff.1 hoi).1
  have h:=hchk
  simp only[r4,Bool.and_eq_true] at h
  replace h:=h.2
  simp only[List.all_eq_true,List.mem_range] at h
  have h1:=h i hlt
  rw[hoi] at h1
  simp only[Bool.and_eq_true,List.all_eq_true,Bool.or_eq_true,Bool.not_eq_true',decide_eq_true_eq,List.mem_range] at h1
  refine⟨fun e he hb=>?_,fun j oj hj hoj=>?_⟩
  ·rcases h1.1 e he with q|q
   ·rw[hb] at q;cases q
   ·exact q
  ·have:=h1.2 j hj
   rw[hoj] at this
   simpa using this
 intro fuel
 induction fuel with
 | zero =>
  intro listed f σ Φ w a hsz hl hc hi hr hd hD hs h
  have hnil:left listed ops.size=[]:=List.eq_nil_of_length_eq_zero hl
  refine⟨?_,fin listed f σ Φ w a hnil hi hr hd hs h⟩
  rw[List.eq_nil_iff_forall_not_mem]
  intro i hi
  have:=ready_left listed i hi
  rw[hnil] at this;cases this
 | succ fuel ih =>
  intro listed f σ Φ w a hsz hl hc hi hr hd hD hs h
  refine⟨fun hnone=>?_,fun i hrd=>?_⟩
  ·-- the first that is left is ready
   exfalso
   cases hleft:left listed ops.size with
   | nil=>rw[hleft] at hl;cases hl
   | cons i0 r =>
    have h0:i0∈left listed ops.size:=by rw[hleft];simp
    obtain⟨hlt,h0'⟩:=mem_left.1 h0
    have hoi:ops[i0]?=some ops[i0]:=Array.getElem?_eq_getElem hlt
    have:i0∈Region.ready .any ops listed:=mem_ready.2 ⟨h0',_,hoi,fun e he hb=>by
     have hlt':=(chk1 i0 _ hoi).1 e (by simpa using he) hb
     cases hq:listed.getD e.on false with
     | true=>rfl
     | false =>
      exfalso
      have hm:e.on∈left listed ops.size:=mem_left.2 ⟨by omega,by
       have hb2:e.on<listed.size:=by omega
       simpa[hb2] using hq⟩
      have hp:(left listed ops.size).Pairwise (·<·):=List.Pairwise.filter _ List.pairwise_lt_range
      rw[hleft] at hp hm
      have:=(List.pairwise_cons.1 hp).1
      rcases List.mem_cons.1 hm with q|q
      ·omega
      ·have:=this e.on q;omega⟩
    rw[hnone] at this;cases this
  ·have hmem:=ready_left listed i hrd
   obtain⟨l1,l2,he,hlt,hflt⟩:=sE hmem
   obtain⟨h0,o,ho,hpre⟩:=mem_ready.1 hrd
   have hsw:∀x,x∈opsOf ops l1→yB X ops x o=true:=by
    intro x hx
    obtain⟨j,hj,hx⟩:=List.mem_filterMap.1 hx
    rcases (chk1 i o ho).2 j x (hlt j hj) hx with q|q
    ·exfalso
     have:=sH (L:=fun i=>listed.getD i false=true) ops.toList [] [] rfl (by simpa using hc) (fun i hi j hj=>by simp at hj) i (.inr ⟨o,by simpa using ho,fun e he hb=>hpre e (by simpa using he) hb⟩) j q
     have hjl:j∈left listed ops.size:=by rw[he];simp[hj]
     have hj2:=(mem_left.1 hjl)
     have hb2:j<listed.size:=by omega
     simp[hb2] at this hj2
     simp[this] at hj2
    ·exact q
   have e2:opsOf ops (left listed ops.size)=opsOf ops l1++o::opsOf ops l2:=by rw[he];simp[opsOf,List.filterMap_append,ho]
   rw[e2] at h
   have hdom:Dom (fun l=>Φ.obj l≠none) σ:=fun l hl q=>hl (hi.fT q)
   have hfin:Fin (fun l=>Φ.obj l≠none):=by
    obtain⟨n,hn⟩:=hi.fresh.1.1
    exact⟨n,fun l hl q=>q (hn l hl)⟩
   have hkall:∀(j:Nat) x,ops[j]?=some x→vP X x=true:=fun j x hx=>by
    have h:=hchk
    simp only[r4,Bool.and_eq_true,List.all_eq_true] at h
    exact h.1 x (by rw[←Array.getElem?_toList] at hx;exact List.mem_of_getElem? hx)
   have hp:=IN (pull hKok hC (opsOf ops l2) o (opsOf ops l1) f _ σ hdom hfin hD hsw (fun x hx=>by
    obtain⟨j,hj,hx⟩:=List.mem_filterMap.1 hx
    exact hkall j x hx) h)
   have e3:opsOf ops (left (listed.setIfInBounds i true) ops.size)=opsOf ops l1++opsOf ops l2:=by rw[Ac hsz,hflt];simp[opsOf,List.filterMap_append]
   have hlen:(left (listed.setIfInBounds i true) ops.size).length=fuel:=by
    rw[Ac hsz,hflt]
    rw[he] at hl
    simp at hl ⊢;omega
   have hcl:uZ ops (fun k=>(listed.setIfInBounds i true).getD k false=true):=by
    intro k ok hk hlk e hek hb
    by_cases hki:k=i
    ·subst hki
     rw[ho] at hk;cases hk
     exact getD_set_true (hpre e (by simpa using hek) hb)
    ·have:listed.getD k false=true:=by rw[←hlk,getD_set_ne _ (Ne.symm hki)]
     exact getD_set_true (hc k ok hk this e hek hb)
   -- what comes then
   have next:∀v mv σ' Φ' w' ,Rel Φ' v mv→Inv Φ' w' σ'→Step Φ σ w Φ' σ' w' →
     (∃U':Nat→Prop,(∀l,U' l→Φ.obj l≠none∨σ' l≠none)∧GV (gfo P C ops f o) mv∧∀U1',(∀l,U' l→U1' l)→gl P C ops (fun f' _ σ'=>∃f'',FEq f' f''∧Q .normal f'' σ') (opsOf ops l1++opsOf ops l2) (bD f o.dst mv) U1' σ') →
     wpAnyIn F 0 P .any ops (lift Φ0 σ0 w0 Q) fuel (listed.setIfInBounds i true) (a.put o.dst v) w':=by
    rintro v mv σ' Φ' w' r1 i1 s1 ⟨U',hu,hgv,hk⟩
    refine ih _ (bD f o.dst mv) σ' Φ' w' (a.put o.dst v) (by simpa using hsz) hlen hcl i1 (cL (hr.mono s1.le) o.dst r1) (by rw[bO,dZ];exact hd.step hi s1) (hD.put (hkall i o ho) hgv) (hs.trans s1) ?_
    rw[e3]
    refine hk _ fun l hl=>?_
    rcases hu l hl with q|q
    ·intro hn
     cases hp:Φ.obj l with
     | none=>exact q hp
     | some p=>rw[s1.le.obj l p hp] at hn;cases hn
    ·intro hn;exact q (i1.fT hn)
   unfold wpOpIn
   rw[ho]
   simp only
   have hFo:F=Fence.wide∨∃l0,F=Fence.wide.inRound l0∧∀c,o.op≠.defer c:=hF.imp id fun⟨l0,e,q⟩=>⟨l0,e,q o (by rw[←Array.getElem?_toList] at ho;exact List.mem_of_getElem? ho)⟩
   have hfn:∀g,F.fn g:=fun g=>by rcases hF with rfl|⟨l,rfl,_⟩<;>trivial
   have run:gs (fun l=>Φ.obj l≠none) σ (gop P C f o.op) (fun v U1 σ1=>GV (gfo P C ops f o) v∧∀U1',(∀l,U1 l→U1' l)→gl P C ops (fun f' _ σ'=>∃f'',FEq f' f''∧Q .normal f'' σ') (opsOf ops l1++opsOf ops l2) (bD f o.dst v) U1' σ1) →
     o.wpIn F 0 P a w (wpAnyIn F 0 P .any ops (lift Φ0 σ0 w0 Q) fuel (listed.setIfInBounds i true)) (lift Φ0 σ0 w0 Q):=by
    intro hg
    refine eS hFo ?_
    refine nO (UM hg) Φ w a _ _ hi hr fun v mv σ' Φ' w' r1 i1 s1 hk=>next v mv σ' Φ' w' r1 i1 s1 (hk fun l h1 h2 q=>?_)
    rcases s1.locs l _ (Option.ne_none_iff_exists'.1 h1).choose_spec with⟨o',ho'⟩|ho'
    ·rw[h2] at ho';cases ho'
    ·exact q ho'
   obtain⟨G,hG⟩:∃G,GV (gfo P C ops f o)=G:=⟨_,rfl⟩
   rw[hG] at hp run next
   unfold gfo at hp
   split at hp
   ·rename_i hg
    have hw:Region.wanted o (yielded ops a.tmps)=true:=by unfold Region.wanted;rw[hg]
    rw[if_pos hw]
    exact run hp
   ·rename_i j want hg
    split at hp
    ·rename_i t ht
     split at hp
     ·rename_i b hb
      have hmg:∀{A B:Prop},(b=want→A)∧(b=(!want)→B)→(Region.wanted o (yielded ops a.tmps)=true∧A)∨(Region.wanted o (yielded ops a.tmps)=false∧B):=fun {A B} h =>
       cI (ops:=ops) (o:=o) (f:=f) (by unfold fX;rw[hg];(try simp only[ht,hb]);exact h) hr
      split at hp
      ·rename_i hbw
       rcases hmg (A:=True) (B:=False) ⟨fun _=>trivial,fun e=>by rw[hbw] at e;cases want<;>cases e⟩ with⟨hw,-⟩|⟨-,hw⟩
       ·rw[if_pos hw];exact run hp
       ·exact hw.elim
      ·rename_i hbw
       rcases hmg (A:=False) (B:=True) ⟨fun e=>hbw e,fun _=>trivial⟩ with⟨-,hw⟩|⟨hw,-⟩
       ·exact hw.elim
       ·rw[if_neg (by simp[hw])]
        obtain⟨-,U',hu,hgv,hk⟩:=oN hp
        exact⟨fun f _=>hfn f,next undef (.tup []) σ Φ w gP hi (.refl _ _ _) ⟨U',hu,hgv,hk⟩⟩
     ·rename_i hb
      rcases cI (ops:=ops) (o:=o) (f:=f) (yes:=False) (no:=True) (by unfold fX;rw[hg];simp only[ht,hb]) hr with⟨-,hw⟩|⟨hw,-⟩
      ·exact hw.elim
      ·rw[if_neg (by simp[hw])]
       obtain⟨-,U',hu,hgv,hk⟩:=oN hp
       exact⟨fun f _=>hfn f,next undef (.tup []) σ Φ w gP hi (.refl _ _ _) ⟨U',hu,hgv,hk⟩⟩
     ·exact(gB hp).elim
    ·exact(gB hp).elim
def fR(P:Program)(MC:FuncId→List MV→St→(MV→St→Prop)→Prop)(ops:Array Oper)(K:FR→St→Prop):List Oper→FR→St→Prop
 | [],f,σ=>K f σ
 | o::rest,f,σ=>fX ops f o (Bv P MC f σ (fun v σ'=>fR P MC ops K rest (bD f o.dst v) σ') o.op) (fR P MC ops K rest (bD f o.dst (.tup [])) σ)
abbrev kM(P:Program)(C:cD):=fR P (pT P C)
theorem UF{MC:FuncId→List MV→St→(MV→St→Prop)→Prop}(hMC:∀U σ,Dom U σ→∀g ms k,MC g ms σ k→gs U σ (iH P C g ms) fun v _ σ'=>k v σ'){u:iT}(hu:PlU u C){K:FR→St→Prop}:∀(l:List Oper) (f:FR) (U:Nat→Prop) (σ:St),Dom U σ→Fin U→fR P MC ops K l f σ→gl P C ops (fun f' _ σ'=>∃f'',FEq f' f''∧K f'' σ') l f U σ:=by
 intro l
 induction l with
 | nil=>intro f U σ _ _ h;exact⟨f,.refl f,h⟩
 | cons o r ih =>
  intro f U σ hd hf h
  simp only[fR] at h
  (try simp only[gl])
  have run:Bv P MC f σ (fun v σ'=>fR P MC ops K r (bD f o.dst v) σ') o.op→gs U σ (gop P C f o.op) fun v U' σ'=>gl P C ops (fun f' _ σ'=>∃f'',FEq f' f''∧K f'' σ') r (bD f o.dst v) U' σ':=fun h =>
   yR (Vh (hMC U σ hd) hd h) hd hf (fun v U' σ' hd' hf' _ hh=>ih _ U' σ' hd' hf' hh) (KI P C hu f o.op).1
  unfold fX at h
  unfold gfo
  split at h
  ·rename_i hg;(try simp only[hg]);exact run h
  ·rename_i j want hg
   (try simp only[hg])
   split at h
   ·rename_i t ht
    (try simp only[ht])
    split at h
    ·rename_i b hb
     (try simp only[hb])
     split
     ·rename_i hbw;exact run (h.1 hbw)
     ·rename_i hbw
      have hb':b=!want:=by cases b<;>cases want<;>simp at hbw ⊢
      refine vL (yR (oC (U:=U) (pv:=some (True,.tup [])) (k:=fun v σ'=>v=.tup []∧σ'=σ) ⟨trivial,rfl,rfl⟩) hd hf (k':=fun v U' σ'=>v=.tup []∧σ'=σ∧Dom U' σ'∧Fin U') (fun v U' σ' h1 h2 _ h3=>⟨h3.1,h3.2,h1,h2⟩) (cZ _).1) ?_
      rintro v U' σ' ⟨rfl,rfl,h1,h2⟩
      exact ih _ U' _ h1 h2 (h.2 hb')
    ·rename_i hb
     (try simp only[hb])
     refine vL (yR (oC (U:=U) (pv:=some (True,.tup [])) (k:=fun v σ'=>v=.tup []∧σ'=σ) ⟨trivial,rfl,rfl⟩) hd hf (k':=fun v U' σ'=>v=.tup []∧σ'=σ∧Dom U' σ'∧Fin U') (fun v U' σ' h1 h2 _ h3=>⟨h3.1,h3.2,h1,h2⟩) (cZ _).1) ?_
     rintro v U' σ' ⟨rfl,rfl,h1,h2⟩
     exact ih _ U' _ h1 h2 h
    ·exact h.elim
   ·exact h.elim
theorem vV(hm:P.follows .mixedOrders=true){X:RX}{loc:Nat→Nat→Prop}(hC:oV X loc C)(hchk:r4 X ops=true){MC:FuncId→List MV→St→(MV→St→Prop)→Prop}(hMC:∀U σ,Dom U σ→∀g ms k,MC g ms σ k→gs U σ (iH P C g ms) fun v _ σ'=>k v σ'){id:Nat}{f:FR}{σ:St}{Q:MQ}(hD:DOk P X loc f)(h:fR P MC ops (Q .normal) ops.toList f σ):mwp P (.region id ops true) f σ Q:=by
 intro F hF Φ w a hi hr hd
 have hi':Inv Φ { w with drawn:=w.drawn+1 } σ:=⟨fun l o hl=>by
  have:=hi.own l o hl
  cases o<;>exact this,hi.inj,hi.snap,hi.apart,hi.fresh⟩
 have hst:Step Φ σ w Φ σ { w with drawn:=w.drawn+1 }:=⟨.refl Φ,rfl,rfl,rfl,kS (Nat.le_succ _),Nat.le_refl _,fun _ _ _=>rfl,fun _ _ h=>.inl h,fun l o h=>.inl ⟨o,h⟩,fun _ h=>.inl h⟩
 have hall:left (Array.replicate ops.size false) ops.size=List.range ops.size:=by
  unfold left
  refine List.filter_eq_self.2 fun j hj=>?_
  have hj:j<ops.size:=by simpa using hj
  simp[hj]
 have hops:opsOf ops (List.range ops.size)=ops.toList:=by
  unfold opsOf
  apply List.ext_getElem?
  intro i
  have:∀(l:List Oper),(List.range l.length).filterMap (fun i=>l[i]?)=l:=by
   intro l
   induction l with
   | nil=>rfl
   | cons a r ih =>
    rw[List.length_cons,List.range_succ_eq_map,List.filterMap_cons]
    (try simp only[List.getElem?_cons_zero,List.filterMap_map])
    congr 1
  have:=this ops.toList
  simp only[Array.length_toList,Array.getElem?_toList] at this
  rw[this]
 refine wpIn_region_any hm (L3 (C:=C) hC hchk hF.ops ops.size _ f σ Φ _ a (by simp) (by rw[hall];simp) ?_ hi' hr (hd.step hi hst) hD hst ?_)
 ·intro i o ho hl
  simp only[Array.getD_eq_getD_getElem?,Array.getElem?_replicate] at hl
  split at hl<;>simp at hl
 ·rw[hall,hops]
  refine UF hMC hC.u ops.toList f _ σ (fun l hl q=>hl (hi.fT q)) ?_ h
  obtain⟨n,hn⟩:=hi.fresh.1.1
  exact⟨n,fun l hl q=>q (hn l hl)⟩
theorem NV(hm:P.follows .mixedOrders=true){Ds:List Nat}{loc:Nat→Nat→Prop}(hchk:r4 ⟨Ds,[],none,.no,[]⟩ ops=true)(C:cD){id:Nat}{f:FR}{σ:St}{Q:MQ}(hD:DOk P ⟨Ds,[],none,.no,[]⟩ loc f)(h:kM P C ops (Q .normal) ops.toList f σ):mwp P (.region id ops true) f σ Q :=
 vV (C:=C.pl) (X:=⟨Ds,[],none,.no,[]⟩) (loc:=loc) hm (show oV ⟨Ds,[],none,.no,[]⟩ loc C.pl from⟨C.LD.u,trivial⟩) hchk (fun _ _ hd _ _ _ h=>yQ hd h) hD h
theorem GN(hm:P.follows .mixedOrders=true)(hchk:chk ops=true)(C:cD){id:Nat}{f:FR}{σ:St}{Q:MQ}(h:kM P C ops (Q .normal) ops.toList f σ):mwp P (.region id ops true) f σ Q :=
 NV (loc:=fun _ _=>True) hm hchk C ⟨fun t ht=>(by cases ht),fun t t' ht=>(by cases ht),fun p hp=>(by cases hp),fun p hp=>(by cases hp)⟩ h
theorem NX(hm:P.follows .mixedOrders=true){X:RX}{loc:Nat→Nat→Prop}(C:cD)(hC:oV X loc C)(hchk:r4 X ops=true){id:Nat}{f:FR}{σ:St}{Q:MQ}(hD:DOk P X loc f)(h:fR P (mZ P C) ops (Q .normal) ops.toList f σ):mwp P (.region id ops true) f σ Q :=
 vV hm hC hchk (fun _ _ hd _ _ _ h=>Pz hd h) hD h
theorem NW(hm:P.follows .mixedOrders=true)(L:List FuncId)(C:cD)(hC:PlU (.these L) C)(hchk:r4 ⟨[],[],none,.these L,[]⟩ ops=true){id:Nat}{f:FR}{σ:St}{Q:MQ}(h:fR P (mZ P C) ops (Q .normal) ops.toList f σ):mwp P (.region id ops true) f σ Q :=
 NX (X:=⟨[],[],none,.these L,[]⟩) (loc:=fun _ _=>True) hm C ⟨hC,trivial⟩ hchk ⟨fun t ht=>(by cases ht),fun t t' ht=>(by cases ht),fun p hp=>(by cases hp),fun p hp=>(by cases hp)⟩ h
end
end

section
def oL:Op→Bool
 | .call ⟨.value _,_,_⟩|.defer _=>false
 | _=>true
section
variable {P:Program} {C:cD} {MC:FuncId→List MV→St→(MV→St→Prop)→Prop} {f:FR} {σ:St} {Q:MQ} {k:MV→St→Prop} {K:FR→St→Prop} {ops:Array Oper} {rest:List Oper}
theorem Jw{op:Op}(h:oL op=true):Bv P MC f σ k op=mop P f σ k op:=by
 cases op<;>first|rfl|(simp[oL] at h;done)|skip
 rename_i c
 obtain⟨callee,args,ts⟩:=c
 cases callee<;>first|rfl|(simp[oL] at h;done)
theorem Gj{id:Nat}{l:List Oper}(hm:P.follows .mixedOrders=true)(hchk:(chk l.toArray&&l.all fun o=>oL o.op)=true)(h:R (kM P (fun _ _=>none) (@OfNat.ofNat (Array Oper) (nat_lit 0) (@_root_.id (OfNat (Array Oper) (nat_lit 0)) (OfNat.mk (l.toArray)))) (Q .normal) (@OfNat.ofNat (List Oper) (nat_lit 0) (@_root_.id (OfNat (List Oper) (nat_lit 0)) (OfNat.mk l))) f σ)):R (rS P id (@OfNat.ofNat (List Oper) (nat_lit 0) (@_root_.id (OfNat (List Oper) (nat_lit 0)) (OfNat.mk l))) f σ Q):=by
 simp only[Bool.and_eq_true] at hchk
 exact GN hm hchk.1 (fun _ _=>none) h
theorem aJ{id:Nat}{l:List Oper}(hm:P.follows .mixedOrders=true)(hchk:chk l.toArray=true)(C:cD)(h:R (kM P C (@OfNat.ofNat (Array Oper) (nat_lit 0) (@_root_.id (OfNat (Array Oper) (nat_lit 0)) (OfNat.mk (l.toArray)))) (Q .normal) (@OfNat.ofNat (List Oper) (nat_lit 0) (@_root_.id (OfNat (List Oper) (nat_lit 0)) (OfNat.mk l))) f σ)):R (rS P id (@OfNat.ofNat (List Oper) (nat_lit 0) (@_root_.id (OfNat (List Oper) (nat_lit 0)) (OfNat.mk l))) f σ Q) :=
 GN hm hchk C h
def Ah(ds:List (Nat × Nat))(t:Nat):Nat:=((ds.find? fun p=>p.1==t).map (·.2)).getD 0
theorem yV:∀{ds:List (Nat × Nat)},(ds.map (·.1)).Pairwise (·≠·)→∀p,p∈ds→Ah ds p.1=p.2
 | [],_,p,hp=>by cases hp
 | q::r,h3,p,hp=>by
  simp only[List.map_cons] at h3
  obtain⟨b1,b2⟩:=List.pairwise_cons.1 h3
  rcases List.mem_cons.1 hp with rfl|hp'
  ·simp[Ah]
  ·have:(q.1==p.1)=false:=by simpa using b1 p.1 (List.mem_map.2 ⟨p,hp',rfl⟩)
   unfold Ah
   rw[List.find?_cons,this]
   exact yV b2 p hp'
theorem P3{ds:List (Nat × Nat)}{f:FR}(h1:∀p,p∈ds→∃i o,f.get p.1=.ptr p.2 i o)(h3:(ds.map (·.1)).Pairwise (·≠·)):∀t,t∈ds.map (·.1)→∃i o,f.get t=.ptr (Ah ds t) i o:=fun t ht=>by
 obtain⟨p,hp,rfl⟩:=List.mem_map.1 ht
 rw[yV h3 p hp]
 exact h1 p hp
theorem Tt{ds:List (Nat × Nat)}(h2:(ds.map (·.2)).Pairwise (·≠·))(h3:(ds.map (·.1)).Pairwise (·≠·)):∀t t',t∈ds.map (·.1)→t'∈ds.map (·.1)→t≠t'→Ah ds t≠Ah ds t':=fun t t' ht ht' hne=>by
 obtain⟨p,hp,rfl⟩:=List.mem_map.1 ht
 obtain⟨q,hq,rfl⟩:=List.mem_map.1 ht'
 rw[yV h3 p hp,yV h3 q hq]
 intro e
 obtain⟨i,hi,e1⟩:=List.mem_iff_getElem.1 hp
 obtain⟨j,hj,e2⟩:=List.mem_iff_getElem.1 hq
 have hij:i≠j:=fun e=>by subst e;exact hne (by rw[←e1,←e2])
 rw[List.pairwise_iff_getElem] at h2
 rcases Nat.lt_or_gt_of_ne hij with hlt|hgt
 ·have:=h2 i j (by simpa using hi) (by simpa using hj) hlt
  simp only[List.getElem_map,e1,e2] at this
  exact this e
 ·have:=h2 j i (by simpa using hj) (by simpa using hi) hgt
  simp only[List.getElem_map,e1,e2] at this
  exact this e.symm
theorem DOk.of{ds:List (Nat × Nat)}{Rs:List (Nat × Nat)}{dr:Option Nat}{tu:iT}{f:FR}(h1:∀p,p∈ds→∃i o,f.get p.1=.ptr p.2 i o)(h2:(ds.map (·.2)).Pairwise (·≠·))(h3:(ds.map (·.1)).Pairwise (·≠·))(h4:∀p,p∈Rs→p.2∈ds.map (·.1)∧∀l i o,f.get p.1=.ptr l i o→l=Ah ds p.2):DOk P ⟨ds.map (·.1),Rs,dr,tu,[]⟩ (fun t l=>l=Ah ds t) f :=
 ⟨fun t ht=>by obtain⟨i,o,e⟩:=P3 h1 h3 t ht;exact⟨_,i,o,e,rfl⟩,fun t t' ht ht' hne l e1 e2=>Tt h2 h3 t t' ht ht' hne (e1.symm.trans e2),h4,fun p hp=>(by cases hp)⟩
theorem cB{id:Nat}{l:List Oper}(hm:P.follows .mixedOrders=true)(L:List FuncId)(hchk:r4 ⟨[],[],none,.these L,[]⟩ l.toArray=true)(C:cD)(hC:PlU (.these L) C)
 (h:R (fR P (mZ P C) (@OfNat.ofNat (Array Oper) (nat_lit 0) (@_root_.id (OfNat (Array Oper) (nat_lit 0)) (OfNat.mk (l.toArray)))) (Q .normal) (@OfNat.ofNat (List Oper) (nat_lit 0) (@_root_.id (OfNat (List Oper) (nat_lit 0)) (OfNat.mk l))) f σ)):R (rS P id (@OfNat.ofNat (List Oper) (nat_lit 0) (@_root_.id (OfNat (List Oper) (nat_lit 0)) (OfNat.mk l))) f σ Q) :=
 NW hm L C hC hchk h
theorem NM:R (fR P MC ops K [] f σ)=R (K f σ):=rfl
theorem Jz{dst:Option Tmp}{op:Op}{ty:TypeId}{pos:String}{after:Array Edge}:R (fR P MC ops K (⟨dst,op,ty,pos,after,none⟩::rest) f σ)=R (Bv P MC f σ (fun v σ'=>fR P MC ops K (@OfNat.ofNat (List Oper) (nat_lit 0) (@_root_.id (OfNat (List Oper) (nat_lit 0)) (OfNat.mk rest))) (bD f dst v) σ') op):=congrArg R rfl
theorem JA{l:List Oper}:R (fR P MC ops K (@OfNat.ofNat (List Oper) (nat_lit 0) (@_root_.id (OfNat (List Oper) (nat_lit 0)) (OfNat.mk l))) f σ)=R (fR P MC ops K l f σ):=congrArg R rfl
theorem GB{l:List Oper}{dst:Option Tmp}{op:Op}{ty:TypeId}{pos:String}{after:Array Edge}{j:Nat}{want:Bool}:R (fR P MC (@OfNat.ofNat (Array Oper) (nat_lit 0) (@_root_.id (OfNat (Array Oper) (nat_lit 0)) (OfNat.mk (l.toArray)))) K (⟨dst,op,ty,pos,after,some (j,want)⟩::rest) f σ)=R (cG (E (PE f (rG (@OfNat.ofNat (List Oper) (nat_lit 0) (@_root_.id (OfNat (List Oper) (nat_lit 0)) (OfNat.mk l))) j))) want (Bv P MC f σ (fun v σ'=>fR P MC (@OfNat.ofNat (Array Oper) (nat_lit 0) (@_root_.id (OfNat (Array Oper) (nat_lit 0)) (OfNat.mk (l.toArray)))) K (@OfNat.ofNat (List Oper) (nat_lit 0) (@_root_.id (OfNat (List Oper) (nat_lit 0)) (OfNat.mk rest))) (bD f dst v) σ') op) (fR P MC (@OfNat.ofNat (Array Oper) (nat_lit 0) (@_root_.id (OfNat (Array Oper) (nat_lit 0)) (OfNat.mk (l.toArray)))) K (@OfNat.ofNat (List Oper) (nat_lit 0) (@_root_.id (OfNat (List Oper) (nat_lit 0)) (OfNat.mk rest))) (bD f dst (.tup [])) σ)):=congrArg R (by
 show fR P MC l.toArray K (⟨dst,op,ty,pos,after,some (j,want)⟩::rest) f σ=cG (PE f (rG l j)) want (Bv P MC f σ (fun v σ'=>fR P MC l.toArray K rest (bD f dst v) σ') op) (fR P MC l.toArray K rest (bD f dst (.tup [])) σ)
 simp only[fR,fX,La]
 cases rG l j<;>rfl)
theorem TP{op:Op}(h:oL op=true):R (Bv P MC f σ k op)=R (mop P f σ k op):=by rw[Jw h]
def Lo(MC:FuncId→List MV→St→(MV→St→Prop)→Prop)(x:MV)(args:List MV)(σ:St)(k:MV→St→Prop):Prop:=match x with
 | .fn (.func g) ms ns=>MC g (ms++args++ns) σ k
 | _=>False
theorem NF{x:Operand}{args:Array Operand}{ts:Array TypeId}:R (Bv P MC f σ k (.call ⟨.value x,args,ts⟩))=R (Lo MC (E (aE f x)) (E (args.toList.map (aE f))) σ k):=congrArg R rfl
theorem Jb{g:FuncId}{ms ns args:List MV}:R (Lo MC (.fn (.func g) ms ns) args σ k)=R (MC g (E (ms++args++ns)) σ k):=congrArg R rfl
theorem aH{g:FuncId}{ms:List MV}{r:MV}(hC:C g ms=some ⟨[],fun v=>v=r,none⟩)(h:aA P g ms St.none fun v _=>v=r)(hk:R (bT r σ k)):R (pT P C g ms σ k) :=
 .inl ⟨[],_,[],hC,rfl,h.CI,⟨r,rfl⟩,fun v hv=>hv ▸ hk⟩
theorem Tm{g:FuncId}{ms:List MV}(rd:List Nat)(os:List aT){q:MV→Prop}(hC:C g ms=some ⟨rd,q,none⟩)(hos:rd.map σ=os.map some)(h:aA P g ms (St.ofList rd os) fun v σ'=>q v∧σ'=St.ofList rd os)(hq:∃v,q v)(hk:∀v,q v→R (bT v σ k)):R (pT P C g ms σ k) :=
 .inl ⟨rd,q,os,hC,hos,h,hq,hk⟩
theorem I0{g:FuncId}{ms:List MV}{r:MV}(hC:C g ms=some ⟨[],fun v=>v=r,none⟩)(h:aA P g ms St.none fun v _=>v=r)(hk:R (bT r σ k)):R (mZ P C g ms σ k) :=
 .inl ⟨[],_,[],hC,rfl,h.CI,⟨r,rfl⟩,fun v hv=>hv ▸ hk⟩
theorem ofList_nil(ls:List Nat):St.ofList ls []=St.none:=by cases ls<;>rfl
theorem xK{g:FuncId}{ms:List MV}{l:Nat}{rd:List Nat}{q:MV→Prop}{os ts:List aT}{r:MV}(hC:C g ms=some ⟨l::rd,q,some (ts,fun _=>r)⟩)(hos:(l::rd).map σ=os.map some)
 (h:aA P g ms (St.ofList (l::rd) os) fun v σ'=>v=r∧σ'=(St.ofList (l::rd) ts).over (St.ofList (l::rd) os))(hk:R (bT r ((St.ofList (l::rd) ts).over σ) k)):R (mZ P C g ms σ k) :=
 .inr (.inr ⟨l,rd,q,ts,os,fun _=>r,hC,hos,h,hk⟩)
theorem jL{g:FuncId}{ms:List MV}{l:Nat}{rd:List Nat}{q:MV→Prop}{o':aT}{os:List aT}{r:MV}(hC:C g ms=some ⟨l::rd,q,some ([o'],fun _=>r)⟩)(hos:(l::rd).map σ=os.map some)
 (h:aA P g ms (St.ofList (l::rd) os) fun v σ'=>v=r∧σ'=(St.ofList (l::rd) os).set l o')(hk:R (bT r (σ.set l o') k)):R (mZ P C g ms σ k) :=
 xK hC hos (by simp only[St.ofList,ofList_nil,bE,dC];exact h) (by simp only[St.ofList,ofList_nil,bE,dC];exact hk)
theorem FY{g:FuncId}{ms:List MV}{l m:Nat}{rd:List Nat}{q:MV→Prop}{o' p':aT}{os:List aT}{r:MV}(hC:C g ms=some ⟨l::m::rd,q,some ([o',p'],fun _=>r)⟩)(hos:(l::m::rd).map σ=os.map some)
 (h:aA P g ms (St.ofList (l::m::rd) os) fun v σ'=>v=r∧σ'=((St.ofList (l::m::rd) os).set m p').set l o')(hk:R (bT r ((σ.set m p').set l o') k)):R (mZ P C g ms σ k) :=
 xK hC hos (by simp only[St.ofList,ofList_nil,bE,dC];exact h) (by simp only[St.ofList,ofList_nil,bE,dC];exact hk)
theorem iJ{g:FuncId}{ms:List MV}{l:Nat}{q:MV→Prop}{o o':aT}{r:MV}(hC:C g ms=some ⟨[l],q,some ([o'],fun _=>r)⟩)(ho:σ l=some o)(h:aA P g ms (St.none.set l o) fun v σ'=>v=r∧σ'=St.none.set l o')(hk:R (bT r (σ.set l o') k)):R (mZ P C g ms σ k) :=
 jL (os:=[o]) hC (by simp[ho]) (h.mono (by
  rintro v σ' ⟨h1,rfl⟩
  refine⟨h1,funext fun j=>?_⟩
  by_cases hj:j=l<;>simp[St.ofList,St.set,hj])) hk
theorem FW{g:FuncId}{ms:List MV}(rd:List Nat)(os:List aT){r:MV}(hC:C g ms=some ⟨rd,fun v=>v=r,none⟩)(hos:rd.map σ=os.map some)(h:aA P g ms (St.ofList rd os) fun v σ'=>v=r∧σ'=St.ofList rd os)(hk:R (bT r σ k)):R (mZ P C g ms σ k) :=
 .inl ⟨rd,_,os,hC,hos,h,⟨r,rfl⟩,fun v hv=>hv ▸ hk⟩
theorem PQ{g:FuncId}{ms:List MV}{rd:List Nat}{q:MV→Prop}{o:aT}{u:Nat→MV}(hC:C g ms=some ⟨rd,q,some ([o],u)⟩)(h:aA P g ms St.none fun v σ'=>∃l,v=u l∧σ'=St.none.set l o)(hk:∀l,σ l=none→R (bT (u l) (σ.set l o) k)):R (pT P C g ms σ k) :=
 .inr ⟨rd,q,o,u,hC,h,hk⟩
end
attribute [go_sem ↓] JA NM Jz GB NF TP
attribute [go_sem] Jb
noncomputable def kn(L:List (FuncId × List MV × Fact)):cD:=fun g ms=>by
 classical exact(L.find? fun p=>decide (p.1=g∧p.2.1=ms)).map (·.2.2)
theorem vR{g:FuncId}{ms:List MV}{F:Fact}{L:List (FuncId × List MV × Fact)}:kn ((g,ms,F)::L) g ms=some F:=by
 simp[kn]
theorem Li{g g':FuncId}{ms ms':List MV}{F F':Fact}{L:List (FuncId × List MV × Fact)}(h:g'=g∧ms'=ms→F'=F)(k:kn L g ms=some F):kn ((g',ms',F')::L) g ms=some F:=by
 by_cases e:g'=g∧ms'=ms
 ·obtain⟨rfl,rfl⟩:=e
  rw[vR,h ⟨rfl,rfl⟩]
 ·unfold kn at k ⊢
  rw[List.find?_cons_of_neg (by simpa using e)]
  exact k
end

section
theorem td3:td Tryz.prog 3=⟨true,1,8,true,[.int .i64 0],.int .i64⟩:=by kernel_rfl
theorem td4:td Tryz.prog 4=⟨true,1,1,true,[.bool false],.bool⟩:=by kernel_rfl
theorem td5:td Tryz.prog 5=⟨true,1,1,true,[.int .u8 0],.int .u8⟩:=by kernel_rfl
theorem td9:td Tryz.prog 9=⟨true,1,16,true,[.str ⟨#[]⟩],.str⟩:=by kernel_rfl
theorem VQ:td Tryz.prog 22=⟨true,1,24,true,[.aM],.slice 121⟩:=by kernel_rfl
theorem KA:td Tryz.prog 23=⟨true,1,4,true,[.int .u32 0],.int .u32⟩:=by kernel_rfl
theorem VR:td Tryz.prog 24=⟨true,1,24,true,[.aM],.slice 59⟩:=by kernel_rfl
theorem Uk:td Tryz.prog 26=⟨true,4,80,true,[.aM,.int .u32 0,.aM,.aM],.struct [(0,22),(1,23),(2,24),(3,24)]⟩:=by kernel_rfl
theorem Ul:td Tryz.prog 28=⟨true,4,32,true,[.int .i64 0,.int .i64 0,.int .i64 0,.int .i64 0],.struct [(0,3),(1,3),(2,3),(3,3)]⟩:=by kernel_rfl
theorem Xw:td Tryz.prog 34=⟨true,1,8,true,[.nilp],.ptr 140⟩:=by kernel_rfl
theorem Xx:td Tryz.prog 35=⟨true,1,24,true,[.aM],.slice 126⟩:=by kernel_rfl
theorem Xy:td Tryz.prog 36=⟨true,1,24,true,[.aM],.slice 197⟩:=by kernel_rfl
theorem Xz:td Tryz.prog 38=⟨true,3,56,true,[.int .i64 0,.aM,.aM],.struct [(0,3),(1,35),(2,36)]⟩:=by kernel_rfl
theorem B2:td Tryz.prog 39=⟨true,1,24,true,[.aM],.slice 200⟩:=by kernel_rfl
theorem XA:td Tryz.prog 41=⟨true,5,88,true,[.int .i64 0,.int .i64 0,.aM,.aM,.aM],.struct [(0,3),(1,38),(4,39)]⟩:=by kernel_rfl
theorem XB:td Tryz.prog 44=⟨true,1,8,true,[.nilp],.ptr 133⟩:=by kernel_rfl
theorem XC:td Tryz.prog 47=⟨true,5,88,true,[.int .i64 0,.int .i64 0,.aM,.aM,.aM],.struct [(0,3),(1,3),(2,35),(3,36),(4,39)]⟩:=by kernel_rfl
theorem XD:td Tryz.prog 49=⟨true,1,24,true,[.aM],.slice 47⟩:=by kernel_rfl
theorem XE:td Tryz.prog 50=⟨true,1,24,true,[.aM],.slice 73⟩:=by kernel_rfl
theorem Bb:td Tryz.prog 54=⟨true,3,32,true,[.int .i64 0,.int .i64 0,.str ⟨#[]⟩],.struct [(0,3),(1,3),(2,9)]⟩:=by kernel_rfl
theorem KB:td Tryz.prog 55=⟨true,24,256,true,[.int .i64 0,.int .i64 0,.str ⟨#[]⟩,.int .i64 0,.int .i64 0,.str ⟨#[]⟩,.int .i64 0,.int .i64 0,.str ⟨#[]⟩,.int .i64 0,.int .i64 0,.str ⟨#[]⟩,.int .i64 0,.int .i64 0,.str ⟨#[]⟩,.int .i64 0,.int .i64 0,.str ⟨#[]⟩,.int .i64 0,.int .i64 0,.str ⟨#[]⟩,.int .i64 0,.int .i64 0,.str ⟨#[]⟩],.array 8 54⟩:=by kernel_rfl
theorem Sb:td Tryz.prog 57=⟨true,26,264,true,[.int .u32 0,.int .u32 0,.int .i64 0,.int .i64 0,.str ⟨#[]⟩,.int .i64 0,.int .i64 0,.str ⟨#[]⟩,.int .i64 0,.int .i64 0,.str ⟨#[]⟩,.int .i64 0,.int .i64 0,.str ⟨#[]⟩,.int .i64 0,.int .i64 0,.str ⟨#[]⟩,.int .i64 0,.int .i64 0,.str ⟨#[]⟩,.int .i64 0,.int .i64 0,.str ⟨#[]⟩,.int .i64 0,.int .i64 0,.str ⟨#[]⟩],.struct [(0,23),(1,23),(2,55)]⟩:=by kernel_rfl
theorem Um:td Tryz.prog 59=⟨true,29,288,true,[.int .i64 0,.int .i64 0,.int .i64 0,.int .u32 0,.int .u32 0,.int .i64 0,.int .i64 0,.str ⟨#[]⟩,.int .i64 0,.int .i64 0,.str ⟨#[]⟩,.int .i64 0,.int .i64 0,.str ⟨#[]⟩,.int .i64 0,.int .i64 0,.str ⟨#[]⟩,.int .i64 0,.int .i64 0,.str ⟨#[]⟩,.int .i64 0,.int .i64 0,.str ⟨#[]⟩,.int .i64 0,.int .i64 0,.str ⟨#[]⟩,.int .i64 0,.int .i64 0,.str ⟨#[]⟩],.struct [(0,3),(1,3),(2,3),(3,57)]⟩:=by kernel_rfl
theorem XF:td Tryz.prog 62=⟨true,1,24,true,[.aM],.slice 164⟩:=by kernel_rfl
theorem XG:td Tryz.prog 73=⟨true,2,16,true,[.int .i64 0,.int .i64 0],.struct [(0,3),(1,3)]⟩:=by kernel_rfl
theorem B3:td Tryz.prog 75=⟨true,1,24,true,[.aM],.slice 3⟩:=by kernel_rfl
theorem W8:td Tryz.prog 77=⟨true,1,24,true,[.aM],.slice 128⟩:=by kernel_rfl
theorem XH:td Tryz.prog 79=⟨true,1,8,true,[.nilp],.ptr 192⟩:=by kernel_rfl
theorem LP:td Tryz.prog 121=⟨true,5,48,true,[.int .i64 0,.int .i64 0,.int .i64 0,.int .i64 0,.str ⟨#[]⟩],.struct [(0,3),(1,3),(2,54)]⟩:=by kernel_rfl
theorem UO:td Tryz.prog 126=⟨true,27,280,true,[.int .i64 0,.int .i64 0,.int .u32 0,.int .i64 0,.int .i64 0,.str ⟨#[]⟩,.int .i64 0,.int .i64 0,.str ⟨#[]⟩,.int .i64 0,.int .i64 0,.str ⟨#[]⟩,.int .i64 0,.int .i64 0,.str ⟨#[]⟩,.int .i64 0,.int .i64 0,.str ⟨#[]⟩,.int .i64 0,.int .i64 0,.str ⟨#[]⟩,.int .i64 0,.int .i64 0,.str ⟨#[]⟩,.int .i64 0,.int .i64 0,.str ⟨#[]⟩],.struct [(0,3),(1,3),(2,23),(3,55)]⟩:=by kernel_rfl
theorem WN:td Tryz.prog 128=⟨true,31,312,true,[.int .i64 0,.int .i64 0,.int .i64 0,.int .i64 0,.int .i64 0,.int .i64 0,.int .u32 0,.int .i64 0,.int .i64 0,.str ⟨#[]⟩,.int .i64 0,.int .i64 0,.str ⟨#[]⟩,.int .i64 0,.int .i64 0,.str ⟨#[]⟩,.int .i64 0,.int .i64 0,.str ⟨#[]⟩,.int .i64 0,.int .i64 0,.str ⟨#[]⟩,.int .i64 0,.int .i64 0,.str ⟨#[]⟩,.int .i64 0,.int .i64 0,.str ⟨#[]⟩,.int .i64 0,.int .i64 0,.str ⟨#[]⟩],.struct [(0,3),(1,3),(2,3),(3,3),(4,126)]⟩:=by kernel_rfl
theorem Sa:td Tryz.prog 131=⟨true,1,8,true,[.nilm],.map 3 3⟩:=by kernel_rfl
theorem WO:td Tryz.prog 133=⟨true,6,64,true,[.nilp,.int .u32 0,.nilm,.int .i64 0,.int .i64 0,.aM],.struct [(0,79),(1,23),(2,131),(3,3),(4,3),(5,77)]⟩:=by kernel_rfl
theorem WQ:td Tryz.prog 138=⟨true,1,8,true,[.nilp],.ptr 251⟩:=by kernel_rfl
theorem WR:td Tryz.prog 140=⟨true,3,40,true,[.int .i64 0,.nilp,.aM],.struct [(0,3),(1,138),(2,39)]⟩:=by kernel_rfl
theorem WS:td Tryz.prog 141=⟨true,1,8,true,[.nilfn],.func⟩:=by kernel_rfl
theorem WT:td Tryz.prog 142=⟨true,7,56,true,[.nilfn,.nilfn,.nilfn,.nilfn,.nilfn,.nilfn,.nilfn],.array 7 141⟩:=by kernel_rfl
theorem WU:td Tryz.prog 164=⟨true,28,288,true,[.int .i64 0,.int .i64 0,.int .i64 0,.int .u32 0,.int .i64 0,.int .i64 0,.str ⟨#[]⟩,.int .i64 0,.int .i64 0,.str ⟨#[]⟩,.int .i64 0,.int .i64 0,.str ⟨#[]⟩,.int .i64 0,.int .i64 0,.str ⟨#[]⟩,.int .i64 0,.int .i64 0,.str ⟨#[]⟩,.int .i64 0,.int .i64 0,.str ⟨#[]⟩,.int .i64 0,.int .i64 0,.str ⟨#[]⟩,.int .i64 0,.int .i64 0,.str ⟨#[]⟩],.struct [(0,3),(1,126)]⟩:=by kernel_rfl
theorem WV:td Tryz.prog 182=⟨true,1,4,true,[.int .u32 0],.struct [(0,180),(0,23)]⟩:=by kernel_rfl
theorem WW:td Tryz.prog 186=⟨true,2,8,true,[.int .i32 0,.int .u32 0],.struct [(0,179),(0,184)]⟩:=by kernel_rfl
theorem WX:td Tryz.prog 188=⟨true,3,12,true,[.int .u32 0,.int .i32 0,.int .u32 0],.struct [(0,179),(0,182),(1,186)]⟩:=by kernel_rfl
theorem WY:td Tryz.prog 190=⟨true,1,8,true,[.nilfn],.func⟩:=by kernel_rfl
theorem WZ:td Tryz.prog 192=⟨true,5,48,true,[.aM,.int .u32 0,.int .i32 0,.int .u32 0,.nilfn],.struct [(0,22),(1,188),(4,190)]⟩:=by kernel_rfl
theorem W0:td Tryz.prog 197=⟨true,3,24,true,[.int .i64 0,.int .i64 0,.int .i64 0],.struct [(0,3),(1,3),(2,3)]⟩:=by kernel_rfl
theorem mX:td Tryz.prog 200=⟨true,2,32,true,[.int .i64 0,.aM],.struct [(0,3),(1,75)]⟩:=by kernel_rfl
theorem W3:td Tryz.prog 214=⟨true,1,24,true,[.aM],.slice 22⟩:=by kernel_rfl
theorem H0:td Tryz.prog 249=⟨true,1,8,true,[.nilm],.map 3 126⟩:=by kernel_rfl
theorem W4:td Tryz.prog 251=⟨true,3,40,true,[.int .i64 0,.nilm,.aM],.struct [(0,3),(1,249),(2,36)]⟩:=by kernel_rfl
theorem W5:td Tryz.prog 263=⟨true,1,8,true,[.int .u64 0],.int .u64⟩:=by kernel_rfl
theorem W6:td Tryz.prog 276=⟨true,1,8,true,[.nilm],.map 3 128⟩:=by kernel_rfl
theorem UP:td Tryz.prog 325=⟨true,32,32,true,List.replicate 32 (.int .u8 0),.array 32 5⟩:=by kernel_rfl
theorem W7:td Tryz.prog 327=⟨true,1,24,true,[.aM],.slice 5⟩:=by kernel_rfl
theorem Ww:eX Tryz.prog 54=true:=by kernel_rfl
theorem mixed:Tryz.prog.follows .mixedOrders=true:=by kernel_rfl
theorem wD{id:Nat}{l:List Oper}{f:FR}{σ:St}{Q:MQ}(hchk:(chk l.toArray&&l.all fun o=>oL o.op)=true)(h:R (kM Tryz.prog (fun _ _=>none) (@OfNat.ofNat (Array Oper) (nat_lit 0) (@_root_.id (OfNat (Array Oper) (nat_lit 0)) (OfNat.mk (l.toArray)))) (Q .normal) (@OfNat.ofNat (List Oper) (nat_lit 0) (@_root_.id (OfNat (List Oper) (nat_lit 0)) (OfNat.mk l))) f σ)):R (rS Tryz.prog id (@OfNat.ofNat (List Oper) (nat_lit 0) (@_root_.id (OfNat (List Oper) (nat_lit 0)) (OfNat.mk l))) f σ Q):=Gj mixed hchk h
theorem wO{p q:Prop}(h:q)(e:q→p:=by
  intro h
  with_reducible first|(refine wN fun a ha=>?_;revert ha;(repeat refine wS fun _ _=>?_);revert a;exact h)|exact wD (by decide +kernel) h):p:=e h
theorem wM{p q:Prop}(h:q)(e:q→p:=by
  intro h
  with_reducible (refine wN fun a ha=>?_;revert ha;(repeat refine wS fun _ _=>?_);revert a;exact h)):p:=e h
theorem wV{p q:Prop}(h:q)(e:q→p:=by
  intro h
  with_reducible exact wD (by decide +kernel) h):p:=e h
theorem wY{p a b:Prop}(x:a)(y:b)(e:a→b→p:=by
  intro x y
  with_reducible first|exact wI x y|exact wF x y|exact wG x y|exact wH x y|((first|refine cK (fun h=>?_) fun h=>?_|refine cC (fun h=>?_) fun h=>?_);(·simp only[h];revert h;exact x);(·simp only[h];revert h;exact y))):p:=e x y
theorem sS{p:Prop}(h:p:=by simp[St.set, *]):p:=h
theorem dK{p:Prop}(h:p:=by decide +kernel):p:=h
theorem wW{p:Prop}(h:p:=by
  simp(maxSteps:=4000000)(disch:=first|exact ddL|fail) only[go_sem,simprocAttr,aU,aN]
  all_goals first|rfl|exact .same _|(simp;done)|(simp[aN];done)):p:=h
theorem lE{p:Prop}(h:p:=by first|exact⟨_,St.le_refl _,rfl⟩|exact⟨_,St.le_refl _⟩|(exfalso;omega)):p:=h
theorem mB{P:Program}{g:FuncId}{fn:Func}{c:Code}{ms:List MV}{σ:St}{Q:MV→St→Prop}(n:Nat)(rs:List ResultVar)(hf:P.funcs[g]?=some fn)(h:R (dN P (@OfNat.ofNat Code (nat_lit 0) (@_root_.id (OfNat Code (nat_lit 0)) (OfNat.mk c))) ⟨n,iG 0 ms,[]⟩ σ (Ot P rs Q)))(hb:fn.body=some c:=by rfl)(hn:(fn.name=="runtime.NumGoroutine")=false:=by rfl)(hn':max fn.ntmps ms.length=n:=by rfl)(hrs:fn.results.toList=rs:=by rfl):aA P g ms σ Q:=aA.body n rs hf hb hn hn' hrs h
theorem wZ0{p q:Prop}(h:q)(e:q→p:=by intro h;simp(maxSteps:=4000000)(disch:=first|exact ddL|fail) only[go_sem,simprocAttr];exact h):p:=e h
theorem wZ1{p q A1:Prop}(a:A1)(h:q)(e:A1→q→p:=by intro a h;simp(maxSteps:=4000000)(disch:=first|exact ddL|fail) only[go_sem,simprocAttr,a];exact h):p:=e a h
theorem wZ2{p q A1 B1:Prop}(a:A1)(b:B1)(h:q)(e:A1→B1→q→p:=by intro a b h;simp(maxSteps:=4000000)(disch:=first|exact ddL|fail) only[go_sem,simprocAttr,a,b];exact h):p:=e a b h
theorem wZ3{p q A1 B1 C1:Prop}(a:A1)(b:B1)(c:C1)(h:q)(e:A1→B1→C1→q→p:=by intro a b c h;simp(maxSteps:=4000000)(disch:=first|exact ddL|fail) only[go_sem,simprocAttr,a,b,c];exact h):p:=e a b c h
theorem wZ4{p q A1 B1 C1 D1:Prop}(a:A1)(b:B1)(c:C1)(d:D1)(h:q)(e:A1→B1→C1→D1→q→p:=by intro a b c d h;simp(maxSteps:=4000000)(disch:=first|exact ddL|fail) only[go_sem,simprocAttr,a,b,c,d];exact h):p:=e a b c d h
theorem wZ5{p q A1 B1 C1 D1 F1:Prop}(a:A1)(b:B1)(c:C1)(d:D1)(f:F1)(h:q)(e:A1→B1→C1→D1→F1→q→p:=by intro a b c d f h;simp(maxSteps:=4000000)(disch:=first|exact ddL|fail) only[go_sem,simprocAttr,a,b,c,d,f];exact h):p:=e a b c d f h
theorem wZ6{p q A1 B1 C1 D1 F1 G1:Prop}(a:A1)(b:B1)(c:C1)(d:D1)(f:F1)(g:G1)(h:q)(e:A1→B1→C1→D1→F1→G1→q→p:=by intro a b c d f g h;simp(maxSteps:=4000000)(disch:=first|exact ddL|fail) only[go_sem,simprocAttr,a,b,c,d,f,g];exact h):p:=e a b c d f g h
theorem wZ7{p q A1 B1 C1 D1 F1 G1 I1:Prop}(a:A1)(b:B1)(c:C1)(d:D1)(f:F1)(g:G1)(i:I1)(h:q)(e:A1→B1→C1→D1→F1→G1→I1→q→p:=by intro a b c d f g i h;simp(maxSteps:=4000000)(disch:=first|exact ddL|fail) only[go_sem,simprocAttr,a,b,c,d,f,g,i];exact h):p:=e a b c d f g i h
theorem wZ8{p q A1 B1 C1 D1 F1 G1 I1 J1:Prop}(a:A1)(b:B1)(c:C1)(d:D1)(f:F1)(g:G1)(i:I1)(j:J1)(h:q)(e:A1→B1→C1→D1→F1→G1→I1→J1→q→p:=by intro a b c d f g i j h;simp(maxSteps:=4000000)(disch:=first|exact ddL|fail) only[go_sem,simprocAttr,a,b,c,d,f,g,i,j];exact h):p:=e a b c d f g i j h
theorem wZ9{p q A1 B1 C1 D1 F1 G1 I1 J1 K1:Prop}(a:A1)(b:B1)(c:C1)(d:D1)(f:F1)(g:G1)(i:I1)(j:J1)(k:K1)(h:q)(e:A1→B1→C1→D1→F1→G1→I1→J1→K1→q→p:=by intro a b c d f g i j k h;simp(maxSteps:=4000000)(disch:=first|exact ddL|fail) only[go_sem,simprocAttr,a,b,c,d,f,g,i,j,k];exact h):p:=e a b c d f g i j k h
theorem wZ10{p q A1 B1 C1 D1 F1 G1 I1 J1 K1 L1:Prop}(a:A1)(b:B1)(c:C1)(d:D1)(f:F1)(g:G1)(i:I1)(j:J1)(k:K1)(l:L1)(h:q)(e:A1→B1→C1→D1→F1→G1→I1→J1→K1→L1→q→p:=by intro a b c d f g i j k l h;simp(maxSteps:=4000000)(disch:=first|exact ddL|fail) only[go_sem,simprocAttr,a,b,c,d,f,g,i,j,k,l];exact h):p:=e a b c d f g i j k l h
theorem wZ11{p q A1 B1 C1 D1 F1 G1 I1 J1 K1 L1 M1:Prop}(a:A1)(b:B1)(c:C1)(d:D1)(f:F1)(g:G1)(i:I1)(j:J1)(k:K1)(l:L1)(m:M1)(h:q)(e:A1→B1→C1→D1→F1→G1→I1→J1→K1→L1→M1→q→p:=by intro a b c d f g i j k l m h;simp(maxSteps:=4000000)(disch:=first|exact ddL|fail) only[go_sem,simprocAttr,a,b,c,d,f,g,i,j,k,l,m];exact h):p:=e a b c d f g i j k l m h
theorem wZ13{p q A1 B1 C1 D1 F1 G1 I1 J1 K1 L1 M1 N1 O1:Prop}(a:A1)(b:B1)(c:C1)(d:D1)(f:F1)(g:G1)(i:I1)(j:J1)(k:K1)(l:L1)(m:M1)(n:N1)(o:O1)(h:q)(e:A1→B1→C1→D1→F1→G1→I1→J1→K1→L1→M1→N1→O1→q→p:=by intro a b c d f g i j k l m n o h;simp(maxSteps:=4000000)(disch:=first|exact ddL|fail) only[go_sem,simprocAttr,a,b,c,d,f,g,i,j,k,l,m,n,o];exact h):p:=e a b c d f g i j k l m n o h
theorem wZ14{p q A1 B1 C1 D1 F1 G1 I1 J1 K1 L1 M1 N1 O1 R1:Prop}(a:A1)(b:B1)(c:C1)(d:D1)(f:F1)(g:G1)(i:I1)(j:J1)(k:K1)(l:L1)(m:M1)(n:N1)(o:O1)(r:R1)(h:q)(e:A1→B1→C1→D1→F1→G1→I1→J1→K1→L1→M1→N1→O1→R1→q→p:=by intro a b c d f g i j k l m n o r h;simp(maxSteps:=4000000)(disch:=first|exact ddL|fail) only[go_sem,simprocAttr,a,b,c,d,f,g,i,j,k,l,m,n,o,r];exact h):p:=e a b c d f g i j k l m n o r h
theorem wC0{p:Prop}(e:p:=by simp(maxSteps:=4000000)(disch:=first|exact ddL|fail) only[go_sem,simprocAttr]):p:=e
theorem wC1{p A1:Prop}(a:A1)(e:A1→p:=by intro a;simp(maxSteps:=4000000)(disch:=first|exact ddL|fail) only[go_sem,simprocAttr,a]):p:=e a
theorem wC2{p A1 B1:Prop}(a:A1)(b:B1)(e:A1→B1→p:=by intro a b;simp(maxSteps:=4000000)(disch:=first|exact ddL|fail) only[go_sem,simprocAttr,a,b]):p:=e a b
theorem wC3{p A1 B1 C1:Prop}(a:A1)(b:B1)(c:C1)(e:A1→B1→C1→p:=by intro a b c;simp(maxSteps:=4000000)(disch:=first|exact ddL|fail) only[go_sem,simprocAttr,a,b,c]):p:=e a b c
theorem wC4{p A1 B1 C1 D1:Prop}(a:A1)(b:B1)(c:C1)(d:D1)(e:A1→B1→C1→D1→p:=by intro a b c d;simp(maxSteps:=4000000)(disch:=first|exact ddL|fail) only[go_sem,simprocAttr,a,b,c,d]):p:=e a b c d
theorem wC5{p A1 B1 C1 D1 F1:Prop}(a:A1)(b:B1)(c:C1)(d:D1)(f:F1)(e:A1→B1→C1→D1→F1→p:=by intro a b c d f;simp(maxSteps:=4000000)(disch:=first|exact ddL|fail) only[go_sem,simprocAttr,a,b,c,d,f]):p:=e a b c d f
theorem wC6{p A1 B1 C1 D1 F1 G1:Prop}(a:A1)(b:B1)(c:C1)(d:D1)(f:F1)(g:G1)(e:A1→B1→C1→D1→F1→G1→p:=by intro a b c d f g;simp(maxSteps:=4000000)(disch:=first|exact ddL|fail) only[go_sem,simprocAttr,a,b,c,d,f,g]):p:=e a b c d f g
theorem wC7{p A1 B1 C1 D1 F1 G1 I1:Prop}(a:A1)(b:B1)(c:C1)(d:D1)(f:F1)(g:G1)(i:I1)(e:A1→B1→C1→D1→F1→G1→I1→p:=by intro a b c d f g i;simp(maxSteps:=4000000)(disch:=first|exact ddL|fail) only[go_sem,simprocAttr,a,b,c,d,f,g,i]):p:=e a b c d f g i
theorem wC8{p A1 B1 C1 D1 F1 G1 I1 J1:Prop}(a:A1)(b:B1)(c:C1)(d:D1)(f:F1)(g:G1)(i:I1)(j:J1)(e:A1→B1→C1→D1→F1→G1→I1→J1→p:=by intro a b c d f g i j;simp(maxSteps:=4000000)(disch:=first|exact ddL|fail) only[go_sem,simprocAttr,a,b,c,d,f,g,i,j]):p:=e a b c d f g i j
attribute [go_sem] td3 td4 td5 td9 VQ KA VR Uk Ul Xw Xx Xy Xz B2 XA XB XC XD XE Bb KB Sb Um XF XG B3 W8 XH LP UO WN Sa WO WQ WR WS WT WU WV WW WX WY WZ W0 mX W3 H0 W4 W5 W6 UP W7 Ww
end
end Go.Proofs.YtppdgejjmhdjhaaGreatDoor
