/- Parts of the proof, joined; conditions: those that its theorems name. -/
import Derived.Test.YtppdgejjmhdjhaaGreatDoorMan
import Derived.Test.YtppdgejjmhdjhaaGreatDoorMar
import Derived.Lib.IndexMore
set_option linter.unusedVariables false
set_option linter.unusedSimpArgs false
set_option maxHeartbeats 4000000
namespace Go.Proofs.YtppdgejjmhdjhaaGreatDoor
section
set_option maxRecDepth 100000
set_option maxHeartbeats 4000000
def fnG:List (FuncId × (List MV→MV))→bJ
 | []=>fun _ _=>none
 | p::r=>fun g ms=>if p.1=g then some ⟨[],fun v=>v=p.2 ms,none⟩ else fnG r g ms
theorem Cj{g:FuncId}{u:List MV→MV}{r:List (FuncId × (List MV→MV))}{ms:List MV}{x:MV}(h:u ms=x):fnG ((g,u)::r) g ms=some ⟨[],fun v=>v=x,none⟩:=by
 subst h
 simp[fnG]
theorem Fx{g g':FuncId}{u:List MV→MV}{r:List (FuncId × (List MV→MV))}{ms:List MV}{F:Fact}(hne:(g'==g)=false)(h:fnG r g ms=some F):fnG ((g',u)::r) g ms=some F:=by
 have:g'≠g:=by simpa using hne
 simp[fnG,this,h]
theorem extract_eq(A B:ByteArray)(i:Nat):A.extract i (i+B.size)=B↔(A.data.toList.drop i).take B.size=B.data.toList:=by
 have e:(A.extract i (i+B.size)).data.toList=(A.data.toList.drop i).take B.size:=by
  simp[ByteArray.data_extract,Array.toList_extract,List.extract_eq_take_drop]
 constructor
 ·intro h
  rw[←e,h]
 ·intro h
  rw[←e] at h
  exact ByteArray.ext (Array.toList_inj.1 h)
theorem qL(A B:ByteArray):qK A B=Go.Lib.contains A.data.toList B.data.toList:=by
 have hla:A.data.toList.length=A.size:=by rw[Array.length_toList];rfl
 have hlb:B.data.toList.length=B.size:=by rw[Array.length_toList];rfl
 have hocc:∀i,Go.Lib.occAt A.data.toList B.data.toList i=true↔(A.data.toList.drop i).take B.size=B.data.toList:=fun i=>by
  unfold Go.Lib.occAt
  rw[List.isPrefixOf_iff_prefix,List.prefix_iff_eq_take,hlb]
  exact eq_comm
 rw[Bool.eq_iff_iff]
 unfold qK Go.Lib.contains
 rw[List.any_eq_true,decide_eq_true_iff]
 constructor
 ·rintro⟨i,hi,h⟩
  have hi:=List.mem_range.1 hi
  have h:=(extract_eq A B i).1 (of_decide_eq_true h)
  rcases Go.Lib.index_spec A.data.toList B.data.toList with⟨_,h2⟩|⟨j,h1,_⟩
  ·have:=h2 i (by omega)
   rw[(hocc i).2 h] at this
   cases this
  ·omega
 ·intro h
  rcases Go.Lib.index_spec A.data.toList B.data.toList with⟨h1,_⟩|⟨j,h1,h2,h3,_⟩
  ·omega
  ·have h4:=(hocc j).1 h3
   have h5:=congrArg List.length h4
   rw[List.length_take,List.length_drop,hla,hlb] at h5
   refine⟨j,List.mem_range.2 (by omega),decide_eq_true ((extract_eq A B j).2 h4)⟩
theorem zB(a b:VA)(ha:a.s.size≤1000000)(hb:b.s.size≤1000000):aA Tryz.prog 261 [.agg a.c,.agg b.c] St.none (fun r _=>r=.bool (lJ a b)):=by
 refine aA.dF (aA.body 22 [.tmp 4] Tryz.func261 rfl rfl rfl rfl ?_)
 have f1:=qN a.s ha
 have f2:=qN b.s hb
 have hc:=nV (eV a.s) (eV b.s) (by rw[AH];exact ha)
 rw[←qL] at hc
 have hd:lJ a b=(decide (a.kd=2)&&decide (b.kd=2)&&qK (eV a.s) (eV b.s)):=rfl
 obtain⟨C,c1,c2⟩:∃C:bJ,(∀s,C 297 [.str s]=some ⟨[],fun v=>v=.str (eV s),none⟩)∧(∀ms,C 296 ms=some ⟨[],fun v=>v=.bool (qK (eV a.s) (eV b.s)),none⟩) :=
  ⟨fnG [(297,fun ms=>match ms with|[.str s]=>.str (eV s)|_=>.junk),(296,fun _=>.bool (qK (eV a.s) (eV b.s)))],fun s=>Cj rfl,fun _=>Fx rfl (Cj rfl)⟩
 have c1a:=c1 a.s
 have c1b:=c1 b.s
 clear c1
 generalize qK (eV a.s) (eV b.s)=p at hc hd c2
 generalize lJ a b=out at hd ⊢
 by_cases e1:a.kd=2
 ·by_cases e2:b.kd=2
  ·rw[decide_eq_true e1,decide_eq_true e2,Bool.true_and,Bool.true_and] at hd
   subst hd
   repeat' (first|((with_reducible refine bL mixed ?chk C ?_);(case chk=>decide +kernel))|(with_reducible refine aY c1a f1 ?_)|(with_reducible refine aY c1b f2 ?_)|(with_reducible refine aY (c2 _) hc ?_)|(with_reducible first|(refine wN fun _ hnl=>?_;revert hnl;(repeat refine wS fun _ _=>?_);intro hnl)|refine wE ?_|(refine wK ?_ ?_<;>intro h)|(refine wB ?_ ?_<;>intro h<;>simp only[h]))|simp(maxSteps:=4000000) (disch:=first|exact ddL|fail) only[go_sem,simprocAttr,Tryz.f261,e1,e2])
   all_goals first|exact⟨_,St.le_refl _,rfl⟩|exact⟨_,St.le_refl _⟩
  ·rw[decide_eq_false e2,Bool.and_false,Bool.false_and] at hd
   subst hd
   repeat' (first|((with_reducible refine bL mixed ?chk C ?_);(case chk=>decide +kernel))|(with_reducible refine aY c1a f1 ?_)|(with_reducible refine aY c1b f2 ?_)|(with_reducible refine aY (c2 _) hc ?_)|(with_reducible first|(refine wN fun _ hnl=>?_;revert hnl;(repeat refine wS fun _ _=>?_);intro hnl)|refine wE ?_|(refine wK ?_ ?_<;>intro h)|(refine wB ?_ ?_<;>intro h<;>simp only[h]))|simp(maxSteps:=4000000) (disch:=first|exact ddL|fail) only[go_sem,simprocAttr,Tryz.f261,e1,e2])
   all_goals first|exact⟨_,St.le_refl _,rfl⟩|exact⟨_,St.le_refl _⟩
 ·rw[decide_eq_false e1,Bool.false_and,Bool.false_and] at hd
  subst hd
  repeat' (first|((with_reducible refine bL mixed ?chk C ?_);(case chk=>decide +kernel))|(with_reducible refine aY c1a f1 ?_)|(with_reducible refine aY c1b f2 ?_)|(with_reducible refine aY (c2 _) hc ?_)|(with_reducible first|(refine wN fun _ hnl=>?_;revert hnl;(repeat refine wS fun _ _=>?_);intro hnl)|refine wE ?_|(refine wK ?_ ?_<;>intro h)|(refine wB ?_ ?_<;>intro h<;>simp only[h]))|simp(maxSteps:=4000000) (disch:=first|exact ddL|fail) only[go_sem,simprocAttr,Tryz.f261,e1])
  all_goals first|exact⟨_,St.le_refl _,rfl⟩|exact⟨_,St.le_refl _⟩
end

section
structure CD where
 id:Int
 ver:Int
 lab:Nat
 f:List VA
abbrev fcs(f:List VA):List MV:=(f.map VA.c).flatten
abbrev CD.c(c:CD):List MV:=.int .i64 c.id::.int .i64 c.ver::.int .u32 (c.lab:Int)::fcs c.f
theorem E4{v w:VA}:decide (v.kd=w.kd∧v.n=w.n∧v.s=w.s)=decide (v=w) :=
 decide_eq_decide.2 ⟨fun⟨h1,h2,h3⟩=>by cases v;cases w;simp only at h1 h2 h3;rw[h1,h2,h3],fun h=>by rw[h];exact⟨rfl,rfl,rfl⟩⟩
def dU(c:CD)(g:Nat)(n:ND):Bool :=
 if n.op=1 then true else if n.op=3 then hasB c.lab n.n else if n.op=4 then hasB g n.n
 else if n.op=5 then !decide ((c.f.getD n.n.toNat va0).kd=0)
 else if n.op=6 then decide (c.f.getD n.n.toNat va0=n.v)
 else if n.op=7 then j8 (c.f.getD n.n.toNat va0) n.v
 else if n.op=8 then j8 n.v (c.f.getD n.n.toNat va0)
 else if n.op=9 then lJ (c.f.getD n.n.toNat va0) n.v
 else false
structure CF (c:CD):Prop where
 len:c.f.length=8
 size:∀v,v∈c.f→v.s.size≤1000000
 lab:c.lab<4294967296
end

section
inductive InD (D:Nat→Prop):MV→Prop where
 | flat {m:MV} (h:Flat m):InD D m
 | ptr {l i o:Nat} (h:D l):InD D (.ptr l i o)
 | vec {e l lo n:Nat} (h:D l):InD D (.vec e l lo n)
 | mapv {l:Nat} (h:D l):InD D (.mapv l)
 | lst {e:Nat} {xs:List (List MV)} {t:Bool} (h:∀x,x∈xs→∀m,m∈x→InD D m):InD D (.lst e xs t)
 | cptr {cs:List MV} (h:∀m,m∈cs→InD D m):InD D (.cptr cs)
 | agg {cs:List MV} (h:∀m,m∈cs→InD D m):InD D (.agg cs)
 | fn {f:Fn} {ms ns:List MV} (h1:∀m,m∈ms→InD D m) (h2:∀m,m∈ns→InD D m):InD D (.fn f ms ns)
theorem InD.of{D:Nat→Prop}{m:MV}(h:iI m):InD D m:=by
 induction h with
 | flat h=>exact .flat h
 | lst _ ih=>exact .lst ih
 | cptr _ ih=>exact .cptr ih
 | agg _ ih=>exact .agg ih
theorem InD.rel{D:Nat→Prop}{Φ Φ':Phi}(hs:∀a v,Φ.snap a=some v→Φ'.snap a=some v)(ho:∀l p,D l→Φ.obj l=some p→Φ'.obj l=some p){m:MV}(h:InD D m):∀{v:Value},Rel Φ v m→Rel Φ' v m:=by
 induction h with
 | flat h=>intro v r;exact h.rel r
 | ptr h =>
  intro v r
  cases r with
  | ptr h1 h2=>exact .ptr (ho _ _ h h1) h2
 | vec h =>
  intro v r
  cases r with
  | vec h1 h2 h3 h4=>exact .vec (ho _ _ h h1) h2 h3 h4
  | vec0 a h1 h2=>exact .vec0 a (ho _ _ h h1) h2
  | vecn h1 h2 h3=>exact .vecn (ho _ _ h h1) h2 h3
 | mapv h =>
  intro v r
  cases r with
  | mapv h1 h2=>exact .mapv (ho _ _ h h1) h2
 | lst h ih =>
  intro v r
  cases r with
  | lstn=>exact .lstn _ _
  | lst0 a _ cap _ ht hm=>exact .lst0 a _ cap _ ht hm
  | lst hl h0 hcap hm ht hx vs hc hr =>
   exact .lst hl h0 hcap hm ht hx vs (fun i x j m a b=>⟨(hc i x j m a b).1,hs _ _ (hc i x j m a b).2⟩) fun i x j m a b=>ih x (List.mem_of_getElem? a) m (List.mem_of_getElem? b) (hr i x j m a b)
 | cptr h ih =>
  intro v r
  cases r with
  | cptr vs hc hr=>exact .cptr vs (fun j m hm=>⟨(hc j m hm).1,hs _ _ (hc j m hm).2⟩) fun j m hm=>ih m (List.mem_of_getElem? hm) (hr j m hm)
 | agg h ih =>
  intro v r
  cases r with
  | agg h1 h2 h3=>exact .agg h1 h2 fun i m hm=>ih m (List.mem_of_getElem? hm) (h3 i m hm)
 | fn h1 h2 ih1 ih2 =>
  intro v r
  cases r with
  | fn _ k1 k2 r1 r2=>exact .fn _ k1 k2 (fun i m hm=>ih1 m (List.mem_of_getElem? hm) (r1 i m hm)) fun i m hm=>ih2 m (List.mem_of_getElem? hm) (r2 i m hm)
def Jk(P:Program)(g:FuncId)(ns:List MV)(σi:St)(xs:List (List MV))(K:St→Prop):Prop :=
 Enters P g∧∀(l:Nat) (Y:Nat→YS→Prop) (Yx:YS→Prop) (Φ:Phi) (w:World) (S:YS) (vs:Array Value),mA P l xs Y Yx Φ σi w.heap.size→Inv Φ w σi→Apt Φ σi S w→Y 0 S→eI Φ vs ns →
  Calls P g (#[.func (.yield l) #[] #[]]++vs) w fun e w'=>∃v Φ' σ' S',e=.returned v∧Inv Φ' w' σ'∧Apt Φ' σ' S' w'∧cH Φ σi w S Φ' σ' w' S'∧(Y xs.length S'∨Yx S')∧K σ'
def KI(n:Nat)(K:St→Prop):YQ
 | .normal,f,σ,t=>f.d=[]∧(t=some n∨t=none)∧K σ
 | .ret,f,σ,t=>f.d=[]∧(t=some n∨t=none)∧K σ
 | _,_,_,_=>False
theorem xW{P:Program}{fn:Func}{tmps:Array Value}{C:YC}{t:Option Nat}(hrs:fn.results.toList=[]){Φ0:Phi}{σ0:St}{w0:World}{S0:YS}(h0:Φ0.base=w0.heap.size){R:Ending→World→Prop}{K:St→Prop}(hR:∀v Φ' w' σ' S',fP C Φ' σ' w' S' t→cH Φ0 σ0 w0 S0 Φ' σ' w' S'→K σ'→R (.returned v) w') :
  ∀(ds:List Deferred) (Φ:Phi) (w:World) (σ:St) (S:YS),cF Φ w ds []→fP C Φ σ w S t→cH Φ0 σ0 w0 S0 Φ σ w S→K σ→fI P fn tmps R ds w:=by
 intro ds
 induction ds with
 | nil =>
  intro Φ w σ S _ hi hs hk
  refine⟨.tuple #[],?_,hR _ Φ w σ S hi hs hk⟩
  rw[jL]
  have:fn.results=#[]:=Array.toList_eq_nil_iff.1 hrs
  simp only[this]
  first|rfl|simp[Sem.run_bind,Sem.run_pure]
 | cons x ds ih =>
  intro Φ w σ S hd hi hs hk
  rcases hd with⟨D,h1,h2,h3,h4,h5⟩|⟨g,ms,r,cap,h,_⟩
  ·refine .inl ⟨D,_,h1,run_takeDeferred h3,?_⟩
   have hDb:w0.heap.size≤D:=by rw[←h0,←hs.le.base];exact h2
   have i':=hi.inv.putObj (.deferred none) h3 (fun _ _ _ e=>by cases e) (fun _ _ e=>by cases e)
   have s':cH Φ0 σ0 w0 S0 Φ σ (w.putObj D (.deferred none)) S :=
    ⟨hs.le,hs.os,hs.tape,hs.output,hs.drawn,by rw[World.putObj_size];exact hs.size,fun k hk hn hw=>(World.putObj_heap_other (by omega)).trans (hs.block k hk hn hw),hs.snapn,hs.ownd,hs.wr,hs.sn⟩
   refine ih Φ _ σ S ?_ ⟨i',hi.apt.putObj _ h3,hi.snapn,hi.ownd,by rw[World.putObj_size];exact hi.size,hi.st⟩ s' hk
   have:∀(xs:List Deferred) (d:List (FuncId × List MV)),(∀y,y∈xs→y.target≠.collected D)→cF Φ w xs d→cF Φ (w.putObj D (.deferred none)) xs d:=by
    intro xs
    induction xs with
    | nil=>intro d _ h;exact⟨h.1,by rw[World.putObj_size];exact h.2⟩
    | cons y xs ihx =>
     intro d hy h
     rcases h with⟨D',k1,k2,k3,k4,k5⟩|⟨g,ms,r,cap,k1,k2,k3,k4⟩
     ·refine .inl ⟨D',k1,k2,?_,k4,ihx d (fun z hz=>hy z (by simp[hz])) k5⟩
      rw[World.putObj_heap_other]
      ·exact k3
      ·intro e;exact hy y (by simp) (by rw[k1,e])
     ·exact .inr ⟨g,ms,r,cap,k1,k2,k3,ihx r (fun z hz=>hy z (by simp[hz])) k4⟩
   exact this ds [] h4 h5
  ·cases h
theorem Jk.kO{P:Program}{g:FuncId}{fn:Func}{c:Code}{ns:List MV}{σi:St}{xs:List (List MV)}{K:St→Prop}(n:Nat)(hf:P.funcs[g]?=some fn)(hb:fn.body=some c)(hn:(fn.name == "runtime.NumGoroutine")=false)
 (hn':max fn.ntmps (ns.length+1)=n)(hrs:fn.results.toList=[])
 (h:∀C:YC,C.xs=xs→mA P C.l C.xs C.Y C.Yx C.Φ0 C.σ0 C.n0→ywp P C c ⟨n,hO 0 (.fn (.yield C.l) [] []::ns),[]⟩ σi (some 0) (KI xs.length K)):Jk P g ns σi xs K:=by
 refine⟨⟨fn,hf,by simp[hb],hn⟩,fun l Y Yx Φ w S vs hspec hi ha h0 hr=>?_⟩
 obtain⟨C,hC⟩:∃C:YC,C=⟨l,xs,Y,Yx,Φ.aM w.heap.size,σi,w.heap.size⟩:=⟨_,rfl⟩
 have hargs:eI (Φ.aM w.heap.size) (#[Value.func (.yield l) #[] #[]]++vs) (.fn (.yield l) [] []::ns):=by
  refine⟨by simp[hr.1];omega,fun i m hm=>?_⟩
  cases i with
  | zero =>
   simp only[List.getElem?_cons_zero,Option.some.injEq] at hm
   subst hm
   have e:(#[Value.func (.yield l) #[] #[]]++vs).getD 0 undef=Value.func (.yield l) #[] #[]:=by
    simp[Array.getD_eq_getD_getElem?,Array.getElem?_append]
   rw[e]
   exact mP _ (.func (.yield l) #[] #[])
  | succ i =>
   have:=(hr.2 i m (by simpa using hm)).aM w.heap.size
   have e:(#[Value.func (.yield l) #[] #[]]++vs).getD (i+1) undef=vs.getD i undef:=by
    simp[Array.getD_eq_getD_getElem?,Array.getElem?_append]
   rw[e];exact this
 have hfr:=nH (fn:=fn) hargs
 rw[List.length_cons,hn'] at hfr
 have hbody:=h C (by rw[hC]) (by rw[hC];exact hspec.aM _)
 have hst:fP C (Φ.aM w.heap.size) σi w S (some 0):=by
  subst hC
  exact⟨hi.aM _,ha.aM _,fun a v q=>.inl q,fun R q=>.inl q,Nat.le_refl _,h0⟩
 have hl:C.l=l:=by rw[hC]
 rw[hl] at hbody
 refine(iY (R:=fun e w'=>∃v Φ' σ' S',e=.returned v∧(fP C Φ' σ' w' S' (some xs.length)∨fP C Φ' σ' w' S' none)∧cH (Φ.aM w.heap.size) σi w S Φ' σ' w' S'∧K σ') hf hb (wp_mono (wpIn_wide.1 (hbody _ .wide (Φ.aM w.heap.size) w { tmps:=_,defers:=[] } S hst hfr ⟨rfl,Nat.le_refl _⟩)) ?_)).mono ?_
 ·rintro e a' w' ⟨f',σ',t',Φ',S',q1,q2,q3,q4,q5⟩
  have fin:(t'=some xs.length∨t'=none)→f'.d=[]→K σ'→fI P fn a'.tmps (fun e w'=>∃v Φ' σ' S',e=.returned v∧(fP C Φ' σ' w' S' (some xs.length)∨fP C Φ' σ' w' S' none)∧cH (Φ.aM w.heap.size) σi w S Φ' σ' w' S'∧K σ') a'.defers w':=by
   intro ht hd hk
   rw[hd] at q3
   rcases ht with rfl|rfl
   ·exact xW (K:=K) (P:=P) (fn:=fn) (tmps:=a'.tmps) hrs (Φ0:=Φ.aM w.heap.size) (w0:=w) rfl (fun v Φ'' w'' σ'' S'' q qs k=>⟨v,Φ'',σ'',S'',rfl,.inl q,qs,k⟩) a'.defers Φ' w' σ' S' q3 q1 q4 hk
   ·exact xW (K:=K) (P:=P) (fn:=fn) (tmps:=a'.tmps) hrs (Φ0:=Φ.aM w.heap.size) (w0:=w) rfl (fun v Φ'' w'' σ'' S'' q qs k=>⟨v,Φ'',σ'',S'',rfl,.inr q,qs,k⟩) a'.defers Φ' w' σ' S' q3 q1 q4 hk
  cases e with
  | normal=>exact⟨.inl rfl,fin q5.2.1 q5.1 q5.2.2⟩
  | ret=>exact⟨.inr rfl,fin q5.2.1 q5.1 q5.2.2⟩
  | _=>exact q5.elim
 ·rintro e w' ⟨v,Φ',σ',S',rfl,q,qs,hk⟩
  subst hC
  rcases q with q|q
  ·exact⟨v,Φ'.aM Φ.base,σ',S',rfl,q.inv.aM _,q.apt.aM _,qs.aM,.inl q.st,hk⟩
  ·exact⟨v,Φ'.aM Φ.base,σ',S',rfl,q.inv.aM _,q.apt.aM _,qs.aM,.inr q.st,hk⟩
structure pB (A:Nat→Prop) (Φ0:Phi) (σ0:St) (n0:Nat) (Φ:Phi) (σ:St):Prop where
 le:Φ0.le Φ
 snapn:∀a v,Φ.snap a=some v→Φ0.snap a=some v∨n0≤a.block∨aN Φ0 σ0 a.block
 locs:∀l o,σ l=some o→A l∨Φ0.obj l=none
 ownd:∀R,aN Φ σ R→aN Φ0 σ0 R∨n0≤R
theorem pB.step{A:Nat→Prop}{Φ0 Φ Φ':Phi}{σ0 σ σ':St}{n0:Nat}{w w':World}(h:pB A Φ0 σ0 n0 Φ σ)(hn:n0≤w.heap.size)(k:Step Φ σ w Φ' σ' w'):pB A Φ0 σ0 n0 Φ' σ' where
 le:=h.le.trans k.le
 snapn:=fun a v hv=>by
  rcases k.snapn a v hv with q|q|q
  ·exact h.snapn a v q
  ·exact .inr (.inl (Nat.le_trans hn q))
  ·rcases h.ownd _ q with q|q
   ·exact .inr (.inr q)
   ·exact .inr (.inl q)
 locs:=fun l o hl=>by
  rcases k.locs l o hl with⟨o',q⟩|q
  ·exact h.locs l o' q
  ·right
   cases hl:Φ0.obj l with
   | none=>rfl
   | some p=>have:=h.le.obj l p hl;simp[this] at q
 ownd:=fun R hR=>by
  rcases k.ownd R hR with q|q
  ·exact h.ownd R q
  ·exact .inr (Nat.le_trans hn q)
structure HO (A:Nat→Prop) (Φ0:Phi) (σ0:St) (n0:Nat) (tmps:Array Value) (fc:FR) (l:Nat) (st:Loop) (σ:St) (S:YS) (Φ:Phi):Prop where
 inv:Inv Φ S.w σ
 frame:bS Φ tmps fc
 step:pB A Φ0 σ0 n0 Φ σ
 wr:∀k,S.wr k↔(aN Φ σ k∨k=l)
 sn:∀a,S.sn a=Φ.snap a
 lrec:S.w.heap[l]?=some (.loop st)
 size:n0≤S.w.heap.size
 base:Φ.base≤S.w.heap.size
theorem HO.agree{A:Nat→Prop}{Φ0 Φ:Phi}{σ0 σ:St}{n0:Nat}{tmps:Array Value}{fc:FR}{l:Nat}{st:Loop}{S:YS}(h:HO A Φ0 σ0 n0 tmps fc l st σ S Φ):jQ S S.w :=
 ⟨fun _ _=>rfl,fun k hk=>by
  rcases (h.wr k).1 hk with q|rfl
  ·obtain⟨l',o,p,h1,h2,h3⟩:=q
   obtain⟨p',e,hlt⟩:=(h.inv.own l' o h1).place
   rw[h2] at e;cases e
   exact hlt k h3
  ·exact(Array.getElem?_eq_some_iff.1 h.lrec).1,(fun k hk x e=>by
  rcases (h.wr k).1 hk with q|rfl
  ·exact h.inv.mark e q
  ·rw[h.lrec] at e;cases e),fun a v q=>h.inv.snap a v (by rw[←h.sn a];exact q),Nat.le_refl _,rfl,rfl,rfl,Nat.le_refl _⟩
theorem HO.at{A:Nat→Prop}{Φ0 Φ:Phi}{σ0 σ:St}{n0:Nat}{tmps:Array Value}{fc:FR}{l:Nat}{st:Loop}{S:YS}(h:HO A Φ0 σ0 n0 tmps fc l st σ S Φ){w:World}(ha:jQ S w){Ψ:Phi}(ho:∀m,Ψ.obj m=none)
 (hs:∀a v,Ψ.snap a=some v→w.cell? a=some v∧¬S.wr a.block∧(Φ0.snap a=some v∨n0≤a.block∨aN Φ0 σ0 a.block)) :
  ∃Φ',Inv Φ' w σ∧bS Φ' tmps fc∧pB A Φ0 σ0 n0 Φ' σ∧(∀k,aN Φ' σ k↔aN Φ σ k)∧(∀a v,Φ'.snap a=some v→S.sn a=some v∨Ψ.snap a=some v)∧(∀v m,Rel Ψ v m→Rel Φ' v m)∧w.heap[l]?=some (.loop st)∧Φ'.base≤w.heap.size:=by
 obtain⟨Φ',hΦ⟩:∃Φ':Phi,Φ'={ Φ with snap:=fun a=>match Φ.snap a with|some v=>some v|none=>Ψ.snap a }:=⟨_,rfl⟩
 have hle:Φ.le Φ':=by subst hΦ;exact⟨fun a v q=>by simp[q],fun _ _ q=>q,rfl⟩
 have hobj:Φ'.obj=Φ.obj:=by subst hΦ;rfl
 have hb:Φ'.base=Φ.base:=by subst hΦ;rfl
 have hsn:∀a v,Φ'.snap a=some v→Φ.snap a=some v∨Ψ.snap a=some v:=fun a v q=>by
  subst hΦ
  simp only at q
  cases e:Φ.snap a with
  | none=>rw[e] at q;exact .inr q
  | some u=>rw[e] at q;exact .inl q
 have hwr:∀k,aN Φ σ k→w.heap[k]?=S.w.heap[k]?:=fun k hk=>ha.same k ((h.wr k).2 (.inl hk))
 have hown:∀k,aN Φ' σ k↔aN Φ σ k:=fun k=>by unfold aN;rw[hobj]
 refine⟨Φ',⟨fun l' o hl=>(h.inv.own l' o hl).mono hle fun p R h1 h2=>hwr R ⟨l',o,p,hl,h1,h2⟩,fun a b o o' p p' R h1 h2 h3 h4=>?_,fun a v q=>?_,fun l' o p R a v h1 h2 h3 q=>?_,?_⟩,h.frame.mono hle,⟨h.step.le.trans hle,fun a v q=>?_,h.step.locs,fun R hR=>h.step.ownd R ((hown R).1 hR)⟩,hown,fun a v q=>?_,fun v m r=>?_,?_,?_⟩
 ·rw[hobj] at h3 h4;exact h.inv.inj a b o o' p p' R h1 h2 h3 h4
 ·rcases hsn a v q with q|q
  ·exact ha.sn a v (by rw[h.sn a];exact q)
  ·exact(hs a v q).1
 ·rw[hobj] at h2
  rcases hsn a v q with q|q
  ·exact h.inv.apart l' o p R a v h1 h2 h3 q
  ·intro e
   exact(hs a v q).2.1 ((h.wr _).2 (.inl ⟨l',o,p,h1,h2,e ▸ h3⟩))
 ·obtain⟨n,hn⟩:=h.inv.fresh.1.1
  exact⟨⟨⟨n,fun k hk=>by rw[hobj];exact hn k hk⟩,fun k p hk=>h.inv.fresh.1.2 k p (by rw[←hobj];exact hk)⟩,fun g i v q=>hle.snap _ _ (h.inv.fresh.2.1 g i v q),h.inv.fresh.2.2.mono hle.snap⟩
 ·rcases hsn a v q with q|q
  ·exact h.step.snapn a v q
  ·exact(hs a v q).2.2
 ·rcases hsn a v q with q|q
  ·exact .inl (by rw[h.sn a];exact q)
  ·exact .inr q
 ·refine r.yL (fun a u q=>?_) (fun l' p q=>by rw[ho l'] at q;cases q)
  have h1:=(hs a u q).1
  subst hΦ
  simp only
  cases e:Φ.snap a with
  | none=>exact q
  | some u' =>
   have h2:=ha.sn a u' (by rw[h.sn a];exact e)
   rw[h1] at h2
   simpa using h2.symm
 ·rw[ha.same l ((h.wr l).2 (.inr rfl))];exact h.lrec
 ·rw[hb];exact Nat.le_trans h.base ha.size
end
end Go.Proofs.YtppdgejjmhdjhaaGreatDoor
