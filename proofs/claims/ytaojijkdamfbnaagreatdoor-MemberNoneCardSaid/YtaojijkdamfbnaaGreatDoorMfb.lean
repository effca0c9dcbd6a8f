/- Parts of the proof, joined; conditions: those that its theorems name. -/
import Derived.Test.YtaojijkdamfbnaaGreatDoorMfa
import Derived.Laws.BytesArg
import Derived.MapKept
import Derived.Maps.RangeRun
import Derived.RangeFuncLeaves
import Derived.RangeFuncRecord
set_option linter.unusedVariables false
set_option linter.unusedSimpArgs false
set_option maxHeartbeats 4000000
namespace Go.Proofs.YtaojijkdamfbnaaGreatDoor
section
section
variable {P:Program}
theorem zK{Φ:Phi}{w w':World}{σ:St}(hi:Inv Φ w σ){l':Nat}(hl':Φ.obj l'=none){el:TypeId}{e n C:Nat}{xs:List (List MV)}{c:Array Value}{fz:Nat × Nat}
 (hx:∀(i:Nat) (x:List MV),xs[i]?=some x→x.length=e)(hn:xs.length=n)(hC:n≤C)(hmax:C≤maxLen)(hh:w'.heap=w.heap.push (.cells c el fz))(h1:w'.os=w.os)(h2:w'.tape=w.tape)(h3:w'.output=w.output)(h4:drw w≤drw w')
 (hf:xZ c fz)(hsz:C * e≤c.size)(hc:∀(i:Nat) m,xs.flatten[i]?=some m→m.aP=true∧∃v,c[i]?=some v∧Rel Φ v m) :
  Inv (Φ.put l' ⟨some w.heap.size,0,e,C⟩) w' (σ.set l' (.row el e xs))∧Step Φ σ w (Φ.put l' ⟨some w.heap.size,0,e,C⟩) (σ.set l' (.row el e xs)) w' ∧
  Rel (Φ.put l' ⟨some w.heap.size,0,e,C⟩) (.slice (some ⟨w.heap.size,0,none⟩) n C) (.vec e l' 0 n):=by
 have hle:=Phi.oG (Φ:=Φ) ⟨some w.heap.size,0,e,C⟩ hl'
 have hnew:w'.heap[w.heap.size]?=some (.cells c el fz):=by rw[hh];simp
 obtain⟨i1,s1⟩:=hi.alloc (w':=w') l' hl' (.row el e xs) (.cells c el fz) ⟨some w.heap.size,0,e,C⟩ rfl hh h1 h2 h3 h4
  (Fg (c:=c) (fz:=fz) (R:=w.heap.size) (Phi.bX _ _ _) rfl rfl (by simp;omega) hmax hx hnew hf (by simpa using hsz) (fun i m q=>by
   obtain⟨q1,v,q2,q3⟩:=hc i m q
   exact⟨q1,v,by simpa using q2,q3.mono hle⟩))
 refine⟨i1,s1,?_⟩
 have:=Rel.vec (Φ:=Φ.put l' ⟨some w.heap.size,0,e,C⟩) (l:=l') (lo:=0) (n:=n) (cap:=C) (R:=w.heap.size) (Phi.bX _ _ _) rfl (by simp) hC
 simpa using this
theorem vX(l1 l2:List Value):∀(cs:Array Value) (off:Nat),bS cs off (l1++l2)=bS (bS cs off l1) (off+l1.length) l2:=by
 induction l1 with
 | nil=>intro cs off;rfl
 | cons c r ih =>
  intro cs off
  simp only[List.cons_append,bS,ih,List.length_cons]
  congr 1
  omega
theorem AG{e:Nat}:∀(vs:List Value) (i0:Nat) (cs:Array Value),(∀v,v∈vs→v.cells.size=e)→i0 * e+vs.length * e≤cs.size →
  Instr.fill (fun i=>some (i * e,e)) cs ((vs.zipIdx i0).map fun p=>(p.2,p.1))=some (bS cs (i0 * e) (vs.flatMap fun v=>v.cells.toList)):=by
 intro vs
 induction vs with
 | nil=>intro i0 cs _ _;rfl
 | cons v vs ih =>
  intro i0 cs h hl
  have hv:=h v (by simp)
  simp only[List.length_cons,Nat.add_mul,Nat.one_mul] at hl
  simp only[List.zipIdx_cons,List.map_cons,Instr.fill]
  rw[if_neg (by simp only[hv,ne_eq,not_true_eq_false,decide_false,Bool.false_or,decide_eq_true_eq];omega)]
  rw[←Array.foldl_toList,Array.toList_zipIdx]
  have e1:=oX v.cells.toList 0 cs (i0 * e)
  simp only[Nat.add_zero] at e1
  rw[e1,ih (i0+1) _ (fun x hx=>h x (by simp[hx])) (by rw[cH,Nat.add_mul,Nat.one_mul];omega)]
  rw[List.flatMap_cons,vX]
  congr 2
  rw[Nat.add_mul,Nat.one_mul,Array.length_toList,hv]
theorem uF{t el:TypeId}(ht:(td P t).k=.slice el)(hz:(td P el).zok=true)(vs:List Value)(hv:∀v,v∈vs→v.cells.size=(td P el).size)(hsmall:vs.length * (td P el).size≤16777216)(w:World) :
  ∃c:Array Value,c.size=vs.length * (td P el).size∧(∀i:Nat,c[i]?=(vs.flatMap fun v=>v.cells.toList)[i]?) ∧
   (Instr.buildSlice t vs.length ((vs.zipIdx 0).map fun p=>(p.2,p.1)).toArray).run P w=.ok (.slice (some ⟨w.heap.size,0,none⟩) vs.length vs.length) (w.alloc (.cells c el)):=by
 obtain⟨z,hz0,hz1,hz2,hok,hz3,_⟩:=cP hz w
 have hlen:(vs.flatMap fun v=>v.cells.toList).length=vs.length * (td P el).size:=by
  clear hsmall
  induction vs with
  | nil=>simp
  | cons v vs ih =>
   rw[List.flatMap_cons,List.length_append,ih (fun x hx=>hv x (by simp[hx])),Array.length_toList,hv v (by simp),List.length_cons,Nat.add_mul,Nat.one_mul]
   omega
 have key:∀cs:Array Value,cs.size=vs.length * (td P el).size→(bS cs 0 (vs.flatMap fun v=>v.cells.toList)).size=vs.length * (td P el).size∧∀i:Nat,(bS cs 0 (vs.flatMap fun v=>v.cells.toList))[i]?=(vs.flatMap fun v=>v.cells.toList)[i]?:=fun cs hcs=>by
  refine⟨by rw[cH,hcs],fun i=>?_⟩
  rw[iJ _ _ _ _ (by omega)]
  split
  ·simp
  ·rename_i hn
   rw[Array.getElem?_eq_none (by omega),List.getElem?_eq_none (by omega)]
 have hns:¬(vs.length * (td P el).size > 2 ^ 24):=by omega
 by_cases h0:vs.length * (td P el).size=0
 ·let cs:Array Value:=(Array.range (vs.length * (td P el).size)).map fun x=>(#[]:Array Value)[x % (#[]:Array Value).size]!
  have hcs:cs.size=vs.length * (td P el).size:=by simp[cs]
  obtain⟨k1,k2⟩:=key cs hcs
  refine⟨_,k1,k2,?_⟩
  have hf:=AG (e:=(td P el).size) vs 0 cs hv (by omega)
  simp only[Nat.zero_mul] at hf
  simp only[Instr.buildSlice,Sem.run_bind,aM (aY ht),Result.andThen_ok,aS hok,if_neg hns,Sem.run_pure,if_pos h0]
  simp only[cs] at hf
  rw[hf]
  simp only[newRow,Sem.run_bind,run_newObj,Result.andThen_ok,Sem.run_pure]
  rfl
 ·let cs:Array Value:=(Array.range (vs.length * (td P el).size)).map fun x=>z.cells[x % z.cells.size]!
  have hcs:cs.size=vs.length * (td P el).size:=by simp[cs]
  obtain⟨k1,k2⟩:=key cs hcs
  refine⟨_,k1,k2,?_⟩
  have hf:=AG (e:=(td P el).size) vs 0 cs hv (by omega)
  simp only[Nat.zero_mul] at hf
  simp only[Instr.buildSlice,Sem.run_bind,aM (aY ht),Result.andThen_ok,aS hok,if_neg hns,Sem.run_pure,if_neg h0,hz0]
  simp only[cs] at hf
  rw[hf]
  simp only[newRow,Sem.run_bind,run_newObj,Result.andThen_ok,Sem.run_pure]
  rfl
theorem uL{o:Oper}{f:FR}{σ:St}{k:MV→St→Prop}{t el:TypeId}{len:Nat}{parts:Array (Nat × Operand)}(ho:o.op=.buildSlice t len parts)(ht:(td P t).k=.slice el)(hz:(td P el).zok=true)
 (hidx:parts.toList.map (·.1)=List.range len)(hc:∀p,p∈parts.toList→(∀c,c∈(aE f p.2).cells→c.aP=true)∧(aE f p.2).cells.length=(td P el).size)(hsmall:len * (td P el).size≤16777216)(hmax:len≤maxLen)
 (hk:∀l,σ l=none→k (.vec (td P el).size l 0 len) (σ.set l (.row el (td P el).size (parts.toList.map fun p=>(aE f p.2).cells)))):sop P o f σ k:=by
 intro Φ w a K Q' hi hr hK
 obtain⟨l',hl',hsl⟩:=inv_eq hi
 have hlen:parts.toList.length=len:=by have:=congrArg List.length hidx;simpa using this
 have hcell:∀p,p∈parts.toList→iL Φ (a.eval p.2).cells (aE f p.2).cells:=fun p hp=>mX (aL hr p.2) (hc p hp).1
 let vs:=parts.toList.map fun p=>a.eval p.2
 have hvl:vs.length=len:=by simp[vs];simpa using hlen
 have hvs:∀v,v∈vs→v.cells.size=(td P el).size:=fun v hv=>by
  simp only[vs,List.mem_map] at hv
  obtain⟨p,hp,rfl⟩:=hv
  exact(hcell p hp).1.trans (hc p hp).2
 obtain⟨c,hc1,hc2,hrun⟩:=uF ht hz vs hvs (by rw[hvl];exact hsmall) w
 have hargs:(parts.map fun p=>(p.1,a.eval p.2))=((vs.zipIdx 0).map fun p=>(p.2,p.1)).toArray:=by
  apply Array.ext'
  simp only[Array.toList_map]
  apply List.ext_getElem?
  intro i
  simp only[List.getElem?_map,List.getElem?_zipIdx,vs,Option.map_map]
  have h1:(parts.toList.map (·.1))[i]?=(List.range len)[i]?:=by rw[hidx]
  rw[List.getElem?_map] at h1
  cases hp:parts.toList[i]? with
  | none=>simp
  | some p =>
   rw[hp] at h1
   have hil:i<len:=by have:=(List.getElem?_eq_some_iff.1 hp).1;omega
   rw[List.getElem?_range hil] at h1
   simp at h1 ⊢
   exact h1
 have hxs:(parts.toList.map fun p=>(aE f p.2).cells).length=len:=by rw[List.length_map,hlen]
 have hflat:∀(l:List (Nat × Operand)),(∀p,p∈l→iL Φ (a.eval p.2).cells (aE f p.2).cells)→∀(i:Nat) m,(l.map fun p=>(aE f p.2).cells).flatten[i]?=some m→m.aP=true∧∃v,((l.map fun p=>a.eval p.2).flatMap fun v=>v.cells.toList)[i]?=some v∧Rel Φ v m:=by
  intro l
  induction l with
  | nil=>intro _ i m h;simp at h
  | cons p l ih =>
   intro h i m hm
   have rc:=h p (by simp)
   have rl:(a.eval p.2).cells.toList.length=(aE f p.2).cells.length:=by simpa using rc.1
   simp only[List.map_cons,List.flatten_cons,List.flatMap_cons] at hm ⊢
   by_cases hi:i<(aE f p.2).cells.length
   ·rw[List.getElem?_append_left hi] at hm
    refine⟨rc.2.1 i m hm,(a.eval p.2).cells.getD i undef,?_,rc.2.2 i m hm⟩
    rw[List.getElem?_append_left (by omega),Array.getElem?_toList]
    have:i<(a.eval p.2).cells.size:=by have:=rc.1;omega
    simp[Array.getD_eq_getD_getElem?,Array.getElem?_eq_getElem this]
   ·rw[List.getElem?_append_right (by omega)] at hm
    rw[List.getElem?_append_right (by omega),rl]
    exact ih (fun q hq=>h q (by simp[hq])) _ m hm
 obtain⟨i1,s1,r1⟩:=zK (w':=w.alloc (.cells c el)) (el:=el) (e:=(td P el).size) (n:=len) (C:=len) (xs:=parts.toList.map fun p=>(aE f p.2).cells) (c:=c) (fz:=(0,0)) hi hl'
  (fun i x hx=>by
   rw[List.getElem?_map,Option.map_eq_some_iff] at hx
   obtain⟨p,hp,rfl⟩:=hx
   exact(hc p (List.mem_of_getElem? hp)).2) hxs (Nat.le_refl _) hmax rfl rfl rfl rfl (by first|exact Nat.le_refl _|exact iM (Nat.le_succ _)) (.inl (Nat.le_refl _)) (by rw[hc1,hvl];exact Nat.le_refl _) (fun i m q=>by
   obtain⟨q1,v,q2,q3⟩:=hflat parts.toList hcell i m q
   exact⟨q1,v,by rw[hc2];exact q2,q3⟩)
 refine bK (v:=_) (w':=_) ?_ (hK _ _ _ _ _ r1 i1 s1 (hk l' hsl))
 unfold execOp
 rw[hvl] at hrun
 simp only[ho,hargs,Sem.run_bind,hrun,Result.andThen_ok,Sem.run_pure]
theorem oH(k:IntKind)(n:Int)(w:World):(asInt (.int k n)).run P w=.ok n w:=rfl
theorem vY{o:Oper}{f:FR}{σ:St}{k:MV→St→Prop}{t el:TypeId}{x y:Operand}(ho:o.op=.makeSlice t x y)(ht:(td P t).k=.slice el)(hz:(td P el).zok=true){n c:Int}(hx:aE f x=.int .i64 n)(hy:aE f y=.int .i64 c)
 (h0:0≤n)(h1:n≤c)(h2:c≤140737488355328)(h3:(td P el).bytes * c≤140737488355328)
 (hk:∀l,σ l=none→k (.vec (td P el).size l 0 n.toNat) (σ.set l (.row el (td P el).size (List.replicate n.toNat (td P el).zero)))):sop P o f σ k:=by
 intro Φ w a K Q' hi hr hK
 obtain⟨l',hl',hsl⟩:=inv_eq hi
 obtain⟨z,hz0,hz1,hz2,hok,hz3,_⟩:=cP hz w
 have hzlen:(td P el).zero.length=(td P el).size:=by rw[←hz1,←hz2];simp
 obtain⟨inf,d,hinf,hd,hsz,hby,_⟩:=cE hok
 have e1:a.eval x=.int .i64 n:=by have:=aL hr x;rw[hx] at this;exact this.aU
 have e2:a.eval y=.int .i64 c:=by have:=aL hr y;rw[hy] at this;exact this.aU
 have w1:IntKind.i64.wrap n=n:=IntWalk.i64_in n (by omega)
 have w2:IntKind.i64.wrap c=c:=IntWalk.i64_in c (by omega)
 have rz:=gX (P:=P) (Φ:=Φ) hz1 hz3
 obtain⟨cells,hcs,hcells,hrun⟩:∃cells:Array Value,cells.size=c.toNat * (td P el).size∧(∀i:Nat,i<c.toNat * (td P el).size→cells[i]?=some (z.cells.getD (i % (td P el).size) undef)) ∧
   (Instr.makeSlice t (a.eval x) (a.eval y)).run P w=.ok (.slice (some ⟨w.heap.size,0,none⟩) n.toNat c.toNat) (w.alloc (.cells cells el)):=by
  have hneg:¬(inf.bytes * c > 2 ^ 48):=by rw[←hby];omega
  have hc0:¬(c<0):=by omega
  have hn0:¬(n<0):=by omega
  have hnc:¬(n > c):=by omega
  by_cases hz':c.toNat * (td P el).size=0
  ·refine⟨(Array.range (c.toNat * (td P el).size)).map fun x=>(#[]:Array Value)[x % (#[]:Array Value).size]!,by simp,fun i hi=>by omega,?_⟩
   simp only[Instr.makeSlice,e1,e2,oH,Sem.run_bind,aM (aY ht),Result.andThen_ok,Sem.run_pure,typeInfo,run_program,hinf,w1,w2,hneg,hc0,hn0,hnc,decide_false,Bool.or_false,Bool.false_eq_true,if_false,or_self,run_askRoom,aS hok,if_pos hz',newRow,run_newObj]
   rfl
  ·refine⟨(Array.range (c.toNat * (td P el).size)).map fun x=>z.cells[x % z.cells.size]!,by simp,fun i hi=>?_,?_⟩
   ·have:i % (td P el).size<z.cells.size:=by rw[hz2];exact Nat.mod_lt _ (Nat.pos_of_ne_zero (fun h=>by rw[h] at hi;omega))
    simp[hi,hz2,Array.getD_eq_getD_getElem?,getElem!_def]
    rw[Array.getElem?_eq_getElem this]
    simp
   ·simp only[Instr.makeSlice,e1,e2,oH,Sem.run_bind,aM (aY ht),Result.andThen_ok,Sem.run_pure,typeInfo,run_program,hinf,w1,w2,hneg,hc0,hn0,hnc,decide_false,Bool.or_false,Bool.false_eq_true,if_false,or_self,run_askRoom,aS hok,if_neg hz',hz0,newRow,run_newObj]
    rfl
 have hfl:∀(m i:Nat) (q:MV),(List.replicate m (td P el).zero).flatten[i]?=some q→i<m * (td P el).size∧(td P el).zero[i % (td P el).size]?=some q:=by
  intro m
  induction m with
  | zero=>intro i q h;simp at h
  | succ m ih =>
   intro i q h
   rw[List.replicate_succ,List.flatten_cons] at h
   by_cases hi:i<(td P el).zero.length
   ·rw[List.getElem?_append_left hi] at h
    rw[Nat.mod_eq_of_lt (by omega),Nat.add_mul,Nat.one_mul]
    exact⟨by omega,h⟩
   ·rw[List.getElem?_append_right (by omega)] at h
    obtain⟨q1,q2⟩:=ih _ q h
    rw[hzlen] at q1 q2
    rw[Nat.add_mul,Nat.one_mul]
    refine⟨by omega,?_⟩
    rw[←q2]
    congr 1
    rw[Nat.mod_eq_sub_mod (by omega)]
 obtain⟨i1,s1,r1⟩:=zK (w':=w.alloc (.cells cells el)) (el:=el) (e:=(td P el).size) (n:=n.toNat) (C:=c.toNat) (xs:=List.replicate n.toNat (td P el).zero) (c:=cells) (fz:=(0,0)) hi hl'
  (fun i x hx=>by rw[List.getElem?_replicate] at hx;split at hx<;>simp at hx;rw[←hx,hzlen]) (by simp) (by omega) (by simp only[maxLen];omega) rfl rfl rfl rfl (by first|exact Nat.le_refl _|exact iM (Nat.le_succ _)) (.inl (Nat.le_refl _)) (by rw[hcs];exact Nat.le_refl _) (fun i m q=>by
   obtain⟨q1,q2⟩:=hfl _ i m q
   refine⟨rz.2.1 _ m q2,_,hcells i (Nat.lt_of_lt_of_le q1 (Nat.mul_le_mul_right _ (by omega))),rz.2.2 _ m q2⟩)
 refine bK (v:=_) (w':=_) ?_ (hK _ _ _ _ _ r1 i1 s1 (hk l' hsl))
 unfold execOp
 simp only[ho,Sem.run_bind,hrun,Result.andThen_ok,Sem.run_pure]
def bytesOf(ys:List (List MV)):ByteArray:=⟨(ys.map fun y=>match y with|[.int .u8 n]=>UInt8.ofNat n.toNat|_=>0).toArray⟩
def isByte:List MV→Bool
 | [.int .u8 _]=>true
 | _=>false
theorem HJ{o:Oper}{f:FR}{σ:St}{k:MV→St→Prop}{s d el:TypeId}{x:Operand}(ho:o.op=.convert s d x)(hs:(td P s).k=.slice el)(he:(td P el).k=.int .u8)(hd:(td P d).k=.str){ys:List (List MV)}
 (hx:gB σ 1 (aE f x)=some ys)(hsl:∀b,aE f x≠.str b)(hb:ys.all isByte=true)(hk:k (.str (bytesOf ys)) σ):sop P o f σ k:=by
 intro Φ w a K Q' hi hr hK
 obtain⟨arr,harr,hrel,hyl⟩:=jK (P:=P) hx hi (aL hr x)
 obtain⟨ns,hns⟩:∃ns:List Int,ys=ns.map fun n=>[.int .u8 n]:=by
  clear hx harr hrel hyl hk
  induction ys with
  | nil=>exact⟨[],rfl⟩
  | cons y ys ih =>
   simp only[List.all_cons,Bool.and_eq_true] at hb
   obtain⟨ns,h⟩:=ih hb.2
   match y,hb.1 with
   | [.int .u8 n],_=>exact⟨n::ns,by rw[h];rfl⟩
 subst hns
 rw[fW] at hrel
 have harr2:arr=(ns.map (Value.int .u8)).toArray:=by
  apply Array.ext_getElem?
  intro i
  by_cases hi':i<ns.length
  ·have h1:=hrel.2.2 i (.int .u8 ns[i]) (by simp[hi'])
   have h2:i<arr.size:=by have:=hrel.1;rw[List.length_map] at this;omega
   have h3:=h1.aU
   rw[Array.getD_eq_getD_getElem?,Array.getElem?_eq_getElem h2] at h3
   rw[Array.getElem?_eq_getElem h2]
   simp at h3 ⊢
   simp[hi',h3]
  ·have h2:arr.size≤i:=by have:=hrel.1;rw[List.length_map] at this;omega
   rw[Array.getElem?_eq_none h2,Array.getElem?_eq_none (by rw[List.size_toArray,List.length_map];omega)]
 have hbytes:bytesOf (ns.map fun n=>[.int .u8 n])=ns.foldl (fun r n=>r.push (UInt8.ofNat n.toNat)) ByteArray.empty:=by
  rw[foldl_push_bytes]
  simp[bytesOf,ByteArray.empty,ByteArray.emptyWithCapacity,List.map_map]
  rfl
 obtain⟨ad,len,cap,hv⟩:∃ad len cap,a.eval x=.slice ad len cap:=by
  have rx:=aL hr x
  cases hm:aE f x<;>rw[hm] at rx hx<;>simp[gB] at hx
  ·exact absurd hm (hsl _)
  ·exact⟨_,_,_,rx.eC⟩
  ·obtain⟨ad,cap,h,_⟩:=rx.hU;exact⟨_,_,_,h⟩
  ·obtain⟨ad,cap,p,h,_⟩:=rx.hY;exact⟨_,_,_,h⟩
 have hw:=harr w rfl
 rw[hv] at hw
 have hlen:len=ns.length:=by
  have:=hw.1
  simp[Builtin.lenOf] at this
  exact this
 have hrun:(execOp a.eval o).run P w=.ok (.value (.string (bytesOf (ns.map fun n=>[.int .u8 n])))) w:=by
  unfold execOp
  simp only[ho,hv,Sem.run_bind]
  rw[run_convert_bytes_string w s d el ad len cap (aY hs) (i6 he) (fC hd)]
  cases ad with
  | none =>
   have hz:arr=#[]:=by simpa[Builtin.firstCells,eq_comm] using hw.2
   rw[hz] at harr2
   have hns0:ns=[]:=by
    have:=congrArg Array.size harr2
    simp at this
    exact List.eq_nil_of_length_eq_zero this.symm
   subst hns0
   rfl
  | some ad =>
   have hld:=hw.2
   simp only[Builtin.firstCells,List.length_map,Nat.mul_one] at hld
   rw[run_bytesToString w ad len cap ns (by rw[hlen,hld,harr2]),hbytes]
   rfl
 exact bK hrun (hK _ _ _ _ _ (.str _) hi (.refl _ _ _) hk)
theorem HG{o:Oper}{f:FR}{σ:St}{k:MV→St→Prop}{s d el:TypeId}{x:Operand}(ho:o.op=.convert s d x)(hs:(td P s).k=.str)(hd:(td P d).k=.slice el)(he:(td P el).k=.int .u8){b:ByteArray}
 (hx:aE f x=.str b)(hmax:b.size≤maxLen)(hk:∀l,σ l=none→k (.vec 1 l 0 b.size) (σ.set l (.row el 1 (b.toList.map fun c=>[.int .u8 (c.toNat:Int)])))):sop P o f σ k:=by
 intro Φ w a K Q' hi hr hK
 obtain⟨l',hl',hsl⟩:=inv_eq hi
 have e1:a.eval x=.string b:=by have:=aL hr x;rw[hx] at this;exact this.eI
 have hbl:b.toList.length=b.size:=by rw[ByteArray.toList_eq,Array.length_toList];rfl
 have hrun:=run_bytes_of_string (P:=P) w s d el b (fC hs) (aY hd) (i6 he)
 have hcap:=grownCap_ge w b.size 0 el
 have hcm:=grownCap_le_maxLen w b.size 0 el hmax
 obtain⟨i1,s1,r1⟩:=zK (w':=w.drew.alloc (.cells (bytesRow b (grownCap w b.size 0 el)) el ((bytesRow b (grownCap w b.size 0 el)).size,(bytesRow b (grownCap w b.size 0 el)).size+1))) (el:=el) (e:=1) (n:=b.size) (C:=grownCap w b.size 0 el)
  (xs:=b.toList.map fun c=>[.int .u8 (c.toNat:Int)]) hi hl' (fun i x hx=>by rw[List.getElem?_map,Option.map_eq_some_iff] at hx;obtain⟨c,_,rfl⟩:=hx;rfl) (by rw[List.length_map,hbl]) hcap hcm rfl rfl rfl rfl (by first|exact Nat.le_refl _|exact iM (Nat.le_succ _)) (.inr (Nat.le_refl _))
  (by
   simp only[bytesRow,Array.size_append,Array.size_map,Array.size_replicate]
   have:b.data.size=b.size:=rfl
   omega)
  (fun i m q=>by
   rw[fW,List.getElem?_map,Option.map_eq_some_iff] at q
   obtain⟨c,hc,rfl⟩:=q
   refine⟨rfl,.int .u8 c.toNat,?_,.int _ _⟩
   rw[ByteArray.toList_eq,Array.getElem?_toList] at hc
   have hlt:=(Array.getElem?_eq_some_iff.1 hc).1
   simp only[bytesRow]
   rw[Array.getElem?_append_left (by simpa using hlt),Array.getElem?_map,hc]
   rfl)
 refine bK (v:=_) (w':=_) ?_ (hK _ _ _ _ _ r1 i1 s1 (hk l' hsl))
 unfold execOp
 simp only[ho,e1,Sem.run_bind,hrun,Result.andThen_ok,Sem.run_pure]
theorem Ej{o:Oper}{f:FR}{σ:St}{k:MV→St→Prop}{t el:TypeId}{x y z:Operand}(ho:o.op=.slice t x (some y) (some z) none)(ht:(td P t).k=.slice el)(hok:(td P el).ok=true){l l0 n:Nat}{tt:TypeId}{xs:List (List MV)}
 (hx:aE f x=.vec (td P el).size l l0 n)(hsl:σ l=some (.row tt (td P el).size xs)){k1 k2:IntKind}{a h:Int}(hy:aE f y=.int k1 a)(hz:aE f z=.int k2 h)(h0:0≤a)(h1:a≤h)(h2:l0+h.toNat≤xs.length)
 (hk:k (.vec (td P el).size l (l0+a.toNat) (h.toNat - a.toNat)) σ):sop P o f σ k:=by
 intro Φ w ac K Q' hi hr hK
 have rx:=aL hr x
 have ry:=aL hr y
 have rz:=aL hr z
 rw[hx] at rx
 rw[hy] at ry
 rw[hz] at rz
 obtain⟨p0,hp0,hpe0,q1,q2,q3,q4⟩:=hi.own l _ hsl
 have rx':=rx
 generalize hv:ac.eval x=vx at rx rx'
 obtain⟨ad,cap,p,rfl,hp,hpe,hcap,hncap,hR⟩:=rx'.hY
 rw[hp0] at hp;cases hp
 have e1:=ry.aU
 have e2:=rz.aU
 refine bK (v:=_) (w':=w) ?_ (hK _ _ _ Φ w (lI rx a.toNat h.toNat (by omega) (by omega)) hi (.refl _ _ _) hk)
 unfold execOp
 simp only[ho,hv,Option.map_some,Option.map_none,e1,e2,Sem.run_bind,Instr.sliceAt,aM (aY ht),Result.andThen_ok,Instr.slice,Instr.sliceBounds,Sem.run_pure]
 rw[run_sliceBound ⟨by omega,by omega⟩]
 simp only[Result.andThen_ok,Option.isSome_none,Bool.false_eq_true,if_false]
 rw[run_sliceBound ⟨by omega,by omega⟩]
 simp only[Result.andThen_ok,aS hok,Sem.run_pure]
def iB(xs:List (List MV))(i0:Nat)(ys:List (List MV)):List (List MV):=(xs.take i0++ys)++xs.drop (i0+ys.length)
theorem rI{xs ys:List (List MV)}{i0:Nat}(h:i0+ys.length≤xs.length)(i:Nat):(iB xs i0 ys)[i]?=if i0≤i∧i<i0+ys.length then ys[i - i0]? else xs[i]?:=by
 unfold iB
 have hl1:(xs.take i0).length=i0:=by simp;omega
 have hl2:(xs.take i0++ys).length=i0+ys.length:=by rw[List.length_append,hl1]
 by_cases h1:i<i0
 ·rw[List.getElem?_append_left (by omega),List.getElem?_append_left (by omega),List.getElem?_take,if_pos h1,if_neg (by omega)]
 ·by_cases h2:i<i0+ys.length
  ·rw[List.getElem?_append_left (by omega),List.getElem?_append_right (by omega),hl1,if_pos ⟨by omega,h2⟩]
  ·rw[List.getElem?_append_right (by omega),hl2,List.getElem?_drop,show i0+ys.length+(i - (i0+ys.length))=i from by omega,if_neg (by omega)]
theorem uE{xs ys:List (List MV)}{i0:Nat}(h:i0+ys.length≤xs.length):(iB xs i0 ys).length=xs.length:=by
 simp[iB];omega
theorem JW{Φ:Phi}{w:World}{σ:St}(hi:Inv Φ w σ){l:Nat}{t:TypeId}{e:Nat}{xs ys:List (List MV)}(hsl:σ l=some (.row t e xs)){i0:Nat}(hfit:i0+ys.length≤xs.length)
 (hyl:∀(i:Nat) (y:List MV),ys[i]?=some y→y.length=e){arr:Array Value}(hrel:iL Φ arr ys.flatten){p:Place}(hp:Φ.obj l=some p){R:Nat}(hR:p.blk=some R){c:Array Value}{fz:Nat × Nat}(hc:w.heap[R]?=some (.cells c t fz)) :
  xZ c fz∧p.bo+i0 * e+arr.toList.length≤c.size∧Inv Φ (gG w R (.cells (bS c (p.bo+i0 * e) arr.toList) t fz)) (σ.set l (.row t e (iB xs i0 ys))) ∧
   Step Φ σ w Φ (σ.set l (.row t e (iB xs i0 ys))) (gG w R (.cells (bS c (p.bo+i0 * e) arr.toList) t fz)):=by
 obtain⟨p',hp',hpe,q1,q2,q3,q4⟩:=hi.own l _ hsl
 rw[hp] at hp';cases hp'
 rw[hR] at q4
 obtain⟨c',fz',k1,k2,k3,k4⟩:=q4
 rw[hc] at k1;cases k1
 have hlt:R<w.heap.size:=(Array.getElem?_eq_some_iff.1 hc).1
 have harrl:arr.toList.length=ys.length * e:=by
  have:=hrel.1
  rw[dM ys hyl] at this
  simpa using this
 have hfit2:p.bo+i0 * e+arr.toList.length≤c.size:=by
  rw[harrl]
  have:(i0+ys.length) * e≤p.C * e:=Nat.mul_le_mul_right _ (by omega)
  rw[Nat.add_mul] at this
  omega
 refine⟨k2,hfit2,hi.Ep (w':=gG w R (.cells (bS c (p.bo+i0 * e) arr.toList) t fz)) l hsl _ hp hR jC (fun k hk=>eP hk) rfl rfl rfl (Nat.le_refl _) ?_⟩
 refine⟨p,hp,hpe,by rw[uE hfit];exact q1,q2,fun i y q=>?_,?_⟩
 ·rw[rI hfit] at q
  split at q
  ·exact hyl _ y q
  ·exact q3 i y q
 ·rw[hR]
  refine⟨_,fz,gW hlt,by simpa[xZ,cH] using k2,by rw[cH];exact k3,fun i y j m q hm=>?_⟩
  rw[iJ _ _ _ _ hfit2,harrl]
  rw[rI hfit] at q
  split at q
  ·rename_i hin
   have hjl:j<e:=by have:=(List.getElem?_eq_some_iff.1 hm).1;have:=hyl _ y q;omega
   have hil:=(List.getElem?_eq_some_iff.1 q).1
   have hfl:=lV ys (i - i0) j y m hyl q hm
   have hlt2:=(List.getElem?_eq_some_iff.1 hfl).1
   have harr1:=hrel.1
   have e3:(i - i0) * e+j+i0 * e=i * e+j:=by
    have:i * e=(i - i0+i0) * e:=by congr 1;omega
    rw[this,Nat.add_mul]
    omega
   have e4:(i - i0) * e+j<ys.length * e:=by
    have:(i - i0+1) * e≤ys.length * e:=Nat.mul_le_mul_right _ (by omega)
    rw[Nat.add_mul,Nat.one_mul] at this
    omega
   rw[if_pos (by omega),show p.bo+(i * e+j) - (p.bo+i0 * e)=(i - i0) * e+j from by omega,Array.getElem?_toList]
   refine⟨hrel.2.1 _ m hfl,arr.getD ((i - i0) * e+j) undef,?_,hrel.2.2 _ m hfl⟩
   simp[Array.getD_eq_getD_getElem?,Array.getElem?_eq_getElem (show(i - i0) * e+j<arr.size by omega)]
  ·rename_i hout
   have hjl:j<e:=by have:=(List.getElem?_eq_some_iff.1 hm).1;have:=q3 i y q;omega
   rw[if_neg (by
    intro hcon
    rcases Nat.lt_or_ge i i0 with h|h
    ·have:(i+1) * e≤i0 * e:=Nat.mul_le_mul_right _ h
     rw[Nat.add_mul,Nat.one_mul] at this
     omega
    ·have:(i0+ys.length) * e≤i * e:=Nat.mul_le_mul_right _ (by omega)
     rw[Nat.add_mul] at this
     omega)]
   exact k4 i y j m q hm
theorem uV{Φ:Phi}{el:TypeId}{z:Value}(hz1:z.cells.toList.map ofV=(td P el).zero)(hz2:z.cells.size=(td P el).size)(hz3:∀v,v∈z.cells.toList→(ofV v).aP=true)(h0:0<(td P el).size):∀n,iL Φ (Builtin.zeroCells z.cells n) (List.replicate n (td P el).zero).flatten:=by
 have rz:=gX (P:=P) (Φ:=Φ) hz1 hz3
 have hzlen:(td P el).zero.length=(td P el).size:=by rw[←hz1,←hz2];simp
 intro n
 have hget:∀i:Nat,i<n * (td P el).size→(Builtin.zeroCells z.cells n)[i]?=some (z.cells.getD (i % (td P el).size) undef):=by
  intro i hi
  have:i % (td P el).size<z.cells.size:=by rw[hz2];exact Nat.mod_lt _ h0
  simp only[Builtin.zeroCells]
  simp[hi,hz2,Array.getD_eq_getD_getElem?,getElem!_def]
  rw[Array.getElem?_eq_getElem this]
  simp
 have hfl:∀(m i:Nat) (q:MV),(List.replicate m (td P el).zero).flatten[i]?=some q→i<m * (td P el).size∧(td P el).zero[i % (td P el).size]?=some q:=by
  intro m
  induction m with
  | zero=>intro i q h;simp at h
  | succ m ih =>
   intro i q h
   rw[List.replicate_succ,List.flatten_cons] at h
   by_cases hi:i<(td P el).zero.length
   ·rw[List.getElem?_append_left hi] at h
    rw[Nat.mod_eq_of_lt (by omega),Nat.add_mul,Nat.one_mul]
    exact⟨by omega,h⟩
   ·rw[List.getElem?_append_right (by omega)] at h
    obtain⟨q1,q2⟩:=ih _ q h
    rw[hzlen] at q1 q2
    rw[Nat.add_mul,Nat.one_mul]
    refine⟨by omega,?_⟩
    rw[←q2]
    congr 1
    rw[Nat.mod_eq_sub_mod (by omega)]
 refine⟨?_,fun i m h=>?_,fun i m h=>?_⟩
 ·simp[Builtin.zeroCells,hz2,hzlen,List.length_flatten]
 ·exact rz.2.1 _ m (hfl n i m h).2
 ·obtain⟨q1,q2⟩:=hfl n i m h
  have:=hget i q1
  rw[Array.getD_eq_getD_getElem?,this]
  exact rz.2.2 _ m q2
def TK.isInt:TK→Bool
 | .int _=>true
 | _=>false
theorem HN{t:TypeId}(h:(td P t).k.isInt=true):∃k,P.underlying t=some (.int k):=by
 cases hk:(td P t).k<;>rw[hk] at h<;>simp[TK.isInt] at h
 exact⟨_,i6 hk⟩
theorem qO{o:Oper}{f:FR}{σ:St}{k:MV→St→Prop}{s x:Operand}{t xt el:TypeId}(ho:o.op=.call { callee:=.builtin .append,args:=#[s,x],argTypes:=#[t,xt] })
 (ht:(td P t).k=.slice el)(hxt:(td P xt).k.isInt=true)(hz:(td P el).zok=true)(h0:0<(td P el).size){n:Int}(hs:aE f s=.bC)(hx:aE f x=.int .i64 n)(hn:0<n)
 (hm:n.toNat≤140737488355328)(hb:n.toNat * (td P el).bytes≤140737488355328)
 (hk:∀l,σ l=none→k (.vec (td P el).size l 0 n.toNat) (σ.set l (.row el (td P el).size (List.replicate n.toNat (td P el).zero)))):sop P o f σ k:=by
 intro Φ w a K Q' hi hr hK
 obtain⟨l',hl',hsl⟩:=inv_eq hi
 have e1:a.eval s=.slice none 0 0:=by have:=aL hr s;rw[hs] at this;exact this.eC
 have e2:a.eval x=.int .i64 n:=by have:=aL hr x;rw[hx] at this;exact this.aU
 obtain⟨z,hz0,hz1,hz2,hok,hz3,_⟩:=cP hz w.drew
 have hzlen:(td P el).zero.length=(td P el).size:=by rw[←hz1,←hz2];simp
 obtain⟨i,d,hinf,hd,hsz,hby,_⟩:=cE hok
 obtain⟨ik,hxu⟩:=HN hxt
 have w1:IntKind.i64.wrap n=n:=IntWalk.i64_in n (by omega)
 have hrun:(Builtin.append_ #[t,xt] o.type #[.slice none 0 0,.int .i64 n]).run P w=.ok (.slice (some ⟨w.heap.size,0,none⟩) (0+n.toNat) (grownCap w (0+n.toNat) 0 el)) (w.drew.alloc (.cells (#[]++Builtin.zeroCells z.cells n.toNat++Builtin.zeroCells z.cells (grownCap w (0+n.toNat) 0 el - (0+n.toNat))) el)):=by
  have hroom:¬(0+n.toNat≤0):=by omega
  have h48':¬(Builtin.nextslicecap (0+n.toNat) 0 * i.bytes > 2 ^ 48):=by
   rw[←hby]
   have:=growslice_fits (show 0<0+n.toNat by omega) (show(0+n.toNat) * (td P el).bytes≤140737488355328 by rw[Nat.zero_add];exact hb)
   omega
  have h63:¬(((0+n.toNat:Nat):Int) > IntKind.i64.max):=by
   simp only[IntKind.max,IntKind.signed,IntKind.bits]
   simp
   omega
  have hneg:¬(n<0):=by omega
  have hbig:¬(n * i.bytes > 2 ^ 48):=by
   rw[←hby]
   have:n * ((td P el).bytes:Int)=((n.toNat * (td P el).bytes:Nat):Int):=by
    rw[Int.natCast_mul,Int.toNat_of_nonneg (by omega)]
   omega
  have hns:¬(n.toNat * (td P el).size=0):=by
   have:0<n.toNat * (td P el).size:=Nat.mul_pos (by omega) h0
   omega
  unfold Builtin.append_
  simp only[World.drew] at hz0
  simp only[List.getElem?_toArray,List.getElem?_cons_zero,List.getElem?_cons_succ,Sem.run_bind,aM (aY ht),Result.andThen_ok,aS hok,aM hxu,Sem.run_pure,if_true,oH,w1,if_neg hneg,typeInfo,run_program,hinf,if_neg hbig,
   if_neg hroom,Bool.not_true,Bool.false_eq_true,if_false,h63,false_and,if_neg h48',run_choose,Question.forced,run_askRoom,if_neg hns]
  simp only[hz0,Builtin.firstCells,Result.andThen_ok,newRow,Sem.run_bind,run_newObj,Sem.run_pure]
  rfl
 obtain⟨i1,s1,r1⟩:=p8 (σ1:=σ) (el:=el) (n:=0) (m:=n.toNat) (cap':=grownCap w (0+n.toNat) 0 el) (xs:=[]) (ys:=List.replicate n.toNat (td P el).zero) (old:=#[]) (arr:=Builtin.zeroCells z.cells n.toNat)
  (rest:=Builtin.zeroCells z.cells (grownCap w (0+n.toNat) 0 el - (0+n.toNat))) hi (fun _ _ q=>q) hl' (fun i x hx=>by simp at hx) (fun i x hx=>by rw[List.getElem?_replicate] at hx;split at hx<;>simp at hx;rw[←hx,hzlen]) rfl (by simp)
  ⟨rfl,fun i m h=>by simp at h,fun i m h=>by simp at h⟩ (uV (P:=P) (Φ:=Φ) hz1 hz2 hz3 h0 n.toNat) (by rw[size_zeroCells,hz2]) (grownCap_ge w _ _ el) (grownCap_le_maxLen w _ _ el (by simp only[maxLen];omega))
 simp only[Nat.zero_add,List.nil_append] at i1 s1 r1 hrun
 refine bK (v:=_) (w':=_) ?_ (hK _ _ _ _ _ r1 i1 s1 (hk l' hsl))
 rw[eE ho,e1,e2,hrun]
 rfl
theorem HD{o:Oper}{f:FR}{σ:St}{k:MV→St→Prop}{t el:TypeId}{x:Operand}(ho:o.op=.call { callee:=.builtin .clear,args:=#[x],argTypes:=#[t] })(ht:(td P t).k=.slice el)(hz:(td P el).zok=true)(h0:0<(td P el).size)
 {l l0 n:Nat}{tt:TypeId}{xs:List (List MV)}(hx:aE f x=.vec (td P el).size l l0 n)(hsl:σ l=some (.row tt (td P el).size xs))(hfit:l0+n≤xs.length)
 (hk:k .junk (σ.set l (.row tt (td P el).size (iB xs l0 (List.replicate n (td P el).zero))))):sop P o f σ k:=by
 intro Φ w ac K Q' hi hr hK
 obtain⟨z,hz0,hz1,hz2,hok,hz3,_⟩:=cP hz w
 have hzlen:(td P el).zero.length=(td P el).size:=by rw[←hz1,←hz2];simp
 have rx:=aL hr x
 rw[hx] at rx
 generalize hv:ac.eval x=vx at rx
 obtain⟨ad,cap,p,rfl,hp,hpe,hcap,hncap,hR⟩:=rx.hY
 have hop:∀r w',(Builtin.clear_ #[t] o.type #[.slice ad n cap]).run P w=.ok r w'→(execOp ac.eval o).run P w=.ok (.value r) w':=fun r w' h=>by
  unfold execOp
  simp only[ho,resolve,List.map_toArray,List.map_cons,List.map_nil,hv,Sem.run_bind,Sem.run_pure,Result.andThen_ok,invoke]
  show Sem.run P (do pure (Next.value (←Builtin.clear_ #[t] o.type #[.slice ad n cap]))) w=_
  simp only[Sem.run_bind,h,Result.andThen_ok,Sem.run_pure]
 by_cases hn:n=0
 ·subst hn
  have hrow:iB xs l0 (List.replicate 0 (td P el).zero)=xs:=by simp[iB]
  have hst:σ.set l (.row tt (td P el).size xs)=σ:=by
   funext j
   simp only[St.set]
   split
   ·rename_i e;rw[e,hsl]
   ·rfl
  rw[hrow,hst] at hk
  refine bK (hop (.tuple #[]) w ?_) (hK _ _ _ Φ w (.junk _) hi (.refl _ _ _) hk)
  unfold Builtin.clear_
  cases ad<;>simp[aM (aY ht)]
 ·rcases hR with⟨R,hb,rfl⟩|hcap0
  ·obtain⟨p',hp',hpe',q1,q2,q3,q4⟩:=hi.own l _ hsl
   rw[hp] at hp';cases hp'
   rw[hb] at q4
   obtain⟨c,fz,k1,-⟩:=q4
   have hzc:=uV (P:=P) (Φ:=Φ) hz1 hz2 hz3 h0 n
   obtain⟨r1,r2,i1,s1⟩:=JW hi hsl (i0:=l0) (ys:=List.replicate n (td P el).zero) (by simpa using hfit) (fun i y h=>by
    rw[List.getElem?_replicate] at h
    split at h<;>simp at h
    rw[←h,hzlen]) hzc hp hb k1
   refine bK (hop (.tuple #[]) _ ?_) (hK _ _ _ Φ _ (.junk _) i1 s1 hk)
   unfold Builtin.clear_
   have hn':¬n=0:=hn
   simp only[List.getElem?_toArray,List.getElem?_cons_zero,Sem.run_bind,aM (aY ht),Result.andThen_ok]
   cases n with
   | zero=>exact absurd rfl hn
   | succ n =>
    simp only[Sem.run_bind,hz0,Result.andThen_ok]
    rw[hpe]
    rw[iO (P:=P) _ 0 c w k1 r1 (by simpa using r2) (iL.tN hzc)]
    rfl
  ·omega
end
end

section
open Go.MapKept
def isK(k:IntKind):MV→Bool
 | .int k' _=>decide (k'=k)
 | _=>false
def eQ(n:Int):List (MV × MV)→Option MV
 | []=>none
 | (.int _ m,v)::r=>if m=n then some v else eQ n r
 | _::r=>eQ n r
def l3(k:IntKind)(n:Int)(v:MV):List (MV × MV)→List (MV × MV)
 | []=>[(.int k n,v)]
 | (.int k' m,u)::r=>if m=n then(.int k' m,v)::r else(.int k' m,u)::l3 k n v r
 | x::r=>x::l3 k n v r
theorem yQ{k:IntKind}{m:MV}(h:isK k m=true):∃n,m=.int k n:=by
 cases m<;>simp[isK] at h
 subst h;exact⟨_,rfl⟩
theorem pX{k:IntKind}{n:Int}{Φ:Phi}(v':MV):∀(l:List MapEntry) (es:List (MV × MV)) (i0:Nat),l.length=es.length→(es.all fun x=>isK k x.1)=true→(∀(i:Nat) (x:MV × MV),es[i]?=some x→∃e:MapEntry,l[i]?=some e∧Rel Φ e.key x.1) →
  (∀x:MapEntry,x∈l→IsKey (.int k) x.key)∧((eQ n es=none∧Instr.findNow (.int k) (.int k n) l i0=some none∧l3 k n v' es=es++[(.int k n,v')]) ∨
   ∃(j:Nat) (e:MapEntry) (v:MV),eQ n es=some v∧Instr.findNow (.int k) (.int k n) l i0=some (some (i0+j,e.val))∧l[j]?=some e∧e.key=.int k n∧es[j]?=some (.int k n,v)∧l3 k n v' es=es.set j (.int k n,v'))
 | [],[],_,_,_,_=>⟨by simp,.inl ⟨rfl,rfl,rfl⟩⟩
 | [],_::_,_,h,_,_=>by simp at h
 | _::_,[],_,h,_,_=>by simp at h
 | e::l,(x,u)::es,i0,hl,hk,hr=>by
  simp only[List.all_cons,Bool.and_eq_true] at hk
  obtain⟨m,rfl⟩:=yQ hk.1
  obtain⟨e',he',hrel⟩:=hr 0 _ rfl
  simp only[List.getElem?_cons_zero,Option.some.injEq] at he'
  subst he'
  have hkey:=hrel.aU
  obtain⟨q1,q2⟩:=pX (n:=n) v' l es (i0+1) (by simpa using hl) hk.2 fun i x hx=>hr (i+1) x (by simpa using hx)
  refine⟨?_,?_⟩
  ·intro y hy
   rcases List.mem_cons.1 hy with rfl|hy
   ·rw[hkey];exact rfl
   ·exact q1 y hy
  ·by_cases hmn:m=n
   ·subst hmn
    right
    refine⟨0,e,u,by simp[eQ],?_,rfl,hkey,rfl,by simp[l3]⟩
    simp[Instr.findNow,Instr.sameNow,hkey]
   ·have hf:Instr.findNow (.int k) (.int k n) (e::l) i0=Instr.findNow (.int k) (.int k n) l (i0+1):=by
     have:(n==m)=false:=by simpa using Ne.symm hmn
     simp[Instr.findNow,Instr.sameNow,hkey,this]
    rw[hf]
    rcases q2 with⟨a,b,c⟩|⟨j,e2,v,a,b,c,d,e3,f⟩
    ·exact .inl ⟨by simp[eQ,hmn,a],b,by simp[l3,hmn,c]⟩
    ·refine .inr ⟨j+1,e2,v,by simp[eQ,hmn,a],?_,by simpa using c,d,by simpa using e3,by simp[l3,hmn,f]⟩
     rw[b];simp;omega
theorem AR{Φ:Phi}{k:IntKind}{n:Int}:∀{es:List (MV × MV)} {x:MV × MV} {v:Value},eQ n es=none→(es.all fun p=>isK k p.1)=true→x∈es→Rel Φ v x.1→v≠.int k n
 | [],_,_,_,_,hx,_=>by cases hx
 | (y,u)::es,x,v,h0,hk,hx,hr=>by
  simp only[List.all_cons,Bool.and_eq_true] at hk
  obtain⟨m,rfl⟩:=yQ hk.1
  by_cases hm:m=n
  ·simp[eQ,hm] at h0
  ·simp only[eQ,if_neg hm] at h0
   rcases List.mem_cons.1 hx with rfl|hx
   ·rw[hr.aU]
    intro e;cases e;exact hm rfl
   ·exact AR h0 hk.2 hx hr
theorem cY.E0{Φ:Phi}{w:World}{l:Nat}{es:List (MV × MV)}(h:cY Φ w l (.mp es)):∃(p:Place) (R:Nat) (c:Array MapEntry) (clock:Nat),Φ.obj l=some p∧p.blk=some R∧w.heap[R]?=some (.map c clock)∧c.size=es.length∧Stamped c clock ∧
  ∀(i:Nat) (x:MV × MV),es[i]?=some x→∃e,c.toList[i]?=some e∧Rel Φ e.key x.1∧Rel Φ e.val x.2:=by
 obtain⟨p,R,hp,hR,c,clock,hh,⟨hs,hst⟩,hr⟩:=h
 refine⟨p,R,c,clock,hp,hR,hh,hs,hst,fun i x hx=>?_⟩
 have hi:=(List.getElem?_eq_some_iff.1 hx).1
 have hic:i<c.size:=by omega
 have:=hr i x hx
 rw[show c.getD i default=c[i] by simp[Array.getD,hic]] at this
 exact⟨c[i],by simp[hic],this⟩
theorem Cf{P:Program}{o:Oper}{f:FR}{σ:St}{k:MV→St→Prop}{t:TypeId}(ho:o.op=.makeMap t none)(hk:∀l,σ l=none→k (.mapv l) (σ.set l (.mp []))):sop P o f σ k:=by
 intro Φ w a K Q' hi hr hK
 obtain⟨n,hn⟩:=hi.fresh.1.1
 have hl:=hn n (Nat.le_refl _)
 have hrun:(execOp a.eval o).run P w=.ok (.value (.map (some w.heap.size))) (w.alloc (.map #[] 0)):=by
  unfold execOp
  simp only[ho,Instr.makeMap,Option.map_none,Sem.run_bind,run_newObj,Result.andThen_ok,Sem.run_pure]
  rfl
 obtain⟨i1,s1⟩:=hi.alloc (w':=w.alloc (.map #[] 0)) n hl (.mp []) (.map #[] 0) ⟨some w.heap.size,0,1,1⟩ rfl rfl rfl rfl rfl (by first|exact Nat.le_refl _|exact iM (Nat.le_succ _))
  ⟨_,w.heap.size,Phi.bX _ _ _,rfl,#[],0,heap_alloc_new w _,⟨rfl,stamped_empty 0⟩,fun i x hx=>by simp at hx⟩
 exact bK hrun (hK _ (.mapv n) _ _ _ (Rel.mapv (Phi.bX _ _ _) rfl) i1 s1 (hk n (hi.eD hl)))
theorem Eg{P:Program}{o:Oper}{f:FR}{σ:St}{k:MV→St→Prop}{t kt et:TypeId}{m x y:Operand}(ho:o.op=.insert t m x y∨o.op=.mapUpdate t m x y)(ht:(td P t).k=.map kt et){kd:IntKind}(hkt:(td P kt).k=.int kd)
 {l:Nat}{es:List (MV × MV)}(hm:aE f m=.mapv l)(hl:σ l=some (.mp es)){n:Int}(hx:aE f x=.int kd n)(he:(es.all fun p=>isK kd p.1)=true)
 (hk:k .junk (σ.set l (.mp (l3 kd n (aE f y) es)))):sop P o f σ k:=by
 intro Φ w a K Q' hi hr hK
 have hum:=pO ht
 have huk:=i6 hkt
 have rm:=aL hr m
 have rx:=aL hr x
 have ry:=aL hr y
 rw[hm] at rm
 rw[hx] at rx
 obtain⟨p,R,hp,hR,hmv⟩:=rm.lZ
 have hxv:=rx.aU
 obtain⟨p',R',c,clock,hp',hR',hh,hs,hst,hrel⟩:=(hi.own l _ hl).E0
 rw[hp] at hp';cases hp'
 rw[hR] at hR';cases hR'
 obtain⟨hkeys,hfind⟩:=pX (n:=n) (aE f y) c.toList es 0 (by simpa using hs) he fun i z hz=>by
  obtain⟨e,h1,h2,_⟩:=hrel i z hz
  exact⟨e,h1,h2⟩
 have hrt:=(Array.getElem?_eq_some_iff.1 hh).1
 rcases hfind with⟨h0,h1,h2⟩|⟨j,e,v,_,h1,hj,hek,hes,h2⟩
 ·obtain⟨c',hc'⟩:∃c',c'=c.push { key:=a.eval x,val:=a.eval y,born:=clock }:=⟨_,rfl⟩
  have hrun:(execOp a.eval o).run P w=.ok .skip (gG w R (.map c' (clock+1))):=by
   unfold execOp
   rcases ho with ho|ho<;>simp only[ho] <;>
    simp[hmv,hxv,Instr.mapUpdate,run_underlying hum,Go.MapKept.run_getObj_map hh,run_checkKey (d:=.int kd) (k:=.int kd n) huk rfl,run_findKey (d:=.int kd) huk h1,run_setObj_map _ hh,Result.andThen,gG,hc']
  obtain⟨i1,s1⟩:=hi.Ep (w':=gG w R (.map c' (clock+1))) l hl (.mp (es++[(.int kd n,aE f y)])) hp hR jC (fun q hq=>eP hq) rfl rfl rfl (Nat.le_refl _)
   ⟨p,R,hp,hR,c',clock+1,gW hrt,⟨by rw[hc'];simp[hs],by
    rw[hc']
    refine stamped_push hst fun e1 he1=>?_
    obtain⟨i,hi1,rfl⟩:=List.mem_iff_getElem.1 he1
    have hi':i<es.length:=by rw[←hs];simpa using hi1
    obtain⟨e',q1,q2,_⟩:=hrel i es[i] (List.getElem?_eq_getElem hi')
    rw[List.getElem?_eq_getElem hi1] at q1
    cases q1
    rw[hxv]
    exact AR h0 he (List.getElem_mem hi') q2⟩,fun i z hz=>by
    rw[hc']
    by_cases hlt:i<es.length
    ·rw[List.getElem?_append_left hlt] at hz
     obtain⟨e,q1,q2,q3⟩:=hrel i z hz
     have:(c.push { key:=a.eval x,val:=a.eval y,born:=clock }).getD i default=e:=by
      have hic:i<c.size:=by omega
      have q1':c[i]?=some e:=by simpa using q1
      rw[Array.getD_eq_getD_getElem?,Array.getElem?_push,if_neg (by omega),q1'];rfl
     rw[this];exact⟨q2,q3⟩
    ·have hie:i=es.length:=by
      have:=(List.getElem?_eq_some_iff.1 hz).1
      simp at this;omega
     subst hie
     rw[List.getElem?_append_right (Nat.le_refl _)] at hz
     simp only[Nat.sub_self,List.getElem?_cons_zero,Option.some.injEq] at hz
     subst hz
     have:(c.push { key:=a.eval x,val:=a.eval y,born:=clock }).getD es.length default={ key:=a.eval x,val:=a.eval y,born:=clock }:=by
      rw[Array.getD_eq_getD_getElem?,Array.getElem?_push,if_pos (by omega)];rfl
     rw[this]
     exact⟨by simp only;rw[hxv];exact .int _ _,ry⟩⟩
  rw[←h2] at i1 s1
  exact Ak hrun (hK _ .junk _ _ _ (.junk _) i1 s1 hk)
 ·have hjc:c[j]?=some e:=by simpa using hj
  obtain⟨c',hc'⟩:∃c',c'=c.modify j fun e=>{ e with key:=a.eval x,val:=a.eval y }:=⟨_,rfl⟩
  have hrun:(execOp a.eval o).run P w=.ok .skip (gG w R (.map c' clock)):=by
   unfold execOp
   rcases ho with ho|ho<;>simp only[ho] <;>
    simp[hmv,hxv,Instr.mapUpdate,run_underlying hum,Go.MapKept.run_getObj_map hh,run_checkKey (d:=.int kd) (k:=.int kd n) huk rfl,run_findKey (d:=.int kd) huk h1,hjc,hek,run_keyThatStays (d:=.int kd) (k:=.int kd n) rfl,run_setObj_map _ hh,Result.andThen,gG,hc']
  have hjlt:=(Array.getElem?_eq_some_iff.1 hjc).1
  obtain⟨i1,s1⟩:=hi.Ep (w':=gG w R (.map c' clock)) l hl (.mp (es.set j (.int kd n,aE f y))) hp hR jC (fun q hq=>eP hq) rfl rfl rfl (Nat.le_refl _)
   ⟨p,R,hp,hR,c',clock,gW hrt,⟨by rw[hc'];simp[hs],by
    rw[hc']
    exact stamped_modify hst j _ (fun _ _=>rfl) fun e' _ he'=>by rw[hjc] at he';cases he';exact hxv.trans hek.symm⟩,fun i z hz=>by
    rw[hc',Array.getD_eq_getD_getElem?,Array.getElem?_modify]
    by_cases hij:j=i
    ·subst hij
     rw[List.getElem?_set_self (by omega)] at hz
     cases hz
     rw[if_pos rfl,hjc]
     exact⟨by simp only[Option.map_some,Option.getD_some];rw[hxv];exact .int _ _,ry⟩
    ·rw[List.getElem?_set_ne hij] at hz
     obtain⟨e,q1,q2,q3⟩:=hrel i z hz
     have q1':c[i]?=some e:=by simpa using q1
     rw[if_neg hij,q1'];exact⟨q2,q3⟩⟩
  rw[←h2] at i1 s1
  exact Ak hrun (hK _ .junk _ _ _ (.junk _) i1 s1 hk)
def qT(d:TD):MV:=if d.k.isAgg=true then .agg d.zero else d.zero.headD .junk
theorem Ei{P:Program}{o:Oper}{f:FR}{σ:St}{k:MV→St→Prop}{t kt et:TypeId}{m x:Operand}{ok:Bool}(ho:o.op=.lookup t m x ok)(ht:(td P t).k=.map kt et){kd:IntKind}(hkt:(td P kt).k=.int kd)(hz:(td P et).zok=true)
 {l:Nat}{es:List (MV × MV)}(hm:aE f m=.mapv l)(hl:σ l=some (.mp es)){n:Int}(hx:aE f x=.int kd n)(he:(es.all fun p=>isK kd p.1)=true)
 (hk:k (if ok=true then .tup [(eQ n es).getD (qT (td P et)),.bool (eQ n es).isSome] else(eQ n es).getD (qT (td P et))) σ):sop P o f σ k:=by
 intro Φ w a K Q' hi hr hK
 have hum:=pO ht
 have huk:=i6 hkt
 have rm:=aL hr m
 have rx:=aL hr x
 rw[hm] at rm
 rw[hx] at rx
 obtain⟨p,R,hp,hR,hmv⟩:=rm.lZ
 have hxv:=rx.aU
 obtain⟨p',R',c,clock,hp',hR',hh,hs,hst,hrel⟩:=(hi.own l _ hl).E0
 rw[hp] at hp';cases hp'
 rw[hR] at hR';cases hR'
 obtain⟨hkeys,hfind⟩:=pX (n:=n) .junk c.toList es 0 (by simpa using hs) he fun i z hz=>by
  obtain⟨e,h1,h2,_⟩:=hrel i z hz
  exact⟨e,h1,h2⟩
 obtain⟨z,hz0,hz1,hz2,hok,hz3,hz4,hz5⟩:=cP hz w
 have fin:∀(v:Value) (u:MV) (b:Bool),Rel Φ v u→(Instr.lookup t (a.eval m) (a.eval x) ok).run P w=.ok (if ok=true then .tuple #[v,.bool b] else v) w→k (if ok=true then .tup [u,.bool b] else u) σ→o.wp P a w K Q':=fun v u b hv hrun hk=>by
  have hrun2:(execOp a.eval o).run P w=.ok (.value (if ok=true then .tuple #[v,.bool b] else v)) w:=by
   unfold execOp
   simp only[ho,Sem.run_bind,hrun,Result.andThen_ok,Sem.run_pure]
  refine bK hrun2 (hK _ _ _ _ _ ?_ hi (.refl _ _ _) hk)
  cases ok
  ·exact hv
  ·refine .tup rfl fun i q hq=>?_
   match i with
   | 0=>simp at hq;subst hq;exact hv
   | 1=>simp at hq;subst hq;exact .bool _
   | i+2=>simp at hq
 rcases hfind with⟨h0,h1,h2⟩|⟨j,e,v,h0,h1,hj,hek,hes,h2⟩
 ·rw[h0] at hk
  refine fin z (qT (td P et)) false ?_ ?_ hk
  ·unfold qT
   by_cases hag:(td P et).k.isAgg=true
   ·rw[if_pos hag]
    obtain⟨cs,rfl⟩:=hz4 hag
    exact(gX (Φ:=Φ) hz1 hz3).agg
   ·rw[if_neg hag]
    have h5:=hz5 (by simpa using hag)
    have rc:=gX (Φ:=Φ) hz1 hz3
    rw[h5] at rc
    have hlen:=rc.1
    match hzz:(td P et).zero with
    | []=>rw[hzz] at hlen;simp at hlen
    | q::_ =>
     rw[hzz] at rc
     have:=rc.2.2 0 q rfl
     simpa using this
  ·simp[hmv,hxv,Instr.lookup,run_underlying hum,Go.MapKept.run_getObj_map hh,run_checkKey (d:=.int kd) (k:=.int kd n) huk rfl,run_findKey (d:=.int kd) huk h1,hz0,Result.andThen]
 ·rw[h0] at hk
  obtain⟨e',q1,q2,q3⟩:=hrel j _ hes
  rw[hj] at q1;cases q1
  refine fin e.val v true q3 ?_ hk
  simp[hmv,hxv,Instr.lookup,run_underlying hum,Go.MapKept.run_getObj_map hh,run_checkKey (d:=.int kd) (k:=.int kd n) huk rfl,run_findKey (d:=.int kd) huk h1,Result.andThen]
end

section
open Go.MapKept
theorem HH{P:Program}{o:Oper}{f:FR}{σ:St}{k:MV→St→Prop}{t kt et:TypeId}{m:Operand}(ho:o.op=.range t m)(ht:(td P t).k=.map kt et)
 {l:Nat}{es:List (MV × MV)}(hm:aE f m=.mapv l)(hl:σ l=some (.mp es))
 (hk:∀q st ck,σ q=none→st.length=es.length→st.Nodup→(∀s,s∈st→s<ck)→k (.ptr q 0 0) ((σ.set l (.mk es st ck)).set q (.it l ck []))):sop P o f σ k:=by
 intro Φ w a K Q' hi hr hK
 have hum:=pO ht
 have rm:=aL hr m
 rw[hm] at rm
 obtain⟨p,R,hp,hR,hmv⟩:=rm.lZ
 obtain⟨p',R',hp',hR',c,clock,hh,⟨hs,hst⟩,hrel⟩:=hi.own l _ hl
 rw[hp] at hp';cases hp'
 rw[hR] at hR';cases hR'
 have hst':=(stamped_iff c clock).1 hst
 obtain⟨i1,s1⟩:=hi.Ep (w':=w) l hl (.mk es (c.toList.map (·.born)) clock) hp hR rfl (fun _ _=>rfl) rfl rfl rfl (Nat.le_refl _) ⟨p,R,hp,hR,c,hh,⟨hs,hst,rfl⟩,hrel⟩
 obtain⟨n,hn⟩:=i1.fresh.1.1
 have hfr:=hn n (Nat.le_refl _)
 have hrun:(execOp a.eval o).run P w=.ok (.value (.pointer (some ⟨w.heap.size,0,none⟩))) (w.alloc (.mapIter (some R) clock #[] clock)):=by
  unfold execOp
  simp only[ho,hmv,Sem.run_bind,run_range_map w t kt et R c clock hum hh,Result.andThen_ok,Sem.run_pure]
 have hln:l≠n:=fun e=>by subst e;rw[hp] at hfr;cases hfr
 obtain⟨i2,s2⟩:=i1.alloc (w':=w.alloc (.mapIter (some R) clock #[] clock)) n hfr (.it l clock []) (.mapIter (some R) clock #[] clock) ⟨some w.heap.size,0,1,1⟩ rfl rfl rfl rfl rfl (by first|exact Nat.le_refl _|exact iM (Nat.le_succ _))
  ⟨_,w.heap.size,p,R,Phi.bX _ _ _,rfl,rfl,(Phi.oG _ hfr).obj _ _ hp,hR,heap_alloc_new w _⟩
 refine bK hrun (hK _ (.ptr n 0 0) _ _ _ ?_ i2 (s1.trans s2) (hk n _ clock (hi.eD hfr) (by simp[hs]) ?_ fun s h=>?_))
 ·have:=Rel.ptr (Φ:=Φ.put n ⟨some w.heap.size,0,1,1⟩) (l:=n) (i:=0) (o:=0) (Phi.bX _ _ _) rfl
  simpa using this
 ·exact hst'.2.1
 ·obtain⟨x,hx,rfl⟩:=List.mem_map.1 h
  exact hst'.1 x hx
theorem J7{P:Program}{o:Oper}{f:FR}{σ:St}{k:MV→St→Prop}{x:Operand}(ho:o.op=.next x false){q l ck:Nat}{seen st:List Nat}{es:List (MV × MV)}(hx:aE f x=.ptr q 0 0)
 (hq:σ q=some (.it l ck seen))(hl:σ l=some (.mk es st ck))(h0:(∀s,s∈st→s∈seen)→k (.tup [.bool false]) σ)
 (h1:∀(i:Nat) (z:MV × MV) (s:Nat),es[i]?=some z→st[i]?=some s→s∉seen→k (.tup [.bool true,z.1,z.2]) (σ.set q (.it l ck (seen++[s])))):sop P o f σ k:=by
 intro Φ w a K Q' hi hr hK
 have rx:=aL hr x
 rw[hx] at rx
 obtain⟨p,R,hp,hR,hv⟩:=rx.fZ
 obtain⟨p',R',pm,Rm,hp',hR',hbo,hpm,hRm,hit⟩:=hi.own q _ hq
 rw[hp] at hp';cases hp'
 rw[hR] at hR';cases hR'
 obtain⟨pl,Rl,hpl,hRl,c,hh,⟨hs,hst,hbn⟩,hrel⟩:=hi.own l _ hl
 rw[hpm] at hpl;cases hpl
 rw[hRm] at hRl;cases hRl
 have hst':=(stamped_iff c ck).1 hst
 rw[hbo,Nat.zero_mul] at hv
 have hv:a.eval x=.pointer (some ⟨R,0,none⟩):=by simpa using hv
 rcases run_next_at (P:=P) w o.type R Rm ck ck seen.toArray c ck hit hh hst'.1 (Nat.le_refl _) with⟨h2,hrun⟩|⟨e,he,w1,hw1,hrun⟩
 ·have hrun':(execOp a.eval o).run P w=.ok (.value (.tuple #[.bool false])) w:=by
   unfold execOp
   simp only[ho,hv,Sem.run_bind,hrun,Result.andThen_ok,Sem.run_pure]
  refine bK hrun' (hK _ (.tup [.bool false]) _ _ _ ?_ hi (.refl _ _ _) (h0 fun s h=>?_))
  ·refine .tup rfl fun i z hz=>?_
   match i with
   | 0=>simp at hz;subst hz;exact .bool _
   | i+1=>simp at hz
  ·rw[←hbn] at h
   obtain⟨y,hy,rfl⟩:=List.mem_map.1 h
   have:=all_seen c seen.toArray h2 y hy
   simpa using this
 ·obtain⟨hem,hes⟩:=mem_left he
  obtain⟨i,hi1,hie⟩:=List.mem_iff_getElem.1 hem
  have hic:i<c.size:=by simpa using hi1
  have hie':c.toList[i]?=some e:=by rw[List.getElem?_eq_getElem hi1,hie]
  have hz:es[i]?=some (es[i]'(by omega)):=List.getElem?_eq_getElem (by omega)
  obtain⟨z,hzz⟩:∃z,es[i]'(by omega)=z:=⟨_,rfl⟩
  rw[hzz] at hz
  have hrz:=hrel i z hz
  rw[show c.getD i default=e by
   have:c[i]=e:=by rw[←hie];simp
   simp[Array.getD,hic,this]] at hrz
  have hsi:st[i]?=some e.born:=by rw[←hbn,List.getElem?_map,hie'];rfl
  have hns:e.born∉seen:=by simpa using hes
  have hrun':(execOp a.eval o).run P w=.ok (.value (.tuple #[.bool true,e.key,e.val])) (Go.ChangeMaps.setBlock w1 R (.mapIter (some Rm) ck (seen.toArray.push e.born) ck)):=by
   unfold execOp
   simp only[ho,hv,Sem.run_bind,hrun,Result.andThen_ok,Sem.run_pure]
  have hRlt:=(Array.getElem?_eq_some_iff.1 hit).1
  have hheap:(Go.ChangeMaps.setBlock w1 R (.mapIter (some Rm) ck (seen.toArray.push e.born) ck)).heap=w.heap.setIfInBounds R (.mapIter (some Rm) ck (seen.toArray.push e.born) ck):=by
   rcases hw1 with rfl|rfl<;>rfl
  have hdr:drw w≤drw (Go.ChangeMaps.setBlock w1 R (.mapIter (some Rm) ck (seen.toArray.push e.born) ck)):=by
   rcases hw1 with rfl|rfl
   ·exact Nat.le_refl _
   ·exact iM (Nat.le_succ _)
  obtain⟨i1,s1⟩:=hi.Ep (w':=Go.ChangeMaps.setBlock w1 R (.mapIter (some Rm) ck (seen.toArray.push e.born) ck)) q hq (.it l ck (seen++[e.born])) hp hR (by rw[hheap];simp) (fun j hj=>by
    rw[hheap,Array.getElem?_setIfInBounds,if_neg (Ne.symm hj)]) (by rcases hw1 with rfl|rfl<;>rfl) (by rcases hw1 with rfl|rfl<;>rfl) (by rcases hw1 with rfl|rfl<;>rfl) hdr
   ⟨p,R,pm,Rm,hp,hR,hbo,hpm,hRm,by
    rw[hheap,Array.getElem?_setIfInBounds,if_pos rfl,if_pos hRlt]
    simp⟩
  refine bK hrun' (hK _ (.tup [.bool true,z.1,z.2]) _ _ _ ?_ i1 s1 (h1 i z e.born hz hsi hns))
  refine .tup rfl fun j m hm=>?_
  match j with
  | 0=>simp at hm;subst hm;exact .bool _
  | 1=>simp at hm;subst hm;exact hrz.1
  | 2=>simp at hm;subst hm;exact hrz.2
  | j+3=>simp at hm
theorem HF{P:Program}{o:Oper}{f:FR}{σ:St}{k:MV→St→Prop}{x:Operand}(ho:o.op=.entry x){q l ck:Nat}{seen st:List Nat}{es:List (MV × MV)}(hx:aE f x=.ptr q 0 0)
 {i s:Nat}{z:MV × MV}(hq:σ q=some (.it l ck (seen++[s])))(hl:σ l=some (.mk es st ck))(hz:es[i]?=some z)(hsi:st[i]?=some s)(hk:k (.tup [z.1,z.2]) σ):sop P o f σ k:=by
 intro Φ w a K Q' hi hr hK
 have rx:=aL hr x
 rw[hx] at rx
 obtain⟨p,R,hp,hR,hv⟩:=rx.fZ
 obtain⟨p',R',pm,Rm,hp',hR',hbo,hpm,hRm,hit⟩:=hi.own q _ hq
 rw[hp] at hp';cases hp'
 rw[hR] at hR';cases hR'
 obtain⟨pl,Rl,hpl,hRl,c,hh,⟨hs,hst,hbn⟩,hrel⟩:=hi.own l _ hl
 rw[hpm] at hpl;cases hpl
 rw[hRm] at hRl;cases hRl
 have hst':=(stamped_iff c ck).1 hst
 rw[hbo,Nat.zero_mul] at hv
 have hv:a.eval x=.pointer (some ⟨R,0,none⟩):=by simpa using hv
 have hil:i<es.length:=(List.getElem?_eq_some_iff.1 hz).1
 have hic:i<c.size:=by omega
 have hci:c.toList[i]?=some c[i]:=by simp[hic]
 have hbi:c[i].born=s:=by
  rw[←hbn,List.getElem?_map,hci] at hsi
  simpa using hsi
 have hrz:=hrel i z hz
 rw[show c.getD i default=c[i] by simp[Array.getD,hic]] at hrz
 have hrun:(execOp a.eval o).run P w=.ok (.value (.tuple #[c[i].key,c[i].val])) w:=by
  unfold execOp
  simp only[ho,hv,Sem.run_bind,run_entry_at (P:=P) w R Rm ck seen.toArray c ck c[i] (by rw[hbi];simpa using hit) hh (List.mem_of_getElem? hci) (hst'.2.1),Result.andThen_ok,Sem.run_pure]
 refine bK hrun (hK _ (.tup [z.1,z.2]) _ _ _ ?_ hi (.refl _ _ _) hk)
 refine .tup rfl fun j m hm=>?_
 match j with
 | 0=>simp at hm;subst hm;exact hrz.1
 | 1=>simp at hm;subst hm;exact hrz.2
 | j+2=>simp at hm
end

section
def Fits(n b:Nat):Prop:=n≤140737488355328∧n * b≤140737488355328
def mpure(σ:St)(k:MV→St→Prop):PV→Prop
  | some (C,v)=>C∧k v σ
  | none=>False
def jY(P:Program)(t:TypeId)(x:MV)(σ:St)(k:MV→St→Prop):Prop :=
  match x with
  | .ptr l i o=>match σ l with
    | some (.row _ _ xs)=>((td P t).ok=true∧i<xs.length∧o+(td P t).size≤(xs.getD i []).length∧0<(td P t).size)∧k (dA (td P t) (xs.getD i []) o) σ
    | _=>False
  | .cptr cs=>((td P t).ok=true∧(td P t).size≤cs.length∧0<(td P t).size)∧k (dA (td P t) cs 0) σ
  | _=>False
def mB(P:Program)(t:TypeId)(x y:MV)(σ:St)(k:MV→St→Prop):Prop :=
  match x with
  | .ptr l i o=>match σ l with
    | some (.row tt e xs)=>((td P t).ok=true∧i<xs.length∧y.cells.all MV.aP=true∧y.cells.length=(td P t).size∧o+y.cells.length≤(xs.getD i []).length)∧k .junk (σ.set l (.row tt e (xs.set i (laid (xs.getD i []) o y.cells))))
    | _=>False
  | _=>False
def iY(P:Program)(t xt:TypeId)(s x:MV)(σ:St)(k:MV→St→Prop):Prop :=
  match (td P t).k with
  | .slice el=>match gB σ (td P el).size x with
    | some ys=>match s with
      | .bC=>((td P xt).k.eN=true∧(td P el).zok=true∧Fits ys.length (td P el).bytes)∧∀l,σ l=none→k (.vec (td P el).size l 0 ys.length) (σ.set l (.row el (td P el).size ys))
      | .lst e xs true=>((td P xt).k.eN=true∧(td P el).zok=true∧e=(td P el).size∧(xs=[]∨0<ys.length)∧Fits (xs.length+ys.length) (td P el).bytes) ∧
          ∀l,σ l=none→k (.vec (td P el).size l 0 (xs.length+ys.length)) (σ.set l (.row el (td P el).size (xs++ys)))
      | .vec e l lo n=>match σ l with
        | some (.row tt e' xs)=>((td P xt).k.eN=true∧(td P el).zok=true∧e=(td P el).size∧e'=(td P el).size∧tt=el∧lo=0∧lo+n≤xs.length∧Fits (n+ys.length) (td P el).bytes) ∧
            ∀l',σ l'=none→k (.vec (td P el).size l' 0 (n+ys.length)) ((σ.del l).set l' (.row el (td P el).size (eG xs lo n ys)))
        | _=>False
      | _=>False
    | none=>False
  | _=>False
def dE(P:Program)(f:FR)(t:TypeId)(len:Nat)(parts:Array (Nat × Operand))(σ:St)(k:MV→St→Prop):Prop :=
  match (td P t).k with
  | .slice el=>((td P el).zok=true∧parts.toList.map (·.1)=List.range len∧(parts.toList.all fun p=>(aE f p.2).cells.all MV.aP&&(aE f p.2).cells.length==(td P el).size)=true∧len * (td P el).size≤16777216∧len≤16777216) ∧
      ∀l,σ l=none→k (.vec (td P el).size l 0 len) (σ.set l (.row el (td P el).size (parts.toList.map fun p=>(aE f p.2).cells)))
  | _=>False
def gT(P:Program)(t:TypeId)(x y:MV)(σ:St)(k:MV→St→Prop):Prop :=
  match (td P t).k,x,y with
  | .slice el,.int .i64 n,.int .i64 c=>((td P el).zok=true∧0≤n∧n≤c∧Fits c.toNat (td P el).bytes)∧∀l,σ l=none→k (.vec (td P el).size l 0 n.toNat) (σ.set l (.row el (td P el).size (List.replicate n.toNat (td P el).zero)))
  | _,_,_=>False
def gA(P:Program)(s d:TypeId)(x:MV)(σ:St)(k:MV→St→Prop):Prop :=
  match (td P s).k,(td P d).k,x with
  | .str,.slice el,.str b=>((td P el).k=.int .u8∧b.size≤140737488355328)∧∀l,σ l=none→k (.vec 1 l 0 b.size) (σ.set l (.row el 1 (b.toList.map fun c=>[.int .u8 (c.toNat:Int)])))
  | .slice el,.str,.str _=>False
  | .slice el,.str,x=>match gB σ 1 x with
    | some ys=>((td P el).k=.int .u8∧ys.all isByte=true)∧k (.str (bytesOf ys)) σ
    | none=>False
  | _,_,x=>mpure σ k (o5 P s d x)
def fL(P:Program)(f:FR)(b:Builtin)(args:List Operand)(ts:List TypeId)(σ:St)(k:MV→St→Prop):Prop :=
  match b with
  | .append=>match args,ts with
    | [s,x],[t,xt]=>iY P t xt (aE f s) (aE f x) σ k
    | _,_=>False
  | b=>ts.length=args.length∧mpure σ k (dO P b ts.toArray (args.map (aE f)))
def E1(P:Program)(f:FR)(c:Call)(σ:St)(k:MV→St→Prop):Prop :=
  match c.callee with
  | .builtin b=>fL P f b c.args.toList c.argTypes.toList σ k
  | .value x=>match aE f x with
    | .fn (.func g) ms ns=>aA P g (ms++c.args.toList.map (aE f)++ns) σ k
    | _=>False
  | .invoke _ _=>False
def mapOf(σ:St):MV→Option aV
  | .mapv l=>σ l
  | _=>none
def fA(P:Program)(t:TypeId)(m x y:MV)(o:Option aV)(σ:St)(k:MV→St→Prop):Prop :=
  match (td P t).k,m,x,o with
  | .map kt _,.mapv l,.int kd n,some (.mp es)=>((td P kt).k=.int kd∧(es.all fun p=>isK kd p.1)=true)∧k .junk (σ.set l (.mp (l3 kd n y es)))
  | _,_,_,_=>False
def fB(P:Program)(t:TypeId)(m x:MV)(ok:Bool)(o:Option aV)(σ:St)(k:MV→St→Prop):Prop :=
  match (td P t).k,m,x,o with
  | .map kt et,.mapv _,.int kd n,some (.mp es)=>((td P kt).k=.int kd∧(td P et).zok=true∧(es.all fun p=>isK kd p.1)=true)∧k (if ok=true then .tup [(eQ n es).getD (qT (td P et)),.bool (eQ n es).isSome] else(eQ n es).getD (qT (td P et))) σ
  | _,_,_,_=>False
def DU(P:Program)(t:TypeId)(m:MV)(o:Option aV)(σ:St)(k:MV→St→Prop):Prop :=
  match (td P t).k,m,o with
  | .map _ _,.mapv l,some (.mp es)=>∀q st ck,σ q=none→st.length=es.length→st.Nodup→(∀s,s∈st→s<ck)→k (.ptr q 0 0) ((σ.set l (.mk es st ck)).set q (.it l ck []))
  | _,_,_=>False
def Jg(x:MV)(σ:St)(k:MV→St→Prop):Prop :=
  match x with
  | .ptr q 0 0=>∃l ck seen es st,σ q=some (.it l ck seen)∧σ l=some (.mk es st ck)∧((∀s,s∈st→s∈seen)→k (.tup [.bool false]) σ) ∧
      ∀(i:Nat) (z:MV × MV) (s:Nat),es[i]?=some z→st[i]?=some s→s∉seen→k (.tup [.bool true,z.1,z.2]) (σ.set q (.it l ck (seen++[s])))
  | _=>False
def Dy(x:MV)(σ:St)(k:MV→St→Prop):Prop :=
  match x with
  | .ptr q 0 0=>∃l ck seen es st,∃(i:Nat) (z:MV × MV) (s:Nat),σ q=some (.it l ck (seen++[s]))∧σ l=some (.mk es st ck)∧es[i]?=some z∧st[i]?=some s∧k (.tup [z.1,z.2]) σ
  | _=>False
def mop(P:Program)(f:FR)(σ:St)(k:MV→St→Prop):Op→Prop
  | .alloc t=>(td P t).zok=true∧∀l,σ l=none→k (.ptr l 0 0) (σ.set l (.row t (td P t).size [(td P t).zero]))
  | .box t x=>(aE f x).cells.all MV.aP=true∧∀l,σ l=none→k (.ptr l 0 0) (σ.set l (.row t (aE f x).cells.length [(aE f x).cells]))
  | .load t x=>jY P t (aE f x) σ k
  | .store t x y=>mB P t (aE f x) (aE f y) σ k
  | .buildSlice t len parts=>dE P f t len parts σ k
  | .makeSlice t x y=>gT P t (aE f x) (aE f y) σ k
  | .convert s d x=>gA P s d (aE f x) σ k
  | .call c=>E1 P f c σ k
  | .lookup t m x ok=>fB P t (aE f m) (aE f x) ok (mapOf σ (aE f m)) σ k
  | .mapUpdate t m x y=>fA P t (aE f m) (aE f x) (aE f y) (mapOf σ (aE f m)) σ k
  | op=>mpure σ k (qop P f op)
theorem mA{P:Program}{o:Oper}{f:FR}{σ:St}{k:MV→St→Prop}(h:mpure σ k (qop P f o.op))(hot:o9 o.op=true):sop P o f σ k:=by
  cases hq:qop P f o.op with
  | none=>rw[hq] at h;exact h.elim
  | some q=>obtain⟨C,v⟩:=q;rw[hq] at h;exact J8 hq hot h.1 h.2
theorem kE{n:Nat}(h:n≤140737488355328):n≤maxLen:=Nat.le_trans h (by unfold maxLen;omega)
theorem x7{l:List MV}(h:l.all MV.aP=true):∀c,c∈l→c.aP=true:=by simpa using h
theorem Bo{P:Program}{o:Oper}{f:FR}{σ:St}{k:MV→St→Prop}{t:TypeId}{x:Operand}(ho:o.op=.load t x)(h:jY P t (aE f x) σ k):sop P o f σ k:=by
  unfold jY at h
  split at h
  · rename_i l i of hx
    split at h
    · rename_i tt e xs hs
      exact J6 ho hx hs h.1.1 h.1.2.1 h.1.2.2.1 h.1.2.2.2 h.2
    · exact h.elim
  · rename_i cs hx
    exact HE ho hx h.1.1 h.1.2.1 h.1.2.2 h.2
  · exact h.elim
theorem j8{P:Program}{o:Oper}{f:FR}{σ:St}{k:MV→St→Prop}{t:TypeId}{m x y:Operand}(ho:o.op=.insert t m x y∨o.op=.mapUpdate t m x y)(h:fA P t (aE f m) (aE f x) (aE f y) (mapOf σ (aE f m)) σ k):sop P o f σ k:=by
  unfold fA at h
  split at h
  · rename_i kt et l kd n es h1 h2 h3 h4
    rw[h2] at h4
    exact Eg ho h1 h.1.1 h2 h4 h3 h.1.2 h.2
  · exact h.elim
theorem nP{P:Program}{o:Oper}{f:FR}{σ:St}{k:MV→St→Prop}{t:TypeId}{m x:Operand}{ok:Bool}(ho:o.op=.lookup t m x ok)(h:fB P t (aE f m) (aE f x) ok (mapOf σ (aE f m)) σ k):sop P o f σ k:=by
  unfold fB at h
  split at h
  · rename_i kt et l kd n es h1 h2 h3 h4
    rw[h2] at h4
    exact Ei ho h1 h.1.1 h.1.2.1 h2 h4 h3 h.1.2.2 h.2
  · exact h.elim
theorem zB{P:Program}{o:Oper}{f:FR}{σ:St}{k:MV→St→Prop}{t:TypeId}{m:Operand}(ho:o.op=.range t m)(h:DU P t (aE f m) (mapOf σ (aE f m)) σ k):sop P o f σ k:=by
  unfold DU at h
  split at h
  · rename_i kt et l es h1 h2 h3
    rw[h2] at h3
    exact HH ho h1 h2 h3 h
  · exact h.elim
theorem Bq{P:Program}{o:Oper}{f:FR}{σ:St}{k:MV→St→Prop}{x:Operand}(ho:o.op=.next x false)(h:Jg (aE f x) σ k):sop P o f σ k:=by
  unfold Jg at h
  split at h
  · rename_i q hx
    obtain⟨l,ck,seen,es,st,h1,h2,h3,h4⟩:=h
    exact J7 ho hx h1 h2 h3 h4
  · exact h.elim
theorem yX{P:Program}{o:Oper}{f:FR}{σ:St}{k:MV→St→Prop}{x:Operand}(ho:o.op=.entry x)(h:Dy (aE f x) σ k):sop P o f σ k:=by
  unfold Dy at h
  split at h
  · rename_i q hx
    obtain⟨l,ck,seen,es,st,i,z,s,h1,h2,h3,h4,h5⟩:=h
    exact HF ho hx h1 h2 h3 h4 h5
  · exact h.elim
theorem kF{P:Program}{o:Oper}{f:FR}{σ:St}{k:MV→St→Prop}(h:mop P f σ k o.op):sop P o f σ k:=by
  cases ho:o.op<;>rw[ho] at h<;>simp only[mop] at h
  case alloc t=>exact HC ho h.1 h.2
  case box t x=>exact LO ho (x7 h.1) h.2
  case load t x=>exact Bo ho h
  case lookup t m x ok=>exact nP ho h
  case mapUpdate t m x y=>exact j8 (.inr ho) h
  case store t x y =>
    unfold mB at h
    split at h
    · rename_i l i of hx
      split at h
      · rename_i tt e xs hs
        obtain⟨⟨h1,h2,h3,h4,h5⟩,h6⟩:=h
        exact HI ho hx hs h1 h2 (x7 h3) h4 h5 h6
      · exact h.elim
    · exact h.elim
  case buildSlice t len parts =>
    unfold dE at h
    split at h
    · rename_i el hk
      obtain⟨⟨h1,h2,h3,h4,h5⟩,h6⟩:=h
      refine uL ho hk h1 h2 (fun p hp=>?_) h4 (kE (by omega)) h6
      have:=List.all_eq_true.1 h3 p hp
      simp only[Bool.and_eq_true,beq_iff_eq] at this
      exact⟨x7 this.1,this.2⟩
    · exact h.elim
  case makeSlice t x y =>
    unfold gT at h
    split at h
    · rename_i el n c hk hx hy
      obtain⟨⟨h1,h2,h3,h4⟩,h6⟩:=h
      obtain⟨h7,h8⟩:=h4
      refine vY ho hk h1 hx hy h2 h3 (by omega) ?_ h6
      have:c=(c.toNat:Int):=by omega
      rw[this,Int.mul_comm,←Int.natCast_mul]
      exact Int.ofNat_le.2 h8
    · exact h.elim
  case convert s d x =>
    unfold gA at h
    split at h
    · rename_i el b hs hd hx
      exact HG ho hs hd h.1.1 hx (kE h.1.2) h.2
    · exact h.elim
    · rename_i el hs hd hne
      split at h
      · rename_i ys hy
        exact HJ ho hs h.1.1 hd hy (fun b hb=>hne b hb) h.1.2 h.2
      · exact h.elim
    · refine mA ?_ (by rw[ho];rfl)
      rw[ho]
      exact h
  case call c =>
    obtain⟨callee,args,ts⟩:=c
    unfold E1 at h
    cases callee with
    | builtin b =>
      simp only[fL] at h
      split at h
      · split at h
        · rename_i s x t xt ha hts
          have ha':args=#[s,x]:=by rw[←Array.toArray_toList (xs:=args),ha]
          have hts':ts=#[t,xt]:=by rw[←Array.toArray_toList (xs:=ts),hts]
          subst ha';subst hts'
          unfold iY at h
          split at h
          · rename_i el hk
            split at h
            · rename_i ys hy
              split at h
              · rename_i hs
                obtain⟨⟨h1,h2,h3⟩,h4⟩:=h
                have:=mK (P:=P) (f:=f) (σ:=σ) (k:=k) ho hk h1 h2 (xs:=[]) (ys:=ys) (.inl ⟨hs,rfl⟩) hy (.inl rfl) (kE (by simpa using h3.1)) (by simpa using h3.2) (by simpa using h4)
                exact this
              · rename_i e xs hs
                obtain⟨⟨h1,h2,rfl,h3,h4⟩,h5⟩:=h
                exact mK (P:=P) (f:=f) (σ:=σ) (k:=k) ho hk h1 h2 (.inr hs) hy h3 (kE h4.1) h4.2 h5
              · rename_i e l lo n hs
                split at h
                · rename_i tt e' xs hsl
                  obtain⟨⟨h1,h2,rfl,rfl,h3,hlo,h4,h5⟩,h6⟩:=h
                  exact uK (P:=P) (f:=f) (σ:=σ) (k:=k) ho hk h1 h2 hs hsl h3 hlo h4 hy (kE h5.1) h5.2 h6
                · exact h.elim
              · exact h.elim
            · exact h.elim
          · exact h.elim
        · exact h.elim
      · rename_i b' hne
        refine mA (P:=P) (f:=f) ?_ (by rw[ho];simp only[o9,beq_iff_eq];simpa using h.1)
        rw[ho]
        simpa[qop] using h.2
    | value x =>
      simp only at h
      split at h
      · rename_i g ms ns hx
        exact J5 ho hx h
      · exact h.elim
    | invoke r m=>exact h.elim
  all_goals first
    | exact mA (by rw[ho];exact h) (by rw[ho];rfl)
    | exact h.elim
def bB(f:FR)(dst:Option Tmp)(v:MV):FR :=
  match dst with
  | some d=>if d<f.n then⟨f.n,(d,v)::f.l,f.d⟩ else f
  | none=>f
theorem cG{Φ:Phi}{a:Act}{f:FR}(hr:cF Φ a.tmps f)(dst:Option Tmp){v:Value}{m:MV}(h:Rel Φ v m):cF Φ (a.put dst v).tmps (bB f dst m):=by
  cases dst with
  | none=>exact hr
  | some d =>
    have e1:=hr.1
    simp only[bB]
    split
    · rename_i hd
      refine⟨by simp[Act.put,e1],fun t=>?_⟩
      simp only[Act.put,Array.getD_eq_getD_getElem?,Array.getElem?_setIfInBounds,FR.get,bY]
      by_cases ht:t=d
      · subst ht
        rw[if_pos rfl,if_pos rfl,if_pos (show t<a.tmps.size by rw[e1];exact hd)]
        exact h
      · rw[if_neg (Ne.symm ht),if_neg ht]
        have:=hr.2 t
        rwa [Array.getD_eq_getD_getElem?] at this
    · rename_i hd
      refine⟨by simp[Act.put,e1],fun t=>?_⟩
      have hd':¬d<a.tmps.size:=by rw[e1];exact hd
      have:(a.put (some d) v).tmps=a.tmps:=by simp only[Act.put,Array.setIfInBounds,dif_neg hd']
      rw[this]
      exact hr.2 t
theorem bM{a:Act}(dst:Option Tmp)(v:Value):(a.put dst v).defers=a.defers:=by cases dst<;>rfl
theorem eR{Φ:Phi}:Rel Φ undef (.tup []):=.tup rfl (fun i m h=>by simp at h)
def eO(ops:Array Oper)(f:FR)(o:Oper)(yes no:Prop):Prop :=
  match o.guard with
  | none=>yes
  | some (j,want)=>match (ops[j]?).bind (·.dst) with
    | some t=>match f.get t with
      | .bool b=>(b=want→yes)∧(b=(!want)→no)
      | .tup []=>no
      | _=>False
    | none=>False
theorem cD{Φ:Phi}{ops:Array Oper}{f:FR}{o:Oper}{yes no:Prop}(h:eO ops f o yes no){a:Act}(hr:cF Φ a.tmps f) :
    (Region.wanted o (yielded ops a.tmps)=true∧yes)∨(Region.wanted o (yielded ops a.tmps)=false∧no):=by
  unfold eO at h
  unfold Region.wanted
  split at h
  · rename_i hg;rw[hg];exact .inl ⟨rfl,h⟩
  · rename_i j want hg
    rw[hg]
    simp only
    split at h
    · rename_i t ht
      split at h
      · rename_i b hb
        have hy:yielded ops a.tmps j=some b:=by
          unfold yielded
          rw[ht]
          have hrel:=hr.2 t
          rw[hb] at hrel
          have hrel:=hrel.jH
          have hlt2:t<a.tmps.size:=by
            rcases Nat.lt_or_ge t a.tmps.size with q|q
            · exact q
            · simp[Array.getD_eq_getD_getElem?,Array.getElem?_eq_none q,undef] at hrel
          rw[Array.getD_eq_getD_getElem?,Array.getElem?_eq_getElem hlt2] at hrel
          simp only[Option.getD_some] at hrel
          simp[Array.getElem?_eq_getElem hlt2,hrel]
        rw[hy]
        by_cases hw:b=want
        · left;subst hw;exact⟨by simp,h.1 rfl⟩
        · right
          have hb':b=!want:=by cases b<;>cases want<;>simp at hw ⊢
          exact⟨by simp[hw],h.2 hb'⟩
      · rename_i hb
        right
        have hrel:=hr.2 t
        rw[hb] at hrel
        obtain⟨cs,e,hs,_⟩:=hrel.yP
        have hy:yielded ops a.tmps j=none:=by
          unfold yielded
          rw[ht]
          rcases Nat.lt_or_ge t a.tmps.size with q|q
          · rw[Array.getD_eq_getD_getElem?,Array.getElem?_eq_getElem q] at e
            simp only[Option.getD_some] at e
            simp[Array.getElem?_eq_getElem q,e]
          · simp[Array.getElem?_eq_none q]
        rw[hy]
        exact⟨by simp,h⟩
      · exact h.elim
    · exact h.elim
def s6(f:FR)(c:Call)(K:FR→Prop):Prop:=match c.callee with
  | .value x=>match aE f x with
    | .fn (.func g) ms ns=>K ⟨f.n,f.l,(g,ms++c.args.toList.map (aE f)++ns)::f.d⟩
    | _=>False
  | _=>False
def zJ(P:Program)(t:TypeId)(x lo hi:MV)(o:Option aV)(σ:St)(k:MV→St→Prop):Prop :=
  match x,lo,hi,o,(td P t).k with
  | .vec e l l0 _,.int _ a,.int _ h,some (.row _ e' xs),.slice el=>((td P el).ok=true∧e=(td P el).size∧e'=(td P el).size∧0≤a∧a≤h∧l0+h.toNat≤xs.length)∧k (.vec e l (l0+a.toNat) (h.toNat - a.toNat)) σ
  | _,_,_,_,_=>False
def IN(σ:St):MV→Option aV
  | .vec _ l _ _=>σ l
  | _=>none
def beyond:MV→MV→Prop
  | .vec _ _ _ n,.int _ h=>(n:Int)<h
  | _,_=>False
instance (x y:MV):Decidable (beyond x y):=by unfold beyond;split<;>infer_instance
def mclear(P:Program)(t:TypeId)(x:MV)(o:Option aV)(σ:St)(k:MV→St→Prop):Prop :=
  match x,o,(td P t).k with
  | .vec e l l0 n,some (.row tt e' xs),.slice el=>((td P el).zok=true∧0<(td P el).size∧e=(td P el).size∧e'=(td P el).size∧l0+n≤xs.length)∧k .junk (σ.set l (.row tt e' (iB xs l0 (List.replicate n (td P el).zero))))
  | _,_,_=>False
def Jy(P:Program)(t:TypeId)(s x:MV)(σ:St)(k:MV→St→Prop):Prop :=
  match (td P t).k,s,x with
  | .slice el,.bC,.int .i64 n=>((td P el).zok=true∧0<(td P el).size∧0<n∧Fits n.toNat (td P el).bytes)∧∀l,σ l=none→k (.vec (td P el).size l 0 n.toNat) (σ.set l (.row el (td P el).size (List.replicate n.toNat (td P el).zero)))
  | _,_,_=>False
def Lm(b:Bool)(A B:Prop):Prop:=if b=true then A else B
def iH(P:Program)(f:FR)(σ:St)(dst:Option Tmp)(K:FR→St→Prop):Op→Prop
  | .defer c=>s6 f c fun f'=>K (bB f' dst .junk) σ
  | .makeMap _ none=>∀l,σ l=none→K (bB f dst (.mapv l)) (σ.set l (.mp []))
  | .insert t m x y=>fA P t (aE f m) (aE f x) (aE f y) (mapOf σ (aE f m)) σ (fun v σ'=>K (bB f dst v) σ')
  | .mapUpdate t m x y=>fA P t (aE f m) (aE f x) (aE f y) (mapOf σ (aE f m)) σ (fun v σ'=>K (bB f dst v) σ')
  | .lookup t m x ok=>fB P t (aE f m) (aE f x) ok (mapOf σ (aE f m)) σ (fun v σ'=>K (bB f dst v) σ')
  | .range t m=>DU P t (aE f m) (mapOf σ (aE f m)) σ (fun v σ'=>K (bB f dst v) σ')
  | .next x false=>Jg (aE f x) σ (fun v σ'=>K (bB f dst v) σ')
  | .entry x=>Dy (aE f x) σ (fun v σ'=>K (bB f dst v) σ')
  | .slice t x (some y) (some z) none=>if beyond (aE f x) (aE f z) then zJ P t (aE f x) (aE f y) (aE f z) (IN σ (aE f x)) σ (fun v σ'=>K (bB f dst v) σ')
      else mop P f σ (fun v σ'=>K (bB f dst v) σ') (.slice t x (some y) (some z) none)
  | .call ⟨.builtin .clear,args,ts⟩=>match args.toList,ts.toList with
    | [x],[t]=>mclear P t (aE f x) (IN σ (aE f x)) σ (fun v σ'=>K (bB f dst v) σ')
    | _,_=>False
  | .call ⟨.builtin .append,args,ts⟩=>match args.toList,ts.toList with
    | [s,x],[t,xt]=>Lm (td P xt).k.isInt (Jy P t (aE f s) (aE f x) σ (fun v σ'=>K (bB f dst v) σ')) (mop P f σ (fun v σ'=>K (bB f dst v) σ') (.call ⟨.builtin .append,args,ts⟩))
    | _,_=>False
  | op=>mop P f σ (fun v σ'=>K (bB f dst v) σ') op
def dT(P:Program)(ops:Array Oper)(K:FR→St→Prop):List Oper→FR→St→Prop
  | [],f,σ=>K f σ
  | o::rest,f,σ=>eO ops f o (iH P f σ o.dst (dT P ops K rest) o.op) (dT P ops K rest (bB f o.dst (.tup [])) σ)
theorem dQ(f:FR)(dst:Option Tmp)(v:MV):(bB f dst v).d=f.d:=by
  unfold bB
  split<;>(try split)<;>rfl
def dF:Op→Bool
  | .defer _|.makeMap _ none|.insert ..|.mapUpdate ..|.lookup ..|.range ..|.next _ false|.entry ..|.slice _ _ (some _) (some _) none|.call ⟨.builtin .clear,_,_⟩|.call ⟨.builtin .append,_,_⟩=>false
  | _=>true
theorem Bz{P:Program}{f:FR}{σ:St}{dst:Option Tmp}{K:FR→St→Prop}{op:Op}(h:dF op=true):iH P f σ dst K op=mop P f σ (fun v σ'=>K (bB f dst v) σ') op:=by
  cases op<;>first|rfl|skip
  case slice t x lo hi mx=>cases lo<;>cases hi<;>cases mx<;>first|rfl|(simp[dF] at h;done)
  case defer c=>simp[dF] at h
  case makeMap t r=>cases r<;>first|rfl|(simp[dF] at h;done)
  case insert=>simp[dF] at h
  case range=>simp[dF] at h
  case entry=>simp[dF] at h
  case next x b=>cases b<;>first|rfl|(simp[dF] at h;done)
  case call c =>
    obtain⟨callee,args,ts⟩:=c
    cases callee<;>first|rfl|skip
    rename_i b
    cases b<;>first|rfl|(simp[dF] at h;done)
theorem jZ{P:Program}{o:Oper}{f:FR}{σ:St}{K:FR→St→Prop}(hd:∀c,o.op≠.defer c)(h:iH P f σ o.dst K o.op):sop P o f σ fun v σ'=>K (bB f o.dst v) σ':=by
  by_cases hp:dF o.op=true
  · rw[Bz hp] at h
    exact kF h
  · cases ho:o.op<;>rw[ho] at h hp<;>(try simp[dF] at hp)
    case slice t x lo hi mx =>
      cases lo<;>cases hi<;>cases mx<;>(try simp[dF] at hp)
      rename_i y z
      simp only[iH] at h
      split at h
      · unfold zJ at h
        split at h
        · rename_i e l l0 n k1 a k2 hh tt e' xs el hx hy hz hl hk
          obtain⟨⟨h1,rfl,rfl,h3,h4,h5⟩,h6⟩:=h
          rw[hx] at hl
          exact Ej ho hk h1 hx hl hy hz h3 h4 h5 h6
        · exact h.elim
      · rw[←ho] at h
        exact kF h
    case defer c=>exact absurd ho (hd c)
    case makeMap t r =>
      cases r<;>(try simp[dF] at hp)
      exact Cf ho h
    case insert t m x y=>exact j8 (.inl ho) h
    case mapUpdate t m x y=>exact j8 (.inr ho) h
    case lookup t m x ok=>exact nP ho h
    case range t m=>exact zB ho h
    case next x b =>
      cases b<;>(try simp[dF] at hp)
      exact Bq ho h
    case entry x=>exact yX ho h
    case call c =>
      obtain⟨callee,args,ts⟩:=c
      cases callee<;>(try simp[dF] at hp)
      rename_i b
      cases b<;>(try simp[dF] at hp)
      case append =>
        simp only[iH] at h
        split at h
        · rename_i s x t xt ha ht
          have ha':args=#[s,x]:=by rw[←Array.toArray_toList (xs:=args),ha]
          have ht':ts=#[t,xt]:=by rw[←Array.toArray_toList (xs:=ts),ht]
          subst ha';subst ht'
          unfold Lm at h
          split at h
          · rename_i hxt
            unfold Jy at h
            split at h
            · rename_i el n hk hs hx
              obtain⟨⟨h1,h2,h3,h4,h5⟩,h6⟩:=h
              exact qO ho hk hxt h1 h2 hs hx h3 h4 h5 h6
            · exact h.elim
          · rw[←ho] at h
            exact kF h
        · exact h.elim
      case clear =>
        simp only[iH] at h
        split at h
        · rename_i x t ha ht
          have ha':args=#[x]:=by rw[←Array.toArray_toList (xs:=args),ha]
          have ht':ts=#[t]:=by rw[←Array.toArray_toList (xs:=ts),ht]
          subst ha';subst ht'
          unfold mclear at h
          split at h
          · rename_i e l l0 n tt e' xs el hx hl hk
            obtain⟨⟨h1,h2,rfl,rfl,h3⟩,h4⟩:=h
            rw[hx] at hl
            exact HD ho hk h1 h2 hx hl h3 h4
          · exact h.elim
        · exact h.elim
theorem B1{Φ:Phi}{x y:Array Value}{m n:List MV}(h1:fE Φ x m)(h2:fE Φ y n):fE Φ (x++y) (m++n):=by
  refine⟨by simp[h1.1,h2.1],fun i q hq=>?_⟩
  have e1:=h1.1
  by_cases h:i<m.length
  · rw[List.getElem?_append_left h] at hq
    have:=h1.2 i q hq
    simpa[Array.getD_eq_getD_getElem?,Array.getElem?_append_left (show i<x.size by omega)] using this
  · rw[List.getElem?_append_right (by omega)] at hq
    have:=h2.2 _ q hq
    simpa[Array.getD_eq_getD_getElem?,Array.getElem?_append_right (show x.size≤i by omega),e1] using this
theorem o6{P:Program}{o:Oper}{c:Call}(ho:o.op=.defer c){f:FR}{K:FR→Prop}(h:s6 f c K){Φ:Phi}{a:Act}{w:World}(hr:cF Φ a.tmps f)(hd:cR Φ w a.defers f.d) :
    ∃d f',(execOp a.eval o).run P w=.ok (.defer d) w∧cF Φ a.tmps f'∧cR Φ w (d::a.defers) f'.d∧K f':=by
  unfold s6 at h
  obtain⟨callee,args,ts⟩:=c
  simp only at h
  split at h
  · rename_i x
    split at h
    · rename_i g ms ns hx
      have rx:=aL hr x
      rw[hx] at rx
      obtain⟨first,cap,he,r1,r2⟩:=rx.kZ
      refine⟨⟨.fn (.func g) cap,first++args.map a.eval⟩,_,?_,?_,?_,h⟩
      · unfold execOp
        simp only[ho,resolve,he,Deferred.ofValue,Sem.run_bind,Sem.run_pure,Result.andThen_ok]
      · exact hr
      · exact .inr ⟨_,_,_,cap,rfl,rfl,B1 (B1 r1 (jM hr args)) r2,hd⟩
    · exact h.elim
  · exact h.elim
theorem z7{F:Fence}(hF:F=Fence.wide∨∃l,F=Fence.wide.inRound l){n:Nat}{P:Program}{row:String}{args:Array Value}{w:World}{R:Value→World→Prop}(h:Rows P row args w R):RowsIn F n P row args w R:=by
  intro c cs _
  obtain⟨v,w',r,s⟩:=h c cs
  refine⟨v,w',r,?_⟩
  rcases hF with rfl|⟨l,rfl⟩
  · exact stepsIn_wide.2 s
  · rw[fenced_inRound];exact stepsIn_wide.2 s
theorem u4{F:Fence}(hF:F=Fence.wide∨∃l,F=Fence.wide.inRound l){n:Nat}{P:Program}{f:FuncId}{args:Array Value}{w:World}{R:Ending→World→Prop}(h:Calls P f args w R):CallsIn F n P f args w R:=by
  rcases hF with rfl|⟨l,rfl⟩
  · exact callsIn_wide.2 h
  · exact CallsIn.inRound l (callsIn_wide.2 h)
theorem fO{F:Fence}{n:Nat}{P:Program}{o:Oper}{a:Act}{w:World}{K:Act→World→Prop}{Q:Exit→Act→World→Prop}
   (hF:F=Fence.wide∨∃l,F=Fence.wide.inRound l∧∀c,o.op≠.defer c)(h:o.wp P a w K Q):o.wpIn F n P a w K Q:=by
  have hF':F=Fence.wide∨∃l,F=Fence.wide.inRound l:=hF.imp id fun⟨l,e,_⟩=>⟨l,e⟩
  have hfn:∀g,F.fn g:=fun g=>by rcases hF' with rfl|⟨l,rfl⟩<;>trivial
  have hd:F.depth.isSome=true→1≤n:=fun q=>by rcases hF' with rfl|⟨l,rfl⟩<;>cases q
  have hs:o.semAt F.round a.eval=execOp a.eval o:=by
    rcases hF with rfl|⟨l,rfl,hc⟩
    · exact Oper.semAt_none _ _
    · exact Oper.semAt_eq _ _ _ hc
  refine⟨fun f _=>hfn f,?_⟩
  rw[hs]
  unfold Oper.wp at h
  generalize (execOp a.eval o).run P w=r at h ⊢
  cases r with
  | ok x w' =>
    cases x with
    | value v=>exact h
    | skip=>exact h
    | defer d=>exact h
    | enter f args=>exact⟨hd,(u4 hF' h).mono fun e w'' q=>by cases e<;>exact q⟩
    | row row args=>exact⟨hd,z7 hF' h⟩
    | _=>exact h.elim
  | halt x w' =>
    cases x with
    | panic v=>exact h
    | _=>exact h.elim
theorem tE{P:Program}{ops:Array Oper}{Q:MQ}{Φ0:Phi}{σ0:St}{w0:World}{F:Fence}:∀(l:List Oper),(F=Fence.wide∨∃l0,F=Fence.wide.inRound l0∧∀o,o∈l→∀c,o.op≠.defer c)→∀(f:FR) (σ:St) (Φ:Phi) (w:World) (a:Act),dT P ops (Q .normal) l f σ→Inv Φ w σ→cF Φ a.tmps f→cR Φ w a.defers f.d →
    Step Φ0 σ0 w0 Φ σ w→wpListIn F 0 P ops (lift Φ0 σ0 w0 Q) l a w:=by
  intro l
  induction l with
  | nil=>intro _ f σ Φ w a h hi hr hd hs;exact⟨f,σ,Φ,hd,hr,hi,hs,h⟩
  | cons o rest ih =>
    intro hF f σ Φ w a h hi hr hd hs
    have hFr:F=Fence.wide∨∃l0,F=Fence.wide.inRound l0∧∀o,o∈rest→∀c,o.op≠.defer c:=hF.imp id fun⟨l0,e,q⟩=>⟨l0,e,fun o ho=>q o (by simp[ho])⟩
    have hFo:F=Fence.wide∨∃l0,F=Fence.wide.inRound l0∧∀c,o.op≠.defer c:=hF.imp id fun⟨l0,e,q⟩=>⟨l0,e,q o (by simp)⟩
    have hfn:∀g,F.fn g:=fun g=>by rcases hF with rfl|⟨l,rfl,_⟩<;>trivial
    simp only[dT] at h
    unfold wpListIn
    rcases cD h hr with⟨hw,hy⟩|⟨hw,hn⟩
    · rw[if_pos hw]
      refine fO hFo ?_
      by_cases hdef:∃c,o.op=.defer c
      · obtain⟨c,hc⟩:=hdef
        rw[hc] at hy
        have hy:s6 f c fun f'=>dT P ops (Q .normal) rest (bB f' o.dst .junk) σ:=hy
        obtain⟨d,f',h1,h2,h3,h4⟩:=o6 (P:=P) (w:=w) hc hy hr hd
        unfold Oper.wp
        rw[h1]
        refine ih hFr _ _ Φ w _ h4 hi (cG (a:={ a with defers:=d::a.defers }) h2 o.dst (.junk _)) ?_ hs
        rw[bM,dQ]
        exact h3
      · exact jZ (fun c hc=>hdef ⟨c,hc⟩) hy Φ w a _ _ hi hr (fun v mv σ' Φ' w' r1 i1 s1 hk=>ih hFr _ _ Φ' w' (a.put o.dst v) hk i1 (cG (hr.mono s1.le) o.dst r1) (by rw[bM,dQ];exact hd.step hi s1) (hs.trans s1))
    · rw[if_neg (by simp[hw])]
      exact⟨fun f _=>hfn f,ih hFr _ _ Φ w (a.put o.dst undef) hn hi (cG hr o.dst eR) (by rw[bM,dQ];exact hd) hs⟩
theorem FOk.ops{F:Fence}{id:Nat}{ops:Array Oper}{dr:Bool}(h:FOk F (.region id ops dr)):F=Fence.wide∨∃l0,F=Fence.wide.inRound l0∧∀o,o∈ops.toList→∀c,o.op≠.defer c :=
  Or.imp (fun q=>q) (fun⟨l0,e,q⟩=>⟨l0,e,fun o ho c hc=>by
    have:=List.all_eq_true.1 q o ho
    rw[hc] at this
    cases this⟩) h
theorem DX{P:Program}{id:Nat}{ops:Array Oper}{f:FR}{σ:St}{Q:MQ}(h:dT P ops (Q .normal) ops.toList f σ):mwp P (.region id ops false) f σ Q :=
  fun F hF Φ w a hi hr hd=>wpIn_region_list (tE ops.toList hF.ops f σ Φ w a h hi hr hd (.refl _ _ _))
def Bx(P:Program)(f:FR)(σ:St):ResultVar→(MV→Prop)→Prop
  | .tmp t,k=>k (f.get t)
  | .cell a t,k=>jY P t (f.get a) σ (fun v _=>k v)
def dR(P:Program)(f:FR)(σ:St):List ResultVar→(List MV→Prop)→Prop
  | [],k=>k []
  | r::rs,k=>Bx P f σ r fun v=>dR P f σ rs fun vs=>k (v::vs)
def oneOf:List MV→MV
  | [v]=>v
  | vs=>.tup vs
def x0(P:Program)(g:FuncId)(ms:List MV)(σ:St)(Q:St→Prop):Prop :=
  ∃fn,P.funcs[g]?=some fn∧fn.body.isNone=false∧(fn.name == "runtime.NumGoroutine")=false ∧
    ∀Φ w vs,Inv Φ w σ→fE Φ vs ms→CallsD P g vs .returning w fun e u' w'=>u'=.returning∧∃v σ' Φ',e=.returned v∧Inv Φ' w' σ'∧Step Φ σ w Φ' σ' w'∧Q σ'
def mleave(P:Program)(n:Nat)(l:List (Nat × MV))(rs:List ResultVar)(Q:MV→St→Prop):List (FuncId × List MV)→St→Prop
  | [],σ=>dR P ⟨n,l,[]⟩ σ rs fun vs=>Q (oneOf vs) σ
  | (g,ms)::d,σ=>x0 P g ms σ fun σ'=>mleave P n l rs Q d σ'
def JP(P:Program)(rs:List ResultVar)(Q:MV→St→Prop):MQ
  | .normal,f,σ|.ret,f,σ=>mleave P f.n f.l rs Q f.d σ
  | _,_,_=>False
theorem GM{P:Program}{t:TypeId}{x:MV}{σ:St}{k:MV→St→Prop}(h:jY P t x σ k){Φ:Phi}{w:World}(hi:Inv Φ w σ){v:Value}(r:Rel Φ v x):∃ad u m,v=.pointer (some ad)∧(loadVar t ad).run P w=.ok u w∧Rel Φ u m∧k m σ:=by
  unfold jY at h
  split at h
  · rename_i l i of
    split at h
    · rename_i tt e xs hs
      obtain⟨⟨hok,hi',h1,h0⟩,hk⟩:=h
      obtain⟨p,R,hp,hR,he⟩:=r.fZ
      obtain⟨p',hp',hpe,hlen,R',hR',hcells⟩:=(hi.own l _ hs).elem (hE hi' (d:=[]))
      rw[hp] at hp';cases hp'
      rw[hR] at hR';cases hR'
      obtain⟨v2,hv,hrel⟩:=iZ (P:=P) (Φ:=Φ) (w:=w) (t:=t) (b:=R) (off:=p.bo+i * p.e+of) (ms:=(xs.getD i []).drop of) hok (by rw[List.length_drop];omega) h0 (fun j m hm=>by
        rw[List.getElem?_drop] at hm
        have:=hcells _ m hm
        rw[Nat.add_assoc (p.bo+i * p.e),hpe]
        exact this)
      have e2:dA (td P t) ((xs.getD i []).drop of) 0=dA (td P t) (xs.getD i []) of:=by
        unfold dA
        simp[List.getD,List.getElem?_drop]
      rw[e2] at hrel
      exact⟨_,v2,_,he,hv,hrel,hk⟩
    · exact h.elim
  · rename_i cs
    obtain⟨⟨hok,h1,h0⟩,hk⟩:=h
    obtain⟨b,off,vs,he,hc,hrr⟩:=r.kC
    obtain⟨v2,hv,hrel⟩:=iZ (P:=P) (Φ:=Φ) (w:=w) (t:=t) (b:=b) (off:=off) (ms:=cs) hok h1 h0 (fun j m hm=>⟨(hc j m hm).1,vs j,hi.snap _ _ (hc j m hm).2,hrr j m hm⟩)
    exact⟨_,v2,_,he,hv,hrel,hk⟩
  · exact h.elim
theorem B0{Φ:Phi}{tmps:Array Value}{f:FR}(hr:cF Φ tmps f)(t:Nat):Rel Φ (tmps.getD t undef) (f.get t):=hr.2 t
def xS(tmps:Array Value):ResultVar→Sem Value
  | .tmp t=>pure (tmps.getD t undef)
  | .cell a t=>do loadVar t (←asAddr (tmps.getD a undef))
theorem lC(fn:Func)(tmps:Array Value):results fn tmps=(do
    let vs ←fn.results.mapM (xS tmps)
    pure (if h:vs.size=1 then vs[0] else .tuple vs)):=rfl
theorem zD{P:Program}{f:FR}{σ:St}{Φ:Phi}{w:World}(hi:Inv Φ w σ){tmps:Array Value}(hr:cF Φ tmps f):∀(rs:List ResultVar) (k:List MV→Prop),dR P f σ rs k →
    ∃vs ms,(rs.mapM (m:=Sem) (xS tmps)).run P w=.ok vs w∧vs.length=ms.length∧(∀(i:Nat) v m,vs[i]?=some v→ms[i]?=some m→Rel Φ v m)∧k ms:=by
  intro rs
  induction rs with
  | nil=>intro k h;exact⟨[],[],by simp,rfl,by simp,h⟩
  | cons r rs ih =>
    intro k h
    simp only[dR] at h
    cases r with
    | tmp t =>
      obtain⟨vs,ms,h1,h2,h3,h4⟩:=ih _ h
      refine⟨tmps.getD t undef::vs,f.get t::ms,?_,by simp[h2],fun i v m hv hm=>?_,h4⟩
      · rw[List.mapM_cons]
        simp only[xS,Sem.run_bind,Sem.run_pure,Result.andThen_ok]
        rw[h1]
        rfl
      · cases i with
        | zero=>simp only[List.getElem?_cons_zero,Option.some.injEq] at hv hm;subst hv;subst hm;exact B0 hr t
        | succ i=>exact h3 i v m (by simpa using hv) (by simpa using hm)
    | cell a t =>
      simp only[Bx] at h
      obtain⟨ad,u,m1,he,hl,hrel,hk⟩:=GM h hi (B0 hr a)
      obtain⟨vs,ms,h1,h2,h3,h4⟩:=ih _ hk
      refine⟨u::vs,m1::ms,?_,by simp[h2],fun i v m hv hm=>?_,h4⟩
      · rw[List.mapM_cons]
        simp only[xS,Sem.run_bind,he,asAddr,Sem.run_pure,Result.andThen_ok,hl]
        rw[h1]
        rfl
      · cases i with
        | zero=>simp only[List.getElem?_cons_zero,Option.some.injEq] at hv hm;subst hv;subst hm;exact hrel
        | succ i=>exact h3 i v m (by simpa using hv) (by simpa using hm)
theorem B2{P:Program}{fn:Func}{f:FR}{σ:St}{Φ:Phi}{w:World}(hi:Inv Φ w σ){tmps:Array Value}(hr:cF Φ tmps f){Q:MV→St→Prop}(h:dR P f σ fn.results.toList fun vs=>Q (oneOf vs) σ) :
    ∃v m,(results fn tmps).run P w=.ok v w∧Rel Φ v m∧Q m σ:=by
  obtain⟨vs,ms,h1,h2,h3,h4⟩:=zD (P:=P) hi hr fn.results.toList _ h
  have hm:∃va:Array Value,(fn.results.mapM (m:=Sem) (xS tmps)).run P w=.ok va w∧va.toList=vs:=by
    rw[←Array.toList_mapM] at h1
    simp only[Sem.run_map] at h1
    generalize hg:(fn.results.mapM (m:=Sem) (xS tmps)).run P w=res at h1 ⊢
    cases res with
    | halt x w'=>simp at h1
    | ok va w' =>
      simp only[Result.andThen_ok,Result.ok.injEq] at h1
      obtain⟨h1,rfl⟩:=h1
      exact⟨va,rfl,h1⟩
  obtain⟨va,hva,rfl⟩:=hm
  by_cases hs:va.size=1
  · match ms,h2 with
    | [m],h2 =>
      refine⟨va[0],m,?_,h3 0 _ m (by simp[hs]) rfl,h4⟩
      rw[lC]
      simp only[Sem.run_bind,hva,Result.andThen_ok,Sem.run_pure,dif_pos hs]
    | [],h2=>simp[hs] at h2
    | _::_::_,h2=>simp[hs] at h2
  · refine⟨.tuple va,oneOf ms,?_,?_,h4⟩
    · rw[lC]
      simp only[Sem.run_bind,hva,Result.andThen_ok,Sem.run_pure,dif_neg hs]
    · have:oneOf ms=.tup ms:=by
        match ms,h2 with
        | [],_=>rfl
        | [m],h2=>exact absurd (by simpa using h2) hs
        | _::_::_,_=>rfl
      rw[this]
      refine .tup (by simpa using h2) (fun i m hm'=>?_)
      have hlt:i<va.size:=by have:=(List.getElem?_eq_some_iff.1 hm').1;simp at h2;omega
      have hv:va.toList[i]?=some (va.getD i undef):=by
        rw[Array.getElem?_toList]
        simp[Array.getD_eq_getD_getElem?,Array.getElem?_eq_getElem hlt]
      exact h3 i _ m hv hm'
def iQ:Nat→List MV→List (Nat × MV)
  | _,[]=>[]
  | i,m::ms=>(i,m)::iQ (i+1) ms
theorem mS:∀(ms:List MV) (i t:Nat),bY (iQ i ms) t=if i≤t then(ms[t - i]?).getD .junk else .junk:=by
  intro ms
  induction ms with
  | nil=>intro i t;simp[iQ,bY]
  | cons m ms ih =>
    intro i t
    simp only[iQ,bY,ih]
    by_cases h:t=i
    · subst h;simp
    · rw[if_neg h]
      by_cases h2:i≤t
      · obtain⟨k,rfl⟩:∃k,t=i+1+k:=⟨t - (i+1),by omega⟩
        rw[if_pos (by omega),if_pos h2,show i+1+k - (i+1)=k from by omega,show i+1+k - i=k+1 from by omega]
        rfl
      · rw[if_neg (by omega),if_neg h2]
def gY(P:Program)(fn:Func)(tmps:Array Value)(R:Ending→World→Prop):List Deferred→World→Prop
  | [],w=>∃v,(results fn tmps).run P w=.ok v w∧R (.returned v) w
  | d::ds,w=>(∃r w',d.target=.collected r∧(Instr.takeDeferred r).run P w=.ok [] w'∧gY P fn tmps R ds w') ∨
      ∃fv cap f args,d.target=.fn fv cap∧(invoke d.target d.args).run P w=.ok (.enter f args) w∧CallsD P f args .returning w fun e u' w'=>(∃v,e=.returned v)∧u'=.returning∧gY P fn tmps R ds w'
theorem nN{P:Program}{fn:Func}{tmps:Array Value}{R:Ending→World→Prop}:∀(ds:List Deferred) (w:World) (fr:Frame) (cs:List Frame),fr.mode=.returning→fr.defers=ds→fr.tmps=tmps→P.funcs[fr.fn]?=some fn→fr.kind=.normal →
    gY P fn tmps R ds w→∃e w' fr',R e w'∧Comes P (lone fr cs w) (lone fr' cs w') e∧fr'.fn=fr.fn∧fr'.leaving P w' e:=by
  intro ds
  induction ds with
  | nil =>
    intro w fr cs hu hd ht hf hk h
    obtain⟨v,hr,hR⟩:=h
    exact⟨.returned v,w,fr,hR,Steps.refl P _,rfl,hu,hd,hk,fn,hf,ht ▸ hr⟩
  | cons d ds ih =>
    intro w fr cs hu hd ht hf hk h
    have hrun:fr.mode≠.run:=by rw[hu];simp
    rcases h with⟨r,w',h1,h2,h3⟩|⟨fv,cap,f,args,h1,h2,h3⟩
    · have s1:=step_collected (cs:=cs) hrun hd h1 h2
      obtain⟨e,w2,fr',q1,q2,q3,q4⟩:=ih w' { fr with defers:=[]++ds } cs hu rfl ht hf hk h3
      exact⟨e,w2,fr',q1,Comes.of_steps (.one s1) q2,q3,q4⟩
    · have s1:=step_defer (cs:=cs) hrun hd h1 h2
      obtain⟨e,u',w',frX,hR,hsteps,hkX,hgo⟩:=h3 { fr with defers:=ds } cs hu
      obtain⟨⟨v,rfl⟩,rfl,hR⟩:=hR
      have s2:=step_going_returned (c:={ { fr with defers:=ds } with mode:=.returning }) (cs:=cs) hkX hgo
      obtain⟨e,w2,fr',q1,q2,q3,q4⟩:=ih w' { { { fr with defers:=ds } with mode:=.returning } with mode:=settle .returning } cs rfl rfl ht hf hk hR
      exact⟨e,w2,fr',q1,Comes.of_steps (.head s1 (Steps.trans hsteps (.one s2))) q2,q3,q4⟩
theorem kP{P:Program}{f:FuncId}{fn:Func}{c:Code}{args:Array Value}{w:World}{R:Ending→World→Prop}(hf:P.funcs[f]?=some fn)(hb:fn.body=some c)
   (h:c.wp P (fun e a w=>(e=.normal∨e=.ret)∧gY P fn a.tmps R a.defers w) { tmps:=args++Array.replicate (fn.ntmps - args.size) undef,defers:=[] } w):Calls P f args w R:=by
  intro cs
  let b:Frame:={ (default:Frame) with fn:=f,kind:=.normal }
  have henter:Frame.enter P f args .normal=b.at { tmps:=args++Array.replicate (fn.ntmps - args.size) undef,defers:=[] } [.code c]:=by
    simp[Frame.enter,Frame.at,hf,hb,b]
  obtain⟨e,a',w',⟨he,hq⟩,harr⟩:=h b [] cs
  rw[←henter] at harr
  rcases he with rfl|rfl
  · obtain⟨e',w'',fr',hR,hs,hfn,hl⟩:=nN a'.defers w' { b.at a' [] with mode:=.returning } cs rfl rfl rfl hf rfl hq
    exact⟨e',w'',fr',hR,Comes.of_steps (Steps.trans harr (.one step_end)) hs,hfn,hl⟩
  · obtain⟨todo,hs₀⟩:=harr
    obtain⟨e',w'',fr',hR,hs,hfn,hl⟩:=nN a'.defers w' { b.at a' todo with mode:=.returning } cs rfl rfl rfl hf rfl hq
    exact⟨e',w'',fr',hR,Comes.of_steps hs₀ hs,hfn,hl⟩
theorem Inv.putObj{Φ:Phi}{w:World}{σ:St}(hi:Inv Φ w σ){D:Nat}{o:Obj}(o':Obj)(hD:w.heap[D]?=some o)(h:∀c t fz,o≠.cells c t fz)(h':∀c k,o≠.map c k)(h2':∀m a b c,o≠.mapIter m a b c:=by intro _ _ _ _ e;cases e):Inv Φ (w.putObj D o') σ:=by
  have hno:¬aQ Φ σ D:=hi.tL (fun c t fz e=>h c t fz (by rw[hD] at e;exact Option.some.inj e)) (fun c k e=>h' c k (by rw[hD] at e;exact Option.some.inj e)) (fun m a b c e=>h2' m a b c (by rw[hD] at e;exact Option.some.inj e))
  refine⟨fun l ob hl=>(hi.own l ob hl).mono (.refl _) fun p R h1 h2=>World.putObj_heap_other fun e=>hno ⟨l,ob,p,hl,h1,e ▸ h2⟩,hi.inj,fun a v hv=>?_,hi.apart,hi.fresh⟩
  have hc:=hi.snap a v hv
  rw[←hc]
  refine World.dI (World.putObj_heap_other fun e=>?_)
  rw[World.cell?,e,hD] at hc
  cases o with
  | cells c t fz=>exact h _ _ _ rfl
  | map c k=>exact h' _ _ rfl
  | _=>simp at hc
theorem xG{P:Program}{fn:Func}{tmps:Array Value}{n:Nat}{l:List (Nat × MV)}{Q:MV→St→Prop}{Φ0:Phi}{σ0:St}{w0:World}(h0:Φ0.base=w0.heap.size) :
    ∀(ds:List Deferred) (d:List (FuncId × List MV)) (Φ:Phi) (w:World) (σ:St),cR Φ w ds d→cF Φ tmps ⟨n,l,[]⟩→Inv Φ w σ→Step Φ0 σ0 w0 Φ σ w→mleave P n l fn.results.toList Q d σ →
    gY P fn tmps (fun e w'=>∃v mv σ' Φ',e=.returned v∧Rel Φ' v mv∧Inv Φ' w' σ'∧Step Φ0 σ0 w0 Φ' σ' w'∧Q mv σ') ds w:=by
  intro ds
  induction ds with
  | nil =>
    intro d Φ w σ hd hr hi hs h
    obtain⟨rfl,-⟩:=hd
    obtain⟨v,m,h1,h2,h3⟩:=B2 (P:=P) (fn:=fn) hi hr h
    exact⟨v,h1,v,m,σ,Φ,rfl,h2,hi,hs,h3⟩
  | cons x ds ih =>
    intro d Φ w σ hd hr hi hs h
    rcases hd with⟨D,h1,h2,h3,h4,h5⟩|⟨g,ms,r,cap,rfl,h1,h2,h3⟩
    · refine .inl ⟨D,_,h1,run_takeDeferred h3,?_⟩
      have hi':=hi.putObj (.deferred none) h3 (fun _ _ _ e=>by cases e) (fun _ _ e=>by cases e)
      have hDb:w0.heap.size≤D:=by rw[←h0,←hs.le.base];exact h2
      have hs':Step Φ0 σ0 w0 Φ σ (w.putObj D (.deferred none)) :=
        ⟨hs.le,hs.os,hs.tape,hs.output,hs.drawn,by rw[World.putObj_size];exact hs.size,fun k hk hn=>(World.putObj_heap_other (by omega)).trans (hs.block k hk hn),hs.snapn,hs.locs,hs.ownd⟩
      refine ih d Φ _ σ ?_ hr hi' hs' h
      have:∀(xs:List Deferred) (d:List (FuncId × List MV)),(∀y,y∈xs→y.target≠.collected D)→cR Φ w xs d→cR Φ (w.putObj D (.deferred none)) xs d:=by
        intro xs
        induction xs with
        | nil=>intro d _ h;exact⟨h.1,by rw[World.putObj_size];exact h.2⟩
        | cons y xs ihx =>
          intro d hy h
          rcases h with⟨D',k1,k2,k3,k4,k5⟩|⟨g,ms,r,cap,k1,k2,k3,k4⟩
          · refine .inl ⟨D',k1,k2,?_,k4,ihx d (fun z hz=>hy z (by simp[hz])) k5⟩
            rw[World.putObj_heap_other]
            · exact k3
            · intro e;exact hy y (by simp) (by rw[k1,e])
          · exact .inr ⟨g,ms,r,cap,k1,k2,k3,ihx r (fun z hz=>hy z (by simp[hz])) k4⟩
      exact this ds d h4 h5
    · obtain⟨fn',hf,hb,hn,hc⟩:=h
      obtain⟨t,ags⟩:=x
      simp only at h1 h2
      subst h1
      refine .inr ⟨.func g,cap,g,ags++cap,rfl,?_,?_⟩
      · simp only[invoke,callFunc,Sem.run_bind,run_program,hf,hn,hb,Result.andThen_ok,Bool.false_eq_true,if_false,Sem.run_pure]
      · intro c cs hcu
        obtain⟨e,u',w',fr,⟨rfl,v,σ',Φ',rfl,i1,s1,q⟩,q2,q3,q4⟩:=hc Φ w _ hi h2 c cs hcu
        exact⟨_,_,w',fr,⟨⟨v,rfl⟩,rfl,ih r Φ' w' σ' (h3.step hi s1) (hr.mono s1.le) i1 (hs.trans s1) q⟩,q2,q3,q4⟩
theorem Fy{P:Program}{fn:Func}{Q:MV→St→Prop}{Φ0:Phi}{σ0:St}{w0:World}{e:Exit}{a':Act}{w':World}(h0:Φ0.base=w0.heap.size)
   (h:lift Φ0 σ0 w0 (JP P fn.results.toList Q) e a' w'):(e=.normal∨e=.ret)∧gY P fn a'.tmps (fun e w'=>∃v mv σ' Φ',e=.returned v∧Rel Φ' v mv∧Inv Φ' w' σ'∧Step Φ0 σ0 w0 Φ' σ' w'∧Q mv σ') a'.defers w':=by
  obtain⟨f',σ',Φ',x1,x2,x3,x4,q⟩:=h
  obtain⟨n,l,d⟩:=f'
  cases e with
  | normal=>exact⟨.inl rfl,xG h0 _ d Φ' w' σ' x1 x2 x3 x4 q⟩
  | ret=>exact⟨.inr rfl,xG h0 _ d Φ' w' σ' x1 x2 x3 x4 q⟩
  | _=>exact q.elim
theorem pY{Φ:Phi}{fn:Func}{vs:Array Value}{ms:List MV}(hr:fE Φ vs ms):cF Φ (vs++Array.replicate (fn.ntmps - vs.size) undef) ⟨max fn.ntmps ms.length,iQ 0 ms,[]⟩:=by
  refine⟨by simp[hr.1];omega,fun t=>?_⟩
  simp only[FR.get,mS,Nat.sub_zero,Nat.zero_le,if_true]
  cases hm:ms[t]? with
  | none=>exact .junk _
  | some m =>
    have hlt:=(List.getElem?_eq_some_iff.1 hm).1
    have e1:=hr.1
    have:=hr.2 t m hm
    simpa[Array.getD_eq_getD_getElem?,Array.getElem?_append_left (show t<vs.size by omega)] using this
def Phi.aT(Φ:Phi)(n:Nat):Phi:={ Φ with base:=n }
theorem Rel.aT{Φ:Phi}{v:Value}{m:MV}(h:Rel Φ v m)(n:Nat):Rel (Φ.aT n) v m:=Rel.Br (Φ:=Φ) (Φ':=Φ.aT n) (fun _ _ q=>q) (fun _ _ q=>q) h
theorem Inv.aT{Φ:Phi}{w:World}{σ:St}(hi:Inv Φ w σ)(n:Nat):Inv (Φ.aT n) w σ:=by
  refine⟨fun l o hl=>?_,hi.inj,hi.snap,hi.apart,hi.fresh⟩
  have:=hi.own l o hl
  cases o with
  | row t e xs =>
    obtain⟨p,h1,h2,h3,h4,h5,h6⟩:=this
    refine⟨p,h1,h2,h3,h4,h5,?_⟩
    split
    · rename_i hb;rw[hb] at h6;exact h6
    · rename_i R hb
      rw[hb] at h6
      obtain⟨c,fz,k1,k2,k3,k4⟩:=h6
      exact⟨c,fz,k1,k2,k3,fun i x j m hx hm=>⟨(k4 i x j m hx hm).1,(k4 i x j m hx hm).2.imp fun v hv=>⟨hv.1,hv.2.aT n⟩⟩⟩
  | mp es =>
    obtain⟨p,R,h1,h2,c,k,h3,h4,h5⟩:=this
    exact⟨p,R,h1,h2,c,k,h3,h4,fun i x hx=>⟨(h5 i x hx).1.aT n,(h5 i x hx).2.aT n⟩⟩
  | mk es st ck =>
    obtain⟨p,R,h1,h2,c,h3,h4,h5⟩:=this
    exact⟨p,R,h1,h2,c,h3,h4,fun i x hx=>⟨(h5 i x hx).1.aT n,(h5 i x hx).2.aT n⟩⟩
  | it m ck seen=>exact this
theorem Step.aT{Φ Φ':Phi}{σ σ':St}{w w':World}{n:Nat}(h:Step (Φ.aT n) σ w Φ' σ' w'):Step Φ σ w (Φ'.aT Φ.base) σ' w' :=
  ⟨⟨h.le.snap,h.le.obj,rfl⟩,h.os,h.tape,h.output,h.drawn,h.size,h.block,h.snapn,h.locs,h.ownd⟩
theorem aA.k7{P:Program}{g:FuncId}{fn:Func}{c:Code}{ms:List MV}{σ:St}{Q:MV→St→Prop}(n:Nat)(rs:List ResultVar)(hf:P.funcs[g]?=some fn)(hb:fn.body=some c)(hn:(fn.name == "runtime.NumGoroutine")=false)
   (hn':max fn.ntmps ms.length=n)(hrs:fn.results.toList=rs)(h:mwp P c ⟨n,iQ 0 ms,[]⟩ σ (JP P rs Q)):aA P g ms σ Q:=by
  subst hn';subst hrs
  refine⟨⟨fn,hf,by simp[hb],hn⟩,fun Φ w vs hi hr=>?_⟩
  have hr':fE (Φ.aT w.heap.size) vs ms:=⟨hr.1,fun i m hm=>(hr.2 i m hm).aT _⟩
  refine(kP hf hb (wp_mono (wpIn_wide.1 (h _ .wide (Φ.aT w.heap.size) w { tmps:=vs++Array.replicate (fn.ntmps - vs.size) undef,defers:=[] } (hi.aT _) (pY hr') ⟨rfl,Nat.le_refl _⟩)) fun e a' w' hq=>Fy rfl hq)).mono ?_
  rintro e w' ⟨v,mv,σ',Φ',q1,q2,q3,q4,q5⟩
  exact⟨v,mv,σ',Φ'.aT Φ.base,q1,q2.aT _,q3.aT _,q4.aT,q5⟩
theorem aA.ghost{P:Program}{g:FuncId}{ms:List MV}{σ:St}{Q:MV→St→Prop}(h:aA P g ms σ fun v σ'=>∃v1 σ1,bD ⟨1,[(0,v)],[]⟩ σ' ⟨1,[(0,v1)],[]⟩ σ1∧Q v1 σ1):aA P g ms σ Q:=by
  refine⟨h.1,fun Φ w vs hi hr=>(h.2 Φ w vs hi hr).mono ?_⟩
  rintro e w' ⟨v,mv,σ',Φ',rfl,q1,q2,q3,v1,σ1,g,hq⟩
  obtain⟨Φ1,i1,r1,s1⟩:=g.2 Φ' w' #[v] q2 ⟨rfl,fun t=>by
    simp only[FR.get,bY]
    split
    · rename_i ht;subst ht;exact q1
    · exact .junk _⟩
  exact⟨v,v1,σ1,Φ1,rfl,by simpa[FR.get,bY] using r1.2 0,i1,q3.trans s1,hq⟩
end

section
def E{α:Sort _}(x:α):α:=x
theorem Ob{α:Sort _}(x:α):E x=x:=rfl
def R(p:Prop):Prop:=p
theorem Mp:R True=True:=rfl
theorem Od{α:Sort _}{a b:α}:R (a=b)=(a=b):=rfl
theorem Ng{a b:Prop}:R (a∧b)=(R a∧R b):=rfl
theorem Oe{α:Sort _}{p:α→Prop}:R (∃x,p x)=∃x,R (p x):=rfl
theorem Nh{p:Prop}:R (¬p)=¬p:=rfl
theorem Og{a b:Prop}:R (a∨b)=(R a∨R b):=rfl
theorem fD{p:Prop}(h:p):R p:=h
def lK(σ:St)(K:Nat→Prop):Prop:=∀l,σ l=none→K l
def iF(x:MV)(A B:Prop):Prop:=match x with
 | .bool b=>(b=true→A)∧(b=false→B)
 | _=>False
def e8(C:Prop)(A:Prop):Prop:=C∧A
theorem DB(A B:Prop):R (iF (.bool true) A B)=R A:=by simp[iF]
theorem Bi(A B:Prop):R (iF (.bool false) A B)=R B:=by simp[iF]
theorem Gz{p:Prop}[Decidable p]{A B:Prop}(h:p):R (iF (.bool (decide p)) A B)=R A:=by simp[iF,h]
theorem Jb{p:Prop}[Decidable p]{A B:Prop}(h:¬p):R (iF (.bool (decide p)) A B)=R B:=by simp[iF,h]
theorem Gy{p:Prop}[Decidable p]{A B:Prop}(h1:p→R A)(h2:¬p→R B):R (iF (.bool (decide p)) A B):=by
 simp only[R,iF,decide_eq_true_eq,decide_eq_false_iff_not];exact⟨h1,h2⟩
theorem aR{b:Bool}{A B:Prop}(h1:b=true→R A)(h2:b=false→R B):R (iF (.bool b) A B):=⟨h1,h2⟩
def qZ(P:Program)(id:Nat)(ops:List Oper)(f:FR)(σ:St)(Q:MQ):Prop:=mwp P (.region id ops.toArray true) f σ Q
def Je(P:Program)(c:Code)(f:FR)(σ:St)(Q:MQ):Prop:=mwp P (.loop c) f σ Q
def NG(P:Program)(c:Code)(f:FR)(σ:St)(Q:MQ):Prop:=mwp P c f σ Q
def cZ(P:Program):Code→FR→St→MQ→Prop
 | .skip,f,σ,Q=>Q .normal f σ
 | .seq a b,f,σ,Q=>cZ P a f σ (rL (fun f' σ'=>cZ P b f' σ' Q) Q)
 | .cond c a b,f,σ,Q=>iF (aE f c) (cZ P a f σ Q) (cZ P b f σ Q)
 | .block id b,f,σ,Q=>cZ P b f σ (j7 id Q)
 | .scope b,f,σ,Q=>cZ P b f σ (JX Q)
 | .label _,f,σ,Q=>Q .normal f σ
 | .ret,f,σ,Q=>Q .ret f σ
 | .exit id,f,σ,Q=>Q (.exit id) f σ
 | .region id ops true,f,σ,Q=>qZ P id ops.toList f σ Q
 | .region _ ops false,f,σ,Q=>dT P ops (Q .normal) ops.toList f σ
 | .loop b,f,σ,Q=>Je P b f σ Q
 | c,f,σ,Q=>NG P c f σ Q
theorem jX{P:Program}:∀(c:Code) (f:FR) (σ:St) (Q:MQ),cZ P c f σ Q→mwp P c f σ Q:=by
 intro c
 induction c with
 | skip=>intro f σ Q h;exact Jx h
 | region id ops draw=>intro f σ Q h;cases draw with
  | true=>exact h
  | false=>exact DX h
 | seq a b iha ihb =>
  intro f σ Q h
  refine hZ (Jw (iha f σ _ h) fun e f' σ' hq=>?_)
  cases e with
  | normal=>exact ihb f' σ' Q hq
  | _=>exact hq
 | cond c a b iha ihb =>
  intro f σ Q h
  simp only[cZ,iF] at h
  split at h
  ·rename_i t ht
   exact Js ht (fun hh=>iha f σ Q (h.1 hh)) (fun hh=>ihb f σ Q (h.2 hh))
  ·exact h.elim
 | block id b ih=>intro f σ Q h;exact G5 (ih f σ _ h)
 | scope b ih=>intro f σ Q h;exact Ha (ih f σ _ h)
 | label l=>intro f σ Q h;exact G9 h
 | loop b _=>intro f σ Q h;exact h
 | ret=>intro f σ Q h;exact Lr h
 | exit id=>intro f σ Q h;exact Jt h
 | _=>intro f σ Q h;exact h
theorem aA.body{P:Program}{g:FuncId}{fn:Func}{c:Code}{ms:List MV}{σ:St}{Q:MV→St→Prop}(n:Nat)(rs:List ResultVar)(hf:P.funcs[g]?=some fn)(hb:fn.body=some c)(hn:(fn.name == "runtime.NumGoroutine")=false)
 (hn':max fn.ntmps ms.length=n)(hrs:fn.results.toList=rs)(h:R (cZ P (@OfNat.ofNat Code (nat_lit 0) (@_root_.id (OfNat Code (nat_lit 0)) (OfNat.mk c))) ⟨n,iQ 0 ms,[]⟩ σ (JP P rs Q))):aA P g ms σ Q :=
 aA.k7 n rs hf hb hn hn' hrs (jX c _ σ _ h)
theorem aH{P:Program}{c:Code}{f:FR}{σ:St}{Q:MQ}{α:Type}(F:α→FR)(S:α→St)(p:α→Prop)(μ:α→Nat)(h0:Gh f σ fun f1 σ1=>∃a,f1=F a∧σ1=S a∧p a)
 (round:∀a,p a→R (cZ P c (F a) (S a) (rL (fun f' σ'=>Gh f' σ' fun f1 σ1=>∃b,f1=F b∧σ1=S b∧p b∧μ b<μ a) Q))):R (Je P c f σ Q) :=
 Jv F S p μ h0 fun a ha=>jX c _ _ _ (round a ha)
section
variable {P:Program} {f:FR} {σ:St} {Q:MQ} {k:MV→St→Prop} {K:FR→St→Prop} {ops:Array Oper} {rest:List Oper}
theorem Dx:R (cZ P .skip f σ Q)=R (Q .normal f σ):=rfl
theorem Dw{c:Code}:R (cZ P (@OfNat.ofNat Code (nat_lit 0) (@_root_.id (OfNat Code (nat_lit 0)) (OfNat.mk c))) f σ Q)=R (cZ P c f σ Q):=congrArg R rfl
theorem Gv{a b:Code}:R (cZ P (.seq a b) f σ Q)=R (cZ P (@OfNat.ofNat Code (nat_lit 0) (@_root_.id (OfNat Code (nat_lit 0)) (OfNat.mk a))) f σ (rL (fun f' σ'=>cZ P (@OfNat.ofNat Code (nat_lit 0) (@_root_.id (OfNat Code (nat_lit 0)) (OfNat.mk b))) f' σ' Q) Q)):=congrArg R rfl
theorem Dr{c:Operand}{a b:Code}:R (cZ P (.cond c a b) f σ Q)=R (iF (E (aE f c)) (cZ P (@OfNat.ofNat Code (nat_lit 0) (@_root_.id (OfNat Code (nat_lit 0)) (OfNat.mk a))) f σ Q) (cZ P (@OfNat.ofNat Code (nat_lit 0) (@_root_.id (OfNat Code (nat_lit 0)) (OfNat.mk b))) f σ Q)):=congrArg R rfl
theorem Bb{id:Nat}{b:Code}:R (cZ P (.block id b) f σ Q)=R (cZ P (@OfNat.ofNat Code (nat_lit 0) (@_root_.id (OfNat Code (nat_lit 0)) (OfNat.mk b))) f σ (j7 id Q)):=congrArg R rfl
theorem Gu:R (cZ P .ret f σ Q)=R (Q .ret f σ):=rfl
theorem Du{id:Nat}:R (cZ P (.exit id) f σ Q)=R (Q (.exit id) f σ):=congrArg R rfl
theorem Dt{id:Nat}{l:List Oper}:R (cZ P (.region id l.toArray true) f σ Q)=R (qZ P id (@OfNat.ofNat (List Oper) (nat_lit 0) (@_root_.id (OfNat (List Oper) (nat_lit 0)) (OfNat.mk l))) (E f) σ Q):=congrArg R rfl
theorem yW{id:Nat}{l:List Oper}:R (cZ P (.region id l.toArray false) f σ Q)=R (dT P (@OfNat.ofNat (Array Oper) (nat_lit 0) (@_root_.id (OfNat (Array Oper) (nat_lit 0)) (OfNat.mk (l.toArray)))) (Q .normal) (@OfNat.ofNat (List Oper) (nat_lit 0) (@_root_.id (OfNat (List Oper) (nat_lit 0)) (OfNat.mk l))) f σ):=congrArg R rfl
theorem G0{l:List Oper}:R (dT P ops K (@OfNat.ofNat (List Oper) (nat_lit 0) (@_root_.id (OfNat (List Oper) (nat_lit 0)) (OfNat.mk l))) f σ)=R (dT P ops K l f σ):=congrArg R rfl
theorem Dv{b:Code}:R (cZ P (.loop b) f σ Q)=R (Je P (@OfNat.ofNat Code (nat_lit 0) (@_root_.id (OfNat Code (nat_lit 0)) (OfNat.mk b))) (E f) σ Q):=congrArg R rfl
theorem Ae{next:FR→St→Prop}:R (rL next Q .normal f σ)=R (next f σ):=congrArg R rfl
theorem HL{next:FR→St→Prop}:R (rL next Q .ret f σ)=R (Q .ret f σ):=congrArg R rfl
theorem Em{next:FR→St→Prop}{id:Nat}:R (rL next Q (.exit id) f σ)=R (Q (.exit id) f σ):=congrArg R rfl
theorem uY{id:Nat}:R (j7 id Q .normal f σ)=R (Q .normal f σ):=congrArg R rfl
theorem Cx{id:Nat}:R (j7 id Q .ret f σ)=R (Q .ret f σ):=congrArg R rfl
theorem Cw{id:Nat}:R (j7 id Q (.exit id) f σ)=R (Q .normal f σ):=by simp[j7]
theorem Aq{id id':Nat}(h:id'≠id):R (j7 id Q (.exit id') f σ)=R (Q (.exit id') f σ):=by simp[j7,h]
theorem Jm:R (dT P ops K [] f σ)=R (K f σ):=rfl
theorem GZ{dst:Option Tmp}{op:Op}{ty:TypeId}{pos:String}{after:Array Edge}:R (dT P ops K (⟨dst,op,ty,pos,after,none⟩::rest) f σ)=R (iH P f σ dst (dT P ops K (@OfNat.ofNat (List Oper) (nat_lit 0) (@_root_.id (OfNat (List Oper) (nat_lit 0)) (OfNat.mk rest)))) op):=congrArg R rfl
theorem Jo{dst:Option Tmp}{op:Op}(h:dF op=true):R (iH P f σ dst K op)=R (mop P f σ (fun v σ'=>K (bB f dst v) σ') op):=by
 rw[Bz h]
def Mc(f:FR)(x:MV)(args:List MV)(K:FR→Prop):Prop:=match x with
 | .fn (.func g) ms ns=>K ⟨f.n,f.l,(g,ms++args++ns)::f.d⟩
 | _=>False
theorem By{dst:Option Tmp}{x:Operand}{args:Array Operand}{ts:Array TypeId}:R (iH P f σ dst K (.defer ⟨.value x,args,ts⟩))=R (Mc f (E (aE f x)) (E (args.toList.map (aE f))) fun f'=>K (bB f' dst .junk) σ):=congrArg R rfl
theorem I8{n:Nat}{l:List (Nat × MV)}{d:List (FuncId × List MV)}{g:FuncId}{ms ns args:List MV}{H:FR→Prop}:R (Mc ⟨n,l,d⟩ (.fn (.func g) ms ns) args H)=R (H ⟨n,l,(g,ms++args++ns)::d⟩):=congrArg R rfl
def kU:List Oper→Nat→Option Tmp
 | [],_=>none
 | o::_,0=>o.dst
 | _::r,n+1=>kU r n
theorem yN:∀(l:List Oper) (j:Nat),(l.toArray[j]?).bind (·.dst)=kU l j:=by
 intro l
 induction l with
 | nil=>intro j;simp[kU]
 | cons o r ih =>
  intro j
  cases j with
  | zero=>simp[kU]
  | succ j=>simpa[kU] using ih j
def bP(x:MV)(want:Bool)(yes no:Prop):Prop:=match x with
 | .bool b=>(b=want→yes)∧(b=(!want)→no)
 | .tup []=>no
 | _=>False
theorem Bk(want:Bool)(A B:Prop):R (bP (.tup []) want A B)=R (B):=congrArg R (by simp[bP])
theorem GK(A B:Prop):R (bP (.bool true) true A B)=R (A):=congrArg R (by simp[bP])
theorem GJ(A B:Prop):R (bP (.bool true) false A B)=R (B):=congrArg R (by simp[bP])
theorem GH(A B:Prop):R (bP (.bool false) true A B)=R (B):=congrArg R (by simp[bP])
theorem GG(A B:Prop):R (bP (.bool false) false A B)=R (A):=congrArg R (by simp[bP])
theorem aO{b want:Bool}{A B:Prop}(h1:b=want→R A)(h2:b=(!want)→R B):R (bP (.bool b) want A B):=⟨h1,h2⟩
theorem DC{p:Prop}[Decidable p]{A B:Prop}(h1:p→R A)(h2:¬p→R B):R (bP (.bool (decide p)) true A B):=by
 simp only[R,bP,decide_eq_true_eq,Bool.not_true,decide_eq_false_iff_not];exact⟨h1,h2⟩
theorem Bj{p:Prop}[Decidable p]{A B:Prop}(h1:¬p→R A)(h2:p→R B):R (bP (.bool (decide p)) false A B):=by
 simp only[R,bP,decide_eq_true_eq,Bool.not_false,decide_eq_false_iff_not];exact⟨h1,h2⟩
theorem GB{p:Prop}[Decidable p]{A B:Prop}(h:p):R (bP (.bool (decide p)) true A B)=R A:=by simp[bP,h]
theorem GA{p:Prop}[Decidable p]{A B:Prop}(h:¬p):R (bP (.bool (decide p)) true A B)=R B:=by simp[bP,h]
theorem GD{p:Prop}[Decidable p]{A B:Prop}(h:¬p):R (bP (.bool (decide p)) false A B)=R A:=by simp[bP,h]
theorem GC{p:Prop}[Decidable p]{A B:Prop}(h:p):R (bP (.bool (decide p)) false A B)=R B:=by simp[bP,h]
def C7(f:FR):Option Tmp→MV
 | some t=>f.get t
 | none=>.junk
theorem DS{l:List Oper}{dst:Option Tmp}{op:Op}{ty:TypeId}{pos:String}{after:Array Edge}{j:Nat}{want:Bool}:R (dT P (@OfNat.ofNat (Array Oper) (nat_lit 0) (@_root_.id (OfNat (Array Oper) (nat_lit 0)) (OfNat.mk (l.toArray)))) K (⟨dst,op,ty,pos,after,some (j,want)⟩::rest) f σ)=R (bP (E (C7 f (kU (@OfNat.ofNat (List Oper) (nat_lit 0) (@_root_.id (OfNat (List Oper) (nat_lit 0)) (OfNat.mk l))) j))) want (iH P f σ dst (dT P (@OfNat.ofNat (Array Oper) (nat_lit 0) (@_root_.id (OfNat (Array Oper) (nat_lit 0)) (OfNat.mk (l.toArray)))) K (@OfNat.ofNat (List Oper) (nat_lit 0) (@_root_.id (OfNat (List Oper) (nat_lit 0)) (OfNat.mk rest)))) op) (dT P (@OfNat.ofNat (Array Oper) (nat_lit 0) (@_root_.id (OfNat (Array Oper) (nat_lit 0)) (OfNat.mk (l.toArray)))) K (@OfNat.ofNat (List Oper) (nat_lit 0) (@_root_.id (OfNat (List Oper) (nat_lit 0)) (OfNat.mk rest))) (bB f dst (.tup [])) σ)):=congrArg R (by
 show dT P l.toArray K (⟨dst,op,ty,pos,after,some (j,want)⟩::rest) f σ=bP (C7 f (kU l j)) want (iH P f σ dst (dT P l.toArray K rest) op) (dT P l.toArray K rest (bB f dst (.tup [])) σ)
 simp only[dT,eO,yN]
 cases kU l j<;>rfl)
theorem F2{t:Tmp}:C7 f (some t)=f.get t:=rfl
theorem FV{l:List Oper}{j:Nat}:kU (@OfNat.ofNat (List Oper) (nat_lit 0) (@_root_.id (OfNat (List Oper) (nat_lit 0)) (OfNat.mk l))) j=kU l j:=rfl
theorem FX{o:Oper}{r:List Oper}:kU (o::r) 0=o.dst:=rfl
theorem FW{o:Oper}{r:List Oper}{n:Nat}:kU (o::r) (n+1)=kU r n:=rfl
theorem G2{n:Nat}{l:List (Nat × MV)}{d:Nat}{v:MV}{ds:List (FuncId × List MV)}(h:d<n):bB ⟨n,l,ds⟩ (some d) v=⟨n,(d,v)::l,ds⟩:=by simp[bB,h]
theorem G1{v:MV}:bB f none v=f:=rfl
theorem MA{n:Nat}{l:List (Nat × MV)}{t:Nat}{ds:List (FuncId × List MV)}:FR.get ⟨n,l,ds⟩ t=bY l t:=rfl
theorem IL{t:Nat}:bY [] t=.junk:=rfl
theorem IK{k:Nat}{v:MV}{r:List (Nat × MV)}:bY ((k,v)::r) k=v:=by simp[bY]
theorem Gb{k:Nat}{v:MV}{r:List (Nat × MV)}{t:Nat}(h:t≠k):bY ((k,v)::r) t=bY r t:=by simp[bY,h]
theorem Jr{n:Nat}{l:List (Nat × MV)}{t:Nat}{ds:List (FuncId × List MV)}:aE ⟨n,l,ds⟩ (.tmp t)=bY l t:=rfl
theorem DW{v:Value}:aE f (.const v)=ofV v:=rfl
theorem G4{g:FuncId}:aE f (.func g)=.fn (.func g) [] []:=rfl
theorem JC{b:Bool}:ofV (.bool b)=.bool b:=rfl
theorem Lw{i:IntKind}{n:Int}:ofV (.int i n)=.int i n:=rfl
theorem Lx{s:ByteArray}:ofV (.string s)=.str s:=rfl
theorem JF:ofV (.pointer none)=.nilp:=rfl
theorem JG:ofV (.slice none 0 0)=.bC:=rfl
theorem JE:ofV (.map none)=.nilm:=rfl
theorem He:ofV .nilFunc=.nilfn:=rfl
theorem JD:ofV .nilIface=.nili:=rfl
def cX(P:Program)(g:FuncId)(ms:List MV)(σ:St)(Q:MV→St→Prop):Prop:=aA P g ms σ Q
def I7(P:Program)(x:MV)(args:List MV)(σ:St)(k:MV→St→Prop):Prop :=
 match x with
 | .fn (.func g) ms ns=>aA P g (ms++args++ns) σ k
 | _=>False
theorem Gt{g:FuncId}{ms ns args:List MV}:R (I7 P (.fn (.func g) ms ns) args σ k)=R (cX P g (E (ms++args++ns)) σ k):=congrArg R rfl
def bR(v:MV)(σ:St)(k:MV→St→Prop):Prop:=k v σ
theorem Ll{v:MV}:R (bR v σ k)=R (k v σ):=congrArg R rfl
theorem LA{C A:Prop}(h:C):R (e8 C A)=R A:=by simp[e8,h]
theorem DT{C:Prop}{v:MV}:R (mpure σ k (some (C,v)))=R (e8 (E C) (bR (E v) σ k)):=congrArg R rfl
def E5(P:Program)(t:TypeId)(o:Option aV)(i of:Nat)(σ:St)(k:MV→St→Prop):Prop :=
 match o with
 | some (.row _ _ xs)=>e8 ((td P t).ok=true∧i<xs.length∧of+(td P t).size≤(xs.getD i []).length∧0<(td P t).size) (bR (dA (td P t) (xs.getD i []) of) σ k)
 | _=>False
theorem GL{t:TypeId}{l i o:Nat}:R (jY P t (.ptr l i o) σ k)=R (E5 P t (E (σ l)) i o σ k):=congrArg R rfl
theorem DH{t:TypeId}{cs:List MV}:R (jY P t (.cptr cs) σ k)=R (e8 (E ((td P t).ok=true∧(td P t).size≤cs.length∧0<(td P t).size)) (bR (E (dA (td P t) cs 0)) σ k)):=congrArg R rfl
theorem Bn{t tt:TypeId}{e i o:Nat}{xs:List (List MV)}:R (E5 P t (some (.row tt e xs)) i o σ k)=R (e8 (E ((td P t).ok=true∧i<xs.length∧o+(td P t).size≤(xs.getD i []).length∧0<(td P t).size)) (bR (E (dA (td P t) (xs.getD i []) o)) σ k)):=congrArg R rfl
def BB(P:Program)(t:TypeId)(o:Option aV)(l i of:Nat)(y:MV)(σ:St)(k:MV→St→Prop):Prop :=
 match o with
 | some (.row tt e xs)=>e8 ((td P t).ok=true∧i<xs.length∧y.cells.all MV.aP=true∧y.cells.length=(td P t).size∧of+y.cells.length≤(xs.getD i []).length) (bR .junk (σ.set l (.row tt e (xs.set i (laid (xs.getD i []) of y.cells)))) k)
 | _=>False
theorem DV{t:TypeId}{l i o:Nat}{y:MV}:R (mB P t (.ptr l i o) y σ k)=R (BB P t (E (σ l)) l i o y σ k):=congrArg R rfl
theorem zI{t tt:TypeId}{e l i o:Nat}{y:MV}{xs:List (List MV)}:R (BB P t (some (.row tt e xs)) l i o y σ k)=R (e8 (E ((td P t).ok=true∧i<xs.length∧y.cells.all MV.aP=true∧y.cells.length=(td P t).size∧o+y.cells.length≤(xs.getD i []).length)) (bR (E .junk) (σ.set l (.row tt e (xs.set i (laid (xs.getD i []) o y.cells)))) k)):=congrArg R rfl
theorem DY(k:Nat):St.none k=Option.none:=rfl
theorem set_set(σ:St)(l:Nat)(o o':aV):(σ.set l o).set l o'=σ.set l o':=by
 funext k;simp only[St.set];split<;>rfl
theorem set_comm(σ:St){l k:Nat}(o o':aV)(h:l≠k):(σ.set l o).set k o'=(σ.set k o').set l o:=by
 funext j;simp only[St.set]
 by_cases h1:j=k
 ·subst h1;simp[Ne.symm h]
 ·simp[h1]
theorem vA(σ:St){l k:Nat}(o:aV)(h:k≠l):(σ.set k o).del l=(σ.del l).set k o:=by
 funext j;simp only[St.set,St.del]
 by_cases h1:j=l
 ·subst h1;simp[Ne.symm h]
 ·simp[h1]
theorem aF(σ:St)(l:Nat)(o:aV):(σ.set l o) l=some o:=by simp[St.set]
theorem aG(σ:St)(l k:Nat)(o:aV)(h:k≠l):(σ.set l o) k=σ k:=by simp[St.set,h]
theorem J2(σ:St)(l k:Nat)(o:aV):(σ.set l o) k=none↔k≠l∧σ k=none:=by
 simp only[St.set];split<;>simp_all
theorem Jj{x:Operand}:R (mop P f σ k (.move x))=R (bR (E (aE f x)) σ k):=congrArg R (by simp[mop,qop,mpure,bR,E])
theorem DN{x:Operand}:R (mop P f σ k (.assign x))=R (bR (E (aE f x)) σ k):=congrArg R (by simp[mop,qop,mpure,bR,E])
def uA(c a b:MV):PV:=match c with
 | .bool t=>some (True,if t=true then a else b)
 | _=>none
theorem Jk{c a b:Operand}:R (mop P f σ k (.pick c a b))=R (mpure σ k (E (uA (aE f c) (aE f a) (aE f b)))):=congrArg R rfl
theorem LK{p:Prop}[Decidable p]{a b:MV}(h:p):uA (.bool (decide p)) a b=some (True,a):=by simp[uA,h]
theorem LI{p:Prop}[Decidable p]{a b:MV}(h:¬p):uA (.bool (decide p)) a b=some (True,b):=by simp[uA,h]
theorem LJ{a b:MV}:uA (.bool true) a b=some (True,a):=rfl
theorem LH{a b:MV}:uA (.bool false) a b=some (True,b):=rfl
theorem Lv{p:Prop}[Decidable p]:(!decide p)=decide (¬p):=by simp
def MU(x:MV):PV:=match x with
 | .ptr l i o=>some (True,.ptr l i o)
 | .cptr cs=>some (True,.cptr cs)
 | _=>none
theorem zA{x:Operand}:R (mop P f σ k (.nilCheck x))=R (mpure σ k (E (MU (aE f x)))):=congrArg R rfl
theorem JN{l i o:Nat}:MU (.ptr l i o)=some (True,.ptr l i o):=rfl
theorem Ht{cs:List MV}:MU (.cptr cs)=some (True,.cptr cs):=rfl
theorem GQ{op:BinOp}{t yt:TypeId}{x y:Operand}:R (mop P f σ k (.binOp op t x y yt))=R (mpure σ k (E (bZ P t op (aE f x) (aE f y)))):=congrArg R rfl
theorem Jl{op:UnOp}{t:TypeId}{x:Operand}:R (mop P f σ k (.unOp op t x))=R (mpure σ k (E (mun op (aE f x)))):=congrArg R rfl
theorem Bt{s d:TypeId}{x:Operand}:R (mop P f σ k (.convert s d x))=R (gA P s d (E (aE f x)) σ k):=congrArg R rfl
theorem y9{fn:Fn}{a b:Array Operand}:R (mop P f σ k (.makeFunc fn a b))=R (bR (E (.fn fn (a.toList.map (aE f)) (b.toList.map (aE f)))) σ k):=congrArg R (by simp[mop,qop,mpure,bR,E])
theorem GW{t:TypeId}{x:Operand}{lo hi mx:Option Operand}:R (mop P f σ k (.slice t x lo hi mx))=R (mpure σ k (E (oD P t (aE f x) (lo.map (aE f)) (hi.map (aE f)) (mx.map (aE f))))):=congrArg R rfl
theorem vF{t:TypeId}{x:Operand}{i:Nat}:R (mop P f σ k (.fieldAddr t x i))=R (mpure σ k (E (gR P t (aE f x) i))):=congrArg R rfl
theorem vG{t:TypeId}{x:Tmp}{i:Operand}:R (mop P f σ k (.indexAddr t (.tmp x) i))=R (mpure σ k (E (jJ P t (aE f (.tmp x)) (aE f i)))):=congrArg R rfl
theorem tD{t:TypeId}{g:Nat}{i:Operand}:R (mop P f σ k (.indexAddr t (.global g) i))=R (mpure σ k (C0 P t g (E (aE f i)))):=congrArg R rfl
theorem GU{t:TypeId}{x i:Operand}:R (mop P f σ k (.index t x i))=R (mpure σ k (E (s8 P t (aE f x) (aE f i)))):=congrArg R rfl
def tZ(x:MV)(i:Nat):PV:=match x with
 | .tup vs=>match vs[i]? with|some v=>some (True,v)|none=>none
 | _=>none
theorem Bu{x:Operand}{i:Nat}:R (mop P f σ k (.extract x i))=R (mpure σ k (E (tZ (aE f x) i))):=congrArg R rfl
theorem zY{vs:List MV}{i:Nat}:tZ (.tup vs) i=(vs[i]?).map fun v=>(True,v):=by simp only[tZ];cases vs[i]?<;>rfl
theorem GS{t:TypeId}{parts:Array (Nat × Operand)}:R (mop P f σ k (.build t parts))=R (mpure σ k (E (l7 P f t parts))):=congrArg R rfl
theorem DO{t:TypeId}{m x:Operand}{ok:Bool}:R (mop P f σ k (.lookup t m x ok))=R (fB P t (E (aE f m)) (E (aE f x)) ok (E (mapOf σ (aE f m))) σ k):=congrArg R rfl
theorem vH{t:TypeId}{m x y:Operand}:R (mop P f σ k (.mapUpdate t m x y))=R (fA P t (E (aE f m)) (E (aE f x)) (E (aE f y)) (E (mapOf σ (aE f m))) σ k):=congrArg R rfl
theorem Ji{t:TypeId}{x:Operand}:R (mop P f σ k (.load t x))=R (jY P t (E (aE f x)) σ k):=congrArg R rfl
theorem GX{t:TypeId}{x y:Operand}:R (mop P f σ k (.store t x y))=R (mB P t (E (aE f x)) (E (aE f y)) σ k):=congrArg R rfl
theorem GP{t:TypeId}:R (mop P f σ k (.alloc t))=R (e8 (E ((td P t).zok=true)) (lK (E σ) (fun l=>bR (E (.ptr l 0 0)) (σ.set l (.row t (td P t).size [(td P t).zero])) k))):=congrArg R rfl
def NF(t:TypeId)(x:MV)(σ:St)(k:MV→St→Prop):Prop:=x.cells.all MV.aP=true∧∀l,σ l=none→k (.ptr l 0 0) (σ.set l (.row t x.cells.length [x.cells]))
theorem Lo{t:TypeId}{x:Operand}:R (mop P f σ k (.box t x))=R (NF t (E (aE f x)) σ k):=congrArg R rfl
theorem Lh{t:TypeId}{x:MV}:R (NF t x σ k)=R (e8 (E (x.cells.all MV.aP=true)) (lK (E σ) (fun l=>bR (E (.ptr l 0 0)) (σ.set l (.row t x.cells.length [x.cells])) k))):=congrArg R rfl
theorem tC{t:TypeId}{n:Nat}{parts:Array (Nat × Operand)}:R (mop P f σ k (.buildSlice t n parts))=R (dE P f t n parts σ k):=congrArg R rfl
def mbs(P:Program)(d:TK)(len:Nat)(parts:List (Nat × MV))(σ:St)(k:MV→St→Prop):Prop :=
 match d with
 | .slice el=>e8 ((td P el).zok=true∧parts.map (·.1)=List.range len∧(parts.all fun p=>p.2.cells.all MV.aP&&p.2.cells.length==(td P el).size)=true∧len * (td P el).size≤16777216∧len≤16777216)
   (lK σ fun l=>bR (.vec (td P el).size l 0 len) (σ.set l (.row el (td P el).size (parts.map fun p=>p.2.cells))) k)
 | _=>False
theorem sZ{t:TypeId}{n:Nat}{parts:Array (Nat × Operand)}:R (dE P f t n parts σ k)=R (mbs P (E (td P t).k) n (E (parts.toList.map fun p=>(p.1,aE f p.2))) σ k):=congrArg R (by
 unfold dE mbs e8 lK bR E
 cases (td P t).k<;>first|rfl|(simp only[List.map_map,List.all_map];rfl))
theorem Gs{el:TypeId}{len:Nat}{parts:List (Nat × MV)}:R (mbs P (.slice el) len parts σ k)=R (e8 (E ((td P el).zok=true∧parts.map (·.1)=List.range len∧(parts.all fun p=>p.2.cells.all MV.aP&&p.2.cells.length==(td P el).size)=true∧len * (td P el).size≤16777216∧len≤16777216))
   (lK (E σ) (fun l=>bR (E (.vec (td P el).size l 0 len)) (σ.set l (.row el (td P el).size (parts.map fun p=>p.2.cells))) k))):=rfl
theorem Jh{x:Operand}{args:Array Operand}{ts:Array TypeId}:R (mop P f σ k (.call ⟨.value x,args,ts⟩))=R (I7 P (E (aE f x)) (E (args.toList.map (aE f))) σ k):=congrArg R rfl
theorem Bs{b:Builtin}{args:Array Operand}{ts:Array TypeId}:R (mop P f σ k (.call ⟨.builtin b,args,ts⟩))=R (fL P f b args.toList ts.toList σ k):=congrArg R rfl
def mvs(P:Program)(t:TypeId)(x lo hi:MV)(σ:St)(k:MV→St→Prop):Prop:=if beyond x hi then zJ P t x lo hi (IN σ x) σ k else mpure σ k (oD P t x (some lo) (some hi) none)
theorem BA{dst:Option Tmp}{t:TypeId}{x y z:Operand}:R (iH P f σ dst K (.slice t x (some y) (some z) none))=R (mvs P t (E (aE f x)) (E (aE f y)) (E (aE f z)) σ (fun v σ'=>K (bB f dst v) σ')):=congrArg R rfl
theorem Lq{t:TypeId}{e:Nat}{xs:List (List MV)}{tt:Bool}{lo hi:MV}:R (mvs P t (.lst e xs tt) lo hi σ k)=R (mpure σ k (E (oD P t (.lst e xs tt) (some lo) (some hi) none))):=by
 apply congrArg R;unfold mvs;rw[if_neg (show ¬beyond (.lst e xs tt) hi by simp[beyond])];rfl
theorem zG{dst:Option Tmp}{s x:Operand}{t xt:TypeId}:R (iH P f σ dst K (.call ⟨.builtin .append,#[s,x],#[t,xt]⟩))=R (Lm (E (td P xt).k.isInt) (Jy P t (aE f s) (aE f x) σ (fun v σ'=>K (bB f dst v) σ')) (mop P f σ (fun v σ'=>K (bB f dst v) σ') (.call ⟨.builtin .append,#[s,x],#[t,xt]⟩))):=congrArg R rfl
theorem MM{A B:Prop}:R (Lm false A B)=R B:=congrArg R rfl
end
end

section
section
variable {P:Program} {f:FR} {σ:St} {k:MV→St→Prop} {t:TypeId}
theorem IV{i:IntKind}{a b:Int}:bZ P t .add (.int i a) (.int i b)=some (True,.int i (i.wrap (a+b))):=by simp[bZ,fI]
theorem I6{i:IntKind}{a b:Int}:bZ P t .sub (.int i a) (.int i b)=some (True,.int i (i.wrap (a - b))):=by simp[bZ,fI]
theorem I2{i:IntKind}{a b:Int}:bZ P t .mul (.int i a) (.int i b)=some (True,.int i (i.wrap (a * b))):=by simp[bZ,fI]
theorem IW{i:IntKind}{a b:Int}:bZ P t .and (.int i a) (.int i b)=some (True,.int i (kM i a b)):=by simp only[bZ,if_true,fI]
theorem Ld{i:IntKind}{a b:Int}:bZ P t .or (.int i a) (.int i b)=some (True,.int i (orK i a b)):=by simp only[bZ,if_true,fI]
theorem A9{i:IntKind}{a b:Int}:bZ P t .andNot (.int i a) (.int i b)=some (True,.int i (oW i a b)):=by simp only[bZ,if_true,fI]
theorem IX{i:IntKind}{a b:Int}:bZ P t .eql (.int i a) (.int i b)=some (True,.bool (decide (a=b))):=by simp[bZ,fI];rfl
theorem I3{i:IntKind}{a b:Int}:bZ P t .neq (.int i a) (.int i b)=some (True,.bool (decide (¬a=b))):=by simp[bZ,fI];rfl
theorem I1{i:IntKind}{a b:Int}:bZ P t .lss (.int i a) (.int i b)=some (True,.bool (decide (a<b))):=by simp[bZ,fI]
theorem I0{i:IntKind}{a b:Int}:bZ P t .leq (.int i a) (.int i b)=some (True,.bool (decide (a≤b))):=by simp[bZ,fI]
theorem IZ{i:IntKind}{a b:Int}:bZ P t .gtr (.int i a) (.int i b)=some (True,.bool (decide (b<a))):=by simp[bZ,fI]
theorem IY{i:IntKind}{a b:Int}:bZ P t .geq (.int i a) (.int i b)=some (True,.bool (decide (b≤a))):=by simp[bZ,fI]
theorem I4{i j:IntKind}{a b:Int}:bZ P t .shl (.int i a) (.int j b)=some (0≤b,.int i (i.wrap (a * 2 ^ (min b.toNat i.bits)))):=by simp[bZ,lX]
theorem I5{i j:IntKind}{a b:Int}:bZ P t .shr (.int i a) (.int j b)=some (0≤b,.int i (a.fdiv (2 ^ (min b.toNat i.bits)))):=by simp[bZ,lX]
theorem nT(x y:ByteArray):x.toList=y.toList↔x=y:=by
 rw[ByteArray.toList_eq,ByteArray.toList_eq]
 obtain⟨⟨a⟩⟩:=x
 obtain⟨⟨b⟩⟩:=y
 simp
theorem oO(x y:ByteArray):(x.toList==y.toList)=decide (x=y):=by
 rw[Bool.eq_iff_iff];simp[nT]
theorem Gl{x y:ByteArray}:bZ P t .eql (.str x) (.str y)=some (True,.bool (decide (x=y))):=by simp only[bZ,oN,oO]
theorem Gp{x y:ByteArray}:bZ P t .neq (.str x) (.str y)=some (True,.bool (decide (¬x=y))):=by simp only[bZ,oN,oO];simp
theorem Gn{x y:ByteArray}:bZ P t .lss (.str x) (.str y)=some (True,.bool (Op.bytesLess x.toList y.toList)):=by simp only[bZ,oN]
theorem Gm{x y:ByteArray}:bZ P t .gtr (.str x) (.str y)=some (True,.bool (!(Op.bytesLess x.toList y.toList || decide (x=y)))):=by simp only[bZ,oN,oO]
theorem Gj{x y:Bool}:bZ P t .eql (.bool x) (.bool y)=some ((td P t).k.isBool=true,.bool (x==y)):=rfl
theorem Gk{x y:Bool}:bZ P t .neq (.bool x) (.bool y)=some ((td P t).k.isBool=true,.bool (!(x==y))):=rfl
theorem Le{op:BinOp}{l i o:Nat}:bZ P t op (.ptr l i o) .nilp=eqV op ((td P t).k.oZ=true) false:=rfl
theorem Lc{op:BinOp}{l i o:Nat}:bZ P t op .nilp (.ptr l i o)=eqV op ((td P t).k.oZ=true) false:=rfl
theorem K8{op:BinOp}{cs:List MV}:bZ P t op (.cptr cs) .nilp=eqV op ((td P t).k.oZ=true) false:=rfl
theorem Lf{op:BinOp}{e:Nat}{x:List MV}{xs:List (List MV)}{b:Bool}:bZ P t op (.lst e (x::xs) b) .bC=eqV op ((td P t).k.Dc=true) false:=rfl
theorem Lg{op:BinOp}:bZ P t op .bC .bC=eqV op ((td P t).k.Dc=true) true:=rfl
theorem La{op:BinOp}:bZ P t op .nilfn .nilfn=eqV op ((td P t).k.Db=true) true:=rfl
theorem K9{op:BinOp}{f:Fn}{a b:List MV}:bZ P t op (.fn f a b) .nilfn=eqV op ((td P t).k.Db=true) false:=rfl
theorem Lb{op:BinOp}:bZ P t op .nilp .nilp=eqV op ((td P t).k.oZ=true) true:=rfl
def IP(P:Program)(op:BinOp)(t:TypeId)(o:Option Bool):PV:=match o with
 | some b=>eqV op (dJ P t=true) b
 | none=>none
theorem A8{op:BinOp}{xs ys:List MV}:bZ P t op (.agg xs) (.agg ys)=IP P op t (iE P 6 t (.agg xs) (.agg ys)):=rfl
theorem qY{op:BinOp}{b:Bool}:IP P op t (some b)=eqV op (dJ P t=true) b:=rfl
theorem uG{σ:St}{l k:Nat}{o:aV}{p:Prop}(h:l≠k→k≠l→σ l=none→p):(σ.set k o) l=none→p:=fun hn =>
 have e:l≠k∧σ l=none:=(J2 σ k l o).mp hn
 h e.1 (Ne.symm e.1) e.2
theorem Ay(σ:St)(l:Nat)(o:aV):(σ.set l o).del l=σ.del l:=by
 funext k;simp only[St.set,St.del];split<;>rfl
theorem JA(l:Nat):St.none.del l=St.none:=by
 funext k;simp only[St.none,St.del];split<;>rfl
theorem HK{α β:Type}{f:α→β}{l:List α}{n:Nat}:(l.map f).take n=(l.take n).map f:=by rw[List.map_take]
theorem FP{α β:Type}{f:α→β}{l:List α}{n:Nat}:(l.map f).drop n=(l.drop n).map f:=by rw[List.map_drop]
theorem Cb(σ:St){l a:Nat}(o o' oa:aV)(h:l≠a):((σ.set l o).set a oa).set l o'=(σ.set l o').set a oa:=by rw[set_comm _ _ _ (Ne.symm h),set_set]
theorem xU(σ:St){l a b:Nat}(o o' oa ob:aV)(h:l≠a)(h2:l≠b):(((σ.set l o).set a oa).set b ob).set l o'=((σ.set l o').set a oa).set b ob:=by rw[set_comm _ _ _ (Ne.symm h2),Cb _ _ _ _ h]
theorem Hy(σ:St){l a b c:Nat}(o o' oa ob oc:aV)(h:l≠a)(h2:l≠b)(h3:l≠c):((((σ.set l o).set a oa).set b ob).set c oc).set l o'=(((σ.set l o').set a oa).set b ob).set c oc:=by rw[set_comm _ _ _ (Ne.symm h3),xU _ _ _ _ _ h h2]
theorem KA{p q:Prop}[Decidable p][Decidable q]:(decide p&&decide q)=decide (p∧q):=by simp
theorem K6{b:Bool}{o:Bool}:(some o).map (fun c=>b&&c)=some (b&&o):=rfl
theorem KC{C:Prop}{b:Bool}:eqV .eql C b=some (C,.bool b):=rfl
theorem EH{C:Prop}{b:Bool}:eqV .neq C b=some (C,.bool (!b)):=rfl
theorem vD{s x:Operand}{t xt:TypeId}:R (fL P f .append [s,x] [t,xt] σ k)=R (iY P t xt (E (aE f s)) (E (aE f x)) σ k):=congrArg R rfl
theorem Dl{x:Operand}{t:TypeId}:R (fL P f .len [x] [t] σ k)=R (mpure σ k (E (Jd P t (aE f x)))):=congrArg R (by simp[fL,dO,E])
theorem Dm{x y:Operand}{t u:TypeId}:R (fL P f .max [x,y] [t,u] σ k)=R (mpure σ k (E (E6 (aE f x) (aE f y)))):=congrArg R (by simp[fL,dO,E])
def mcv(P:Program)(s d:TypeId)(ks kd:TK)(x:MV)(σ:St)(k:MV→St→Prop):Prop :=
 match ks,kd,x with
 | .str,.slice el,.str b=>((td P el).k=.int .u8∧b.size≤140737488355328)∧∀l,σ l=none→k (.vec 1 l 0 b.size) (σ.set l (.row el 1 (b.toList.map fun c=>[.int .u8 (c.toNat:Int)])))
 | .slice el,.str,.str _=>False
 | .slice el,.str,x=>match gB σ 1 x with
  | some ys=>((td P el).k=.int .u8∧ys.all isByte=true)∧k (.str (bytesOf ys)) σ
  | none=>False
 | _,_,x=>mpure σ k (o5 P s d x)
theorem Bd{s d:TypeId}{x:MV}:R (gA P s d x σ k)=R (mcv P s d (E (td P s).k) (E (td P d).k) x σ k):=congrArg R (by unfold gA mcv E;rfl)
theorem Lj{s d:TypeId}{i j j':IntKind}{n:Int}:R (mcv P s d (.int j) (.int i) (.int j' n) σ k)=R (mpure σ k (E (o5 P s d (.int j' n)))):=congrArg R rfl
theorem MH{s d el:TypeId}{b:ByteArray}:R (mcv P s d .str (.slice el) (.str b) σ k)=R (e8 (E ((td P el).k=.int .u8∧b.size≤140737488355328)) (lK (E σ) (fun l=>bR (E (.vec 1 l 0 b.size)) (σ.set l (.row el 1 (b.toList.map fun c=>[.int .u8 (c.toNat:Int)]))) k))):=congrArg R rfl
def MI(P:Program)(el:TypeId)(o:Option (List (List MV)))(σ:St)(k:MV→St→Prop):Prop:=match o with
 | some ys=>e8 ((td P el).k=.int .u8∧ys.all isByte=true) (bR (.str (bytesOf ys)) σ k)
 | none=>False
theorem MG{s d el:TypeId}{e l lo n:Nat}:R (mcv P s d (.slice el) .str (.vec e l lo n) σ k)=R (MI P el (E (gB σ 1 (.vec e l lo n))) σ k):=congrArg R (by unfold mcv MI E;simp only;split<;>rfl)
theorem Gw{el:TypeId}{ys:List (List MV)}:R (MI P el (some ys) σ k)=R (e8 (E ((td P el).k=.int .u8∧ys.all isByte=true)) (bR (E (.str (bytesOf ys))) σ k)):=congrArg R rfl
attribute [go_sem] MM TK.isInt Bd Lj MH MG Gw o5 Li
def K7(P:Program)(d:TK)(xt:TypeId)(s:MV)(ys:Option (List (List MV)))(σ:St)(k:MV→St→Prop):Prop :=
 match d with
 | .slice el=>match ys with
  | some ys=>match s with
   | .bC=>e8 ((td P xt).k.eN=true∧(td P el).zok=true∧Fits ys.length (td P el).bytes) (lK σ fun l=>bR (.vec (td P el).size l 0 ys.length) (σ.set l (.row el (td P el).size ys)) k)
   | .lst e xs true=>e8 ((td P xt).k.eN=true∧(td P el).zok=true∧e=(td P el).size∧(xs=[]∨0<ys.length)∧Fits (xs.length+ys.length) (td P el).bytes)
     (lK σ fun l=>bR (.vec (td P el).size l 0 (xs.length+ys.length)) (σ.set l (.row el (td P el).size (xs++ys))) k)
   | .vec e l lo n=>match σ l with
    | some (.row tt e' xs)=>e8 ((td P xt).k.eN=true∧(td P el).zok=true∧e=(td P el).size∧e'=(td P el).size∧tt=el∧lo=0∧lo+n≤xs.length∧Fits (n+ys.length) (td P el).bytes)
      (lK σ fun l'=>bR (.vec (td P el).size l' 0 (n+ys.length)) ((σ.del l).set l' (.row el (td P el).size (eG xs lo n ys))) k)
    | _=>False
   | _=>False
  | none=>False
 | _=>False
def MZ:TK→Option TypeId
 | .slice el=>some el
 | _=>none
def Jn(P:Program)(σ:St)(x:MV):Option TypeId→Option (List (List MV))
 | some el=>gB σ (td P el).size x
 | none=>none
theorem Dj{t xt:TypeId}{s x:MV}:R (iY P t xt s x σ k)=R (K7 P (E (td P t).k) xt s (E (Jn P σ x (MZ (td P t).k))) σ k):=congrArg R (by
 unfold iY K7 Jn MZ e8 lK bR E
 cases (td P t).k<;>rfl)
theorem IQ{el xt:TypeId}{ys xs:List (List MV)}{e:Nat}:R (K7 P (.slice el) xt (.lst e xs true) (some ys) σ k)=R (e8 (E ((td P xt).k.eN=true∧(td P el).zok=true∧e=(td P el).size∧(xs=[]∨0<ys.length)∧Fits (xs.length+ys.length) (td P el).bytes))
     (lK (E σ) (fun l=>bR (E (.vec (td P el).size l 0 (xs.length+ys.length))) (σ.set l (.row el (td P el).size (xs++ys))) k))):=rfl
def IU(P:Program)(el xt:TypeId)(e l lo n:Nat)(o:Option aV)(ys:List (List MV))(σ:St)(k:MV→St→Prop):Prop :=
 match o with
 | some (.row tt e' xs)=>e8 ((td P xt).k.eN=true∧(td P el).zok=true∧e=(td P el).size∧e'=(td P el).size∧tt=el∧lo=0∧lo+n≤xs.length∧Fits (n+ys.length) (td P el).bytes)
      (lK σ fun l'=>bR (.vec (td P el).size l' 0 (n+ys.length)) ((σ.del l).set l' (.row el (td P el).size (eG xs lo n ys))) k)
 | _=>False
theorem IS{el xt:TypeId}{ys:List (List MV)}{e l lo n:Nat}:R (K7 P (.slice el) xt (.vec e l lo n) (some ys) σ k)=R (IU P el xt e l lo n (E (σ l)) ys σ k):=congrArg R rfl
def mif(c:Prop)(A B:Prop):Prop:=(c→A)∧(¬c→B)
theorem Lk{c A B:Prop}(h:c):R (mif c A B)=R A:=by simp[mif,h]
theorem MJ{c A B:Prop}(h1:c→R A)(h2:¬c→R B):R (mif c A B):=⟨h1,h2⟩
theorem Gi{el xt tt:TypeId}{ys xs:List (List MV)}{e e' l lo n:Nat}:R (IU P el xt e l lo n (some (.row tt e' xs)) ys σ k)=R (mif (E (lo+n=xs.length))
      (e8 (E ((td P xt).k.eN=true∧(td P el).zok=true∧e=(td P el).size∧e'=(td P el).size∧tt=el∧lo=0∧Fits (n+ys.length) (td P el).bytes))
       (lK (E σ) (fun l'=>bR (E (.vec (td P el).size l' 0 (n+ys.length))) ((σ.del l).set l' (.row el (td P el).size (xs.drop lo++ys))) k)))
      (e8 (E ((td P xt).k.eN=true∧(td P el).zok=true∧e=(td P el).size∧e'=(td P el).size∧tt=el∧lo=0∧lo+n≤xs.length∧Fits (n+ys.length) (td P el).bytes))
       (lK (E σ) (fun l'=>bR (E (.vec (td P el).size l' 0 (n+ys.length))) ((σ.del l).set l' (.row el (td P el).size (eG xs lo n ys))) k)))):=by
 apply congrArg R
 simp only[IU,mif,E]
 by_cases h:lo+n=xs.length
 ·simp only[h,true_implies,not_true_eq_false,false_implies,and_true,Nat.le_refl,true_and,Cs h]
 ·simp only[h,false_implies,not_false_eq_true,true_implies,true_and]
theorem B3{rs:List ResultVar}{Q:MV→St→Prop}{n:Nat}{l:List (Nat × MV)}:R (JP P rs Q .normal ⟨n,l,[]⟩ σ)=R (dR P ⟨n,l,[]⟩ σ rs fun vs=>Q (oneOf vs) σ):=congrArg R rfl
theorem JQ{rs:List ResultVar}{Q:MV→St→Prop}{n:Nat}{l:List (Nat × MV)}:R (JP P rs Q .ret ⟨n,l,[]⟩ σ)=R (dR P ⟨n,l,[]⟩ σ rs fun vs=>Q (oneOf vs) σ):=congrArg R rfl
theorem DF{rs:List ResultVar}{Q:MV→St→Prop}{n:Nat}{l:List (Nat × MV)}:R (mleave P n l rs Q [] σ)=R (dR P ⟨n,l,[]⟩ σ rs fun vs=>Q (oneOf vs) σ):=congrArg R rfl
theorem zC{K:List MV→Prop}:R (dR P f σ [] K)=R (K []):=congrArg R rfl
theorem zE{K:List MV→Prop}{t:Nat}{rs:List ResultVar}:R (dR P f σ (.tmp t::rs) K)=R (bR (E (f.get t)) σ (fun v _=>dR P f σ rs fun vs=>K (v::vs))):=congrArg R rfl
theorem vI{K:List MV→Prop}{a:Nat}{t:TypeId}{rs:List ResultVar}:R (dR P f σ (.cell a t::rs) K)=R (jY P t (E (f.get a)) σ (fun v _=>dR P f σ rs fun vs=>K (v::vs))):=congrArg R rfl
theorem Hg{v:MV}:oneOf [v]=v:=rfl
theorem Hh{v w:MV}{vs:List MV}:oneOf (v::w::vs)=.tup (v::w::vs):=rfl
theorem Hf:oneOf []=.tup []:=rfl
theorem FH{cs:List MV}:(MV.agg cs).cells=cs:=rfl
theorem FI{i:IntKind}{n:Int}:(MV.int i n).cells=[.int i n]:=rfl
theorem CH{b:Bool}:(MV.bool b).cells=[.bool b]:=rfl
theorem FL{s:ByteArray}:(MV.str s).cells=[.str s]:=rfl
theorem CN:MV.nilp.cells=[.nilp]:=rfl
theorem FK{l i o:Nat}:(MV.ptr l i o).cells=[.ptr l i o]:=rfl
theorem CI{cs:List MV}:(MV.cptr cs).cells=[.cptr cs]:=rfl
theorem CO:MV.bC.cells=[.bC]:=rfl
theorem FJ{e:Nat}{xs:List (List MV)}{t:Bool}:(MV.lst e xs t).cells=[.lst e xs t]:=rfl
theorem FM{e l lo n:Nat}:(MV.vec e l lo n).cells=[.vec e l lo n]:=rfl
theorem CL:MV.nilm.cells=[.nilm]:=rfl
theorem CJ{l:Nat}:(MV.mapv l).cells=[.mapv l]:=rfl
theorem Au:MV.nilfn.cells=[.nilfn]:=rfl
theorem Ib{fn:Fn}{a b:List MV}:(MV.fn fn a b).cells=[.fn fn a b]:=rfl
theorem aC{k k':IntKind}{a b:Int}:lM (.int k a) (.int k' b)↔k=k'∧a=b:=⟨fun h=>by cases h;exact⟨rfl,rfl⟩,fun⟨h,g⟩=>h ▸ g ▸ .same _⟩
theorem aB{m:MV}:lM m m↔True:=⟨fun _=>trivial,fun _=>.same m⟩
theorem all_nil{p:MV→Bool}:List.all [] p=true:=rfl
theorem Mz{α:Type}{p:α→Prop}:(∀c,c∈([]:List α)→p c)↔True:=by simp
theorem KF{α:Type}{p:α→Prop}{a:α}{l:List α}:(∀c,c∈a::l→p c)↔p a∧∀c,c∈l→p c:=by simp
theorem H6{i:IntKind}{n:Int}:(MV.int i n).aP=true:=rfl
theorem FA{b:Bool}:(MV.bool b).aP=true:=rfl
theorem H9{s:ByteArray}:(MV.str s).aP=true:=rfl
theorem FF:MV.nilp.aP=true:=rfl
theorem H8{l i o:Nat}:(MV.ptr l i o).aP=true:=rfl
theorem FB{cs:List MV}:(MV.cptr cs).aP=true:=rfl
theorem FG:MV.bC.aP=true:=rfl
theorem H7{e:Nat}{xs:List (List MV)}{t:Bool}:(MV.lst e xs t).aP=true:=rfl
theorem Ia{e l lo n:Nat}:(MV.vec e l lo n).aP=true:=rfl
theorem FE:MV.nilm.aP=true:=rfl
theorem FC{l:Nat}:(MV.mapv l).aP=true:=rfl
theorem CG:MV.nilfn.aP=true:=rfl
theorem Ky{fn:Fn}{a b:List MV}:(MV.fn fn a b).aP=true:=rfl
theorem FD:MV.nili.aP=true:=rfl
theorem CE{t:TypeId}{v:MV}:(MV.iface t v).aP=true:=rfl
theorem CK:MV.nili.cells=[.nili]:=rfl
theorem As{t:TypeId}{v:MV}:(MV.iface t v).cells=[.iface t v]:=rfl
end
section
variable {P:Program} {f:FR} {σ:St} {k:MV→St→Prop} {K:FR→St→Prop}
theorem vJ{dst:Option Tmp}{t:TypeId}:R (iH P f σ dst K (.makeMap t none))=R (lK (E σ) fun l=>K (bB f dst (.mapv l)) (σ.set l (.mp []))):=congrArg R rfl
theorem zH{dst:Option Tmp}{t:TypeId}{m x:Operand}{ok:Bool}:R (iH P f σ dst K (.lookup t m x ok))=R (fB P t (E (aE f m)) (E (aE f x)) ok (E (mapOf σ (aE f m))) σ fun v σ'=>K (bB f dst v) σ'):=congrArg R rfl
def s9(P:Program)(d:TK)(l:Nat)(kd:IntKind)(n:Int)(y:MV)(es:List (MV × MV))(σ:St)(k:MV→St→Prop):Prop:=match d with
 | .map kt _=>e8 ((td P kt).k=.int kd∧(es.all fun p=>isK kd p.1)=true) (bR .junk (σ.set l (.mp (l3 kd n y es))) k)
 | _=>False
theorem DD{t:TypeId}{l:Nat}{kd:IntKind}{n:Int}{y:MV}{es:List (MV × MV)}:R (fA P t (.mapv l) (.int kd n) y (some (.mp es)) σ k)=R (s9 P (E (td P t).k) l kd n y es σ k):=congrArg R (by
 unfold fA s9 e8 bR E
 cases (td P t).k<;>rfl)
theorem Bl{kt et:TypeId}{l:Nat}{kd:IntKind}{n:Int}{y:MV}{es:List (MV × MV)}:R (s9 P (.map kt et) l kd n y es σ k)=R (e8 (E ((td P kt).k=.int kd∧(es.all fun p=>isK kd p.1)=true)) (bR (E .junk) (σ.set l (.mp (l3 kd n y es))) k)):=congrArg R rfl
def tB(P:Program)(d:TK)(kd:IntKind)(n:Int)(ok:Bool)(es:List (MV × MV))(σ:St)(k:MV→St→Prop):Prop:=match d with
 | .map kt et=>e8 ((td P kt).k=.int kd∧(td P et).zok=true∧(es.all fun p=>isK kd p.1)=true) (bR (if ok=true then .tup [(eQ n es).getD (qT (td P et)),.bool (eQ n es).isSome] else(eQ n es).getD (qT (td P et))) σ k)
 | _=>False
theorem DL{t:TypeId}{l:Nat}{kd:IntKind}{n:Int}{ok:Bool}{es:List (MV × MV)}:R (fB P t (.mapv l) (.int kd n) ok (some (.mp es)) σ k)=R (tB P (E (td P t).k) kd n ok es σ k):=congrArg R (by
 unfold fB tB e8 bR E
 cases (td P t).k<;>rfl)
theorem Bp{kt et:TypeId}{kd:IntKind}{n:Int}{ok:Bool}{es:List (MV × MV)}:R (tB P (.map kt et) kd n ok es σ k)=R (e8 (E ((td P kt).k=.int kd∧(td P et).zok=true∧(es.all fun p=>isK kd p.1)=true)) (bR (E (if ok=true then .tup [(eQ n es).getD (qT (td P et)),.bool (eQ n es).isSome] else(eQ n es).getD (qT (td P et)))) σ k)):=congrArg R rfl
theorem Gf{l:Nat}:mapOf σ (.mapv l)=σ l:=rfl
theorem IC{kd:IntKind}{n:Int}{v:MV}:l3 kd n v []=[(.int kd n,v)]:=rfl
theorem Ix{n:Int}:eQ n []=none:=rfl
end
attribute [go_sem ↓] IK IL Gb Dw G0 FV FX FW Dx Gv Dr Bb Gu Du Dt yW Dv Ae HL Em uY Cx Cw Aq Jm GZ DS By BA zG vJ zH Jo Jj DN Jk zA GQ Jl Bt y9 GW vF vG tD GU Bu GS Ji DO vH GX GP Lo tC sZ Jh Bs vD Dl Dm B3 JQ DF zC zE vI
attribute [go_sem] DD Bl DL Bp Gf IC Ix qT Mp Nh Og Od Ng Oe Ob DB Bi Gz Jb GB GA GD GC Bk GK GJ GH GG F2 G2 G1 MA Jr DW G4 JC Lw Lx JF JG JE He JD Lq Gt I8 Ll LA DT GL DH Bn DV zI aF aG DY set_set LK LI LJ LH Lv JN Ht zY Lh Gs IV I6 I2 IW Ld A9 IX I3 I1 I0 IZ IY I4 I5 Gl Gp Gn Gm Gj Gk Le Lc K8 Lb Lf Lg La K9 TK.Db HK FP List.length_take List.length_drop List.length_append if_pos if_neg Cb xU Hy Fits Ay JA vA KC EH A8 qY KA iE bT K6 Dj MZ Jn IQ IS Lk eG Gi Hg Hh Hf FH FI CH FL CN FK CI CO FJ FM CL CJ Au Ib iQ oD gR jJ dA s8 yY laid dK l7 Jd Jf E6 mun o5 gB TK.isAgg TK.eN TK.oZ TK.Dc TK.isBool H6 FA H9 FF H8 FB FG H7 Ia FE FC CG Ky FD CE CK As Mz KF List.map_cons List.map_nil List.length_cons List.length_nil List.length_map Int.toNat_natCast List.drop_succ_cons List.drop_zero List.drop_nil List.take_succ_cons List.take_zero List.take_nil List.getD_cons_zero List.getD_cons_succ List.getElem?_cons_zero List.getElem?_cons_succ List.set_cons_zero List.set_cons_succ List.all_cons List.all_nil List.cons_append List.nil_append List.append_nil List.toList_toArray Option.map_some Option.map_none Bool.and_self Bool.and_true Bool.true_and beq_self_eq_true IntWalk.i64_in IntWalk.u8_in IntWalk.u32_in IntWalk.i32_in IntWalk.u64_in decide_true decide_false Bool.not_true Bool.not_false if_true if_false and_true true_and and_self ne_eq not_true_eq_false not_false_eq_true eq_self reduceCtorEq MV.bool.injEq Nat.zero_add Nat.add_zero
end

section
def St.le(σ1 σ:St):Prop:=∀l o,σ1 l=some o→σ l=some o
theorem St.le_refl(σ:St):σ.le σ:=fun _ _ h=>h
theorem St.none_le(σ:St):St.none.le σ:=fun _ _ h=>by simp[St.none] at h
theorem St.l4{σ1 σ:St}{l:Nat}{o:aV}(h:σ1.le σ)(hl:σ1 l=Option.none):σ1.le (σ.set l o):=fun k q hk=>by
 by_cases e:k=l
 ·subst e;rw[hl] at hk;cases hk
 ·rw[aG _ _ _ _ e];exact h k q hk
theorem St.lE{σ1 σ:St}{l:Nat}{o:aV}(h:σ1.le σ):(σ1.set l o).le (σ.set l o):=fun k q hk=>by
 by_cases e:k=l
 ·subst e;rw[aF] at hk ⊢;exact hk
 ·rw[aG _ _ _ _ e] at hk ⊢;exact h k q hk
theorem St.aD{σ1 σ:St}{l:Nat}{o:aV}(h:σ1.le σ)(hl:σ l=some o):(σ1.set l o).le σ:=fun k q hk=>by
 by_cases e:k=l
 ·subst e;rw[aF] at hk;rw[hl];exact hk
 ·rw[aG _ _ _ _ e] at hk;exact h k q hk
theorem Of{x y:St}:R (x.le y)=x.le y:=rfl
attribute [go_sem] Of
inductive View (σ:St):MV→MV→Prop where
 | same (m:MV):View σ m m
 | junk (m:MV):View σ m .junk
 | nil (e:Nat) (t:Bool):View σ .bC (.lst e [] t)
 | tight (e:Nat) (xs:List (List MV)):View σ (.lst e xs true) (.lst e xs false)
 | vec {l lo n:Nat} {t:TypeId} {e:Nat} {xs:List (List MV)} (h:σ l=some (.row t e xs)) (hn:lo+n≤xs.length):View σ (.vec e l lo n) (.lst e ((xs.drop lo).take n) false)
 | vecAll {l n:Nat} {t:TypeId} {e:Nat} {xs:List (List MV)} (h:σ l=some (.row t e xs)) (hn:n=xs.length):View σ (.vec e l 0 n) (.lst e xs false)
 | ptr {l i o:Nat} {t:TypeId} {e:Nat} {xs:List (List MV)} (h:σ l=some (.row t e xs)) (hn:i<xs.length):View σ (.ptr l i o) (.cptr ((xs.getD i []).drop o))
 | agg {ms ms':List MV} (h:ms.length=ms'.length) (hc:∀(i:Nat) (m:MV),ms'[i]?=some m→m.aP=true) (hv:∀(i:Nat) (m m':MV),ms[i]?=some m→ms'[i]?=some m'→View σ m m'):View σ (.agg ms) (.agg ms')
 | tup {ms ms':List MV} (h:ms.length=ms'.length) (hv:∀(i:Nat) (m m':MV),ms[i]?=some m→ms'[i]?=some m'→View σ m m'):View σ (.tup ms) (.tup ms')
 | fn {f:Fn} {ms ns ns':List MV} (h:ns.length=ns'.length) (hv:∀(i:Nat) (m m':MV),ns[i]?=some m→ns'[i]?=some m'→View σ m m'):View σ (.fn f ms ns) (.fn f ms ns')
def HZ(Φ Φ':Phi)(w:World)(σ:St):Prop:=Φ.le Φ'∧∀l o p R,σ l=some o→Φ.obj l=some p→p.blk=some R→∀off v,w.cell? ⟨R,off,none⟩=some v→Φ'.snap ⟨R,off,none⟩=some v
theorem cY.cells{Φ:Phi}{w:World}{l:Nat}{t:TypeId}{e:Nat}{xs:List (List MV)}(h:cY Φ w l (.row t e xs)){p:Place}(hp:Φ.obj l=some p){R:Nat}(hR:p.blk=some R) :
  ∀(i:Nat) (x:List MV) (j:Nat) (m:MV),xs[i]?=some x→x[j]?=some m→m.aP=true∧∃v,w.cell? ⟨R,p.bo+(i * e+j),none⟩=some v∧Rel Φ v m:=by
 obtain⟨p',hp',he,h1,h2,h3,h4⟩:=h
 rw[hp] at hp';cases hp'
 rw[hR] at h4
 obtain⟨c,fz,hc,hf,hs,hv⟩:=h4
 intro i x j m hx hm
 obtain⟨hcell,v,hv1,hv2⟩:=hv i x j m hx hm
 exact⟨hcell,v,by simpa[World.cell?,hc] using hv1,hv2⟩
theorem cY.EE{Φ Φ':Phi}{w:World}{l:Nat}{t:TypeId}{e:Nat}{xs:List (List MV)}(h:cY Φ w l (.row t e xs)){p:Place}(hp:Φ.obj l=some p){R:Nat}(hR:p.blk=some R)
 (hle:Φ.le Φ')(hs:∀off v,w.cell? ⟨R,off,none⟩=some v→Φ'.snap ⟨R,off,none⟩=some v):iS Φ' R p.bo e xs:=by
 refine⟨h.Mv,fun i j=>(w.cell? ⟨R,p.bo+(i * e+j),none⟩).getD undef,fun i x j m hx hm=>?_⟩
 obtain⟨hcell,v,hv1,hv2⟩:=h.cells hp hR i x j m hx hm
 have:=hs _ _ hv1
 simp only[Nat.add_assoc] at this hv1 ⊢
 refine⟨hcell,?_,?_⟩
 ·rw[this,hv1];rfl
 ·rw[hv1];exact hv2.mono hle
theorem Co{Φ Φ':Phi}{w:World}{σ:St}(hi:Inv Φ w σ)(hs:HZ Φ Φ' w σ){l lo n:Nat}{t:TypeId}{e:Nat}{xs:List (List MV)}(h:σ l=some (.row t e xs))(hn:lo+n≤xs.length){v:Value}(r:Rel Φ v (.vec e l lo n)) :
  Rel Φ' v (.lst e ((xs.drop lo).take n) false):=by
 obtain⟨a,cap,p,rfl,hp,he,hcap,hn',hva⟩:=r.hY
 have own:=hi.own l _ h
 obtain⟨p',hp',he',h1,h2,h3,h4⟩:=hi.own l _ h
 rw[hp] at hp';cases hp'
 refine Rel.y8 (by simp;omega) hn' (by omega) (by simp) (fun ha=>?_) (fun h0=>?_)
 ·rcases hva with⟨R,hR,ha'⟩|hva
  ·rw[ha'] at ha;cases ha
  ·exact hva
 ·rcases hva with⟨R,hR,ha⟩|hva
  ·subst ha
   refine⟨_,_,rfl,?_⟩
   rw[he]
   exact((own.EE hp hR hs.1 (hs.2 l _ p R h hp hR)).drop).take
  ·omega
theorem View.rel{Φ Φ':Phi}{w:World}{σ:St}(hi:Inv Φ w σ)(hs:HZ Φ Φ' w σ){m m':MV}(h:View σ m m'):∀{v:Value},Rel Φ v m→Rel Φ' v m':=by
 induction h with
 | same m=>intro v r;exact r.mono hs.1
 | junk m=>intro v r;exact .junk v
 | nil e t=>intro v r;cases r;exact .lstn e t
 | tight e xs=>intro v r;exact((lM.tight e xs).rel r).mono hs.1
 | vec h hn=>intro v r;exact Co hi hs h hn r
 | @vecAll l n t e xs h hn =>
  intro v r
  have:=Co hi hs h (lo:=0) (n:=n) (by omega) r
  subst hn
  simpa using this
 | @ptr l i o t e xs h hn =>
  intro v r
  obtain⟨p,R,hp,hR,rfl⟩:=r.fZ
  have own:=hi.own l _ h
  obtain⟨p',hp',he',-⟩:=hi.own l _ h
  rw[hp] at hp';cases hp'
  obtain⟨-,vs,hv⟩:=own.EE hp hR hs.1 (hs.2 l _ p R h hp hR)
  have hx:xs[i]?=some (xs.getD i []):=by simp[List.getD,List.getElem?_eq_getElem hn]
  refine .cptr (fun j=>vs i (o+j)) (fun j m hm=>?_) (fun j m hm=>?_)
  all_goals
   rw[List.getElem?_drop] at hm
   have:=hv i _ _ m hx hm
  ·refine⟨this.1,?_⟩
   rw[he']
   simpa[Nat.add_assoc] using this.2.1
  ·exact this.2.2
 | agg h hc hv ih =>
  intro v r
  obtain⟨cs,rfl,h1,h2,h3⟩:=r.hJ
  refine .agg (by omega) hc (fun i m' hm'=>?_)
  have hlt:=(List.getElem?_eq_some_iff.1 hm').1
  rename_i ms ms'
  obtain⟨m,hm⟩:∃m,ms[i]?=some m:=⟨_,List.getElem?_eq_getElem (by omega)⟩
  exact ih i m m' hm hm' (h3 i m hm)
 | tup h hv ih =>
  intro v r
  obtain⟨cs,rfl,h1,h3⟩:=r.yP
  refine .tup (by omega) (fun i m' hm'=>?_)
  have hlt:=(List.getElem?_eq_some_iff.1 hm').1
  rename_i ms ms'
  obtain⟨m,hm⟩:∃m,ms[i]?=some m:=⟨_,List.getElem?_eq_getElem (by omega)⟩
  exact ih i m m' hm hm' (h3 i m hm)
 | @fn f ms ns ns' h hv ih =>
  intro v r
  obtain⟨first,cap,rfl,h1,h2⟩:=r.kZ
  refine .fn f h1.1 (h2.1.trans h) (fun i m hm=>(h1.2 i m hm).mono hs.1) (fun i m' hm'=>?_)
  have hlt:=(List.getElem?_eq_some_iff.1 hm').1
  obtain⟨m,hm⟩:∃m,ns[i]?=some m:=⟨_,List.getElem?_eq_getElem (by omega)⟩
  exact ih i m m' hm hm' (h2.2 i m hm)
def Phi.oM(Φ:Phi)(w:World)(B:Nat→Prop)[DecidablePred B]:Phi:={ Φ with snap:=fun a=>match Φ.snap a with|some v=>some v|none=>if B a.block then w.cell? a else none }
theorem r0(Φ:Phi)(w:World)(B:Nat→Prop)[DecidablePred B]:Φ.le (Φ.oM w B):=⟨fun a v h=>by simp[Phi.oM,h],fun _ _ h=>h,rfl⟩
theorem eF{Φ:Phi}{w:World}{B:Nat→Prop}[DecidablePred B]{a:Addr}{v:Value}(h:(Φ.oM w B).snap a=some v):Φ.snap a=some v∨(B a.block∧w.cell? a=some v):=by
 simp only[Phi.oM] at h
 split at h
 ·rename_i u hu;left;rw[hu,←h]
 ·split at h
  ·rename_i hb;exact .inr ⟨hb,h⟩
  ·cases h
theorem Aa{Φ:Phi}{w:World}{σ:St}(hi:Inv Φ w σ){B:Nat→Prop}[DecidablePred B]{σv:St}(hle:σv.le σ)(hB:∀R,aQ Φ σv R→B R):HZ Φ (Φ.oM w B) w σv:=by
 refine⟨r0 _ _ _,fun l o p R hl hp hR off v hv=>?_⟩
 have hb:B R:=hB R ⟨l,o,p,hl,hp,hR⟩
 simp only[Phi.oM]
 split
 ·rename_i u hu
  have:=hi.snap _ _ hu
  rw[hv] at this
  exact this.symm
 ·rw[if_pos hb];exact hv
theorem bD.freeze{n:Nat}{l l1:List (Nat × MV)}{d:List (FuncId × List MV)}{σ σ1:St}(σv:St)(hle:σv.le σ)(h1:σ1.le σ)(hd:∀k o,σ1 k=some o→σv k=none)
 (h:∀p,p∈l1→View σv (bY l p.1) p.2):bD ⟨n,l,d⟩ σ ⟨n,l1,d⟩ σ1:=by
 refine⟨rfl,fun Φ w vs hi hr=>?_⟩
 classical
 have hs:=Aa (Φ:=Φ) hi (B:=aQ Φ σv) hle (fun R h=>h)
 refine⟨Φ.oM w (aQ Φ σv),⟨?_,?_,?_,?_,hi.fresh.1,fun g i v q=>hs.1.snap _ _ (hi.fresh.2.1 g i v q),hi.fresh.2.2.mono hs.1.snap⟩,⟨hr.1,?_⟩,⟨hs.1,rfl,rfl,rfl,Nat.le_refl _,Nat.le_refl _,fun _ _ _=>rfl,?_,fun l o h=>.inl ⟨o,h1 l o h⟩,fun R hR=>.inl ?_⟩⟩
 ·exact fun k o hk=>(hi.own k o (h1 k o hk)).mono hs.1 (fun _ _ _ _=>rfl)
 ·exact fun k k' o o' p p' R a b c e=>hi.inj k k' o o' p p' R (h1 k o a) (h1 k' o' b) c e
 ·intro a v hv
  rcases eF hv with q|⟨-,q⟩
  ·exact hi.snap a v q
  ·exact q
 ·intro k o p R a v hk hp hR hv
  rcases eF hv with q|⟨⟨k2,o2,p2,q1,q2,q3⟩,-⟩
  ·exact hi.apart k o p R a v (h1 k o hk) hp hR q
  ·intro e
   rw[e] at q3
   have:=hi.inj k k2 o o2 p p2 R (h1 k o hk) (hle k2 o2 q1) hp q2 hR q3
   subst this
   rw[hd k o hk] at q1
   cases q1
 ·intro t
  show Rel _ _ (bY l1 t)
  have key:∀l1':List (Nat × MV),(∀p,p∈l1'→View σv (bY l p.1) p.2)→View σv (bY l t) (bY l1' t):=by
   intro l1'
   induction l1' with
   | nil=>intro _;exact .junk _
   | cons q r ih =>
    obtain⟨k,v⟩:=q
    intro h
    simp only[bY]
    split
    ·rename_i ht;subst ht;exact h (t,v) (by simp)
    ·exact ih fun q hq=>h q (by simp[hq])
  exact(key l1 h).rel (hi.less hle) hs (hr.2 t)
 ·intro a v hv
  rcases eF hv with q|⟨⟨k,o,p,q1,q2,q3⟩,-⟩
  ·exact .inl q
  ·exact .inr (.inr ⟨k,o,p,hle k o q1,q2,q3⟩)
 ·obtain⟨k,o,p,q1,q2,q3⟩:=hR
  exact⟨k,o,p,h1 k o q1,q2,q3⟩
def HW(σv:St)(o o1:aV):Prop:=o1=o∨∃t e xs xs1,o=.row t e xs∧o1=.row t e xs1∧xs.length=xs1.length∧∀(i:Nat) (x x1:List MV),xs[i]?=some x→xs1[i]?=some x1→x.length=x1.length ∧
 ∀(j:Nat) (m m1:MV),x[j]?=some m→x1[j]?=some m1→m1=m∨(m1.aP=true∧View σv m m1)
theorem HW.own{Φ Φ':Phi}{w:World}{σv:St}{k:Nat}{o o1:aV}(hv:HW σv o o1)(h:cY Φ w k o)(hle:Φ.le Φ')(hi:Inv Φ w σv)(hs:HZ Φ Φ' w σv):cY Φ' w k o1:=by
 rcases hv with rfl|⟨t,e,xs,xs1,rfl,rfl,hl,hx⟩
 ·exact h.mono hle (fun _ _ _ _=>rfl)
 ·obtain⟨p,hp,hpe,q1,q2,q3,q4⟩:=h
  have get:∀(i:Nat) (x1:List MV),xs1[i]?=some x1→∃x,xs[i]?=some x:=fun i x1 h1=>by
   have:=(List.getElem?_eq_some_iff.1 h1).1
   exact⟨xs[i]'(by omega),by simp⟩
  refine⟨p,hle.obj _ _ hp,hpe,by omega,q2,fun i x1 h1=>?_,?_⟩
  ·obtain⟨x,hx0⟩:=get i x1 h1
   rw[←(hx i x x1 hx0 h1).1]
   exact q3 i x hx0
  ·cases hb:p.blk with
   | none=>rw[hb] at q4;exact q4
   | some R =>
    rw[hb] at q4
    obtain⟨c,fz,k1,k2,k3,k4⟩:=q4
    refine⟨c,fz,k1,k2,k3,fun i x1 j m1 h1 hm1=>?_⟩
    obtain⟨x,hx0⟩:=get i x1 h1
    obtain⟨hlen,hview⟩:=hx i x x1 hx0 h1
    have hj:=(List.getElem?_eq_some_iff.1 hm1).1
    obtain⟨m,hm⟩:∃m,x[j]?=some m:=⟨x[j]'(by omega),by simp⟩
    obtain⟨hc0,v,hcv,hrel⟩:=k4 i x j m hx0 hm
    rcases hview j m m1 hm hm1 with rfl|⟨hc,hv⟩
    ·exact⟨hc0,v,hcv,hrel.mono hle⟩
    ·exact⟨hc,v,hcv,hv.rel hi hs hrel⟩
theorem bD.sP{n:Nat}{l l1:List (Nat × MV)}{d:List (FuncId × List MV)}{σ σ1:St}(σv:St)(hle:σv.le σ)(h1:∀k o1,σ1 k=some o1→∃o,σ k=some o∧HW σv o o1)(hd:∀k o,σ1 k=some o→σv k=none)
 (h:∀p,p∈l1→View σv (bY l p.1) p.2):bD ⟨n,l,d⟩ σ ⟨n,l1,d⟩ σ1:=by
 refine⟨rfl,fun Φ w vs hi hr=>?_⟩
 classical
 have hs:=Aa (Φ:=Φ) hi (B:=aQ Φ σv) hle (fun R h=>h)
 refine⟨Φ.oM w (aQ Φ σv),⟨?_,?_,?_,?_,hi.fresh.1,fun g i v q=>hs.1.snap _ _ (hi.fresh.2.1 g i v q),hi.fresh.2.2.mono hs.1.snap⟩,⟨hr.1,?_⟩,⟨hs.1,rfl,rfl,rfl,Nat.le_refl _,Nat.le_refl _,fun _ _ _=>rfl,?_,fun l o h=>?_,fun R hR=>.inl ?_⟩⟩
 ·intro k o1 hk
  obtain⟨o,ho,hv⟩:=h1 k o1 hk
  exact hv.own (hi.own k o ho) hs.1 (hi.less hle) hs
 ·intro k k' o o' p p' R a b c e
  obtain⟨q,hq,-⟩:=h1 k o a
  obtain⟨q',hq',-⟩:=h1 k' o' b
  exact hi.inj k k' q q' p p' R hq hq' c e
 ·intro a v hv
  rcases eF hv with q|⟨-,q⟩
  ·exact hi.snap a v q
  ·exact q
 ·intro k o p R a v hk hp hR hv
  obtain⟨o0,ho0,-⟩:=h1 k o hk
  rcases eF hv with q|⟨⟨k2,o2,p2,q1,q2,q3⟩,-⟩
  ·exact hi.apart k o0 p R a v ho0 hp hR q
  ·intro e
   rw[e] at q3
   have:=hi.inj k k2 o0 o2 p p2 R ho0 (hle k2 o2 q1) hp q2 hR q3
   subst this
   rw[hd k o hk] at q1
   cases q1
 ·intro t
  show Rel _ _ (bY l1 t)
  have key:∀l1':List (Nat × MV),(∀p,p∈l1'→View σv (bY l p.1) p.2)→View σv (bY l t) (bY l1' t):=by
   intro l1'
   induction l1' with
   | nil=>intro _;exact .junk _
   | cons q r ih =>
    obtain⟨k,v⟩:=q
    intro h
    simp only[bY]
    split
    ·rename_i ht;subst ht;exact h (t,v) (by simp)
    ·exact ih fun q hq=>h q (by simp[hq])
  exact(key l1 h).rel (hi.less hle) hs (hr.2 t)
 ·intro a v hv
  rcases eF hv with q|⟨⟨k,o,p,q1,q2,q3⟩,-⟩
  ·exact .inl q
  ·exact .inr (.inr ⟨k,o,p,hle k o q1,q2,q3⟩)
 ·obtain⟨o0,ho0,-⟩:=h1 l o h
  exact .inl ⟨o0,ho0⟩
 ·obtain⟨k,o,p,q1,q2,q3⟩:=hR
  obtain⟨o0,ho0,-⟩:=h1 k o q1
  exact⟨k,o0,p,ho0,q2,q3⟩
theorem bD.less{n:Nat}{l l1:List (Nat × MV)}{d:List (FuncId × List MV)}{σ σ1:St}(h:∀p,p∈l1→lM (bY l p.1) p.2)(hs:σ1.le σ):bD ⟨n,l,d⟩ σ ⟨n,l1,d⟩ σ1 :=
 (bD.KS h).trans (bD.drop hs)
end

section
theorem Gh.row{n:Nat}{l:List (Nat × MV)}{d:List (FuncId × List MV)}{σ:St}{K:FR→St→Prop}(t:TypeId)(e:Nat)(l1:Nat→List (Nat × MV))
 (h1:∀k,∀p,p∈l1 k→bY l p.1=p.2∨(p.2=.vec e k 0 0∧(bY l p.1=.bC∨bY l p.1=.lst e [] true)))
 (h:∀k,σ k=none→Gh ⟨n,l1 k,d⟩ (σ.set k (.row t e [])) K):Gh ⟨n,l,d⟩ σ K:=by
 intro Φ w vs hi hr
 obtain⟨k,hk,hk'⟩:=inv_eq hi
 obtain⟨v1,v2,-⟩:=kK hi (fun _ _ h=>h) hk t e none
 have hfr:cF (Φ.put k ⟨none,0,e,0⟩) vs ⟨n,l1 k,d⟩:=by
  refine⟨hr.1,fun s=>?_⟩
  show Rel _ _ (bY (l1 k) s)
  have key:∀l2:List (Nat × MV),(∀p,p∈l2→bY l p.1=p.2∨(p.2=.vec e k 0 0∧(bY l p.1=.bC∨bY l p.1=.lst e [] true)))→Rel (Φ.put k ⟨none,0,e,0⟩) (vs.getD s undef) (bY l2 s):=by
   intro l2
   induction l2 with
   | nil=>intro _;exact .junk _
   | cons q r ih =>
    obtain⟨j,v⟩:=q
    intro h
    simp only[bY]
    split
    ·rename_i ht
     subst ht
     have hs:=hr.2 s
     change Rel Φ _ (bY l s) at hs
     rcases h (s,v) (by simp) with q|⟨q1,q2|q2⟩
     ·simp only at q;rw[←q];exact hs.mono v2.le
     ·simp only at q1 q2
      rw[q2] at hs
      have:=hs.eC
      rw[this,q1]
      exact(kK hi (fun _ _ h=>h) hk t e none).2.2
     ·simp only at q1 q2
      rw[q2] at hs
      obtain⟨a,cap,hv,-,-,h0,-⟩:=hs.hU
      have hcap:cap=0:=by simpa using h0 rfl
      subst hcap
      rw[hv,q1]
      exact(kK hi (fun _ _ h=>h) hk t e a).2.2
    ·exact ih fun q hq=>h q (by simp[hq])
  exact key _ (h1 k)
 obtain⟨f2,σ2,Φ2,e2,k2,i2,r2,s2⟩:=h k hk' _ w vs v1 hfr
 exact⟨f2,σ2,Φ2,e2,k2,i2,r2,v2.trans s2⟩
theorem Gh.rH{f:FR}{σ:St}{K:FR→St→Prop}{b:Nat}{t:TypeId}{e:Nat}{pre post:List MV}(t':TypeId)(e':Nat)(hs:σ b=some (.row t e [pre++.bC::post]))
 (h:∀k,σ k=none→Gh f ((σ.set b (.row t e [pre++.vec e' k 0 0::post])).set k (.row t' e' [])) K):Gh f σ K:=by
 intro Φ w vs hi hr
 obtain⟨k,hk,hk'⟩:=inv_eq hi
 obtain⟨v1,v2,-⟩:=kK hi (fun _ _ h=>h) hk t' e' none
 have hbk:b≠k:=fun e=>by subst e;rw[hs] at hk';cases hk'
 have hs':(σ.set k (.row t' e' [])) b=some (.row t e [pre++.bC::post]):=by rw[aG _ _ _ _ hbk];exact hs
 obtain⟨p,hp,hpe,q1,q2,q3,q4⟩:=v1.own b _ hs'
 have hown:cY (Φ.put k ⟨none,0,e',0⟩) w b (.row t e [pre++.vec e' k 0 0::post]):=by
  refine⟨p,hp,hpe,by simpa using q1,q2,fun i x hx=>?_,?_⟩
  ·match i with
   | 0 =>
    simp only[List.getElem?_cons_zero,Option.some.injEq] at hx
    subst hx
    have:=q3 0 _ rfl
    simpa using this
   | i+1=>simp at hx
  ·cases hb:p.blk with
   | none=>rw[hb] at q4;exact q4
   | some R =>
    rw[hb] at q4
    obtain⟨c,fz,k1,k2,k3,k4⟩:=q4
    refine⟨c,fz,k1,k2,k3,fun i x j m hx hm=>?_⟩
    match i with
    | 0 =>
     simp only[List.getElem?_cons_zero,Option.some.injEq] at hx
     subst hx
     by_cases hj:j=pre.length
     ·subst hj
      simp at hm
      subst hm
      obtain⟨-,v,hv,hrel⟩:=k4 0 _ pre.length .bC rfl (by simp)
      have:=hrel.eC
      subst this
      exact⟨rfl,_,hv,.vecn (p:=⟨none,0,e',0⟩) (Phi.bX _ _ _) rfl rfl⟩
     ·refine k4 0 _ j m rfl ?_
      rw[←hm]
      by_cases h:j<pre.length
      ·rw[List.getElem?_append_left h,List.getElem?_append_left h]
      ·rw[List.getElem?_append_right (by omega),List.getElem?_append_right (by omega)]
       obtain⟨q,hq⟩:∃q,j - pre.length=q+1:=⟨j - pre.length - 1,by omega⟩
       rw[hq,List.getElem?_cons_succ,List.getElem?_cons_succ]
    | i+1=>simp at hx
 have i2:Inv (Φ.put k ⟨none,0,e',0⟩) w ((σ.set k (.row t' e' [])).set b (.row t e [pre++.vec e' k 0 0::post])):=by
  refine v1.upd (.refl _) (fun _=>rfl) b _ p hp (fun m o q=>St.bL q) (fun m o q R hm hs2 hq hR=>?_) (fun a v h=>?_) hown v1.fresh.1
  ·rcases St.bL hs2 with⟨_,q1⟩|⟨q1,_⟩
   ·exact⟨rfl,fun e2=>hm (v1.inj m b _ _ q p R q1 hs' hq hp hR e2)⟩
   ·exact absurd q1 hm
  ·exact⟨rfl,fun e2=>v1.apart b _ p _ a v hs' hp e2 h rfl⟩
 have hst:(σ.set k (.row t' e' [])).set b (.row t e [pre++.vec e' k 0 0::post])=(σ.set b (.row t e [pre++.vec e' k 0 0::post])).set k (.row t' e' []):=set_comm _ _ _ (Ne.symm hbk)
 rw[hst] at i2
 obtain⟨f2,σ2,Φ2,e2,k2,j2,r2,s2⟩:=h k hk' _ w vs i2 (hr.mono v2.le)
 refine⟨f2,σ2,Φ2,e2,k2,j2,r2,.trans ?_ s2⟩
 refine⟨v2.le,rfl,rfl,rfl,Nat.le_refl _,Nat.le_refl _,fun _ _ _=>rfl,fun _ _ h=>.inl h,fun m o q=>?_,fun R hR=>?_⟩
 ·rcases St.bL q with⟨_,q1⟩|⟨rfl,_⟩
  ·rcases St.bL q1 with⟨_,q2⟩|⟨rfl,_⟩
   ·exact .inl ⟨_,q2⟩
   ·exact .inl ⟨_,hs⟩
  ·exact .inr hk
 ·obtain⟨m,o1,p1,t1,t2,t3⟩:=hR
  refine v2.ownd R ?_
  rcases St.bL t1 with⟨hm,q1⟩|⟨rfl,rfl⟩
  ·rcases St.bL q1 with⟨_,q2⟩|⟨rfl,_⟩
   ·exact⟨m,o1,p1,by rw[aG _ _ _ _ hm];exact q2,t2,t3⟩
   ·exact⟨m,_,p1,hs',t2,t3⟩
  ·exact⟨m,_,p1,aF _ _ _,t2,t3⟩
theorem aA.gh{P:Program}{g:FuncId}{ms:List MV}{σ:St}{Q:MV→St→Prop}(h:aA P g ms σ fun v σ'=>Gh ⟨1,[(0,v)],[]⟩ σ' fun f1 σ1=>∃v1,f1=⟨1,[(0,v1)],[]⟩∧Q v1 σ1):aA P g ms σ Q:=by
 refine⟨h.1,fun Φ w vs hi hr=>(h.2 Φ w vs hi hr).mono ?_⟩
 rintro e w' ⟨v,mv,σ',Φ',rfl,q1,q2,q3,g⟩
 obtain⟨f1,σ1,Φ1,-,⟨v1,rfl,hq⟩,i1,r1,s1⟩:=g Φ' w' #[v] q2 ⟨rfl,fun t=>by
  simp only[FR.get,bY]
  split
  ·rename_i ht;subst ht;exact q1
  ·exact .junk _⟩
 exact⟨v,v1,σ1,Φ1,rfl,by simpa[FR.get,bY] using r1.2 0,i1,q3.trans s1,hq⟩
def St.over(x y:St):St:=fun l=>match x l with|some o=>some o|Option.none=>y l
def St.minus(x y:St):St:=fun l=>match y l with|some _=>Option.none|Option.none=>x l
theorem jB{x y:St}{l:Nat}{o:aV}(h:(St.over x y) l=some o):x l=some o∨(x l=none∧y l=some o):=by
 simp only[St.over] at h
 split at h
 ·rename_i q hq;exact .inl (by rw[hq,h])
 ·rename_i hq;exact .inr ⟨hq,h⟩
theorem bN{x y:St}{l:Nat}{o:aV}(h:(St.minus x y) l=some o):y l=none∧x l=some o:=by
 simp only[St.minus] at h
 split at h
 ·cases h
 ·rename_i hq;exact⟨hq,h⟩
theorem aA.frame{P:Program}{g:FuncId}{ms:List MV}{σa σ:St}{Q:MV→St→Prop}(h:aA P g ms σa Q)(hle:σa.le σ) :
  aA P g ms σ fun v σ1=>∃σ',Q v σ'∧σ1=σ'.over (σ.minus σa)∧∀l o,σ' l=some o→σ l=none∨∃o',σa l=some o':=by
 refine⟨h.1,fun Φ w vs hi hr=>(h.2 Φ w vs (hi.less hle) hr).mono ?_⟩
 rintro e w' ⟨v,mv,σ',Φ',rfl,r1,i1,s1,hq⟩
 have rest:∀l o,(σ.minus σa) l=some o→∃p,Φ.obj l=some p∧Φ'.obj l=some p∧∀R,p.blk=some R→R<w.heap.size∧¬aQ Φ σa R∧w'.heap[R]?=w.heap[R]?:=by
  intro l o hl
  obtain⟨q1,q2⟩:=bN hl
  obtain⟨p,hp,hR⟩:=(hi.own l o q2).place
  refine⟨p,hp,s1.le.obj _ _ hp,fun R hb=>?_⟩
  have hno:¬aQ Φ σa R:=by
   rintro⟨l2,o2,p2,u1,u2,u3⟩
   have:=hi.inj l l2 o o2 p p2 R q2 (hle _ _ u1) hp u2 hb u3
   subst this
   rw[q1] at u1;cases u1
  exact⟨hR R hb,hno,s1.block R (hR R hb) hno⟩
 have hdis:∀l o,σ' l=some o→σ l=none∨∃o',σa l=some o':=by
  intro l o hl
  rcases s1.locs l o hl with q|q
  ·exact .inr q
  ·exact .inl (hi.eD q)
 have hnew:∀l o p R,σ' l=some o→Φ'.obj l=some p→p.blk=some R→aQ Φ σa R∨w.heap.size≤R:=fun l o p R a b c=>s1.ownd R ⟨l,o,p,a,b,c⟩
 refine⟨v,mv,σ'.over (σ.minus σa),Φ',rfl,r1,⟨?_,?_,i1.snap,?_,i1.fresh⟩,⟨s1.le,s1.os,s1.tape,s1.output,s1.drawn,s1.size,?_,?_,?_,?_⟩,σ',hq,rfl,hdis⟩
 ·intro l o hl
  rcases jB hl with q|⟨q1,q2⟩
  ·exact i1.own l o q
  ·obtain⟨p,hp,hp',hR⟩:=rest l o q2
   exact(hi.own l o (bN q2).2).mono s1.le fun p1 R h1 h2=>by
    rw[hp] at h1;cases h1
    exact(hR R h2).2.2
 ·intro l l' o o' p p' R hl hl' hp hp' hb hb'
  rcases jB hl with q|⟨q1,q2⟩<;>rcases jB hl' with q'|⟨q1',q2'⟩
  ·exact i1.inj l l' o o' p p' R q q' hp hp' hb hb'
  ·obtain⟨p2,u1,u2,u3⟩:=rest l' o' q2'
   rw[hp'] at u2;cases u2
   rcases hnew l o p R q hp hb with k|k
   ·exact absurd k (u3 R hb').2.1
   ·have:=(u3 R hb').1;omega
  ·obtain⟨p2,u1,u2,u3⟩:=rest l o q2
   rw[hp] at u2;cases u2
   rcases hnew l' o' p' R q' hp' hb' with k|k
   ·exact absurd k (u3 R hb).2.1
   ·have:=(u3 R hb).1;omega
  ·obtain⟨p2,u1,u2,u3⟩:=rest l o q2
   rw[hp] at u2;cases u2
   obtain⟨p3,v1,v2,v3⟩:=rest l' o' q2'
   rw[hp'] at v2;cases v2
   exact hi.inj l l' o o' p p' R (bN q2).2 (bN q2').2 u1 v1 hb hb'
 ·intro l o p R a u hl hp hb hu
  rcases jB hl with q|⟨q1,q2⟩
  ·exact i1.apart l o p R a u q hp hb hu
  ·obtain⟨p2,u1,u2,u3⟩:=rest l o q2
   rw[hp] at u2;cases u2
   intro e
   rcases s1.snapn a u hu with k|k|k
   ·exact hi.apart l o p R a u (bN q2).2 u1 hb k e
   ·have:=(u3 R hb).1;omega
   ·rw[e] at k;exact(u3 R hb).2.1 k
 ·exact fun k hk hno=>s1.block k hk fun q=>hno (q.less hle)
 ·intro a u hu
  rcases s1.snapn a u hu with k|k|k
  ·exact .inl k
  ·exact .inr (.inl k)
  ·exact .inr (.inr (k.less hle))
 ·intro l o hl
  rcases jB hl with q|⟨q1,q2⟩
  ·rcases s1.locs l o q with⟨o',k⟩|k
   ·exact .inl ⟨o',hle _ _ k⟩
   ·exact .inr k
  ·exact .inl ⟨o,(bN q2).2⟩
 ·rintro R ⟨l,o,p,hl,hp,hb⟩
  rcases jB hl with q|⟨q1,q2⟩
  ·rcases hnew l o p R q hp hb with k|k
   ·exact .inl (k.less hle)
   ·exact .inr k
  ·obtain⟨p2,u1,u2,u3⟩:=rest l o q2
   rw[hp] at u2;cases u2
   exact .inl ⟨l,o,p,(bN q2).2,u1,hb⟩
theorem aA.less{P:Program}{g:FuncId}{ms:List MV}{σ:St}{Q Q':MV→St→Prop}(h:aA P g ms σ Q')(hq:∀v σ',Q' v σ'→∃σ1,σ1.le σ'∧Q v σ1):aA P g ms σ Q:=by
 refine⟨h.1,fun Φ w vs hi hr=>(h.2 Φ w vs hi hr).mono ?_⟩
 rintro e w' ⟨v,mv,σ',Φ',rfl,r1,i1,s1,k⟩
 obtain⟨σ1,hle,hk⟩:=hq mv σ' k
 exact⟨v,mv,σ1,Φ',rfl,r1,i1.less hle,s1.trans (.less _ hle),hk⟩
theorem aA.cI{P:Program}{g:FuncId}{ms:List MV}{σ:St}{Q:MV→St→Prop}(h:aA P g ms σ fun v σ'=>∃σ1,σ1.le σ'∧Q v σ1):aA P g ms σ Q:=h.less fun _ _ k=>k
theorem gS(σ:St):σ.minus St.none=σ:=by funext l;simp[St.minus,St.none]
theorem aA.pure{P:Program}{g:FuncId}{ms:List MV}{σ:St}{q:MV→Prop}(h:aA P g ms St.none fun v _=>q v):aA P g ms σ fun v σ'=>q v∧σ'=σ:=by
 refine(h.frame (St.none_le σ)).less ?_
 rintro v σ1 ⟨σ',hq,rfl,hd⟩
 refine⟨σ,fun l o hl=>?_,hq,rfl⟩
 rw[gS]
 simp only[St.over]
 cases hs:σ' l with
 | none=>exact hl
 | some o' =>
  rcases hd l o' hs with k|⟨_,k⟩
  ·rw[hl] at k;cases k
  ·simp[St.none] at k
theorem aA.GN{P:Program}{g:FuncId}{ms:List MV}{q:MV→Prop}(h:aA P g ms St.none fun v _=>q v):aA P g ms St.none fun v σ'=>q v∧σ'=St.none:=h.pure
theorem aK{P:Program}{g:FuncId}{ms:List MV}{σ:St}{r:MV}{k:MV→St→Prop}(h:aA P g ms St.none fun v _=>v=r)(hk:R (bR r σ k)):R (cX P g ms σ k):=by
 refine(aA.pure (σ:=σ) h).mono ?_
 rintro v σ' ⟨rfl,rfl⟩
 exact hk
theorem cQ{P:Program}{g:FuncId}{ms:List MV}{σ:St}{q:MV→Prop}{k:MV→St→Prop}(h:aA P g ms St.none fun v _=>q v)(hk:∀r,q r→R (bR r σ k)):R (cX P g ms σ k):=by
 refine(aA.pure (σ:=σ) h).mono ?_
 rintro v σ' ⟨hq,rfl⟩
 exact hk v hq
inductive Flat:MV→Prop where
 | junk:Flat .junk
 | bool (b:Bool):Flat (.bool b)
 | int (k:IntKind) (n:Int):Flat (.int k n)
 | str (s:ByteArray):Flat (.str s)
 | nilp:Flat .nilp
 | bC:Flat .bC
 | lst0 (e:Nat):Flat (.lst e [] true)
 | nilm:Flat .nilm
 | nilfn:Flat .nilfn
 | nili:Flat .nili
 | agg {cs:List MV} (h:∀c,c∈cs→Flat c):Flat (.agg cs)
 | tup {cs:List MV} (h:∀c,c∈cs→Flat c):Flat (.tup cs)
theorem Flat.rel{Φ Φ':Phi}{m:MV}(h:Flat m):∀{v:Value},Rel Φ v m→Rel Φ' v m:=by
 induction h with
 | junk=>intro v r;exact .junk v
 | bool b=>intro v r;cases r;exact .bool b
 | int k n=>intro v r;cases r;exact .int k n
 | str s=>intro v r;cases r;exact .str s
 | nilp=>intro v r;cases r;exact .nilp
 | bC=>intro v r;cases r;exact .bC
 | nilm=>intro v r;cases r;exact .nilm
 | nilfn=>intro v r;cases r;exact .nilfn
 | nili=>intro v r;cases r;exact .nili
 | lst0 e =>
  intro v r
  cases r with
  | lstn=>exact .lstn e true
  | lst0 a e cap t ht hm=>exact .lst0 a e cap true ht hm
  | lst hl h0=>simp at hl;omega
 | agg h ih =>
  intro v r
  cases r with
  | agg h hc hr=>exact .agg h hc (fun i m hm=>ih m (List.mem_of_getElem? hm) (hr i m hm))
 | tup h ih =>
  intro v r
  cases r with
  | tup h hr=>exact .tup h (fun i m hm=>ih m (List.mem_of_getElem? hm) (hr i m hm))
theorem aA.Om{P:Program}{g:FuncId}{ms ms':List MV}{σ:St}{q:MV→Prop}(h:aA P g ms' St.none fun v _=>q v)(hf:∀r,q r→Flat r)(hl:ms.length=ms'.length)
 (hv:∀(i:Nat) (m m':MV),ms[i]?=some m→ms'[i]?=some m'→View σ m m'):aA P g ms σ fun v σ'=>q v∧σ'=σ:=by
 refine⟨h.1,fun Φ w vs hi hr=>?_⟩
 classical
 have hs:HZ Φ (Φ.oM w (fun _=>True)) w σ:=Aa hi (St.le_refl σ) (fun _ _=>trivial)
 have hi':Inv (Φ.oM w (fun _=>True)) w St.none:=by
  refine⟨fun l o hl=>by simp[St.none] at hl,fun l l' o o' p p' R hl=>by simp[St.none] at hl,fun a v hv=>?_,fun l o p R a v hl=>by simp[St.none] at hl,hi.fresh.1,fun g i v q=>(r0 _ _ _).snap _ _ (hi.fresh.2.1 g i v q),hi.fresh.2.2.mono (r0 _ _ _).snap⟩
  rcases eF hv with q|⟨-,q⟩
  ·exact hi.snap a v q
  ·exact q
 have hr':fE (Φ.oM w (fun _=>True)) vs ms':=by
  refine⟨hr.1.trans hl,fun i m' hm'=>?_⟩
  have hlt:=(List.getElem?_eq_some_iff.1 hm').1
  obtain⟨m,hm⟩:∃m,ms[i]?=some m:=⟨_,List.getElem?_eq_getElem (by omega)⟩
  exact(hv i m m' hm hm').rel hi hs (hr.2 i m hm)
 refine(h.2 _ w vs hi' hr').mono ?_
 rintro e w' ⟨v,mv,σ',Φ',rfl,r1,i1,s1,hq⟩
 have hblk:∀k,k<w.heap.size→w'.heap[k]?=w.heap[k]?:=fun k hk=>s1.block k hk fun⟨l,o,p,a,_⟩=>by simp[St.none] at a
 have hown:∀l o,σ l=some o→cY Φ w' l o:=fun l o hl'=>by
  obtain⟨p,hp,hR⟩:=(hi.own l o hl').place
  exact(hi.own l o hl').mono (.refl Φ) fun p1 R h1 h2=>by
   rw[hp] at h1;cases h1
   exact hblk R (hR R h2)
 refine⟨v,mv,σ,Φ,rfl,(hf mv hq).rel r1,⟨hown,hi.inj,fun a u hu=>?_,hi.apart,hi.fresh⟩,⟨.refl Φ,s1.os,s1.tape,s1.output,s1.drawn,s1.size,fun k hk _=>hblk k hk,fun _ _ h=>.inl h,fun l o h=>.inl ⟨o,h⟩,fun _ h=>.inl h⟩,hq,rfl⟩
 have h1:=hi.snap a u hu
 have:=World.block_lt_of_cell? w a h1
 rw[World.dI (hblk _ this)]
 exact h1
theorem uU{P:Program}{g:FuncId}{ms:List MV}(ms':List MV){σ:St}{r:MV}{k:MV→St→Prop}(h:aA P g ms' St.none fun v _=>v=r)(hf:Flat r)(hl:ms.length=ms'.length)
 (hv:∀(i:Nat) (m m':MV),ms[i]?=some m→ms'[i]?=some m'→View σ m m')(hk:R (bR r σ k)):R (cX P g ms σ k):=by
 refine(aA.Om (σ:=σ) h (fun _ e=>e ▸ hf) hl hv).mono ?_
 rintro v σ' ⟨rfl,rfl⟩
 exact hk
theorem cA{P:Program}{g:FuncId}{ms:List MV}{σa σ:St}{Q k:MV→St→Prop}(h:aA P g ms σa Q)(hle:σa.le σ)
 (hk:∀v σ',Q v σ'→(∀l o,σ' l=some o→σ l=none∨∃o',σa l=some o')→R (bR v (σ'.over (σ.minus σa)) k)):R (cX P g ms σ k):=by
 refine(h.frame hle).mono ?_
 rintro v σ1 ⟨σ',hq,rfl,hd⟩
 exact hk v σ' hq hd
theorem k8{σ σa:St}(h:σa.le σ):σa.over (σ.minus σa)=σ:=by
 funext l
 simp only[St.over,St.minus]
 cases ha:σa l with
 | none=>rfl
 | some o=>exact(h l o ha).symm
theorem iK{P:Program}{g:FuncId}{ms:List MV}{σa σ:St}{r:MV}{k:MV→St→Prop}(h:aA P g ms σa fun v σ'=>v=r∧σ'=σa)(hle:σa.le σ)(hk:R (bR r σ k)):R (cX P g ms σ k):=by
 refine cA h hle ?_
 rintro v σ' ⟨rfl,rfl⟩ -
 rw[k8 hle]
 exact hk
theorem bU(x y:St)(l:Nat)(o:aV):(x.set l o).over y=(x.over y).set l o:=by
 funext k
 simp only[St.over,St.set]
 by_cases h:k=l
 ·simp[h]
 ·simp[h]
theorem dS(y:St):St.none.over y=y:=rfl
theorem aA.seen{P:Program}{g:FuncId}{ms:List MV}{σ:St}{r:MV}(h:aA P g ms σ fun v σ'=>View σ' v r):aA P g ms σ fun v _=>v=r:=by
 refine aA.ghost (h.mono fun v σ' hv=>⟨r,St.none,?_,rfl⟩)
 exact bD.freeze σ' (St.le_refl _) (St.none_le _) (fun k o hk=>by simp[St.none] at hk) (fun p hp=>by
  simp only[List.mem_singleton] at hp
  subst hp
  simpa[bY] using hv)
theorem View.loose{σ:St}{e:Nat}{xs:List (List MV)}{t:Bool}:View σ (.lst e xs t) (.lst e xs false):=by
 cases t
 ·exact .same _
 ·exact .tight e xs
theorem View.two{σ:St}{a b a' b':MV}(h:View σ a a')(k:View σ b b'):View σ (.tup [a,b]) (.tup [a',b']):=by
 refine .tup rfl fun i m m' hm hm'=>?_
 match i with
 | 0=>simp only[List.getElem?_cons_zero,Option.some.injEq] at hm hm';subst hm;subst hm';exact h
 | 1=>simp only[List.getElem?_cons_succ,List.getElem?_cons_zero,Option.some.injEq] at hm hm';subst hm;subst hm';exact k
 | i+2=>simp at hm
theorem wT{σ:St}{K:Nat→Prop}(h:R (lK σ K)):R (lK σ K):=h
theorem wN{σ:St}{K:Nat→Prop}(h:∀l,σ l=none→R (K l)):R (lK σ K):=h
theorem wS{σ:St}{l k:Nat}{o:aV}{p:Prop}(h:l≠k→k≠l→σ l=none→p):(σ.set k o) l=none→p:=uG h
theorem wI{c A B:Prop}(h1:c→R A)(h2:¬c→R B):R (mif c A B):=MJ h1 h2
theorem wF{p:Prop}[Decidable p]{A B:Prop}(h1:p→R A)(h2:¬p→R B):R (iF (.bool (decide p)) A B):=Gy h1 h2
theorem wG{p:Prop}[Decidable p]{A B:Prop}(h1:p→R A)(h2:¬p→R B):R (bP (.bool (decide p)) true A B):=DC h1 h2
theorem wH{p:Prop}[Decidable p]{A B:Prop}(h1:¬p→R A)(h2:p→R B):R (bP (.bool (decide p)) false A B):=Bj h1 h2
theorem wL{α:Type}{β:Type}:(∀a b:List α,(a++b).length=a.length+b.length)∧(∀(a:List α) (i:Nat),(a.take i).length=min i a.length)∧(∀(a:List α) (i:Nat),(a.drop i).length=a.length - i) ∧
  (∀(x:α) (a:List α),(x::a).length=a.length+1)∧([]:List α).length=0∧(∀(g:α→β) (a:List α),(a.map g).length=a.length)∧(∀(a:List α) (i:Nat) (x:α),(a.set i x).length=a.length) ∧
  (∀(n:Nat) (x:α),(List.replicate n x).length=n) :=
 ⟨fun _ _=>List.length_append,fun _ _=>List.length_take,fun _ _=>List.length_drop,fun _ _=>rfl,rfl,fun _ _=>List.length_map _,fun _ _ _=>List.length_set,fun _ _=>List.length_replicate⟩
theorem ddL{p:Prop}(h:p:=by first|decide|assumption|omega|(simp only[wL];omega)):p:=h
theorem up{P:Program}{g:FuncId}{ms:List MV}{σ:St}{r:MV}{k:MV→St→Prop}(h:aA P g ms St.none fun v _=>v=r)(hk:R (bR r σ k)):R (cX P g ms σ k):=aK h hk
end
end Go.Proofs.YtaojijkdamfbnaaGreatDoor
