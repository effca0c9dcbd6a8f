/- Parts of the proof, joined; conditions: those that its theorems name. -/
import Derived.Test.YtaojijkdamfbnaaGreatDoorMeh
import Derived.Test.YtaojijkdamfbnaaGreatDoorMei
import Derived.Test.YtaojijkdamfbnaaGreatDoorMej
set_option linter.unusedVariables false
set_option linter.unusedSimpArgs false
set_option maxHeartbeats 4000000
namespace Go.Proofs.YtaojijkdamfbnaaGreatDoor
section
def bH(m:Nat):List Nat:=(List.range 8).filter fun i=>bit m i
theorem sQ{m i:Nat}(h:i∈bH m):i<8:=List.mem_range.1 (List.mem_filter.1 h).1
theorem p9(m:Nat):(bH m).length≤8:=by
 have:=List.length_filter_le (fun i=>bit m i) (List.range 8)
 rwa [List.length_range] at this
theorem FX(m:Nat):bH (m &&& 255)=bH m:=by
 unfold bH
 apply List.filter_congr
 intro i hi
 have hi:=List.mem_range.1 hi
 unfold bit
 rw[Nat.testBit_and]
 have:(255:Nat).testBit i=true:=by
  have h:∀i,i<8→(255:Nat).testBit i=true:=by decide
  exact h i hi
 rw[this,Bool.and_true]
theorem sR:∀s:Nat,s<256→s≠0→bH s=(bH s).headD 0::bH (s &&& (s - 1)):=by decide +kernel
theorem FY:bH 0=[]:=by decide
end

section
class Sfx (bs:BL) (r:RD):Prop where
 h:r.l <:+ bs
instance {bs:BL} {c:Prop} [Decidable c] {r s:RD} [h:Sfx bs r] [k:Sfx bs s]:Sfx bs (if c then r else s):=by
 split
 ·exact h
 ·exact k
theorem Sfx.len{bs:BL}{r:RD}(h:Sfx bs r):r.l.length≤bs.length:=h.h.length_le
theorem Sfx.drop{bs:BL}{r:RD}(h:Sfx bs r):bs.drop (bs.length - r.l.length)=r.l:=by
 obtain⟨a,e⟩:=h.h
 rw[←e]
 simp
theorem sK{P:Program}{g:FuncId}{ms:List MV}{σ:St}{l:Nat}{o o':aX}{r:MV}{k:MV→St→Prop}(hs:σ l=some o)(h:aA P g ms (St.none.set l o) fun v σ'=>v=r∧σ'=St.none.set l o')(hk:R (bP r (σ.set l o') k)):R (cX P g ms σ k):=by
 refine cD h (St.aE (St.none_le _) hs) ?_
 rintro v σ' ⟨rfl,rfl⟩ -
 have e:(St.none.set l o').over (σ.minus (St.none.set l o))=σ.set l o':=by
  funext j
  by_cases h:j=l
  ·subst h;simp[St.over,St.set]
  ·simp[St.over,St.set,St.minus,h,St.none]
 rw[e]
 exact hk
def Nx(l:List (Nat × MV))(e k:Nat):List (Nat × MV)→Prop
 | []=>True
 | p::r=>(cB l p.1=p.2∨(p.2=.vec e k 0 0∧(cB l p.1=.bC∨cB l p.1=.lst e [] true)))∧Nx l e k r
theorem Cz{l:List (Nat × MV)}{e k:Nat}:∀{l1:List (Nat × MV)},Nx l e k l1→∀p,p∈l1→cB l p.1=p.2∨(p.2=.vec e k 0 0∧(cB l p.1=.bC∨cB l p.1=.lst e [] true))
 | [],_,p,hp=>absurd hp (List.not_mem_nil)
 | q::r,h,p,hp=>by
  rcases List.mem_cons.1 hp with rfl|hp
  ·exact h.1
  ·exact Cz h.2 p hp
theorem Gh.qS{n:Nat}{l:List (Nat × MV)}{d:List (FuncId × List MV)}{σ:St}{K:FR→St→Prop}(t:TypeId)(e:Nat)(l1:Nat→List (Nat × MV))(h1:∀k,Nx l e k (l1 k))
 (h:∀k,σ k=none→Gh ⟨n,l1 k,d⟩ (σ.set k (.row t e [])) K):Gh ⟨n,l,d⟩ σ K:=Gh.row t e l1 (fun k=>Cz (h1 k)) h
theorem aA.obj{P:Program}{g:FuncId}{ms:List MV}{σ:St}{X:MV}{l:Nat}{o:aX}(h:aA P g ms σ fun v σ'=>v=X∧σ' l=some o):aA P g ms σ fun v σ'=>v=X∧σ'=St.none.set l o :=
 h.less fun v σ' k=>⟨St.none.set l o,St.aE (St.none_le _) k.2,k.1,rfl⟩
end

section
abbrev RE.c(a:RE):List MV:=a.k (.lst 5 (a.fl.map ND.c) false)
abbrev IT.ks(l:List IT):List (List MV):=l.map fun x=>.int .i64 x.kd::.int .i64 x.c.id::.int .i64 x.c.ver::.int .u32 (x.c.lab.toNat:Int)::fc x.c.f
abbrev PG.c(p:PG):List MV:=p.k (.lst 28 (IT.ks p.items) false)
abbrev CM.c(c:CM):List MV:=c.k (.lst 5 (c.fl.map ND.c) false)
def fV(σ:St):List MV→List MV→Prop
 | [],[]=>True
 | m::ms,m'::ms'=>View σ m m'∧fV σ ms ms'
 | _,_=>False
theorem fV.same{σ:St}:∀ms:List MV,fV σ ms ms
 | []=>trivial
 | m::ms=>⟨.same m,fV.same ms⟩
theorem fV.app{σ:St}:∀{a b c d:List MV},fV σ a b→fV σ c d→fV σ (a++c) (b++d)
 | [],[],_,_,_,h=>h
 | _::_,_::_,_,_,h,k=>⟨h.1,fV.app h.2 k⟩
theorem fV.len{σ:St}:∀{a b:List MV},fV σ a b→a.length=b.length
 | [],[],_=>rfl
 | _::_,_::_,h=>congrArg (·+1) (fV.len h.2)
theorem fV.at{σ:St}:∀{a b:List MV},fV σ a b→∀(i:Nat) (m m':MV),a[i]?=some m→b[i]?=some m'→View σ m m'
 | _::_,_::_,h,0,m,m',h1,h2=>by simp at h1 h2;subst h1 h2;exact h.1
 | _::_,_::_,h,i+1,m,m',h1,h2=>by simp at h1 h2;exact h.2.at i m m' h1 h2
theorem View.bC{σ:St}{e:Nat}{xs:List (List MV)}(h:xs=[]):View σ .bC (.lst e xs false):=by subst h;exact .nil e false
theorem Dn{f:F8}{r:List MV}:(fc f++r).all MV.aQ=r.all MV.aQ:=by rw[List.all_append,cF,Bool.true_and]
theorem A8{f:F8}{a b:List MV}:(fc f++a)++b=fc f++(a++b):=List.append_assoc _ _ _
theorem OK:((UInt32.toNat 0:Nat):Int)=0:=rfl
theorem RE.cell(a:RE):a.c.all MV.aQ=true:=rfl
theorem PG.cell(a:PG):a.c.all MV.aQ=true:=rfl
theorem CM.cell(c:CM):c.c.all MV.aQ=true:=by
 simp only[CM.c,CM.k,List.all_cons,List.all_append,cF];rfl
end

section
inductive Fk:Prop→Prop→Prop→Prop
 | i {c A B:Prop}:Fk (R (mif c A B)) (c→R A) (¬c→R B)
 | f {p:Prop} [Decidable p] {A B:Prop}:Fk (R (iI (.bool (decide p)) A B)) (p→R A) (¬p→R B)
 | g {p:Prop} [Decidable p] {A B:Prop}:Fk (R (bO (.bool (decide p)) true A B)) (p→R A) (¬p→R B)
 | h {p:Prop} [Decidable p] {A B:Prop}:Fk (R (bO (.bool (decide p)) false A B)) (¬p→R A) (p→R B)
theorem wK{p a b:Prop}(h1:a)(h2:b)(e:Fk p a b:=by first|exact .i|exact .f|exact .g|exact .h):p:=by
 cases e
 ·exact wI h1 h2
 ·exact wF h1 h2
 ·exact wG h1 h2
 ·exact wH h1 h2
inductive Fb:Prop→Prop→Prop→Prop
 | b {b:Bool} {A B:Prop}:Fb (R (iI (.bool b) A B)) (b=true→R A) (b=false→R B)
 | g {b want:Bool} {A B:Prop}:Fb (R (bO (.bool b) want A B)) (b=want→R A) (b=(!want)→R B)
theorem wB{p a b:Prop}(h1:a)(h2:b)(e:Fb p a b:=by first|exact .b|exact .g):p:=by
 cases e
 ·exact aF h1 h2
 ·exact aD h1 h2
theorem wE{id:Nat}{l:List Oper}{f:FR}{σ:St}{Q:MQ}(h:R (mH Tryz.prog (fun _ _=>none) (@OfNat.ofNat (Array Oper) (nat_lit 0) (@_root_.id (OfNat (Array Oper) (nat_lit 0)) (OfNat.mk (l.toArray)))) (Q .normal) (@OfNat.ofNat (List Oper) (nat_lit 0) (@_root_.id (OfNat (List Oper) (nat_lit 0)) (OfNat.mk l))) f σ))
 (hchk:(chk l.toArray&&l.all fun o=>lG o.op)=true:=by decide +kernel):R (rH Tryz.prog id (@OfNat.ofNat (List Oper) (nat_lit 0) (@_root_.id (OfNat (List Oper) (nat_lit 0)) (OfNat.mk l))) f σ Q):=wD hchk h
inductive Up (l:Nat) (o o':aX):St→St→Prop
 | u0 {σ:St}:Up l o o' (σ.set l o) (σ.set l o')
 | u1 {σ:St} {j:Nat} {oj:aX} (h:j≠l):Up l o o' ((σ.set l o).set j oj) ((σ.set l o').set j oj)
 | u2 {σ:St} {j i:Nat} {oj oi:aX} (h:j≠l) (h1:i≠l):Up l o o' (((σ.set l o).set j oj).set i oi) (((σ.set l o').set j oj).set i oi)
 | u3 {σ:St} {j i m:Nat} {oj oi om:aX} (h:j≠l) (h1:i≠l) (h2:m≠l):Up l o o' ((((σ.set l o).set j oj).set i oi).set m om) ((((σ.set l o').set j oj).set i oi).set m om)
theorem FXs:(type_of% @Ff)∧(type_of% @bV)∧(type_of% @cF)∧(type_of% @Fc)∧(type_of% @fY)∧(type_of% @E6)∧(type_of% @A9)∧(type_of% @Fa)∧(type_of% @A4)∧(type_of% @kY)∧(type_of% @CO)∧(type_of% @vE)∧(type_of% @Bd)∧(type_of% @tC)∧(type_of% @nV)∧(type_of% @xN)∧(type_of% @E8)∧(type_of% @E9)∧(type_of% @zB)∧(type_of% @E7)∧(∀{f:F8} {i:Nat} {v:VA} (h:i<8),(f.set i v).get i=v) :=
 ⟨Ff,bV,cF,Fc,fY,E6,A9,Fa,A4,kY,CO,vE,Bd,tC,nV,xN,E8,E9,zB,E7,F8.Lg⟩
theorem FYs:(type_of% FXs)∧(type_of% @Dn)∧(type_of% @A8)∧(∀{α:Type} (l:List α),l++[]=l)∧(∀{α:Type} (l:List α),l.take 0=[])∧(type_of% OK)∧(∀{α:Type} (a:α) (l r:List α),a::l++r=a::(l++r))∧(∀{α:Type} (l:List α),[]++l=l) :=
 ⟨FXs,Dn,A8,List.append_nil,fun _=>List.take_zero,OK,fun _ _ _=>List.cons_append,List.nil_append⟩
end

section
set_option maxRecDepth 100000
theorem NK{a b:VA}:a=b↔a.kd=b.kd∧a.n=b.n∧a.s=b.s:=by
 obtain⟨a1,a2,a3⟩:=a
 obtain⟨b1,b2,b3⟩:=b
 simp
theorem mG{P:Program}{d:Nat}{t:TypeId}{fs:List (Nat × TypeId)}{xs ys:List MV}(hk:(td P t).k=.struct fs)(hp:dM P t=true):iH P (d+1) t (.agg xs) (.agg ys)=bU P (iH P d) xs ys fs:=by
 simp only[iH,hk,hp,if_true]
theorem DX{P:Program}{d n:Nat}{t e:TypeId}{xs ys:List MV}(hk:(td P t).k=.array n e)(hp:(td P e).ok=true):iH P (d+1) t (.agg xs) (.agg ys)=bU P (iH P d) xs ys ((List.range n).map fun i=>(i * (td P e).size,e)):=by
 simp only[iH,hk,hp,if_true]
theorem pK{P:Program}{d:Nat}{t:TypeId}{k k':IntKind}{a b:Int}(hk:(td P t).k=.int k'):iH P (d+1) t (.int k a) (.int k b)=some (decide (a=b)):=by
 simp only[iH,hk,if_true]
theorem JE{P:Program}{d:Nat}{t:TypeId}{a b:ByteArray}(hk:(td P t).k=.str):iH P (d+1) t (.str a) (.str b)=some (decide (a=b)):=by
 simp only[iH,hk]
theorem OJ:(td Tryz.prog 3).k=.int .i64:=by rw[td3]
theorem MU:(td Tryz.prog 28).k=.int .u32:=by rw[EJ]
theorem Pa:(td Tryz.prog 9).k=.str:=by rw[td9]
theorem yA{l:List MV}{i:Nat}{f:F8}(hl:l=fc f)(h:i<8):dA (td Tryz.prog 39) l (i * 3)=.agg (f.get i).c:=by
 simp only[dA,vF,TK.isAgg,if_true,hl]
 exact congrArg MV.agg (nV h)
theorem Fy(d:Nat)(a b:VA):iH Tryz.prog (d+2) 39 (.agg a.c) (.agg b.c)=some (decide (a=b)):=by
 have hp:dM Tryz.prog 39=true:=by decide +kernel
 rw[mG (by rw[vF]) hp]
 simp only[bU,td3,td9,dA,TK.isAgg,Bool.false_eq_true,if_false,List.getD_cons_zero,List.getD_cons_succ,List.length_cons,List.length_nil,pK OJ,JE Pa]
 simp[NK,Bool.decide_and]
theorem M9{f g:F8}:f=g↔∀i,i∈List.range 8→f.get i=g.get i :=
 ⟨fun h i _=>by rw[h],fun h=>F8.ext fun i hi=>h i (List.mem_range.2 hi)⟩
theorem BF(d:Nat)(f g:F8):∀L:List Nat,(∀i,i∈L→i<8)→bU Tryz.prog (iH Tryz.prog (d+2)) (fc f) (fc g) (L.map fun i=>(i * 3,39))=some (decide (∀i,i∈L→f.get i=g.get i))
 | [],_=>by simp[bU]
 | i::L,h=>by
  have hi:=h i (by simp)
  have ih:=BF d f g L fun j hj=>h j (by simp[hj])
  have h3:(td Tryz.prog 39).size=3:=by rw[vF]
  have ho:(td Tryz.prog 39).ok=true:=by rw[vF]
  simp only[List.map_cons,bU]
  rw[yA rfl hi,yA rfl hi,ih,Fy,if_pos ⟨ho,by rw[h3,bV];omega,by rw[h3,bV];omega,by rw[h3];decide⟩]
  simp only[Option.map_some,List.forall_mem_cons]
  rw[Bool.decide_and]
theorem BG(d:Nat)(f g:F8):iH Tryz.prog (d+3) 40 (.agg (fc f)) (.agg (fc g))=some (decide (f=g)):=by
 have h3:(td Tryz.prog 39).size=3:=by rw[vF]
 rw[DX (n:=8) (e:=39) (by rw[EK]) (by rw[vF]),h3,BF d f g _ (fun i hi=>List.mem_range.1 hi)]
 congr 1
 exact decide_eq_decide.mpr M9.symm
theorem Nu{a b:PA}:a=b↔a.mask=b.mask∧a.lab=b.lab∧a.f=b.f:=by
 obtain⟨a1,a2,a3⟩:=a
 obtain⟨b1,b2,b3⟩:=b
 simp
theorem M4{a b:CA}:a=b↔a.id=b.id∧a.ver=b.ver∧a.lab=b.lab∧a.f=b.f:=by
 obtain⟨a1,a2,a3,a4⟩:=a
 obtain⟨b1,b2,b3,b4⟩:=b
 simp
theorem G5(d:Nat)(a b:PA):iH Tryz.prog (d+4) 77 (.agg a.c) (.agg b.c)=some (decide (a=b)):=by
 have hp:dM Tryz.prog 77=true:=by decide +kernel
 rw[mG (by rw[OI]) hp]
 simp only[bU,EJ,EK,dA,TK.isAgg,if_true,Bool.false_eq_true,if_false,List.getD_cons_zero,List.getD_cons_succ,List.length_cons,List.length_nil,List.drop_succ_cons,List.drop_zero,fY (Nat.le_refl 24),bV,BG,pK MU]
 simp[Nu,FN,Bool.decide_and]
theorem JD(d:Nat)(a b:CA):iH Tryz.prog (d+4) 42 (.agg a.c) (.agg b.c)=some (decide (a=b)):=by
 have hp:dM Tryz.prog 42=true:=by decide +kernel
 rw[mG (by rw[KE]) hp]
 simp only[bU,EJ,td3,EK,dA,TK.isAgg,if_true,Bool.false_eq_true,if_false,List.getD_cons_zero,List.getD_cons_succ,List.length_cons,List.length_nil,List.drop_succ_cons,List.drop_zero,fY (Nat.le_refl 24),bV,BG,pK MU,pK OJ]
 simp[M4,FN,Bool.decide_and]
abbrev IT.k(x:IT):List MV:=.int .i64 x.kd::.int .i64 x.c.id::.int .i64 x.c.ver::.int .u32 (x.c.lab.toNat:Int)::fc x.c.f
end

section
set_option maxRecDepth 100000
theorem Sfx.get{bs:BL}{r:RD}(h:Sfx bs r){i:Nat}(hi:i<r.l.length):bs.getD (bs.length - r.l.length+i) 0=r.l.getD i 0:=by
 have:=h.drop
 rw[←this,List.getD_eq_getElem?_getD,List.getD_eq_getElem?_getD,List.getElem?_drop,this]
end

section
set_option maxRecDepth 100000
class Few (bs:BL):Prop where
 h:bs.length≤1000000
end

section
def T.depth:T→Nat
 | .leaf _=>1
 | .one _ a=>1+a.depth
 | .two _ a b=>1+max a.depth b.depth
def CI:List Nat→List Nat
 | []=>[]
 | k::s=>shut ((k - 1)::s)
theorem qW(s:List Nat):shut (0::s)=CI s:=by
 cases s with
 | nil=>rw[shut];rfl
 | cons k s=>rw[shut];rfl
theorem qV(n:Nat)(s:List Nat):shut ((n+1)::s)=(n+1)::s:=by rw[shut]
theorem sA:∀{t:T},t.ok→∀(d:Nat) (s:List Nat) (l:List ND),dp d s (t.fl++l)=dp (max d (s.length+t.depth)) (CI s) l
 | .leaf x,h,d,s,l=>by
  simp only[T.ok] at h
  rw[T.fl,List.cons_append,List.nil_append,dp,h,qW];rfl
 | .one x a,h,d,s,l=>by
  rw[T.fl,List.cons_append,dp,h.1,qV,sA h.2,CI,show 0+1 - 1=0 from rfl,qW]
  congr 1
  simp only[List.length_cons,T.depth];omega
 | .two x a b,h,d,s,l=>by
  rw[T.fl,List.cons_append,dp,h.1,qV,List.append_assoc,sA h.2.1,CI,show 1+1 - 1=0+1 from rfl,qV,sA h.2.2,CI,show 0+1 - 1=0 from rfl,qW]
  congr 1
  simp only[List.length_cons,T.depth];omega
theorem Dk{t:T}(h:t.ok)(he:fT t.fl 0=(t.fl.length:Int)):fW t.fl=t.depth:=by
 have:=sA h 0 [] []
 rw[List.append_nil] at this
 rw[fW,if_neg,this]
 ·simp[dp]
 ·rintro(h1|h1)
  ·have:=t.zE;rw[h1] at this;simp at this
  ·exact h1 he
end
end Go.Proofs.YtaojijkdamfbnaaGreatDoor
