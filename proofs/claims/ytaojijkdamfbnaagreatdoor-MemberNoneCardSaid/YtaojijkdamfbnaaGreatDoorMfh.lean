/- Parts of the proof, joined; conditions: those that its theorems name. -/
import Derived.Test.YtaojijkdamfbnaaGreatDoorMff
import Derived.Test.YtaojijkdamfbnaaGreatDoorMfg
import Derived.Conc.MuLone
set_option linter.unusedVariables false
set_option linter.unusedSimpArgs false
set_option maxHeartbeats 4000000
namespace Go.Proofs.YtaojijkdamfbnaaGreatDoor
section
def fc(f:F8):List MV:=(f.l.map VA.c).flatten
theorem Na(l:List VA):(l.map VA.c).flatten.length=3 * l.length:=by
 induction l with
 | nil=>rfl
 | cons v l ih=>simp only[List.map_cons,List.flatten_cons,List.length_append,List.length_cons,List.length_nil,ih];omega
theorem r9:∀(l:List VA) (i:Nat),((l.map VA.c).flatten).drop (i * 3)=((l.drop i).map VA.c).flatten
 | _,0=>by simp
 | [],i+1=>by simp
 | v::l,i+1=>by
  have:=r9 l i
  rw[show(i+1) * 3=i * 3+3 by omega]
  simp only[List.map_cons,List.flatten_cons,List.cons_append,List.nil_append,List.drop_succ_cons]
  exact this
theorem Fp:∀(l:List VA) (i:Nat),((l.map VA.c).flatten).take (i * 3)=((l.take i).map VA.c).flatten
 | _,0=>by simp
 | [],i+1=>by simp
 | v::l,i+1=>by
  have:=Fp l i
  rw[show(i+1) * 3=i * 3+3 by omega]
  simp only[List.map_cons,List.flatten_cons,List.cons_append,List.nil_append,List.take_succ_cons]
  rw[this]
theorem L0(l:List VA):((l.map VA.c).flatten).all MV.aP=true:=by
 induction l with
 | nil=>rfl
 | cons v l ih =>
  simp only[List.map_cons,List.flatten_cons,List.cons_append,List.nil_append,List.all_cons,ih];rfl
theorem bW(f:F8):(fc f).length=24:=by rw[fc,Na,f.h]
theorem cJ(f:F8):(fc f).all MV.aP=true:=L0 f.l
theorem EN{f:F8}{r:List MV}{n:Nat}(h:24≤n):(fc f++r).take n=fc f++r.take (n - 24):=by
 rw[List.take_append,List.take_of_length_le (by rw[bW];exact h),bW]
theorem fV{f:F8}{n:Nat}(h:24≤n):(fc f).take n=fc f:=List.take_of_length_le (by rw[bW];exact h)
theorem EI{f:F8}{r:List MV}{n:Nat}(h:24≤n):(fc f++r).drop n=r.drop (n - 24):=by
 rw[List.drop_append,List.drop_eq_nil_of_le (by rw[bW];exact h),bW,List.nil_append]
theorem AF{f:F8}{n:Nat}(h:24≤n):(fc f).drop n=[]:=List.drop_eq_nil_of_le (by rw[bW];exact h)
theorem EM{f:F8}{r:List MV}{n:Nat}{d:MV}(h:24≤n):(fc f++r).getD n d=r.getD (n - 24) d:=by
 rw[List.getD_eq_getElem?_getD,List.getElem?_append_right (by rw[bW];exact h),bW,←List.getD_eq_getElem?_getD]
theorem gP{f:F8}{i:Nat}(h:i<8):(fc f).drop (i * 3)=(f.get i).c++(fc f).drop ((i+1) * 3):=by
 have hl:i<f.l.length:=by rw[f.h];exact h
 rw[fc,r9,r9,List.drop_eq_getElem_cons hl,List.map_cons,List.flatten_cons]
 congr 1
 rw[F8.get,bH va0 hl]
theorem nK{f:F8}{i:Nat}(h:i<8):((fc f).drop (i * 3)).take 3=[.int .i64 (f.get i).kd,.int .i64 (f.get i).n,.str (f.get i).s]:=by
 rw[gP h];rfl
theorem wQ{f:F8}{r:List MV}{i:Nat}(h:i<8):((fc f++r).drop (i * 3)).take 3=[.int .i64 (f.get i).kd,.int .i64 (f.get i).n,.str (f.get i).s]:=by
 rw[List.drop_append_of_le_length (by rw[bW];omega),gP h];rfl
theorem p7{α:Type}{l:List α}{n k:Nat}{d:α}:l.getD (n+k) d=(l.drop n).getD k d:=by
 rw[List.getD_eq_getElem?_getD,List.getD_eq_getElem?_getD,List.getElem?_drop]
theorem EK{f:F8}{i:Nat}{d:MV}(h:i<8):(fc f).getD (i * 3) d=.int .i64 (f.get i).kd:=by
 have:=p7 (l:=fc f) (n:=i * 3) (k:=0) (d:=d)
 rw[Nat.add_zero] at this
 rw[this,gP h];rfl
theorem EL{f:F8}{i:Nat}{d:MV}(h:i<8):(fc f).getD (i * 3+1) d=.int .i64 (f.get i).n:=by
 rw[p7,gP h];rfl
theorem yJ{f:F8}{i:Nat}{d:MV}(h:i<8):(fc f).getD (i * 3+2) d=.str (f.get i).s:=by
 rw[p7,gP h];rfl
theorem KG{f:F8}{i:Nat}{a b:Int}{s:ByteArray}(h:i<8):laid (fc f) (i * 3) [.int .i64 a,.int .i64 b,.str s]=fc (f.set i ⟨a,b,s⟩):=by
 have hl:i<f.l.length:=by rw[f.h];exact h
 unfold laid
 simp only[List.length_cons,List.length_nil]
 have e:(f.set i ⟨a,b,s⟩).l=f.l.set i ⟨a,b,s⟩:=rfl
 rw[show i * 3+(0+1+1+1)=(i+1) * 3 by omega,fc,fc,Fp,r9,e,List.set_eq_take_append_cons_drop,if_pos hl,List.map_append,List.flatten_append,List.map_cons,List.flatten_cons]
 simp only[List.append_assoc]
theorem EJ{f:F8}{i:Nat}{v:VA}(h:i<8):(fc f).take (i * 3)++v.c++(fc f).drop (3+i * 3)=fc (f.set i v):=by
 have:=KG (f:=f) (i:=i) (a:=v.kd) (b:=v.n) (s:=v.s) h
 rw[←this,laid,show 3+i * 3=i * 3+3 by omega];rfl
theorem F8.KJ{f:F8}{i:Nat}{v:VA}(h:i<8):(f.set i v).get i=v:=by rw[F8.KK f i i v h,if_pos rfl]
theorem Az{α:Type}{a b:α}{l:List α}{n:Nat}:(a::b::l).drop (2+n)=l.drop n:=by rw[show 2+n=n+1+1 by omega];rfl
theorem kT{α:Type}{a b c:α}{l:List α}{n:Nat}:(a::b::c::l).drop (3+n)=l.drop n:=by rw[show 3+n=n+1+1+1 by omega];rfl
theorem Cj{α:Type}{a b:α}{l:List α}{n:Nat}:(a::b::l).take (2+n)=a::b::l.take n:=by rw[show 2+n=n+1+1 by omega];rfl
theorem uO{α:Type}{a b c:α}{l:List α}{n:Nat}:(a::b::c::l).take (3+n)=a::b::c::l.take n:=by rw[show 3+n=n+1+1+1 by omega];rfl
theorem sR{α:Type}{a b c d:α}{l:List α}{n:Nat}:(a::b::c::l).getD (3+n) d=l.getD n d:=by rw[show 3+n=n+1+1+1 by omega];simp
theorem AJ{α:Type}{a b d:α}{l:List α}{n:Nat}:(a::b::l).getD (2+n) d=l.getD n d:=by rw[show 2+n=n+1+1 by omega];simp
theorem EO{r:List MV}:(MV.int .i64 0::.int .i64 0::.str ⟨#[]⟩::.int .i64 0::.int .i64 0::.str ⟨#[]⟩::.int .i64 0::.int .i64 0::.str ⟨#[]⟩::.int .i64 0::.int .i64 0::.str ⟨#[]⟩ ::
  .int .i64 0::.int .i64 0::.str ⟨#[]⟩::.int .i64 0::.int .i64 0::.str ⟨#[]⟩::.int .i64 0::.int .i64 0::.str ⟨#[]⟩::.int .i64 0::.int .i64 0::.str ⟨#[]⟩::r)=fc f80++r:=rfl
abbrev PA.c(p:PA):List MV:=.int .u32 (p.mask.toNat:Int)::.int .u32 (p.lab.toNat:Int)::fc p.f
abbrev CA.c(c:CA):List MV:=.int .i64 c.id::.int .i64 c.ver::.int .u32 (c.lab.toNat:Int)::fc c.f
abbrev ED.c(e:ED):List MV:=.int .i64 e.kd::.int .i64 e.id::.int .i64 e.gr::.int .u32 (e.p.mask.toNat:Int)::.int .u32 (e.p.lab.toNat:Int)::fc e.p.f
theorem Fm{a b:UInt32}:((a.toNat:Int)=(b.toNat:Int))↔a=b:=by
 constructor
 ·intro h;exact UInt32.toNat_inj.1 (by exact_mod_cast h)
 ·intro h;rw[h]
end

section
class LB (l:BL) (k:outParam Nat):Prop where
 h:l.length≤k
instance {a b:BL} {i j:Nat} [h:LB a i] [k:LB b j]:LB (a++b) (i+j):=⟨by have:=h.h;have:=k.h;rw[List.length_append];omega⟩
instance:LB [] 0:=⟨Nat.le_refl _⟩
instance {c:Prop} [Decidable c] {a b:BL} {i j:Nat} [h:LB a i] [k:LB b j]:LB (if c then a else b) (i+j):=⟨by have:=h.h;have:=k.h;split<;>omega⟩
theorem LB.le{l:BL}{k n:Nat}[h:LB l k](hk:k≤n):l.length≤n:=Nat.le_trans h.h hk
class Sh (r:RD):Prop where
 h:r.l.length≤1000000
instance {c:Prop} [Decidable c] {r s:RD} [h:Sh r] [k:Sh s]:Sh (if c then r else s):=by
 split
 ·exact h
 ·exact k
end

section
inductive Lz (e:Nat) (xs:List (List MV)):MV→Prop where
 | lst (t:Bool):Lz e xs (.lst e xs t)
 | nil (h:xs=[]):Lz e xs .bC
theorem Lz.cell{e:Nat}{xs:List (List MV)}{m:MV}(h:Lz e xs m):m.aP=true:=by cases h<;>rfl
theorem Lz.cells{e:Nat}{xs:List (List MV)}{m:MV}(h:Lz e xs m):m.cells=[m]:=by cases h<;>rfl
theorem Lz.Oa{e:Nat}{xs:List (List MV)}{m:MV}(h:Lz e xs m):lM m (.lst e xs false):=by
 cases h with
 | lst t=>cases t with
  | false=>exact .same _
  | true=>exact .tight _ _
 | nil h=>subst h;exact .nil _ _
abbrev CM.k(c:CM)(f:MV):List MV:=.int .i64 c.kd::.int .i64 c.e.kd::.int .i64 c.e.id::.int .i64 c.e.gr::.int .u32 (c.e.p.mask.toNat:Int)::.int .u32 (c.e.p.lab.toNat:Int)::(fc c.e.p.f ++
 .int .i64 c.dev::.int .i64 c.req::.int .i64 c.id::.int .i64 c.base::.int .i64 c.KS::.int .u32 (c.p.mask.toNat:Int)::.int .u32 (c.p.lab.toNat:Int)::(fc c.p.f++[f,.int .u32 (c.mask.toNat:Int)]))
abbrev RE.k(a:RE)(f:MV):List MV:=[.int .i64 a.kd,.int .i64 a.dev,.int .i64 a.req,.int .i64 a.code,.int .i64 a.id,.int .i64 a.ver,.int .i64 a.sq,.int .i64 a.ep,f,.int .u32 (a.mask.toNat:Int)]
abbrev PG.k(p:PG)(i:MV):List MV:=[.int .i64 p.code,.bool p.reset,.int .i64 p.fr.dev,.int .i64 p.fr.ep,.int .i64 p.fr.sq,.int .i64 p.fr.cu,.int .i64 p.to.dev,.int .i64 p.to.ep,.int .i64 p.to.sq,.int .i64 p.to.cu,i]
abbrev MS.k(m:MS)(f g i:MV):List MV:=.int .i64 m.kd::.int .i64 m.size::.int .i64 m.cmd.kd::.int .i64 m.cmd.e.kd::.int .i64 m.cmd.e.id::.int .i64 m.cmd.e.gr::.int .u32 (m.cmd.e.p.mask.toNat:Int)::.int .u32 (m.cmd.e.p.lab.toNat:Int)::(fc m.cmd.e.p.f ++
 .int .i64 m.cmd.dev::.int .i64 m.cmd.req::.int .i64 m.cmd.id::.int .i64 m.cmd.base::.int .i64 m.cmd.KS::.int .u32 (m.cmd.p.mask.toNat:Int)::.int .u32 (m.cmd.p.lab.toNat:Int)::(fc m.cmd.p.f++f::.int .u32 (m.cmd.mask.toNat:Int) ::
 .int .i64 m.tok.dev::.int .i64 m.tok.ep::.int .i64 m.tok.sq::.int .i64 m.tok.cu ::
 .int .i64 m.rep.kd::.int .i64 m.rep.dev::.int .i64 m.rep.req::.int .i64 m.rep.code::.int .i64 m.rep.id::.int .i64 m.rep.ver::.int .i64 m.rep.sq::.int .i64 m.rep.ep::g::.int .u32 (m.rep.mask.toNat:Int) ::
 .int .i64 m.page.code::.bool m.page.reset::.int .i64 m.page.fr.dev::.int .i64 m.page.fr.ep::.int .i64 m.page.fr.sq::.int .i64 m.page.fr.cu::.int .i64 m.page.to.dev::.int .i64 m.page.to.ep::.int .i64 m.page.to.sq::.int .i64 m.page.to.cu::i ::
 [.int .i64 m.code]))
end

section
section
variable {P:Program} {C:YC} {f:FR} {σ:St} {t:Option Nat} {Q:YQ} {q:MQ} {c:Code}
theorem iR(h:R (cZ P (@OfNat.ofNat Code (nat_lit 0) (@_root_.id (OfNat Code (nat_lit 0)) (OfNat.mk c))) f σ q)):mwp P c f σ q:=jX c f σ q h
theorem jO(h:R (cZ P (@OfNat.ofNat Code (nat_lit 0) (@_root_.id (OfNat Code (nat_lit 0)) (OfNat.mk c))) f σ (fun e f' σ'=>Q e f' σ' t))):ywp P C c f σ t Q:=Nc (jX c f σ _ h)
theorem Af{k:FR→St→Option Nat→Prop}:R (Ck k Q .normal f σ t)=R (k f σ t):=congrArg R rfl
theorem HM{k:FR→St→Option Nat→Prop}:R (Ck k Q .ret f σ t)=R (Q .ret f σ t):=congrArg R rfl
theorem En{k:FR→St→Option Nat→Prop}{id:Nat}:R (Ck k Q (.exit id) f σ t)=R (Q (.exit id) f σ t):=congrArg R rfl
theorem uZ{id:Nat}:R (pV id Q .normal f σ t)=R (Q .normal f σ t):=congrArg R rfl
theorem Cy{id:Nat}:R (pV id Q .ret f σ t)=R (Q .ret f σ t):=congrArg R rfl
theorem Ar{id:Nat}:R (pV id Q (.exit id) f σ t)=R (Q .normal f σ t):=congrArg R (by simp[pV])
theorem zM{k:FR→St→Prop}:R (BF k .normal f σ)=R (k f σ):=congrArg R rfl
theorem vU{fc:FR}{n:St→Prop}:R (mH q fc n .normal f σ)=R (Gh f σ fun _ σ1=>n σ1):=congrArg R rfl
theorem B7{fc:FR}{n:St→Prop}{id:Nat}:R (mH q fc n (.exit id) f σ)=R (Gh f σ fun _ σ1=>q (.exit id) fc σ1):=congrArg R rfl
theorem B4{n:Nat}:R (MW n .normal f σ t)=R (f.d=[]∧(t=some n∨t=none)):=congrArg R rfl
theorem JR{n:Nat}:R (MW n .ret f σ t)=R (f.d=[]∧(t=some n∨t=none)):=congrArg R rfl
def tI(l:List Oper):Bool:=l.all fun o=>match o.op with|.defer _=>false|_=>true
theorem k6{l:List Oper}(h:tI l=true):∀o,o∈l→∀c,o.op≠.defer c:=fun o ho c e=>by
 have:=List.all_eq_true.1 h o ho
 rw[e] at this
 cases this
theorem HU{id:Nat}{ops:Array Oper}(pre:List Oper)(y:Oper)(post:List Oper){o:Operand}{args:Array Operand}{ts:Array TypeId}{i:Nat}{x:List MV}(ho:ops.toList=pre++y::post)(hd:(tI pre&&tI post)=true)
 (hy:y.op=.call ⟨.value o,args,ts⟩)(hg:y.guard=none)(ht:t=some i)(hx:C.xs[i]?=some x)(hno:∀m,m∈x→gJ m)(hspec:lN P C.l C.xs C.Y C.Yx C.Φ0 C.σ0 C.n0)
 (h:R (dT P (@OfNat.ofNat (Array Oper) (nat_lit 0) (@_root_.id (OfNat (Array Oper) (nat_lit 0)) (OfNat.mk ops))) (fun f1 σ1=>aE f1 o=.fn (.yield C.l) [] []∧args.toList.map (aE f1)=x ∧
   dT P (@OfNat.ofNat (Array Oper) (nat_lit 0) (@_root_.id (OfNat (Array Oper) (nat_lit 0)) (OfNat.mk ops))) (fun f2 σ2=>Q .normal f2 σ2 (some (i+1))) (@OfNat.ofNat (List Oper) (nat_lit 0) (@_root_.id (OfNat (List Oper) (nat_lit 0)) (OfNat.mk post))) (bB f1 y.dst (.bool true)) σ1 ∧
   dT P (@OfNat.ofNat (Array Oper) (nat_lit 0) (@_root_.id (OfNat (Array Oper) (nat_lit 0)) (OfNat.mk ops))) (fun f2 σ2=>Q .normal f2 σ2 none) (@OfNat.ofNat (List Oper) (nat_lit 0) (@_root_.id (OfNat (List Oper) (nat_lit 0)) (OfNat.mk post))) (bB f1 y.dst (.bool false)) σ1)
   (@OfNat.ofNat (List Oper) (nat_lit 0) (@_root_.id (OfNat (List Oper) (nat_lit 0)) (OfNat.mk pre))) f σ)):ywp P C (.region id ops false) f σ t Q:=by
 have hd:=Bool.and_eq_true_iff.1 hd
 exact Ew pre y post ho (k6 hd.1) (k6 hd.2) hy hg ht hx hno hspec h
end
attribute [go_sem ↓] Af HM En uZ Cy Ar zM vU B7 B4 JR
end

section
theorem fM(op:Int):aA Tryz.prog 125 [.int .i64 op] St.none (fun r _=>r=.int .i64 (parts op)):=by
 refine(aA.body 9 [.tmp 2] Tryz.func125 rfl rfl rfl rfl ?_)
 repeat' (first|(with_reducible first|(refine wN fun nl hnl=>?_;revert hnl;(repeat refine wS fun _ _=>?_);intro hnl)|refine wD (by decide +kernel) ?_|refine wI (fun h=>?_) fun h=>?_|refine wF (fun h=>?_) fun h=>?_|refine wG (fun h=>?_) fun h=>?_|refine wH (fun h=>?_) fun h=>?_|((first|refine aR (fun h=>?_) fun h=>?_|refine aO (fun h=>?_) fun h=>?_)<;>simp only[h]))|simp(maxSteps:=4000000) (disch:=first|decide|assumption|omega|(simp only[wL];omega)) only[go_sem,simprocAttr,Tryz.f125])
 all_goals simp[parts, *]
theorem mO(kd n:Int)(s:ByteArray):aA Tryz.prog 121 [.agg [.int .i64 kd,.int .i64 n,.str s]] St.none (fun r _=>r=.bool (dU ⟨kd,n,s⟩)):=by
 refine(aA.body 36 [.tmp 2] Tryz.func121 rfl rfl rfl rfl ?_)
 repeat' (first|(with_reducible first|(refine wN fun nl hnl=>?_;revert hnl;(repeat refine wS fun _ _=>?_);intro hnl)|refine wD (by decide +kernel) ?_|refine wI (fun h=>?_) fun h=>?_|refine wF (fun h=>?_) fun h=>?_|refine wG (fun h=>?_) fun h=>?_|refine wH (fun h=>?_) fun h=>?_|((first|refine aR (fun h=>?_) fun h=>?_|refine aO (fun h=>?_) fun h=>?_)<;>simp only[h]))|simp(maxSteps:=4000000) (disch:=first|decide|assumption|omega|(simp only[wL];omega)) only[go_sem,simprocAttr,Tryz.f121])
 all_goals first
  | (simp[dU,va0, *];done)
  | (simp[dU,va0, *];omega)
theorem j0(a:Int):aA Tryz.prog 183 [.int .i64 a] St.none (fun r _=>r=.bool false):=by
 refine(aA.body 6 [.tmp 2] Tryz.func183 rfl rfl rfl rfl ?_)
 repeat' (first|(with_reducible first|(refine wN fun nl hnl=>?_;revert hnl;(repeat refine wS fun _ _=>?_);intro hnl)|refine wD (by decide +kernel) ?_|refine wI (fun h=>?_) fun h=>?_|refine wF (fun h=>?_) fun h=>?_|refine wG (fun h=>?_) fun h=>?_|refine wH (fun h=>?_) fun h=>?_|((first|refine aR (fun h=>?_) fun h=>?_|refine aO (fun h=>?_) fun h=>?_)<;>simp only[h]))|simp(maxSteps:=4000000) (disch:=first|decide|assumption|omega|(simp only[wL];omega)) only[go_sem,simprocAttr,Tryz.f183,kS])
theorem BD(a:ByteArray):aA Tryz.prog 227 [.str a] St.none (fun r _=>r=.bool false):=by
 refine(aA.body 6 [.tmp 2] Tryz.func227 rfl rfl rfl rfl ?_)
 repeat' (first|(with_reducible first|(refine wN fun nl hnl=>?_;revert hnl;(repeat refine wS fun _ _=>?_);intro hnl)|refine wD (by decide +kernel) ?_|refine wI (fun h=>?_) fun h=>?_|refine wF (fun h=>?_) fun h=>?_|refine wG (fun h=>?_) fun h=>?_|refine wH (fun h=>?_) fun h=>?_|((first|refine aR (fun h=>?_) fun h=>?_|refine aO (fun h=>?_) fun h=>?_)<;>simp only[h]))|simp(maxSteps:=4000000) (disch:=first|decide|assumption|omega|(simp only[wL];omega)) only[go_sem,simprocAttr,Tryz.f227,kS])
theorem lR(a b:Int):aA Tryz.prog 188 [.int .i64 a,.int .i64 b] St.none (fun r _=>r=.int .i64 (qG (cmpL [a] [b]))):=by
 refine(aA.body 20 [.tmp 4] Tryz.func188 rfl rfl rfl rfl ?_)
 repeat' (first|(with_reducible refine aK (j0 _) ?_)|(with_reducible first|(refine wN fun nl hnl=>?_;revert hnl;(repeat refine wS fun _ _=>?_);intro hnl)|refine wD (by decide +kernel) ?_|refine wI (fun h=>?_) fun h=>?_|refine wF (fun h=>?_) fun h=>?_|refine wG (fun h=>?_) fun h=>?_|refine wH (fun h=>?_) fun h=>?_|((first|refine aR (fun h=>?_) fun h=>?_|refine aO (fun h=>?_) fun h=>?_)<;>simp only[h]))|simp(maxSteps:=4000000) (disch:=first|decide|assumption|omega|(simp only[wL];omega)) only[go_sem,simprocAttr,Tryz.f188])
 all_goals simp[cmpL,qG, *]
theorem lS(a b:ByteArray):aA Tryz.prog 214 [.str a,.str b] St.none (fun r _=>r=.int .i64 (qG (cmpL (bk a) (bk b)))):=by
 refine(aA.body 20 [.tmp 4] Tryz.func214 rfl rfl rfl rfl ?_)
 have hb:=nI a.toList b.toList
 change _=decide (cmpL (bk a) (bk b)=.lt) at hb
 repeat' (first|(with_reducible refine aK (BD _) ?_)|(with_reducible first|(refine wN fun nl hnl=>?_;revert hnl;(repeat refine wS fun _ _=>?_);intro hnl)|refine wD (by decide +kernel) ?_|refine wI (fun h=>?_) fun h=>?_|refine wF (fun h=>?_) fun h=>?_|refine wG (fun h=>?_) fun h=>?_|refine wH (fun h=>?_) fun h=>?_|((first|refine aR (fun h=>?_) fun h=>?_|refine aO (fun h=>?_) fun h=>?_)<;>simp only[h]))|simp(maxSteps:=4000000) (disch:=first|decide|assumption|omega|(simp only[wL];omega)) only[go_sem,simprocAttr,Tryz.f214])
 ·rw[hb] at h
  simp only[decide_eq_true_eq] at h
  rw[h];rfl
 ·rename_i h0
  rw[hb] at h0
  simp only[decide_eq_false_iff_not] at h0
  simp only[Bool.not_eq_true',Bool.or_eq_false_iff,decide_eq_false_iff_not] at h
  have h1:cmpL (bk a) (bk b)≠.eq:=fun e=>h.2 (bytes_inj (cmpL_eq.1 e))
  cases e:cmpL (bk a) (bk b)
  ·exact absurd e h0
  ·exact absurd e h1
  ·rfl
 ·rename_i h0
  simp only[h0,Bool.false_or,Bool.not_eq_false',decide_eq_true_eq] at h
  rw[h,pW];rfl
theorem KB{l:List ND}{i:Int}(h:¬(i<0∨(l.length:Int)≤i)):fQ l i=match gI 1 (l.drop i.toNat) with
  | none=>-1
  | some k=>i+k:=by
 unfold fQ
 rw[if_neg (by omega)]
 cases gI 1 (l.drop i.toNat)<;>rfl
theorem xR(l:List ND)(hl:l.length≤1000000)(t:Bool)(i:Int):aA Tryz.prog 83 [.lst 5 (l.map ND.c) t,.int .i64 i] St.none (fun r _=>r=.int .i64 (fQ l i)):=by
 refine(aA.body 38 [.tmp 4] Tryz.func83 rfl rfl rfl rfl ?_)
 by_cases hi:i<0∨(l.length:Int)≤i
 ·have he:fQ l i = -1:=by
   unfold fQ
   by_cases h0:i<0
   ·rw[if_pos h0]
   ·rw[if_neg h0,List.drop_eq_nil_of_le (by omega)];rfl
  rw[he]
  repeat' (first|(with_reducible first|(refine wN fun nl hnl=>?_;revert hnl;(repeat refine wS fun _ _=>?_);intro hnl)|refine wD (by decide +kernel) ?_|refine wI (fun h=>?_) fun h=>?_|refine wF (fun h=>?_) fun h=>?_|refine wG (fun h=>?_) fun h=>?_|refine wH (fun h=>?_) fun h=>?_|((first|refine aR (fun h=>?_) fun h=>?_|refine aO (fun h=>?_) fun h=>?_)<;>simp only[h]))|simp(maxSteps:=4000000) (disch:=first|decide|assumption|omega|(simp only[wL];omega)) only[go_sem,simprocAttr,Tryz.f83])
 ·obtain⟨m,hm⟩:∃m,l.drop i.toNat=m:=⟨_,rfl⟩
  have hml:l.length - i.toNat=m.length:=by rw[←hm];simp
  have hm0:m.length≤1000000:=by omega
  have hb:i+m.length≤1000000:=by omega
  have h0:0≤i:=by omega
  rw[KB hi,hm]
  repeat' (first|(with_reducible first|(refine wN fun nl hnl=>?_;revert hnl;(repeat refine wS fun _ _=>?_);intro hnl)|refine wD (by decide +kernel) ?_|refine wI (fun h=>?_) fun h=>?_|refine wF (fun h=>?_) fun h=>?_|refine wG (fun h=>?_) fun h=>?_|refine wH (fun h=>?_) fun h=>?_|((first|refine aR (fun h=>?_) fun h=>?_|refine aO (fun h=>?_) fun h=>?_)<;>simp only[h]))|simp(maxSteps:=4000000) (disch:=first|decide|assumption|omega|(simp only[wL];omega)) only[go_sem,simprocAttr,Tryz.f83,hm,hml])
  refine aH (α:=Nat × Nat) (fun a=>⟨38,[(20,.int .i64 (a.1:Int)),(19,.int .i64 (m.length:Int)),(18,.lst 5 (m.map ND.c) t),(5,.int .i64 (a.2:Int)),(1,.int .i64 i)],[]⟩) (fun _=>St.none)
   (fun a=>a.1≤m.length∧1≤a.2∧a.2≤1+a.1∧gI 1 m=(gI a.2 (m.drop a.1)).map (·+a.1)) (fun a=>m.length - a.1) (.of (.less ?_ (St.le_refl _)) ⟨(0,1),rfl,rfl,by simp⟩) ?_
  ·simp(maxSteps:=4000000) (disch:=first|decide|assumption|omega|(simp only[wL];omega)) only[go_sem,simprocAttr,aC,aB]
   all_goals omega
  ·rintro⟨k,n⟩ ⟨h1,h2,h3,h4⟩
   simp only at h1 h2 h3 h4 ⊢
   obtain⟨q,rfl⟩:∃q,n=q+1:=⟨n - 1,by omega⟩
   by_cases hk:k<m.length
   ·have hp:=iI (m.getD k nd0).op
    rw[wP hk] at h4
    obtain⟨pp,hpp⟩:∃pp:Nat,parts (m.getD k nd0).op=pp:=⟨_,rfl⟩
    rw[hpp] at h4 hp
    by_cases hz:q+pp=0
    ·rw[hz] at h4
     have hq:q=0:=by omega
     have hpz:pp=0:=by omega
     subst hq
     rw[hpz] at hpp
     repeat' (first|(with_reducible refine aK (fM _) ?_)|(with_reducible first|(refine wN fun nl hnl=>?_;revert hnl;(repeat refine wS fun _ _=>?_);intro hnl)|refine wD (by decide +kernel) ?_|refine wI (fun h=>?_) fun h=>?_|refine wF (fun h=>?_) fun h=>?_|refine wG (fun h=>?_) fun h=>?_|refine wH (fun h=>?_) fun h=>?_|((first|refine aR (fun h=>?_) fun h=>?_|refine aO (fun h=>?_) fun h=>?_)<;>simp only[h]))|simp(maxSteps:=4000000) (disch:=first|decide|assumption|omega|(simp only[wL];omega)) only[go_sem,simprocAttr,bE nd0,hpp])
     rw[h4]
     simp only[gI,Option.map_some,MV.int.injEq,true_and]
     have e1:((0+1+k:Nat):Int)=(k:Int)+1:=by omega
     rw[e1,Int.add_assoc]
    ·repeat' (first|(with_reducible refine aK (fM _) ?_)|(with_reducible first|(refine wN fun nl hnl=>?_;revert hnl;(repeat refine wS fun _ _=>?_);intro hnl)|refine wD (by decide +kernel) ?_|refine wI (fun h=>?_) fun h=>?_|refine wF (fun h=>?_) fun h=>?_|refine wG (fun h=>?_) fun h=>?_|refine wH (fun h=>?_) fun h=>?_|((first|refine aR (fun h=>?_) fun h=>?_|refine aO (fun h=>?_) fun h=>?_)<;>simp only[h]))|simp(maxSteps:=4000000) (disch:=first|decide|assumption|omega|(simp only[wL];omega)) only[go_sem,simprocAttr,bE nd0,hpp])
     refine .of (.less (l1:=[(20,.int .i64 ((k+1:Nat):Int)),(19,.int .i64 (m.length:Int)),(18,.lst 5 (m.map ND.c) t),(5,.int .i64 ((q+pp:Nat):Int)),(1,.int .i64 i)]) ?_ (St.none_le _)) ⟨(k+1,q+pp),rfl,rfl,⟨by simp only;omega,by simp only;omega,by simp only;omega,?_⟩,by simp only;omega⟩
     ·simp(maxSteps:=4000000) (disch:=first|decide|assumption|omega|(simp only[wL];omega)) only[go_sem,simprocAttr,aC,aB]
      all_goals omega
     ·rw[h4]
      simp only[Option.map_map]
      congr 1
      funext k
      simp only[Function.comp]
      omega
   ·rw[List.drop_eq_nil_of_le (by omega)] at h4
    rw[h4]
    repeat' (first|(with_reducible first|(refine wN fun nl hnl=>?_;revert hnl;(repeat refine wS fun _ _=>?_);intro hnl)|refine wD (by decide +kernel) ?_|refine wI (fun h=>?_) fun h=>?_|refine wF (fun h=>?_) fun h=>?_|refine wG (fun h=>?_) fun h=>?_|refine wH (fun h=>?_) fun h=>?_|((first|refine aR (fun h=>?_) fun h=>?_|refine aO (fun h=>?_) fun h=>?_)<;>simp only[h]))|simp(maxSteps:=4000000) (disch:=first|decide|assumption|omega|(simp only[wL];omega)) only[go_sem,simprocAttr,bE nd0])
    rfl
theorem Da(p:ND→Bool)(g:FuncId)(l:List ND)(hl:l.length≤1000000)(t:Bool)(hg:∀x,x∈l→aA Tryz.prog g [.agg x.c] St.none (fun r _=>r=.bool (p x))) :
  aA Tryz.prog 126 [.lst 5 (l.map ND.c) t,.fn (.func g) [] []] St.none (fun r _=>r=.int .i64 (if l.any p then(l.findIdx p:Int) else -1)):=by
 refine(aA.body 19 [.tmp 4] Tryz.func126 rfl rfl rfl rfl ?_)
 repeat' (first|(with_reducible first|(refine wN fun nl hnl=>?_;revert hnl;(repeat refine wS fun _ _=>?_);intro hnl)|refine wD (by decide +kernel) ?_|refine wI (fun h=>?_) fun h=>?_|refine wF (fun h=>?_) fun h=>?_|refine wG (fun h=>?_) fun h=>?_|refine wH (fun h=>?_) fun h=>?_|((first|refine aR (fun h=>?_) fun h=>?_|refine aO (fun h=>?_) fun h=>?_)<;>simp only[h]))|simp(maxSteps:=4000000) (disch:=first|decide|assumption|omega|(simp only[wL];omega)) only[go_sem,simprocAttr,Tryz.f126])
 refine aH (α:=Nat) (fun k=>⟨19,[(8,.int .i64 (k:Int)),(7,.int .i64 (l.length:Int)),(6,.lst 5 (l.map ND.c) t),(0,.lst 5 (l.map ND.c) t),(1,.fn (.func g) [] [])],[]⟩) (fun _=>St.none)
  (fun k=>k≤l.length∧(l.take k).any p=false) (fun k=>l.length - k) (.of (.less ?_ (St.le_refl _)) ⟨0,rfl,rfl,by simp⟩) ?_
 ·simp(maxSteps:=4000000) (disch:=first|decide|assumption|omega|(simp only[wL];omega)) only[go_sem,simprocAttr,aC,aB]
  all_goals rfl
 ·rintro k ⟨h1,h2⟩
  by_cases hk:k<l.length
  ·have hgk:=hg _ (eB nd0 hk)
   cases hp:p (l.getD k nd0)
   ·rw[hp] at hgk
    repeat' (first|(with_reducible refine aK hgk ?_)|(with_reducible first|(refine wN fun nl hnl=>?_;revert hnl;(repeat refine wS fun _ _=>?_);intro hnl)|refine wD (by decide +kernel) ?_|refine wI (fun h=>?_) fun h=>?_|refine wF (fun h=>?_) fun h=>?_|refine wG (fun h=>?_) fun h=>?_|refine wH (fun h=>?_) fun h=>?_|((first|refine aR (fun h=>?_) fun h=>?_|refine aO (fun h=>?_) fun h=>?_)<;>simp only[h]))|simp(maxSteps:=4000000) (disch:=first|decide|assumption|omega|(simp only[wL];omega)) only[go_sem,simprocAttr,bE nd0])
    refine .of (.less (l1:=[(8,.int .i64 ((k+1:Nat):Int)),(7,.int .i64 (l.length:Int)),(6,.lst 5 (l.map ND.c) t),(0,.lst 5 (l.map ND.c) t),(1,.fn (.func g) [] [])]) ?_ (St.le_refl _)) ⟨k+1,rfl,rfl,⟨by omega,?_⟩,by omega⟩
    ·simp(maxSteps:=4000000) (disch:=first|decide|assumption|omega|(simp only[wL];omega)) only[go_sem,simprocAttr,aC,aB]
     all_goals omega
    ·rw[nH hk,h2,←bH nd0 hk,hp];rfl
   ·rw[hp] at hgk
    have hany:l.any p=true:=List.any_eq_true.2 ⟨_,eB nd0 hk,hp⟩
    have hf:l.findIdx p=k:=by
     rw[List.findIdx_eq hk]
     refine⟨by rw[←bH nd0 hk];exact hp,fun j hj=>?_⟩
     have:=List.any_eq_false.1 h2 l[j] (by rw[List.mem_take_iff_getElem];exact⟨j,by omega,rfl⟩)
     simpa using this
    rw[hany,hf]
    repeat' (first|(with_reducible refine aK hgk ?_)|(with_reducible first|(refine wN fun nl hnl=>?_;revert hnl;(repeat refine wS fun _ _=>?_);intro hnl)|refine wD (by decide +kernel) ?_|refine wI (fun h=>?_) fun h=>?_|refine wF (fun h=>?_) fun h=>?_|refine wG (fun h=>?_) fun h=>?_|refine wH (fun h=>?_) fun h=>?_|((first|refine aR (fun h=>?_) fun h=>?_|refine aO (fun h=>?_) fun h=>?_)<;>simp only[h]))|simp(maxSteps:=4000000) (disch:=first|decide|assumption|omega|(simp only[wL];omega)) only[go_sem,simprocAttr,bE nd0])
  ·have:k=l.length:=by omega
   subst this
   rw[List.take_length] at h2
   rw[h2]
   repeat' (first|(with_reducible first|(refine wN fun nl hnl=>?_;revert hnl;(repeat refine wS fun _ _=>?_);intro hnl)|refine wD (by decide +kernel) ?_|refine wI (fun h=>?_) fun h=>?_|refine wF (fun h=>?_) fun h=>?_|refine wG (fun h=>?_) fun h=>?_|refine wH (fun h=>?_) fun h=>?_|((first|refine aR (fun h=>?_) fun h=>?_|refine aO (fun h=>?_) fun h=>?_)<;>simp only[h]))|simp(maxSteps:=4000000) (disch:=first|decide|assumption|omega|(simp only[wL];omega)) only[go_sem,simprocAttr,bE nd0])
theorem u9(p:ND→Bool)(g:FuncId)(l:List ND)(hl:l.length≤1000000)(t:Bool)(hg:∀x,x∈l→aA Tryz.prog g [.agg x.c] St.none (fun r _=>r=.bool (p x))) :
  aA Tryz.prog 84 [.lst 5 (l.map ND.c) t,.fn (.func g) [] []] St.none (fun r _=>r=.bool (l.any p)):=by
 refine(aA.body 9 [.tmp 4] Tryz.func84 rfl rfl rfl rfl ?_)
 have hi:=Da p g l hl t hg
 cases hany:l.any p
 ·rw[hany] at hi
  simp only[Bool.false_eq_true,if_false] at hi
  repeat' (first|(with_reducible refine aK hi ?_)|(with_reducible first|(refine wN fun nl hnl=>?_;revert hnl;(repeat refine wS fun _ _=>?_);intro hnl)|refine wD (by decide +kernel) ?_|refine wI (fun h=>?_) fun h=>?_|refine wF (fun h=>?_) fun h=>?_|refine wG (fun h=>?_) fun h=>?_|refine wH (fun h=>?_) fun h=>?_|((first|refine aR (fun h=>?_) fun h=>?_|refine aO (fun h=>?_) fun h=>?_)<;>simp only[h]))|simp(maxSteps:=4000000) (disch:=first|decide|assumption|omega|(simp only[wL];omega)) only[go_sem,simprocAttr,Tryz.f84])
 ·rw[hany] at hi
  simp only[if_true] at hi
  repeat' (first|(with_reducible refine aK hi ?_)|(with_reducible first|(refine wN fun nl hnl=>?_;revert hnl;(repeat refine wS fun _ _=>?_);intro hnl)|refine wD (by decide +kernel) ?_|refine wI (fun h=>?_) fun h=>?_|refine wF (fun h=>?_) fun h=>?_|refine wG (fun h=>?_) fun h=>?_|refine wH (fun h=>?_) fun h=>?_|((first|refine aR (fun h=>?_) fun h=>?_|refine aO (fun h=>?_) fun h=>?_)<;>simp only[h]))|simp(maxSteps:=4000000) (disch:=first|decide|assumption|omega|(simp only[wL];omega)) only[go_sem,simprocAttr,Tryz.f84])
  simp
theorem vZ(a b:VA):aA Tryz.prog 196 [.agg a.c,.agg b.c] St.none (fun r _=>r=.int .i64 (qG (cmpL a.key b.key))):=by
 refine(aA.body 28 [.tmp 4] Tryz.func196 rfl rfl rfl rfl ?_)
 by_cases h1:a.kd=b.kd
 ·have e1:cmpL a.key b.key=cmpL (a.n::bk a.s) (b.n::bk b.s):=by rw[VA.key,VA.key,h1,wM];rfl
  have c1:qG (cmpL [a.kd] [b.kd])=0:=by rw[h1,pW];rfl
  by_cases h2:a.n=b.n
  ·have e2:cmpL a.key b.key=cmpL (bk a.s) (bk b.s):=by rw[e1,h2,wM]
   have c2:qG (cmpL [a.n] [b.n])=0:=by rw[h2,pW];rfl
   rw[e2]
   repeat' (first|(with_reducible refine aK (lR _ _) ?_)|(with_reducible refine aK (lS _ _) ?_)|(with_reducible first|(refine wN fun nl hnl=>?_;revert hnl;(repeat refine wS fun _ _=>?_);intro hnl)|refine wD (by decide +kernel) ?_|refine wI (fun h=>?_) fun h=>?_|refine wF (fun h=>?_) fun h=>?_|refine wG (fun h=>?_) fun h=>?_|refine wH (fun h=>?_) fun h=>?_|((first|refine aR (fun h=>?_) fun h=>?_|refine aO (fun h=>?_) fun h=>?_)<;>simp only[h]))|simp(maxSteps:=4000000) (disch:=first|decide|assumption|omega|(simp only[wL];omega)) only[go_sem,simprocAttr,Tryz.f196,c1,c2])
  ·have e2:cmpL a.key b.key=cmpL [a.n] [b.n]:=by rw[e1,EF h2]
   have c2:qG (cmpL [a.n] [b.n])≠0:=fun h=>h2 (by have:=cmpL_eq.1 (xN.1 h);simpa using this)
   rw[e2]
   repeat' (first|(with_reducible refine aK (lR _ _) ?_)|(with_reducible refine aK (lS _ _) ?_)|(with_reducible first|(refine wN fun nl hnl=>?_;revert hnl;(repeat refine wS fun _ _=>?_);intro hnl)|refine wD (by decide +kernel) ?_|refine wI (fun h=>?_) fun h=>?_|refine wF (fun h=>?_) fun h=>?_|refine wG (fun h=>?_) fun h=>?_|refine wH (fun h=>?_) fun h=>?_|((first|refine aR (fun h=>?_) fun h=>?_|refine aO (fun h=>?_) fun h=>?_)<;>simp only[h]))|simp(maxSteps:=4000000) (disch:=first|decide|assumption|omega|(simp only[wL];omega)) only[go_sem,simprocAttr,Tryz.f196,c1])
 ·have e1:cmpL a.key b.key=cmpL [a.kd] [b.kd]:=by rw[VA.key,VA.key,EF h1]
  have c1:qG (cmpL [a.kd] [b.kd])≠0:=fun h=>h1 (by have:=cmpL_eq.1 (xN.1 h);simpa using this)
  rw[e1]
  repeat' (first|(with_reducible refine aK (lR _ _) ?_)|(with_reducible refine aK (lS _ _) ?_)|(with_reducible first|(refine wN fun nl hnl=>?_;revert hnl;(repeat refine wS fun _ _=>?_);intro hnl)|refine wD (by decide +kernel) ?_|refine wI (fun h=>?_) fun h=>?_|refine wF (fun h=>?_) fun h=>?_|refine wG (fun h=>?_) fun h=>?_|refine wH (fun h=>?_) fun h=>?_|((first|refine aR (fun h=>?_) fun h=>?_|refine aO (fun h=>?_) fun h=>?_)<;>simp only[h]))|simp(maxSteps:=4000000) (disch:=first|decide|assumption|omega|(simp only[wL];omega)) only[go_sem,simprocAttr,Tryz.f196])
end

section
open Go.Conc.Locks
section
variable {P:Program} {L:MuLink}
def ML(n n':Int)(o:Option aV)(l:Nat)(σ:St)(k:MV→St→Prop):Prop:=match o with
 | some (.row t e [.int .i32 a::rest])=>e8 (a=n) (bR (.tup []) (σ.set l (.row t e [.int .i32 n'::rest])) k)
 | _=>False
theorem DJ{n n' a:Int}{l:Nat}{σ:St}{k:MV→St→Prop}{t:TypeId}{e:Nat}{rest:List MV}:R (ML n n' (some (.row t e [.int .i32 a::rest])) l σ k)=R (e8 (E (a=n)) (bR (.tup []) (σ.set l (.row t e [.int .i32 n'::rest])) k)):=rfl
end
attribute [go_sem] DJ
end
end Go.Proofs.YtaojijkdamfbnaaGreatDoor
