/- Parts of the proof, joined; conditions: those that its theorems name. -/
import Derived.Test.YtaojijkdamfbnaaGreatDoorMed
import Derived.Test.YtaojijkdamfbnaaGreatDoorMee
import Derived.Test.YtaojijkdamfbnaaGreatDoorMeg
set_option linter.unusedVariables false
set_option linter.unusedSimpArgs false
set_option maxHeartbeats 4000000
namespace Go.Proofs.YtaojijkdamfbnaaGreatDoor
section
section
variable {α:Type} {f:RD→α × RD} {ok:α→Prop} {w:α→BL}
end
section
variable {c:Prop} [Decidable c] {e:Int} {r:RD} {l:BL}
end
theorem Cm(l:List ND):cA l=0↔l.length≤31∧l≠[]∧fT l 0=l.length∧l.all eD=true∧fW l≤8:=by
 unfold cA
 by_cases h1:31<l.length
 ·rw[if_pos h1]
  constructor
  ·intro h;cases h
  ·intro h;omega
 ·rw[if_neg h1]
  by_cases h2:l=[]∨fT l 0≠l.length∨l.all eD=false
  ·rw[if_pos h2]
   constructor
   ·intro h;cases h
   ·rintro⟨_,k1,k2,k3,_⟩
    rcases h2 with hc|hc|hc
    ·exact absurd hc k1
    ·exact absurd k2 hc
    ·rw[k3] at hc;cases hc
  ·rw[if_neg h2]
   by_cases h3:8<fW l
   ·rw[if_pos h3]
    constructor
    ·intro h;cases h
    ·rintro⟨_,_,_,_,k⟩;exact absurd h3 (Nat.not_lt.2 k)
   ·rw[if_neg h3]
    refine⟨fun _=>⟨Nat.le_of_not_lt h1,fun h=>h2 (.inl h),Classical.byContradiction fun h=>h2 (.inr (.inl h)),?_,Nat.le_of_not_lt h3⟩,fun _=>rfl⟩
    cases h:l.all eD
    ·exact absurd (.inr (.inr h)) h2
    ·rfl
end

section
def fc(f:F8):List MV:=(f.l.map VA.c).flatten
theorem NL(l:List VA):(l.map VA.c).flatten.length=3 * l.length:=by
 induction l with
 | nil=>rfl
 | cons v l ih=>simp only[List.map_cons,List.flatten_cons,List.length_append,List.length_cons,List.length_nil,ih];omega
theorem sL:∀(l:List VA) (i:Nat),((l.map VA.c).flatten).drop (i * 3)=((l.drop i).map VA.c).flatten
 | _,0=>by simp
 | [],i+1=>by simp
 | v::l,i+1=>by
  have:=sL l i
  rw[show(i+1) * 3=i * 3+3 by omega]
  simp only[List.map_cons,List.flatten_cons,List.cons_append,List.nil_append,List.drop_succ_cons]
  exact this
theorem FQ:∀(l:List VA) (i:Nat),((l.map VA.c).flatten).take (i * 3)=((l.take i).map VA.c).flatten
 | _,0=>by simp
 | [],i+1=>by simp
 | v::l,i+1=>by
  have:=FQ l i
  rw[show(i+1) * 3=i * 3+3 by omega]
  simp only[List.map_cons,List.flatten_cons,List.cons_append,List.nil_append,List.take_succ_cons]
  rw[this]
theorem Mx(l:List VA):((l.map VA.c).flatten).all MV.aQ=true:=by
 induction l with
 | nil=>rfl
 | cons v l ih =>
  simp only[List.map_cons,List.flatten_cons,List.cons_append,List.nil_append,List.all_cons,ih];rfl
theorem bV(f:F8):(fc f).length=24:=by rw[fc,NL,f.h]
theorem cF(f:F8):(fc f).all MV.aQ=true:=Mx f.l
theorem Fc{f:F8}{r:List MV}{n:Nat}(h:24≤n):(fc f++r).take n=fc f++r.take (n - 24):=by
 rw[List.take_append,List.take_of_length_le (by rw[bV];exact h),bV]
theorem fY{f:F8}{n:Nat}(h:24≤n):(fc f).take n=fc f:=List.take_of_length_le (by rw[bV];exact h)
theorem E6{f:F8}{r:List MV}{n:Nat}(h:24≤n):(fc f++r).drop n=r.drop (n - 24):=by
 rw[List.drop_append,List.drop_eq_nil_of_le (by rw[bV];exact h),bV,List.nil_append]
theorem A9{f:F8}{n:Nat}(h:24≤n):(fc f).drop n=[]:=List.drop_eq_nil_of_le (by rw[bV];exact h)
theorem Fa{f:F8}{r:List MV}{n:Nat}{d:MV}(h:24≤n):(fc f++r).getD n d=r.getD (n - 24) d:=by
 rw[List.getD_eq_getElem?_getD,List.getElem?_append_right (by rw[bV];exact h),bV,←List.getD_eq_getElem?_getD]
theorem gT{f:F8}{i:Nat}(h:i<8):(fc f).drop (i * 3)=(f.get i).c++(fc f).drop ((i+1) * 3):=by
 have hl:i<f.l.length:=by rw[f.h];exact h
 rw[fc,sL,sL,List.drop_eq_getElem_cons hl,List.map_cons,List.flatten_cons]
 congr 1
 rw[F8.get,bM va0 hl]
theorem nV{f:F8}{i:Nat}(h:i<8):((fc f).drop (i * 3)).take 3=[.int .i64 (f.get i).kd,.int .i64 (f.get i).n,.str (f.get i).s]:=by
 rw[gT h];rfl
theorem xN{f:F8}{r:List MV}{i:Nat}(h:i<8):((fc f++r).drop (i * 3)).take 3=[.int .i64 (f.get i).kd,.int .i64 (f.get i).n,.str (f.get i).s]:=by
 rw[List.drop_append_of_le_length (by rw[bV];omega),gT h];rfl
theorem qG{α:Type}{l:List α}{n k:Nat}{d:α}:l.getD (n+k) d=(l.drop n).getD k d:=by
 rw[List.getD_eq_getElem?_getD,List.getD_eq_getElem?_getD,List.getElem?_drop]
theorem E8{f:F8}{i:Nat}{d:MV}(h:i<8):(fc f).getD (i * 3) d=.int .i64 (f.get i).kd:=by
 have:=qG (l:=fc f) (n:=i * 3) (k:=0) (d:=d)
 rw[Nat.add_zero] at this
 rw[this,gT h];rfl
theorem E9{f:F8}{i:Nat}{d:MV}(h:i<8):(fc f).getD (i * 3+1) d=.int .i64 (f.get i).n:=by
 rw[qG,gT h];rfl
theorem zB{f:F8}{i:Nat}{d:MV}(h:i<8):(fc f).getD (i * 3+2) d=.str (f.get i).s:=by
 rw[qG,gT h];rfl
theorem Ld{f:F8}{i:Nat}{a b:Int}{s:ByteArray}(h:i<8):laid (fc f) (i * 3) [.int .i64 a,.int .i64 b,.str s]=fc (f.set i ⟨a,b,s⟩):=by
 have hl:i<f.l.length:=by rw[f.h];exact h
 unfold laid
 simp only[List.length_cons,List.length_nil]
 have e:(f.set i ⟨a,b,s⟩).l=f.l.set i ⟨a,b,s⟩:=rfl
 rw[show i * 3+(0+1+1+1)=(i+1) * 3 by omega,fc,fc,FQ,sL,e,List.set_eq_take_append_cons_drop,if_pos hl,List.map_append,List.flatten_append,List.map_cons,List.flatten_cons]
 simp only[List.append_assoc]
theorem E7{f:F8}{i:Nat}{v:VA}(h:i<8):(fc f).take (i * 3)++v.c++(fc f).drop (3+i * 3)=fc (f.set i v):=by
 have:=Ld (f:=f) (i:=i) (a:=v.kd) (b:=v.n) (s:=v.s) h
 rw[←this,laid,show 3+i * 3=i * 3+3 by omega];rfl
theorem F8.Lg{f:F8}{i:Nat}{v:VA}(h:i<8):(f.set i v).get i=v:=by rw[F8.Lh f i i v h,if_pos rfl]
theorem A4{α:Type}{a b:α}{l:List α}{n:Nat}:(a::b::l).drop (2+n)=l.drop n:=by rw[show 2+n=n+1+1 by omega];rfl
theorem kY{α:Type}{a b c:α}{l:List α}{n:Nat}:(a::b::c::l).drop (3+n)=l.drop n:=by rw[show 3+n=n+1+1+1 by omega];rfl
theorem CO{α:Type}{a b:α}{l:List α}{n:Nat}:(a::b::l).take (2+n)=a::b::l.take n:=by rw[show 2+n=n+1+1 by omega];rfl
theorem vE{α:Type}{a b c:α}{l:List α}{n:Nat}:(a::b::c::l).take (3+n)=a::b::c::l.take n:=by rw[show 3+n=n+1+1+1 by omega];rfl
theorem tC{α:Type}{a b c d:α}{l:List α}{n:Nat}:(a::b::c::l).getD (3+n) d=l.getD n d:=by rw[show 3+n=n+1+1+1 by omega];simp
theorem Bd{α:Type}{a b d:α}{l:List α}{n:Nat}:(a::b::l).getD (2+n) d=l.getD n d:=by rw[show 2+n=n+1+1 by omega];simp
theorem Ff{r:List MV}:(MV.int .i64 0::.int .i64 0::.str ⟨#[]⟩::.int .i64 0::.int .i64 0::.str ⟨#[]⟩::.int .i64 0::.int .i64 0::.str ⟨#[]⟩::.int .i64 0::.int .i64 0::.str ⟨#[]⟩ ::
  .int .i64 0::.int .i64 0::.str ⟨#[]⟩::.int .i64 0::.int .i64 0::.str ⟨#[]⟩::.int .i64 0::.int .i64 0::.str ⟨#[]⟩::.int .i64 0::.int .i64 0::.str ⟨#[]⟩::r)=fc f80++r:=rfl
abbrev PA.c(p:PA):List MV:=.int .u32 (p.mask.toNat:Int)::.int .u32 (p.lab.toNat:Int)::fc p.f
abbrev CA.c(c:CA):List MV:=.int .i64 c.id::.int .i64 c.ver::.int .u32 (c.lab.toNat:Int)::fc c.f
abbrev ED.c(e:ED):List MV:=.int .i64 e.kd::.int .i64 e.id::.int .i64 e.gr::.int .u32 (e.p.mask.toNat:Int)::.int .u32 (e.p.lab.toNat:Int)::fc e.p.f
theorem FN{a b:UInt32}:((a.toNat:Int)=(b.toNat:Int))↔a=b:=by
 constructor
 ·intro h;exact UInt32.toNat_inj.1 (by exact_mod_cast h)
 ·intro h;rw[h]
end

section
class LB (l:BL) (k:outParam Nat):Prop where
 h:l.length≤k
instance {a b:BL} {i j:Nat} [h:LB a i] [k:LB b j]:LB (a++b) (i+j):=⟨by have:=h.h;have:=k.h;rw[List.length_append];omega⟩
instance:LB [] 0:=⟨Nat.le_refl _⟩
instance {c:Prop} [Decidable c] {a b:BL} {i j:Nat} [h:LB a i] [k:LB b j]:LB (if c then a else b) (i+j):=⟨by have:=h.h;have:=k.h;split<;>omega⟩
theorem LB.le{l:BL}{k n:Nat}[h:LB l k](hk:k≤n):l.length≤n:=Nat.le_trans h.h hk
class Sh (r:RD):Prop where
 h:r.l.length≤1000000
instance {c:Prop} [Decidable c] {r s:RD} [h:Sh r] [k:Sh s]:Sh (if c then r else s):=by
 split
 ·exact h
 ·exact k
end

section
inductive Lz (e:Nat) (xs:List (List MV)):MV→Prop where
 | lst (t:Bool):Lz e xs (.lst e xs t)
 | nil (h:xs=[]):Lz e xs .bC
theorem Lz.cell{e:Nat}{xs:List (List MV)}{m:MV}(h:Lz e xs m):m.aQ=true:=by cases h<;>rfl
theorem Lz.cells{e:Nat}{xs:List (List MV)}{m:MV}(h:Lz e xs m):m.cells=[m]:=by cases h<;>rfl
theorem Lz.OM{e:Nat}{xs:List (List MV)}{m:MV}(h:Lz e xs m):kE m (.lst e xs false):=by
 cases h with
 | lst t=>cases t with
  | false=>exact .same _
  | true=>exact .tight _ _
 | nil h=>subst h;exact .nil _ _
abbrev CM.k(c:CM)(f:MV):List MV:=.int .i64 c.kd::.int .i64 c.e.kd::.int .i64 c.e.id::.int .i64 c.e.gr::.int .u32 (c.e.p.mask.toNat:Int)::.int .u32 (c.e.p.lab.toNat:Int)::(fc c.e.p.f ++
 .int .i64 c.dev::.int .i64 c.req::.int .i64 c.id::.int .i64 c.base::.int .i64 c.Lo::.int .u32 (c.p.mask.toNat:Int)::.int .u32 (c.p.lab.toNat:Int)::(fc c.p.f++[f,.int .u32 (c.mask.toNat:Int)]))
abbrev RE.k(a:RE)(f:MV):List MV:=[.int .i64 a.kd,.int .i64 a.dev,.int .i64 a.req,.int .i64 a.code,.int .i64 a.id,.int .i64 a.ver,.int .i64 a.sq,.int .i64 a.ep,f,.int .u32 (a.mask.toNat:Int)]
abbrev PG.k(p:PG)(i:MV):List MV:=[.int .i64 p.code,.bool p.reset,.int .i64 p.fr.dev,.int .i64 p.fr.ep,.int .i64 p.fr.sq,.int .i64 p.fr.cu,.int .i64 p.to.dev,.int .i64 p.to.ep,.int .i64 p.to.sq,.int .i64 p.to.cu,i]
abbrev MS.k(m:MS)(f g i:MV):List MV:=.int .i64 m.kd::.int .i64 m.size::.int .i64 m.cmd.kd::.int .i64 m.cmd.e.kd::.int .i64 m.cmd.e.id::.int .i64 m.cmd.e.gr::.int .u32 (m.cmd.e.p.mask.toNat:Int)::.int .u32 (m.cmd.e.p.lab.toNat:Int)::(fc m.cmd.e.p.f ++
 .int .i64 m.cmd.dev::.int .i64 m.cmd.req::.int .i64 m.cmd.id::.int .i64 m.cmd.base::.int .i64 m.cmd.Lo::.int .u32 (m.cmd.p.mask.toNat:Int)::.int .u32 (m.cmd.p.lab.toNat:Int)::(fc m.cmd.p.f++f::.int .u32 (m.cmd.mask.toNat:Int) ::
 .int .i64 m.tok.dev::.int .i64 m.tok.ep::.int .i64 m.tok.sq::.int .i64 m.tok.cu ::
 .int .i64 m.rep.kd::.int .i64 m.rep.dev::.int .i64 m.rep.req::.int .i64 m.rep.code::.int .i64 m.rep.id::.int .i64 m.rep.ver::.int .i64 m.rep.sq::.int .i64 m.rep.ep::g::.int .u32 (m.rep.mask.toNat:Int) ::
 .int .i64 m.page.code::.bool m.page.reset::.int .i64 m.page.fr.dev::.int .i64 m.page.fr.ep::.int .i64 m.page.fr.sq::.int .i64 m.page.fr.cu::.int .i64 m.page.to.dev::.int .i64 m.page.to.ep::.int .i64 m.page.to.sq::.int .i64 m.page.to.cu::i ::
 [.int .i64 m.code]))
end

section
section
variable {P:Program} {C:YC} {f:FR} {σ:St} {t:Option Nat} {Q:YQ} {q:MQ} {c:Code}
theorem iU(h:R (cZ P (@OfNat.ofNat Code (nat_lit 0) (@_root_.id (OfNat Code (nat_lit 0)) (OfNat.mk c))) f σ q)):mwp P c f σ q:=j4 c f σ q h
theorem jT(h:R (cZ P (@OfNat.ofNat Code (nat_lit 0) (@_root_.id (OfNat Code (nat_lit 0)) (OfNat.mk c))) f σ (fun e f' σ'=>Q e f' σ' t))):ywp P C c f σ t Q:=NN (j4 c f σ _ h)
theorem AI{k:FR→St→Option Nat→Prop}:R (CP k Q .normal f σ t)=R (k f σ t):=congrArg R rfl
theorem Ic{k:FR→St→Option Nat→Prop}:R (CP k Q .ret f σ t)=R (Q .ret f σ t):=congrArg R rfl
theorem EM{k:FR→St→Option Nat→Prop}{id:Nat}:R (CP k Q (.exit id) f σ t)=R (Q (.exit id) f σ t):=congrArg R rfl
theorem vP{id:Nat}:R (qA id Q .normal f σ t)=R (Q .normal f σ t):=congrArg R rfl
theorem C4{id:Nat}:R (qA id Q .ret f σ t)=R (Q .ret f σ t):=congrArg R rfl
theorem AU{id:Nat}:R (qA id Q (.exit id) f σ t)=R (Q .normal f σ t):=congrArg R (by simp[qA])
theorem Ag{k:FR→St→Prop}:R (B7 k .normal f σ)=R (k f σ):=congrArg R rfl
theorem wZ{fc:FR}{n:St→Prop}:R (mP q fc n .normal f σ)=R (Gh f σ fun _ σ1=>n σ1):=congrArg R rfl
theorem Cy{fc:FR}{n:St→Prop}{id:Nat}:R (mP q fc n (.exit id) f σ)=R (Gh f σ fun _ σ1=>q (.exit id) fc σ1):=congrArg R rfl
theorem Cu{n:Nat}:R (Nw n .normal f σ t)=R (f.d=[]∧(t=some n∨t=none)):=congrArg R rfl
theorem Kl{n:Nat}:R (Nw n .ret f σ t)=R (f.d=[]∧(t=some n∨t=none)):=congrArg R rfl
def uC(l:List Oper):Bool:=l.all fun o=>match o.op with|.defer _=>false|_=>true
theorem lB{l:List Oper}(h:uC l=true):∀o,o∈l→∀c,o.op≠.defer c:=fun o ho c e=>by
 have:=List.all_eq_true.1 h o ho
 rw[e] at this
 cases this
theorem Il{id:Nat}{ops:Array Oper}(pre:List Oper)(y:Oper)(post:List Oper){o:Operand}{args:Array Operand}{ts:Array TypeId}{i:Nat}{x:List MV}(ho:ops.toList=pre++y::post)(hd:(uC pre&&uC post)=true)
 (hy:y.op=.call ⟨.value o,args,ts⟩)(hg:y.guard=none)(ht:t=some i)(hx:C.xs[i]?=some x)(hno:∀m,m∈x→gO m)(hspec:lV P C.l C.xs C.Y C.Yx C.Φ0 C.σ0 C.n0)
 (h:R (dX P (@OfNat.ofNat (Array Oper) (nat_lit 0) (@_root_.id (OfNat (Array Oper) (nat_lit 0)) (OfNat.mk ops))) (fun f1 σ1=>aG f1 o=.fn (.yield C.l) [] []∧args.toList.map (aG f1)=x ∧
   dX P (@OfNat.ofNat (Array Oper) (nat_lit 0) (@_root_.id (OfNat (Array Oper) (nat_lit 0)) (OfNat.mk ops))) (fun f2 σ2=>Q .normal f2 σ2 (some (i+1))) (@OfNat.ofNat (List Oper) (nat_lit 0) (@_root_.id (OfNat (List Oper) (nat_lit 0)) (OfNat.mk post))) (bB f1 y.dst (.bool true)) σ1 ∧
   dX P (@OfNat.ofNat (Array Oper) (nat_lit 0) (@_root_.id (OfNat (Array Oper) (nat_lit 0)) (OfNat.mk ops))) (fun f2 σ2=>Q .normal f2 σ2 none) (@OfNat.ofNat (List Oper) (nat_lit 0) (@_root_.id (OfNat (List Oper) (nat_lit 0)) (OfNat.mk post))) (bB f1 y.dst (.bool false)) σ1)
   (@OfNat.ofNat (List Oper) (nat_lit 0) (@_root_.id (OfNat (List Oper) (nat_lit 0)) (OfNat.mk pre))) f σ)):ywp P C (.region id ops false) f σ t Q:=by
 have hd:=Bool.and_eq_true_iff.1 hd
 exact EW pre y post ho (lB hd.1) (lB hd.2) hy hg ht hx hno hspec h
end
attribute [go_sem ↓] AI Ic EM vP C4 AU Ag wZ Cy Cu Kl
end

section
section
variable {P:Program} {f:FR} {σ:St} {Q:MQ} {id:Nat} {a b l:List Oper} {x:Oper} {dr:Bool}
theorem N5:List.append (x::a) b=x::List.append a b:=rfl
theorem OY:List.append ([]:List Oper) b=b:=rfl
end
attribute [go_sem] N5 OY
theorem sJ{P:Program}{g:FuncId}{ms:List MV}{σ:St}{o:aX}{u:Nat→MV}{k:MV→St→Prop}(h:aA P g ms St.none fun v σ'=>∃l,v=u l∧σ'=St.none.set l o)(hk:∀l,σ l=none→R (bP (u l) (σ.set l o) k)):R (cX P g ms σ k) :=
 cD h (St.none_le σ) fun v σ' hv hf=>by
  obtain⟨l,rfl,rfl⟩:=hv
  rw[gW,bW,dV]
  refine hk l ?_
  rcases hf l o (aJ _ _ _) with h|⟨o',h⟩
  ·exact h
  ·simp[St.none] at h
end
end Go.Proofs.YtaojijkdamfbnaaGreatDoor
