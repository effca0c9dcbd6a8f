/- Parts of the proof, joined; conditions: those that its theorems name. -/
import Derived.Test.YtojmhmejdihaaaaGreatDoorStc
import Derived.RangeFuncIn
import Derived.RangeFuncSeq
set_option linter.unusedVariables false
set_option linter.unusedSimpArgs false
set_option maxHeartbeats 4000000
namespace Go.Proofs.YtojmhmejdihaaaaGreatDoor
section
theorem F8.ext{f g:F8}(h:∀i,i<8→f.get i=g.get i):f=g:=by
 obtain⟨a,ha⟩:=f
 obtain⟨b,hb⟩:=g
 have:a=b:=by
  apply List.ext_getElem (by omega)
  intro i h1 h2
  have:=h i (by omega)
  simpa[F8.get,List.getD,h1,h2] using this
 subst this;rfl
theorem F8.MO(f:F8)(i j:Nat)(v:VA)(hi:i<8):(f.set i v).get j=if i=j then v else f.get j:=by
 have:=f.h
 simp only[F8.get,F8.set,List.getD_eq_getElem?_getD,List.getElem?_set]
 split
 ·rename_i e
  subst e
  rw[if_pos (by omega)];rfl
 ·rfl
theorem F8.F3(f:F8)(p:VA→Bool):f.l.all p=true↔∀i,i<8→p (f.get i)=true:=by
 rw[List.all_eq_true]
 constructor
 ·intro h i hi
  refine h _ ?_
  have:i<f.l.length:=by rw[f.h];exact hi
  rw[F8.get,List.getD_eq_getElem?_getD,List.getElem?_eq_getElem this]
  exact List.getElem_mem _
 ·intro h x hx
  obtain⟨i,hi,rfl⟩:=List.mem_iff_getElem.1 hx
  have:=h i (by rw[←f.h];exact hi)
  rwa [F8.get,List.getD_eq_getElem?_getD,List.getElem?_eq_getElem hi] at this
theorem N1{n:Int}(h0:0≤n)(h:n≤4294967295):((UInt32.ofNat n.toNat).toNat:Int)=n:=by
 rw[UInt32.toNat_ofNat',Nat.mod_eq_of_lt (by omega)];omega
end

section
theorem Sk.cond{α:Type}{f:RD→α × RD}(h:Sk f)(d:α)(b:Bool):Sk (fun r=>if b=true then f r else(d,r)):=⟨fun r hr=>by
 cases b
 ·rfl
 ·simpa using h.stk r hr,fun r=>by
 cases b
 ·exact List.suffix_refl _
 ·simpa using h.sfx r⟩
theorem Rt.cond{α:Type}{f:RD→α × RD}{ok:α→Prop}{w:α→BL}(h:Rt f ok w)(d:α)(b:Bool):Rt (fun r=>if b=true then f r else(d,r)) (fun x=>if b=true then ok x else x=d) (fun x=>if b=true then w x else[]) where
 fwd x l hx:=by
  cases b
  ·simp only[Bool.false_eq_true,if_false,List.nil_append] at hx ⊢;rw[hx]
  ·simp only[if_true] at hx ⊢;exact h.fwd x l hx
 bck r hr:=by
  cases b
  ·exact⟨by simpa using hr,by simp,by simp⟩
  ·simp only[if_true] at hr ⊢;exact h.bck r hr
end

section
section
variable {α:Type} {f:RD→α × RD} {ok:α→Prop} {w:α→BL}
end
section
variable {c:Prop} [Decidable c] {e:Int} {r:RD} {l:BL}
end
theorem C4(l:List ND):bM l=0↔l.length≤31∧l≠[]∧gK l 0=l.length∧l.all eN=true∧gN l≤8:=by
 unfold bM
 by_cases h1:31<l.length
 ·rw[if_pos h1]
  constructor
  ·intro h;cases h
  ·intro h;omega
 ·rw[if_neg h1]
  by_cases h2:l=[]∨gK l 0≠l.length∨l.all eN=false
  ·rw[if_pos h2]
   constructor
   ·intro h;cases h
   ·rintro⟨_,k1,k2,k3,_⟩
    rcases h2 with hc|hc|hc
    ·exact absurd hc k1
    ·exact absurd k2 hc
    ·rw[k3] at hc;cases hc
  ·rw[if_neg h2]
   by_cases h3:8<gN l
   ·rw[if_pos h3]
    constructor
    ·intro h;cases h
    ·rintro⟨_,_,_,_,k⟩;exact absurd h3 (Nat.not_lt.2 k)
   ·rw[if_neg h3]
    refine⟨fun _=>⟨Nat.le_of_not_lt h1,fun h=>h2 (.inl h),Classical.byContradiction fun h=>h2 (.inr (.inl h)),?_,Nat.le_of_not_lt h3⟩,fun _=>rfl⟩
    cases h:l.all eN
    ·exact absurd (.inr (.inr h)) h2
    ·rfl
theorem Dy{x:UInt32}:x=0↔x.toNat=0:=⟨fun h=>by rw[h];rfl,fun h=>UInt32.toNat_inj.1 (by rw[h];rfl)⟩
end

section
def okI(x:IT):Prop:=(x.kd=1∨x.kd=2∨x.kd=3)∧(if x.kd=2 then 0≤x.c.id∧x.c.id≤eD - 1∧x.c={ ca0 with id:=x.c.id } else cX x.c=true)
end

section
def fc(f:F8):List MV:=(f.l.map VA.c).flatten
theorem Pq(l:List VA):(l.map VA.c).flatten.length=3 * l.length:=by
 induction l with
 | nil=>rfl
 | cons v l ih=>simp only[List.map_cons,List.flatten_cons,List.length_append,List.length_cons,List.length_nil,ih];omega
theorem tY:∀(l:List VA) (i:Nat),((l.map VA.c).flatten).drop (i * 3)=((l.drop i).map VA.c).flatten
 | _,0=>by simp
 | [],i+1=>by simp
 | v::l,i+1=>by
  have:=tY l i
  rw[show(i+1) * 3=i * 3+3 by omega]
  simp only[List.map_cons,List.flatten_cons,List.cons_append,List.nil_append,List.drop_succ_cons]
  exact this
theorem GZ:∀(l:List VA) (i:Nat),((l.map VA.c).flatten).take (i * 3)=((l.take i).map VA.c).flatten
 | _,0=>by simp
 | [],i+1=>by simp
 | v::l,i+1=>by
  have:=GZ l i
  rw[show(i+1) * 3=i * 3+3 by omega]
  simp only[List.map_cons,List.flatten_cons,List.cons_append,List.nil_append,List.take_succ_cons]
  rw[this]
theorem N4(l:List VA):((l.map VA.c).flatten).all MV.aP=true:=by
 induction l with
 | nil=>rfl
 | cons v l ih =>
  simp only[List.map_cons,List.flatten_cons,List.cons_append,List.nil_append,List.all_cons,ih];rfl
theorem cL(f:F8):(fc f).length=24:=by rw[fc,Pq,f.h]
theorem eL(f:F8):(fc f).all MV.aP=true:=N4 f.l
theorem Gg{f:F8}{r:List MV}{n:Nat}(h:24≤n):(fc f++r).take n=fc f++r.take (n - 24):=by
 rw[List.take_append,List.take_of_length_le (by rw[cL];exact h),cL]
theorem mK{f:F8}{n:Nat}(h:24≤n):(fc f).take n=fc f:=List.take_of_length_le (by rw[cL];exact h)
theorem Gd{f:F8}{r:List MV}{n:Nat}(h:24≤n):(fc f++r).drop n=r.drop (n - 24):=by
 rw[List.drop_append,List.drop_eq_nil_of_le (by rw[cL];exact h),cL,List.nil_append]
theorem BP{f:F8}{n:Nat}(h:24≤n):(fc f).drop n=[]:=List.drop_eq_nil_of_le (by rw[cL];exact h)
theorem Gf{f:F8}{r:List MV}{n:Nat}{d:MV}(h:24≤n):(fc f++r).getD n d=r.getD (n - 24) d:=by
 rw[List.getD_eq_getElem?_getD,List.getElem?_append_right (by rw[cL];exact h),cL,←List.getD_eq_getElem?_getD]
theorem iA{f:F8}{i:Nat}(h:i<8):(fc f).drop (i * 3)=(f.get i).c++(fc f).drop ((i+1) * 3):=by
 have hl:i<f.l.length:=by rw[f.h];exact h
 rw[fc,tY,tY,List.drop_eq_getElem_cons hl,List.map_cons,List.flatten_cons]
 congr 1
 rw[F8.get,aZ va0 hl]
theorem p8{f:F8}{i:Nat}(h:i<8):((fc f).drop (i * 3)).take 3=[.int .i64 (f.get i).kd,.int .i64 (f.get i).n,.str (f.get i).s]:=by
 rw[iA h];rfl
theorem yY{f:F8}{r:List MV}{i:Nat}(h:i<8):((fc f++r).drop (i * 3)).take 3=[.int .i64 (f.get i).kd,.int .i64 (f.get i).n,.str (f.get i).s]:=by
 rw[List.drop_append_of_le_length (by rw[cL];omega),iA h];rfl
theorem rJ{α:Type}{l:List α}{n k:Nat}{d:α}:l.getD (n+k) d=(l.drop n).getD k d:=by
 rw[List.getD_eq_getElem?_getD,List.getD_eq_getElem?_getD,List.getElem?_drop]
theorem tO{f:F8}{i:Nat}{d:MV}(h:i<8):(fc f).getD (i * 3) d=.int .i64 (f.get i).kd:=by
 have:=rJ (l:=fc f) (n:=i * 3) (k:=0) (d:=d)
 rw[Nat.add_zero] at this
 rw[this,iA h];rfl
theorem tP{f:F8}{i:Nat}{d:MV}(h:i<8):(fc f).getD (i * 3+1) d=.int .i64 (f.get i).n:=by
 rw[rJ,iA h];rfl
theorem p9{f:F8}{i:Nat}{d:MV}(h:i<8):(fc f).getD (i * 3+2) d=.str (f.get i).s:=by
 rw[rJ,iA h];rfl
theorem MK{f:F8}{i:Nat}{a b:Int}{s:ByteArray}(h:i<8):laid (fc f) (i * 3) [.int .i64 a,.int .i64 b,.str s]=fc (f.set i ⟨a,b,s⟩):=by
 have hl:i<f.l.length:=by rw[f.h];exact h
 unfold laid
 simp only[List.length_cons,List.length_nil]
 have e:(f.set i ⟨a,b,s⟩).l=f.l.set i ⟨a,b,s⟩:=rfl
 rw[show i * 3+(0+1+1+1)=(i+1) * 3 by omega,fc,fc,GZ,tY,e,List.set_eq_take_append_cons_drop,if_pos hl,List.map_append,List.flatten_append,List.map_cons,List.flatten_cons]
 simp only[List.append_assoc]
theorem Ge{f:F8}{i:Nat}{v:VA}(h:i<8):(fc f).take (i * 3)++v.c++(fc f).drop (3+i * 3)=fc (f.set i v):=by
 have:=MK (f:=f) (i:=i) (a:=v.kd) (b:=v.n) (s:=v.s) h
 rw[←this,laid,show 3+i * 3=i * 3+3 by omega];rfl
theorem F8.MN{f:F8}{i:Nat}{v:VA}(h:i<8):(f.set i v).get i=v:=by rw[F8.MO f i i v h,if_pos rfl]
theorem BI{α:Type}{a b:α}{l:List α}{n:Nat}:(a::b::l).drop (2+n)=l.drop n:=by rw[show 2+n=n+1+1 by omega];rfl
theorem lN{α:Type}{a b c:α}{l:List α}{n:Nat}:(a::b::c::l).drop (3+n)=l.drop n:=by rw[show 3+n=n+1+1+1 by omega];rfl
theorem Du{α:Type}{a b:α}{l:List α}{n:Nat}:(a::b::l).take (2+n)=a::b::l.take n:=by rw[show 2+n=n+1+1 by omega];rfl
theorem wX{α:Type}{a b c:α}{l:List α}{n:Nat}:(a::b::c::l).take (3+n)=a::b::c::l.take n:=by rw[show 3+n=n+1+1+1 by omega];rfl
theorem uO{α:Type}{a b c d:α}{l:List α}{n:Nat}:(a::b::c::l).getD (3+n) d=l.getD n d:=by rw[show 3+n=n+1+1+1 by omega];simp
theorem BU{α:Type}{a b d:α}{l:List α}{n:Nat}:(a::b::l).getD (2+n) d=l.getD n d:=by rw[show 2+n=n+1+1 by omega];simp
theorem Gi{r:List MV}:(MV.int .i64 0::.int .i64 0::.str ⟨#[]⟩::.int .i64 0::.int .i64 0::.str ⟨#[]⟩::.int .i64 0::.int .i64 0::.str ⟨#[]⟩::.int .i64 0::.int .i64 0::.str ⟨#[]⟩ ::
  .int .i64 0::.int .i64 0::.str ⟨#[]⟩::.int .i64 0::.int .i64 0::.str ⟨#[]⟩::.int .i64 0::.int .i64 0::.str ⟨#[]⟩::.int .i64 0::.int .i64 0::.str ⟨#[]⟩::r)=fc f80++r:=rfl
theorem OF{f g:F8}(h:fc f=fc g):f=g:=by
 refine F8.ext fun i hi=>?_
 have h0:=tO (f:=f) (d:=.junk) hi
 have h1:=tP (f:=f) (d:=.junk) hi
 have h2:=p9 (f:=f) (d:=.junk) hi
 rw[h] at h0 h1 h2
 rw[tO hi] at h0
 rw[tP hi] at h1
 rw[p9 hi] at h2
 simp only[MV.int.injEq,MV.str.injEq,true_and] at h0 h1 h2
 generalize f.get i=x at *
 generalize g.get i=y at *
 obtain⟨a,b,c⟩:=x
 obtain⟨a',b',c'⟩:=y
 simp only at h0 h1 h2
 rw[h0,h1,h2]
abbrev PA.c(p:PA):List MV:=.int .u32 (p.mask.toNat:Int)::.int .u32 (p.lab.toNat:Int)::fc p.f
abbrev CA.c(c:CA):List MV:=.int .i64 c.id::.int .i64 c.ver::.int .u32 (c.lab.toNat:Int)::fc c.f
abbrev ED.c(e:ED):List MV:=.int .i64 e.kd::.int .i64 e.id::.int .i64 e.gr::.int .u32 (e.p.mask.toNat:Int)::.int .u32 (e.p.lab.toNat:Int)::fc e.p.f
theorem Bs{a b:UInt32}:((a.toNat:Int)=(b.toNat:Int))↔a=b:=by
 constructor
 ·intro h;exact UInt32.toNat_inj.1 (by exact_mod_cast h)
 ·intro h;rw[h]
end

section
class LB (l:BL) (k:outParam Nat):Prop where
 h:l.length≤k
instance {a b:BL} {i j:Nat} [h:LB a i] [k:LB b j]:LB (a++b) (i+j):=⟨by have:=h.h;have:=k.h;rw[List.length_append];omega⟩
instance:LB [] 0:=⟨Nat.le_refl _⟩
instance {c:Prop} [Decidable c] {a b:BL} {i j:Nat} [h:LB a i] [k:LB b j]:LB (if c then a else b) (i+j):=⟨by have:=h.h;have:=k.h;split<;>omega⟩
theorem LB.le{l:BL}{k n:Nat}[h:LB l k](hk:k≤n):l.length≤n:=Nat.le_trans h.h hk
class Sh (r:RD):Prop where
 h:r.l.length≤1000000
instance {c:Prop} [Decidable c] {r s:RD} [h:Sh r] [k:Sh s]:Sh (if c then r else s):=by
 split
 ·exact h
 ·exact k
end

section
def bU(m:Nat):List Nat:=(List.range 8).filter fun i=>bit m i
theorem Bx{m i:Nat}(h:i∈bU m):i<8:=List.mem_range.1 (List.mem_filter.1 h).1
theorem yR(m:Nat):(bU m).length≤8:=by
 have:=List.length_filter_le (fun i=>bit m i) (List.range 8)
 rwa [List.length_range] at this
theorem G5(m:Nat):bU (m &&& 255)=bU m:=by
 unfold bU
 apply List.filter_congr
 intro i hi
 have hi:=List.mem_range.1 hi
 unfold bit
 rw[Nat.testBit_and]
 have:(255:Nat).testBit i=true:=by
  have h:∀i,i<8→(255:Nat).testBit i=true:=by decide
  exact h i hi
 rw[this,Bool.and_true]
theorem uD:∀s:Nat,s<256→s≠0→bU s=(bU s).headD 0::bU (s &&& (s - 1)):=by decide +kernel
theorem G6:bU 0=[]:=by decide
end

section
inductive Lz (e:Nat) (xs:List (List MV)):MV→Prop where
 | lst (t:Bool):Lz e xs (.lst e xs t)
 | nil (h:xs=[]):Lz e xs .aT
theorem Lz.cell{e:Nat}{xs:List (List MV)}{m:MV}(h:Lz e xs m):m.aP=true:=by cases h<;>rfl
theorem Lz.cells{e:Nat}{xs:List (List MV)}{m:MV}(h:Lz e xs m):m.cells=[m]:=by cases h<;>rfl
theorem Lz.QF{e:Nat}{xs:List (List MV)}{m:MV}(h:Lz e xs m):mB m (.lst e xs false):=by
 cases h with
 | lst t=>cases t with
  | false=>exact .same _
  | true=>exact .tight _ _
 | nil h=>subst h;exact .nil _ _
abbrev CM.k(c:CM)(f:MV):List MV:=.int .i64 c.kd::.int .i64 c.e.kd::.int .i64 c.e.id::.int .i64 c.e.gr::.int .u32 (c.e.p.mask.toNat:Int)::.int .u32 (c.e.p.lab.toNat:Int)::(fc c.e.p.f ++
 .int .i64 c.dev::.int .i64 c.req::.int .i64 c.id::.int .i64 c.base::.int .i64 c.MX::.int .u32 (c.p.mask.toNat:Int)::.int .u32 (c.p.lab.toNat:Int)::(fc c.p.f++[f,.int .u32 (c.mask.toNat:Int)]))
abbrev RE.k(a:RE)(f:MV):List MV:=[.int .i64 a.kd,.int .i64 a.dev,.int .i64 a.req,.int .i64 a.code,.int .i64 a.id,.int .i64 a.ver,.int .i64 a.sq,.int .i64 a.ep,f,.int .u32 (a.mask.toNat:Int)]
abbrev PG.k(p:PG)(i:MV):List MV:=[.int .i64 p.code,.bool p.reset,.int .i64 p.fr.dev,.int .i64 p.fr.ep,.int .i64 p.fr.sq,.int .i64 p.fr.cu,.int .i64 p.to.dev,.int .i64 p.to.ep,.int .i64 p.to.sq,.int .i64 p.to.cu,i]
abbrev MS.k(m:MS)(f g i:MV):List MV:=.int .i64 m.kd::.int .i64 m.size::.int .i64 m.cmd.kd::.int .i64 m.cmd.e.kd::.int .i64 m.cmd.e.id::.int .i64 m.cmd.e.gr::.int .u32 (m.cmd.e.p.mask.toNat:Int)::.int .u32 (m.cmd.e.p.lab.toNat:Int)::(fc m.cmd.e.p.f ++
 .int .i64 m.cmd.dev::.int .i64 m.cmd.req::.int .i64 m.cmd.id::.int .i64 m.cmd.base::.int .i64 m.cmd.MX::.int .u32 (m.cmd.p.mask.toNat:Int)::.int .u32 (m.cmd.p.lab.toNat:Int)::(fc m.cmd.p.f++f::.int .u32 (m.cmd.mask.toNat:Int) ::
 .int .i64 m.tok.dev::.int .i64 m.tok.ep::.int .i64 m.tok.sq::.int .i64 m.tok.cu ::
 .int .i64 m.rep.kd::.int .i64 m.rep.dev::.int .i64 m.rep.req::.int .i64 m.rep.code::.int .i64 m.rep.id::.int .i64 m.rep.ver::.int .i64 m.rep.sq::.int .i64 m.rep.ep::g::.int .u32 (m.rep.mask.toNat:Int) ::
 .int .i64 m.page.code::.bool m.page.reset::.int .i64 m.page.fr.dev::.int .i64 m.page.fr.ep::.int .i64 m.page.fr.sq::.int .i64 m.page.fr.cu::.int .i64 m.page.to.dev::.int .i64 m.page.to.ep::.int .i64 m.page.to.sq::.int .i64 m.page.to.cu::i ::
 [.int .i64 m.code]))
theorem LF{a b:RE}:a=b↔a.kd=b.kd∧a.dev=b.dev∧a.req=b.req∧a.code=b.code∧a.id=b.id∧a.ver=b.ver∧a.sq=b.sq∧a.ep=b.ep∧a.fl=b.fl∧a.mask=b.mask:=by
 obtain⟨a1,a2,a3,a4,a5,a6,a7,a8,a9,a10⟩:=a
 obtain⟨b1,b2,b3,b4,b5,b6,b7,b8,b9,b10⟩:=b
 simp
end

section
def val:BL→Nat
 | []=>0
 | c::l=>c.toNat % 128+128 * val l
end

section
structure YS where
 w:World
 wr:Nat→Prop
 sn:Addr→Option Value
structure oI (S:YS) (w:World):Prop where
 same:∀k,S.wr k→w.heap[k]?=S.w.heap[k]?
 lt:∀k,S.wr k→k<S.w.heap.size
 nomark:∀k,S.wr k→∀x,S.w.heap[k]?≠some (Obj.deferred x)
 sn:∀a v,S.sn a=some v→w.cell? a=some v
 size:S.w.heap.size≤w.heap.size
 os:w.os=S.w.os
 tape:w.tape=S.w.tape
 output:w.output=S.w.output
 drawn:drw S.w≤drw w
structure Apt (Φ:Phi) (σ:St) (S:YS) (w:World):Prop where
 agree:oI S w
 own:∀k,S.wr k→¬bA Φ σ k
 snown:∀a v,S.sn a=some v→¬bA Φ σ a.block
 snap:∀a v,Φ.snap a=some v→¬S.wr a.block
theorem Apt.step{Φ Φ':Phi}{σ σ':St}{S:YS}{w w':World}(h:Apt Φ σ S w)(hs:Step Φ σ w Φ' σ' w'):Apt Φ' σ' S w':=by
 have hlt:∀k,S.wr k→k<w.heap.size:=fun k hk=>Nat.lt_of_lt_of_le (h.agree.lt k hk) h.agree.size
 have hsl:∀a v,S.sn a=some v→a.block<w.heap.size:=fun a v q=>World.block_lt_of_cell? w a (h.agree.sn a v q)
 refine⟨⟨fun k hk=>(hs.block k (hlt k hk) (h.own k hk)).trans (h.agree.same k hk),h.agree.lt,h.agree.nomark,fun a v q=>?_,Nat.le_trans h.agree.size hs.size,hs.os.trans h.agree.os,hs.tape.trans h.agree.tape,hs.output.trans h.agree.output,Nat.le_trans h.agree.drawn hs.drawn⟩,fun k hk ho=>?_,fun a v q ho=>?_,fun a v hv hk=>?_⟩
 ·rw[World.eK (hs.block _ (hsl a v q) (h.snown a v q))]
  exact h.agree.sn a v q
 ·rcases hs.ownd k ho with q|q
  ·exact h.own k hk q
  ·have:=hlt k hk;omega
 ·rcases hs.ownd _ ho with p|p
  ·exact h.snown a v q p
  ·have:=hsl a v q;omega
 ·rcases hs.snapn a v hv with q|q|q
  ·exact h.snap a v q hk
  ·have:=hlt _ hk;omega
  ·exact h.own _ hk q
structure eO (Φ:Phi) (σ:St) (w:World) (S:YS) (Φ':Phi) (σ':St) (w':World) (S':YS):Prop where
 le:Φ.le Φ'
 os:w'.os=w.os
 tape:w'.tape=w.tape
 output:w'.output=w.output
 drawn:drw w≤drw w'
 size:w.heap.size≤w'.heap.size
 block:∀k,k<w.heap.size→¬bA Φ σ k→¬S.wr k→w'.heap[k]?=w.heap[k]?
 snapn:∀a v,Φ'.snap a=some v→Φ.snap a=some v∨w.heap.size≤a.block∨bA Φ σ a.block
 ownd:∀R,bA Φ' σ' R→bA Φ σ R∨w.heap.size≤R
 wr:∀k,S'.wr k→S.wr k∨w.heap.size≤k
 sn:∀a v,S'.sn a=some v→S.sn a=some v∨S.wr a.block∨w.heap.size≤a.block∨Φ.snap a=some v∨bA Φ σ a.block
theorem eO.of{Φ Φ':Phi}{σ σ':St}{w w':World}(S:YS)(hs:Step Φ σ w Φ' σ' w'):eO Φ σ w S Φ' σ' w' S :=
 ⟨hs.le,hs.os,hs.tape,hs.output,hs.drawn,hs.size,fun k hk hn _=>hs.block k hk hn,hs.snapn,hs.ownd,fun k hk=>.inl hk,fun _ _ q=>.inl q⟩
theorem eO.refl(Φ:Phi)(σ:St)(w:World)(S:YS):eO Φ σ w S Φ σ w S:=.of S (.refl Φ σ w)
theorem eO.trans{Φ Φ1 Φ2:Phi}{σ σ1 σ2:St}{w w1 w2:World}{S S1 S2:YS}(h:eO Φ σ w S Φ1 σ1 w1 S1)(k:eO Φ1 σ1 w1 S1 Φ2 σ2 w2 S2):eO Φ σ w S Φ2 σ2 w2 S2 where
 le:=h.le.trans k.le
 os:=k.os.trans h.os
 tape:=k.tape.trans h.tape
 output:=k.output.trans h.output
 drawn:=Nat.le_trans h.drawn k.drawn
 size:=Nat.le_trans h.size k.size
 block:=fun i hi hn hw=>(k.block i (Nat.lt_of_lt_of_le hi h.size) (fun ho=>(h.ownd i ho).elim hn (fun q=>by omega)) (fun ho=>(h.wr i ho).elim hw (fun q=>by omega))).trans (h.block i hi hn hw)
 snapn:=fun a v hv=>by
  rcases k.snapn a v hv with q|q|q
  ·exact h.snapn a v q
  ·exact .inr (.inl (Nat.le_trans h.size q))
  ·rcases h.ownd _ q with q|q
   ·exact .inr (.inr q)
   ·exact .inr (.inl q)
 ownd:=fun R hR=>by
  rcases k.ownd R hR with q|q
  ·exact h.ownd R q
  ·exact .inr (Nat.le_trans h.size q)
 wr:=fun i hi=>by
  rcases k.wr i hi with q|q
  ·exact h.wr i q
  ·exact .inr (Nat.le_trans h.size q)
 sn:=fun a v hv=>by
  rcases k.sn a v hv with q|q|q|q|q
  ·exact h.sn a v q
  ·rcases h.wr _ q with q|q
   ·exact .inr (.inl q)
   ·exact .inr (.inr (.inl q))
  ·exact .inr (.inr (.inl (Nat.le_trans h.size q)))
  ·rcases h.snapn a v q with q|q|q
   ·exact .inr (.inr (.inr (.inl q)))
   ·exact .inr (.inr (.inl q))
   ·exact .inr (.inr (.inr (.inr q)))
  ·rcases h.ownd _ q with q|q
   ·exact .inr (.inr (.inr (.inr q)))
   ·exact .inr (.inr (.inl q))
def pV(P:Program)(l:Nat)(xs:List (List MV))(Y:Nat→YS→Prop)(Yx:YS→Prop)(Φ0:Phi)(σ0:St)(n0:Nat):Prop :=
 ∀(i:Nat) (x:List MV) (S:YS) (w:World) (Ψ:Phi) (vs:Array Value),xs[i]?=some x→Y i S→oI S w→n0≤w.heap.size→(∀m,Ψ.obj m=none) →
  (∀a v,Ψ.snap a=some v→w.cell? a=some v∧¬S.wr a.block∧(Φ0.snap a=some v∨n0≤a.block∨bA Φ0 σ0 a.block))→hO Ψ vs x →
  YieldAt Fence.wide 0 P l vs w fun e w'=>∃b S',e=.returned (.bool b)∧S'.w=w'∧oI S' w'∧w'.os=w.os∧w'.tape=w.tape∧w'.output=w.output∧drw w≤drw w'∧w.heap.size≤w'.heap.size ∧
   (∀k,k<w.heap.size→¬S.wr k→w'.heap[k]?=w.heap[k]?)∧(∀k,S'.wr k→S.wr k∨w.heap.size≤k) ∧
   (∀a v,S'.sn a=some v→S.sn a=some v∨S.wr a.block∨w.heap.size≤a.block∨Ψ.snap a=some v)∧(if b=true then Y (i+1) S' else Yx S')
def DH(P:Program)(g:FuncId)(ns:List MV)(σi:St)(xs:List (List MV)):Prop :=
 Enters P g∧∀(l:Nat) (Y:Nat→YS→Prop) (Yx:YS→Prop) (Φ:Phi) (w:World) (S:YS) (vs:Array Value),pV P l xs Y Yx Φ σi w.heap.size→Inv Φ w σi→Apt Φ σi S w→Y 0 S→hO Φ vs ns →
  Calls P g (#[.func (.yield l) #[] #[]]++vs) w fun e w'=>∃v Φ' σ' S',e=.returned v∧Inv Φ' w' σ'∧Apt Φ' σ' S' w'∧eO Φ σi w S Φ' σ' w' S'∧(Y xs.length S'∨Yx S')
def oQ(f:FR):List Tmp→List MV→FR
 | p::ps,x::xs=>oQ (bI f (some p) x) ps xs
 | _,_=>f
theorem Nv(ps:List Tmp):∀(f:FR) (xs:List MV),(oQ f ps xs).d=f.d:=by
 induction ps with
 | nil=>intro f xs;rfl
 | cons p ps ih =>
  intro f xs
  cases xs with
  | nil=>rfl
  | cons x xs=>rw[oQ,ih,fN]
theorem y6{Φ:Phi}:∀(ps:List Tmp) (xs:List MV) (vs:List Value) (tmps:Array Value) (f:FR),dC Φ tmps f→vs.length=xs.length→(∀(i:Nat) m,xs[i]?=some m→Rel Φ (vs.getD i undef) m) →
  dC Φ ((ps.zip vs).foldl (fun t (p:Tmp × Value)=>t.setIfInBounds p.1 p.2) tmps) (oQ f ps xs)
 | [],_,_,_,_,h,_,_=>by simpa[oQ] using h
 | _::_,[],[],_,_,h,_,_=>by simpa[oQ] using h
 | p::ps,x::xs,v::vs,tmps,f,h,hl,hr=>by
  simp only[List.zip_cons_cons,List.foldl_cons,oQ]
  refine y6 ps xs vs _ _ ?_ (by simpa using hl) (fun i m hm=>by have:=hr (i+1) m (by simpa using hm);simpa using this)
  have:=eF (a:={ tmps:=tmps,defers:=[] }) h (some p) (hr 0 x rfl)
  simpa[Act.put] using this
 | _::_,[],_::_,_,_,_,hl,_=>by simp at hl
 | _::_,_::_,[],_,_,_,hl,_=>by simp at hl
theorem Hs{β:Type}(ps:Array Tmp)(vs:Array Value)(g:β→Tmp × Value→β)(b:β):(ps.zip vs).foldl g b=(ps.toList.zip vs.toList).foldl g b:=by
 rw[←Array.foldl_toList,Array.toList_zip]
end

section
theorem Inv.grow{Φ:Phi}{w w':World}{σ:St}(hi:Inv Φ w σ)(h1:w'.os=w.os)(h2:w'.tape=w.tape)(h3:w'.output=w.output)(h4:drw w≤drw w')(h5:w.heap.size≤w'.heap.size)(hb:∀k,k<w.heap.size→w'.heap[k]?=w.heap[k]?) :
  Inv Φ w' σ∧Step Φ σ w Φ σ w' :=
 ⟨⟨fun l o h=>(hi.own l o h).mono (.refl Φ) fun p R hp hR=>by
   obtain⟨p',hp',hlt⟩:=(hi.own l o h).place
   rw[hp] at hp';cases hp'
   exact hb R (hlt R hR),hi.inj,fun a v h=>by
   rw[World.eK (hb _ (World.block_lt_of_cell? w a (hi.snap a v h)))]
   exact hi.snap a v h,hi.apart,hi.fresh⟩,
  ⟨.refl Φ,h1,h2,h3,h4,h5,fun k hk _=>hb k hk,fun _ _ h=>.inl h,fun l o h=>.inl ⟨o,h⟩,fun _ h=>.inl h⟩⟩
structure pT (Φ0:Phi) (σ0:St) (n0:Nat) (Φ:Phi) (σ:St):Prop where
 le:Φ0.le Φ
 snapn:∀a v,Φ.snap a=some v→Φ0.snap a=some v∨n0≤a.block∨bA Φ0 σ0 a.block
 locs:∀l o,σ l=some o→(∃o',σ0 l=some o')∨Φ0.obj l=none
 ownd:∀R,bA Φ σ R→bA Φ0 σ0 R∨n0≤R
theorem pT.of{Φ Φ':Phi}{σ σ':St}{w w':World}(h:Step Φ σ w Φ' σ' w'):pT Φ σ w.heap.size Φ' σ':=⟨h.le,h.snapn,h.locs,h.ownd⟩
theorem pT.step{Φ0 Φ Φ':Phi}{σ0 σ σ':St}{n0:Nat}{w w':World}(h:pT Φ0 σ0 n0 Φ σ)(hn:n0≤w.heap.size)(k:Step Φ σ w Φ' σ' w'):pT Φ0 σ0 n0 Φ' σ' where
 le:=h.le.trans k.le
 snapn:=fun a v hv=>by
  rcases k.snapn a v hv with q|q|q
  ·exact h.snapn a v q
  ·exact .inr (.inl (Nat.le_trans hn q))
  ·rcases h.ownd _ q with q|q
   ·exact .inr (.inr q)
   ·exact .inr (.inl q)
 locs:=fun l o hl=>by
  rcases k.locs l o hl with⟨o',q⟩|q
  ·exact h.locs l o' q
  ·right
   cases hl:Φ0.obj l with
   | none=>rfl
   | some p=>have:=h.le.obj l p hl;simp[this] at q
 ownd:=fun R hR=>by
  rcases k.ownd R hR with q|q
  ·exact h.ownd R q
  ·exact .inr (Nat.le_trans hn q)
structure CSt (Φ0:Phi) (σ0:St) (n0:Nat) (tmps:Array Value) (fc:FR) (l:Nat) (st:Loop) (σ:St) (S:YS) (Φ:Phi):Prop where
 inv:Inv Φ S.w σ
 frame:dC Φ tmps fc
 step:pT Φ0 σ0 n0 Φ σ
 wr:∀k,S.wr k↔(bA Φ σ k∨k=l)
 sn:∀a,S.sn a=Φ.snap a
 lrec:S.w.heap[l]?=some (.loop st)
 size:n0≤S.w.heap.size
 base:Φ.base≤S.w.heap.size
theorem Inv.AF{Φ:Phi}{w:World}{σ:St}(hi:Inv Φ w σ){l:Nat}{st:Loop}(h:w.heap[l]?=some (.loop st)):¬bA Φ σ l :=
 hi.vK (fun c t fz e=>by rw[h] at e;cases e) (fun c k e=>by rw[h] at e;cases e) (fun _ _ _ _ e=>by rw[h] at e;cases e)
theorem CSt.agree{Φ0 Φ:Phi}{σ0 σ:St}{n0:Nat}{tmps:Array Value}{fc:FR}{l:Nat}{st:Loop}{S:YS}(h:CSt Φ0 σ0 n0 tmps fc l st σ S Φ):oI S S.w :=
 ⟨fun _ _=>rfl,fun k hk=>by
  rcases (h.wr k).1 hk with q|rfl
  ·obtain⟨l',o,p,h1,h2,h3⟩:=q
   obtain⟨p',e,hlt⟩:=(h.inv.own l' o h1).place
   rw[h2] at e;cases e
   exact hlt k h3
  ·exact(Array.getElem?_eq_some_iff.1 h.lrec).1,(fun k hk x e=>by
  rcases (h.wr k).1 hk with q|rfl
  ·exact h.inv.mark e q
  ·rw[h.lrec] at e;cases e),fun a v q=>h.inv.snap a v (by rw[←h.sn a];exact q),Nat.le_refl _,rfl,rfl,rfl,Nat.le_refl _⟩
theorem CSt.at{Φ0 Φ:Phi}{σ0 σ:St}{n0:Nat}{tmps:Array Value}{fc:FR}{l:Nat}{st:Loop}{S:YS}(h:CSt Φ0 σ0 n0 tmps fc l st σ S Φ){w:World}(ha:oI S w){Ψ:Phi}(ho:∀m,Ψ.obj m=none)
 (hs:∀a v,Ψ.snap a=some v→w.cell? a=some v∧¬S.wr a.block∧(Φ0.snap a=some v∨n0≤a.block∨bA Φ0 σ0 a.block)) :
  ∃Φ',Inv Φ' w σ∧dC Φ' tmps fc∧pT Φ0 σ0 n0 Φ' σ∧(∀k,bA Φ' σ k↔bA Φ σ k)∧(∀a v,Φ'.snap a=some v→S.sn a=some v∨Ψ.snap a=some v)∧(∀v m,Rel Ψ v m→Rel Φ' v m)∧w.heap[l]?=some (.loop st)∧Φ'.base≤w.heap.size:=by
 obtain⟨Φ',hΦ⟩:∃Φ':Phi,Φ'={ Φ with snap:=fun a=>match Φ.snap a with|some v=>some v|none=>Ψ.snap a }:=⟨_,rfl⟩
 have hle:Φ.le Φ':=by subst hΦ;exact⟨fun a v q=>by simp[q],fun _ _ q=>q,rfl⟩
 have hobj:Φ'.obj=Φ.obj:=by subst hΦ;rfl
 have hb:Φ'.base=Φ.base:=by subst hΦ;rfl
 have hsn:∀a v,Φ'.snap a=some v→Φ.snap a=some v∨Ψ.snap a=some v:=fun a v q=>by
  subst hΦ
  simp only at q
  cases e:Φ.snap a with
  | none=>rw[e] at q;exact .inr q
  | some u=>rw[e] at q;exact .inl q
 have hwr:∀k,bA Φ σ k→w.heap[k]?=S.w.heap[k]?:=fun k hk=>ha.same k ((h.wr k).2 (.inl hk))
 have hown:∀k,bA Φ' σ k↔bA Φ σ k:=fun k=>by unfold bA;rw[hobj]
 refine⟨Φ',⟨fun l' o hl=>(h.inv.own l' o hl).mono hle fun p R h1 h2=>hwr R ⟨l',o,p,hl,h1,h2⟩,fun a b o o' p p' R h1 h2 h3 h4=>?_,fun a v q=>?_,fun l' o p R a v h1 h2 h3 q=>?_,?_⟩,h.frame.mono hle,⟨h.step.le.trans hle,fun a v q=>?_,h.step.locs,fun R hR=>h.step.ownd R ((hown R).1 hR)⟩,hown,fun a v q=>?_,fun v m r=>?_,?_,?_⟩
 ·rw[hobj] at h3 h4;exact h.inv.inj a b o o' p p' R h1 h2 h3 h4
 ·rcases hsn a v q with q|q
  ·exact ha.sn a v (by rw[h.sn a];exact q)
  ·exact(hs a v q).1
 ·rw[hobj] at h2
  rcases hsn a v q with q|q
  ·exact h.inv.apart l' o p R a v h1 h2 h3 q
  ·intro e
   exact(hs a v q).2.1 ((h.wr _).2 (.inl ⟨l',o,p,h1,h2,e ▸ h3⟩))
 ·obtain⟨n,hn⟩:=h.inv.fresh.1.1
  exact⟨⟨⟨n,fun k hk=>by rw[hobj];exact hn k hk⟩,fun k p hk=>h.inv.fresh.1.2 k p (by rw[←hobj];exact hk)⟩,fun g i v q=>hle.snap _ _ (h.inv.fresh.2.1 g i v q),h.inv.fresh.2.2.mono hle.snap⟩
 ·rcases hsn a v q with q|q
  ·exact h.step.snapn a v q
  ·exact(hs a v q).2.2
 ·rcases hsn a v q with q|q
  ·exact .inl (by rw[h.sn a];exact q)
  ·exact .inr q
 ·refine r.GC (fun a u q=>?_) (fun l' p q=>by rw[ho l'] at q;cases q)
  have h1:=(hs a u q).1
  subst hΦ
  simp only
  cases e:Φ.snap a with
  | none=>exact q
  | some u' =>
   have h2:=ha.sn a u' (by rw[h.sn a];exact e)
   rw[h1] at h2
   simpa using h2.symm
 ·rw[ha.same l ((h.wr l).2 (.inr rfl))];exact h.lrec
 ·rw[hb];exact Nat.le_trans h.base ha.size
def Lp(K:FR→St→Prop):MQ
 | .normal,f,σ=>K f σ
 | _,_,_=>False
def v7(Q:MQ)(fc:FR)(nxt:St→Prop):MQ
 | .normal,f,σ=>Gh f σ fun _ σ1=>nxt σ1
 | .ret,f,σ=>Gh f σ fun _ σ1=>Q .ret fc σ1
 | .exit id,f,σ=>Gh f σ fun _ σ1=>Q (.exit id) fc σ1
 | _,_,_=>False
theorem LJ{P:Program}{Φ0:Phi}{σ0:St}{n0:Nat}{tmps:Array Value}{fc:FR}{l:Nat}{fn:FuncId}{ps:Array Tmp}{assign body:Code}{Q:MQ}{nxt:St→Prop}{D:Nat}{σ:St}{S:YS}{Φ:Phi}{x:List MV}{w:World}{Ψ:Phi}{vs:Array Value}
 (rec:LoopState→Option Code→Loop)(hrec:rec=fun st pe=>{ state:=st,pending:=pe,fn,tmps,params:=ps,assign,body,defers:=D })
 (nda:iM assign=true)(ndb:iM body=true)(hx:x.length=ps.size)
 (hr:mwp P assign (oQ ⟨fc.n,fc.l,[]⟩ ps.toList x) σ (Lp fun f1 σ1=>mwp P body f1 σ1 (v7 Q fc nxt)))
 (h:CSt Φ0 σ0 n0 tmps fc l (rec .ready none) σ S Φ)(ha:oI S w)(hn0:n0≤w.heap.size)(ho:∀m,Ψ.obj m=none)
 (hs:∀a v,Ψ.snap a=some v→w.cell? a=some v∧¬S.wr a.block∧(Φ0.snap a=some v∨n0≤a.block∨bA Φ0 σ0 a.block))(hv:hO Ψ vs x) :
  YieldAt Fence.wide 0 P l vs w fun e w'=>∃b S',e=.returned (.bool b)∧S'.w=w'∧oI S' w'∧w'.os=w.os∧w'.tape=w.tape∧w'.output=w.output∧drw w≤drw w'∧w.heap.size≤w'.heap.size ∧
   (∀k,k<w.heap.size→¬S.wr k→w'.heap[k]?=w.heap[k]?)∧(∀k,S'.wr k→S.wr k∨w.heap.size≤k) ∧
   (∀a v,S'.sn a=some v→S.sn a=some v∨S.wr a.block∨w.heap.size≤a.block∨Ψ.snap a=some v) ∧
   (if b=true then ∃σ1 Φ1,nxt σ1∧CSt Φ0 σ0 n0 tmps fc l (rec .ready none) σ1 S' Φ1 else ∃c σ1 Φ1,((c=.ret∧Q .ret fc σ1)∨∃id,c=.exit id∧Q (.exit id) fc σ1)∧CSt Φ0 σ0 n0 tmps fc l (rec .done (some c)) σ1 S' Φ1):=by
 obtain⟨Φc,i1,fr1,c1,o1,s1,r1,l1,b1⟩:=h.at ha ho hs
 have hl:l<w.heap.size:=(Array.getElem?_eq_some_iff.1 l1).1
 have hwl:S.wr l:=(h.wr l).2 (.inr rfl)
 have hy:=run_yield (P:=P) (args:=vs) l1 (by rw[hrec];exact hv.1.trans hx)
 rw[hrec] at hy
 refine⟨fn,_,assign,body,hy,roundIn_of_wpIn trivial ?_⟩
 have hfr:dC Φc ((ps.zip vs).foldl (fun t (p:Tmp × Value)=>t.setIfInBounds p.1 p.2) tmps) (oQ ⟨fc.n,fc.l,[]⟩ ps.toList x):=by
  rw[Hs]
  refine y6 ps.toList x vs.toList tmps ⟨fc.n,fc.l,[]⟩ fr1 (by simpa using hv.1) fun i m hm=>?_
  have:=r1 _ _ (hv.2 i m hm)
  simpa[Array.getD_eq_getD_getElem?,List.getD_eq_getElem?_getD] using this
 refine wpIn_mono (hr (Fence.wide.inRound l) (.inr ⟨l,rfl,nda⟩) Φc w { tmps:=_,defers:=[] } i1 hfr (by rw[Nv];exact⟨rfl,b1⟩)) ?_
 rintro e a₁ w₁ ⟨f2,σ2,Φ2,d2,fr2,i2,st2,q⟩
 cases e with
 | normal =>
  have hnl:¬bA Φc σ l:=i1.AF l1
  have hl2:w₁.heap[l]?=some (.loop (rec .ready none)):=(st2.block l hl hnl).trans l1
  refine⟨_,run_beginRound hl2 (by rw[hrec]),?_⟩
  obtain⟨w₂,hw2⟩:∃w₂,w₁.putObj l (.loop { rec .ready none with state:=.busy })=w₂:=⟨_,rfl⟩
  rw[hw2]
  have i2':Inv Φ2 w₂ σ2:=by rw[←hw2];exact i2.putObj _ hl2 (fun _ _ _ e=>by cases e) (fun _ _ e=>by cases e)
  have sz2:w₂.heap.size=w₁.heap.size:=by rw[←hw2,World.putObj_size]
  have ll2:w₂.heap[l]?=some (.loop { rec .ready none with state:=.busy }):=by rw[←hw2];exact World.putObj_heap_same (Array.getElem?_eq_some_iff.1 hl2).1
  have d2':eG Φ2 w₂ a₁.defers f2.d:=d2.mono (.refl _) (by omega) fun D' hD=>by
   rw[←hw2,World.putObj_heap_other]
   ·exact hD
   ·rintro rfl;rw[hl2] at hD;cases hD
  have q:mwp P body f2 σ2 (v7 Q fc nxt):=q
  refine wpIn_mono (q (Fence.wide.inRound l) (.inr ⟨l,rfl,ndb⟩) Φ2 w₂ a₁ i2' fr2 d2') ?_
  rintro e a₃ w₃ ⟨f3,σ3,Φ3,d3,fr3,i3,st3,q3⟩
  have hnl2:¬bA Φ2 σ2 l:=i2'.AF ll2
  have hl3:w₃.heap[l]?=some (.loop { rec .ready none with state:=.busy }):=(st3.block l (Array.getElem?_eq_some_iff.1 ll2).1 hnl2).trans ll2
  -- what a round comes to,whichever way it is left
  have fin:∀(jump:Option Code) (st:Loop) (σ4:St) (K:FR→St→Prop),st=rec (if jump.isNone then .ready else .done) jump→Gh f3 σ3 K →
    ∃σ4 f4 Φ4,K f4 σ4∧(Instr.endRound l jump).run P w₃=.ok (.bool jump.isNone) (w₃.putObj l (.loop st)) ∧
     (∃S':YS,S'.w=w₃.putObj l (.loop st)∧oI S' (w₃.putObj l (.loop st))∧(w₃.putObj l (.loop st)).os=w.os∧(w₃.putObj l (.loop st)).tape=w.tape∧(w₃.putObj l (.loop st)).output=w.output∧drw w≤drw (w₃.putObj l (.loop st))∧w.heap.size≤(w₃.putObj l (.loop st)).heap.size ∧
      (∀k,k<w.heap.size→¬S.wr k→(w₃.putObj l (.loop st)).heap[k]?=w.heap[k]?)∧(∀k,S'.wr k→S.wr k∨w.heap.size≤k) ∧
      (∀a v,S'.sn a=some v→S.sn a=some v∨S.wr a.block∨w.heap.size≤a.block∨Ψ.snap a=some v)∧CSt Φ0 σ0 n0 tmps fc l st σ4 S' Φ4):=by
   intro jump st _ K hst hg
   obtain⟨f4,σ4,Φ4,-,k4,i4,fr4,st4⟩:=hg Φ3 w₃ a₃.tmps i3 fr3
   have hend:=run_endRound (P:=P) jump hl3
   have hst':({ ({ rec .ready none with state:=.busy }:Loop) with state:=if jump.isNone then .ready else .done,pending:=jump }:Loop)=st:=by rw[hst,hrec]
   rw[hst'] at hend
   refine⟨σ4,f4,Φ4,k4,hend,?_⟩
   obtain⟨w₄,hw4⟩:∃w₄,w₃.putObj l (.loop st)=w₄:=⟨_,rfl⟩
   rw[hw4]
   have sz4:w₄.heap.size=w₃.heap.size:=by rw[←hw4,World.putObj_size]
   have i4':Inv Φ4 w₄ σ4:=by rw[←hw4];exact i4.putObj _ hl3 (fun _ _ _ e=>by cases e) (fun _ _ e=>by cases e)
   have cs:pT Φ0 σ0 n0 Φ4 σ4:=((c1.step hn0 st2).step (w:=w₂) (by have:=st2.size;omega) st3).step (w:=w₃) (by have:=st2.size;have:=st3.size;omega) st4
   have hsz:w.heap.size≤w₃.heap.size:=by have:=st2.size;have:=st3.size;omega
   have oth:∀k,k≠l→w₄.heap[k]?=w₃.heap[k]?:=fun k hk=>by rw[←hw4];exact World.putObj_heap_other hk
   have oth2:∀k,k≠l→w₂.heap[k]?=w₁.heap[k]?:=fun k hk=>by rw[←hw2];exact World.putObj_heap_other hk
   have ow:∀k,bA Φ4 σ4 k→S.wr k∨w.heap.size≤k:=fun k hk=>by
    rcases st4.ownd k hk with q|q
    ·rcases st3.ownd k q with q|q
     ·rcases st2.ownd k q with q|q
      ·exact .inl ((h.wr k).2 (.inl ((o1 k).1 q)))
      ·exact .inr q
     ·have:=st2.size;exact .inr (by omega)
    ·exact .inr (by omega)
   have hcst:CSt Φ0 σ0 n0 tmps fc l st σ4 ⟨w₄,fun k=>bA Φ4 σ4 k∨k=l,Φ4.snap⟩ Φ4 :=
    ⟨i4',fr1.mono ((st2.le.trans st3.le).trans st4.le),cs,fun _=>Iff.rfl,fun _=>rfl,by simp only;rw[←hw4];exact World.putObj_heap_same (Array.getElem?_eq_some_iff.1 hl3).1,by simp only;omega,by
     simp only
     rw[st4.le.base,st3.le.base,st2.le.base];omega⟩
   refine⟨⟨w₄,fun k=>bA Φ4 σ4 k∨k=l,Φ4.snap⟩,rfl,hcst.agree,?_,?_,?_,?_,by omega,fun k hk hw=>?_,fun k hk=>?_,fun a v hv=>?_,hcst⟩
   ·have e1:w₄.os=w₃.os:=by rw[←hw4];rfl
    have e2:w₂.os=w₁.os:=by rw[←hw2];rfl
    rw[e1,st3.os,e2,st2.os]
   ·have e1:w₄.tape=w₃.tape:=by rw[←hw4];rfl
    have e2:w₂.tape=w₁.tape:=by rw[←hw2];rfl
    rw[e1,st3.tape,e2,st2.tape]
   ·have e1:w₄.output=w₃.output:=by rw[←hw4];rfl
    have e2:w₂.output=w₁.output:=by rw[←hw2];rfl
    rw[e1,st3.output,e2,st2.output]
   ·have e1:drw w₄=drw w₃:=by rw[←hw4];rfl
    have e2:drw w₂=drw w₁:=by rw[←hw2];rfl
    have:=st2.drawn
    have:=st3.drawn
    omega
   ·have hkl:k≠l:=fun e=>hw (e ▸ hwl)
    have hno:¬bA Φc σ k:=fun q=>hw ((h.wr k).2 (.inl ((o1 k).1 q)))
    have hno2:¬bA Φ2 σ2 k:=fun q=>(st2.ownd k q).elim hno (fun q=>by omega)
    rw[oth k hkl,st3.block k (by have:=st2.size;omega) hno2,oth2 k hkl,st2.block k hk hno]
   ·rcases hk with q|rfl
    ·exact ow k q
    ·exact .inl hwl
   ·have hv:Φ4.snap a=some v:=hv
    have ow3:∀k,bA Φ3 σ3 k→S.wr k∨w.heap.size≤k:=fun k hk=>by
     rcases st3.ownd k hk with q|q
     ·rcases st2.ownd k q with q|q
      ·exact .inl ((h.wr k).2 (.inl ((o1 k).1 q)))
      ·exact .inr q
     ·have:=st2.size;exact .inr (by omega)
    have ow2:∀k,bA Φ2 σ2 k→S.wr k∨w.heap.size≤k:=fun k hk=>by
     rcases st2.ownd k hk with q|q
     ·exact .inl ((h.wr k).2 (.inl ((o1 k).1 q)))
     ·exact .inr q
    have tw:S.wr a.block∨w.heap.size≤a.block→S.sn a=some v∨S.wr a.block∨w.heap.size≤a.block∨Ψ.snap a=some v:=fun q=>q.elim (fun q=>.inr (.inl q)) (fun q=>.inr (.inr (.inl q)))
    rcases st4.snapn a v hv with q|q|q
    ·rcases st3.snapn a v q with q|q|q
     ·rcases st2.snapn a v q with q|q|q
      ·rcases s1 a v q with q|q
       ·exact .inl q
       ·exact .inr (.inr (.inr q))
      ·exact tw (.inr q)
      ·exact tw (.inl ((h.wr _).2 (.inl ((o1 _).1 q))))
     ·have:=st2.size;exact tw (.inr (by omega))
     ·exact tw (ow2 _ q)
    ·exact tw (.inr (by omega))
    ·exact tw (ow3 _ q)
  cases e with
  | normal =>
   obtain⟨σ4,f4,Φ4,k4,hend,S',hS1,hS2,hS3,hS4,hS5,hS6,hS7,hS8,hS9,hS10,hS11⟩:=fin none (rec .ready none) σ3 _ rfl q3
   exact⟨_,_,hend,true,S',rfl,hS1,hS2,hS3,hS4,hS5,hS6,hS7,hS8,hS9,hS10,σ4,Φ4,k4,hS11⟩
  | ret =>
   obtain⟨σ4,f4,Φ4,k4,hend,S',hS1,hS2,hS3,hS4,hS5,hS6,hS7,hS8,hS9,hS10,hS11⟩:=fin (some .ret) (rec .done (some .ret)) σ3 _ rfl q3
   exact⟨_,_,hend,false,S',rfl,hS1,hS2,hS3,hS4,hS5,hS6,hS7,hS8,hS9,hS10,.ret,σ4,Φ4,.inl ⟨rfl,k4⟩,hS11⟩
  | exit id =>
   obtain⟨σ4,f4,Φ4,k4,hend,S',hS1,hS2,hS3,hS4,hS5,hS6,hS7,hS8,hS9,hS10,hS11⟩:=fin (some (.exit id)) (rec .done (some (.exit id))) σ3 _ rfl q3
   exact⟨_,_,hend,false,S',rfl,hS1,hS2,hS3,hS4,hS5,hS6,hS7,hS8,hS9,hS10,.exit id,σ4,Φ4,.inr ⟨id,rfl,k4⟩,hS11⟩
  | goto l=>exact q3.elim
  | panic c=>exact q3.elim
  | outgrown=>exact q3.elim
 | exit id=>exact q.elim
 | goto l=>exact q.elim
 | ret=>exact q.elim
 | panic c=>exact q.elim
 | outgrown=>exact q.elim
end

section
theorem St.qI(σ τ:St):(σ.minus τ).le σ:=fun l o h=>(cU h).2
theorem oR{P:Program}{g:Operand}{ps:Array Tmp}{assign body:Code}{f:FR}{σ:St}{Q:MQ}{gf:FuncId}{ns:List MV}(hg:aK f g=.fn (.func gf) [] ns){σi:St}(hle:σi.le σ){xs:List (List MV)}
 (hseq:DH P gf ns σi xs)(hx:∀x,x∈xs→x.length=ps.size)(nda:iM assign=true)(ndb:iM body=true){α:Type}(fc:FR)(hd0:fc.d=f.d)(S:Nat→α→St)(p:Nat→α→Prop)
 (h0:Gh f (σ.minus σi) fun f1 σ1=>f1=fc∧∃a,σ1=S 0 a∧p 0 a)
 (round:∀i x a,xs[i]?=some x→p i a→mwp P assign (oQ ⟨fc.n,fc.l,[]⟩ ps.toList x) (S i a) (Lp fun f1 σ1=>mwp P body f1 σ1 (v7 Q fc fun σ2=>∃b,σ2=S (i+1) b∧p (i+1) b)))
 (done:∀a,p xs.length a→Q .normal fc (S xs.length a)):mwp P (.rangeFunc g ps assign body) f σ Q:=by
 intro F hF Φ w a hi hr hd
 have hF':F=Fence.wide:=by
  rcases hF with h|⟨l,_,h⟩
  ·exact h
  ·cases h
 subst hF'
 obtain⟨f1,σ1,Φ1,-,⟨rfl,a0,rfl,p0⟩,i1,r1,st1⟩:=h0 Φ w a.tmps (hi.less (St.qI σ σi)) hr
 have hv:=aQ hr g
 rw[hg] at hv
 obtain⟨first,cap,he,hfirst,hcap⟩:=hv.mP
 have hfe:first=#[]:=by
  have:=hfirst.1
  exact Array.eq_empty_of_size_eq_zero (by simpa using this)
 subst hfe
 obtain⟨fnn,hfn,hbody,hname⟩:=hseq.1
 have eg:∀(args:Array Value) (w:World),(callFunc gf args).run P w=.ok (.enter gf args) w:=fun args w=>by
  simp only[callFunc,Sem.run_bind,run_program,hfn,hname,hbody,Result.andThen_ok,Bool.false_eq_true,if_false,Sem.run_pure]
 refine wpIn_rangeFunc fun fn _=>?_
 obtain⟨rec,hrec⟩:∃rec:LoopState→Option Code→Loop,rec=fun st pe=>{ state:=st,pending:=pe,fn,tmps:=a.tmps,params:=ps,assign,body,defers:=w.heap.size }:=⟨_,rfl⟩
 obtain⟨W1,hW1⟩:∃W1,(w.alloc (.deferred (some []))).alloc (.loop (rec .ready none))=W1:=⟨_,rfl⟩
 have sz1:W1.heap.size=w.heap.size+2:=by rw[←hW1,World.size_alloc,World.size_alloc]
 have old:∀k,k<w.heap.size→W1.heap[k]?=w.heap[k]?:=fun k hk=>by
  rw[←hW1]
  show((w.heap.push _).push _)[k]?=_
  rw[Array.getElem?_push,if_neg (by simp;omega),Array.getElem?_push,if_neg (by omega)]
 have hL:W1.heap[w.heap.size+1]?=some (.loop (rec .ready none)):=by
  rw[←hW1];have:=World.alloc_heap_new (w.alloc (.deferred (some []))) (.loop (rec .ready none));rwa [World.size_alloc] at this
 have hD:W1.heap[w.heap.size]?=some (Obj.deferred (some [])):=by
  rw[←hW1]
  show((w.heap.push _).push _)[w.heap.size]?=_
  rw[Array.getElem?_push,if_neg (by simp),Array.getElem?_push,if_pos rfl]
 have eos:W1.os=w.os:=by rw[←hW1];rfl
 have eta:W1.tape=w.tape:=by rw[←hW1];rfl
 have eou:W1.output=w.output:=by rw[←hW1];rfl
 have edr:drw W1=drw w:=by rw[←hW1];rfl
 have gr:∀{Φ:Phi} {σ:St},Inv Φ w σ→Inv Φ W1 σ∧Step Φ σ w Φ σ W1:=fun h=>h.grow eos eta eou (by omega) (by omega) old
 have own1:∀k,bA Φ1 (S 0 a0) k→bA Φ (σ.minus σi) k:=fun k hk=>by
  rcases st1.ownd k hk with q|q
  ·exact q
  ·exfalso
   obtain⟨l,o,p,h1,h2,h3⟩:=hk
   obtain⟨p',e,hlt⟩:=(i1.own l o h1).place
   rw[h2] at e;cases e
   have:=hlt k h3
   omega
 have ownσ:∀{τ:St},τ.le σ→∀k,bA Φ τ k→bA Φ σ k:=fun hτ k hk=>hk.less hτ
 have apart2:∀k,bA Φ (σ.minus σi) k→¬bA Φ σi k:=fun k ⟨l,o,p,h1,h2,h3⟩ ⟨l',o',p',h4,h5,h6⟩=>by
  have e:=hi.inj l l' o o' p p' k (cU h1).2 (hle l' o' h4) h2 h5 h3 h6
  subst e
  have:=(cU h1).1
  rw[h4] at this;cases this
 have hb:=hd.base
 obtain⟨S0,hS0⟩:∃S0:YS,S0=⟨W1,fun k=>bA Φ1 (S 0 a0) k∨k=w.heap.size+1,Φ1.snap⟩:=⟨_,rfl⟩
 have c0:pT Φ σ w.heap.size Φ1 (S 0 a0):=⟨st1.le,fun b v q=>(st1.snapn b v q).imp_right (fun q=>q.imp_right (ownσ (St.qI _ _) _)),fun l o q=>by
  rcases st1.locs l o q with⟨o',h⟩|h
  ·exact .inl ⟨o',(cU h).2⟩
  ·exact .inr h,fun R hR=>.inl (ownσ (St.qI _ _) _ (own1 R hR))⟩
 have cst0:CSt Φ σ w.heap.size a.tmps f1 (w.heap.size+1) (rec .ready none) (S 0 a0) S0 Φ1:=by
  subst hS0
  exact⟨(gr i1).1,r1,c0,fun _=>Iff.rfl,fun _=>rfl,hL,by simp only;omega,by simp only;rw[st1.le.base];omega⟩
 have apt0:Apt Φ σi S0 W1:=by
  have hag:=cst0.agree
  subst hS0
  refine⟨hag,fun k hk=>?_,fun b v q'=>?_,fun b v q hk=>?_⟩
  ·rcases hk with hk|rfl
   ·exact apart2 k (own1 k hk)
   ·exact(gr (hi.less hle)).1.AF hL
  ·rintro⟨l,o,p,h1,h2,h3⟩
   rcases st1.snapn b v q' with q|q|q
   ·exact hi.apart l o p b.block b v (hle l o h1) h2 h3 q rfl
   ·have hlt:=World.block_lt_of_cell? w b (i1.snap b v q')
    omega
   ·exact apart2 _ q ⟨l,o,p,h1,h2,h3⟩
  ·have hbl:=World.block_lt_of_cell? w b (hi.snap b v q)
   rcases hk with hk|hk
   ·obtain⟨l,o,p,h1,h2,h3⟩:=own1 _ hk
    exact hi.apart l o p b.block b v (cU h1).2 h2 h3 q rfl
   ·omega
 refine⟨w.heap.size+1,[{ target:=.collected w.heap.size,args:=#[] }],W1,{ target:=.fn (.func gf) cap,args:=#[.func (.yield (w.heap.size+1)) #[] #[]] },W1,gf,
  #[.func (.yield (w.heap.size+1)) #[] #[]]++cap,W1,?_,?_,fun _ _=>trivial,?_,(fun q=>by cases q),?_⟩
 ·rw[←hW1,hrec];exact run_enterLoop_outer _ _ _ _ _
 ·simp only[resolve,he]
  simp[go_sem]
 ·simp[invoke,go_sem,eg]
 ·refine callsIn_wide.2 ((hseq.2 (w.heap.size+1)
   (fun i Sx=>∃b Φc,p i b∧CSt Φ σ w.heap.size a.tmps f1 (w.heap.size+1) (rec .ready none) (S i b) Sx Φc)
   (fun Sx=>∃c σc Φc,((c=.ret∧Q .ret f1 σc)∨∃id,c=.exit id∧Q (.exit id) f1 σc)∧CSt Φ σ w.heap.size a.tmps f1 (w.heap.size+1) (rec .done (some c)) σc Sx Φc)
   Φ W1 S0 cap ?_ (gr (hi.less hle)).1 apt0 ⟨a0,Φ1,p0,cst0⟩ hcap).mono ?_)
  ·rintro i x Sx W Ψ vs hix ⟨b,Φc,pb,cs⟩ hag hsz ho hs hvs
   have hx':=hx x (List.mem_of_getElem? hix)
   have:=LJ (P:=P) rec hrec nda ndb hx' (round i x b hix pb) cs hag (by omega) ho (fun u v q=>⟨(hs u v q).1,(hs u v q).2.1,(hs u v q).2.2.imp_right fun q=>q.imp (fun q=>by omega) (ownσ hle _)⟩) hvs
   obtain⟨fn',t',as',bd',e1,e2⟩:=this
   refine⟨fn',t',as',bd',e1,e2.mono ?_⟩
   rintro e w' ⟨bb,S',q1,q2,q3,q4,q5,q6,q7,q8,q9,q10,q11,q12⟩
   refine⟨bb,S',q1,q2,q3,q4,q5,q6,q7,q8,q9,q10,q11,?_⟩
   cases bb with
   | true =>
    obtain⟨σ2,Φ2,⟨b',rfl,pb'⟩,cs'⟩:=q12
    exact⟨b',Φ2,pb',cs'⟩
   | false=>exact q12
  ·rintro e w3 ⟨v,Φe,σe,S',rfl,ie,apt,stS,hy⟩
   -- the loop's side behind the iterator
   have fin:∀(st:Loop) (σc:St) (Φc:Phi),CSt Φ σ w.heap.size a.tmps f1 (w.heap.size+1) st σc S' Φc→st.state≠.busy→∃w4,(Instr.endLoop (w.heap.size+1)).run P w3=.ok st.pending w4 ∧
     Inv Φc w4 σc∧Step Φ σ w Φc σc w4∧eG Φc w4 ({ target:=.collected w.heap.size,args:=#[] }::a.defers) f1.d:=by
    intro st σc Φc cs hbusy
    have hlr:w3.heap[w.heap.size+1]?=some (.loop st):=(apt.agree.same _ ((cs.wr _).2 (.inr rfl))).trans cs.lrec
    obtain⟨w4,hw4⟩:∃w4,w3.putObj (w.heap.size+1) (.loop { st with state:=.exhausted })=w4:=⟨_,rfl⟩
    have hend:=run_endLoop (P:=P) hlr hbusy
    rw[hw4] at hend
    have sz4:w4.heap.size=w3.heap.size:=by rw[←hw4,World.putObj_size]
    have szz:w.heap.size+2≤w3.heap.size:=by have:=stS.size;omega
    have i3:Inv Φc w3 σc:=by
     have hwr:∀k,bA Φc σc k→w3.heap[k]?=S'.w.heap[k]?:=fun k hk=>apt.agree.same k ((cs.wr k).2 (.inl hk))
     exact⟨fun l' o hl=>(cs.inv.own l' o hl).mono (.refl _) fun p R h1 h2=>hwr R ⟨l',o,p,hl,h1,h2⟩,cs.inv.inj,fun b u q=>apt.agree.sn b u (by rw[cs.sn b];exact q),cs.inv.apart,cs.inv.fresh⟩
    have i4:Inv Φc w4 σc:=by rw[←hw4];exact i3.putObj _ hlr (fun _ _ _ e=>by cases e) (fun _ _ e=>by cases e)
    have blk:∀k,k<w.heap.size→¬bA Φ σ k→w4.heap[k]?=w.heap[k]?:=fun k hk hn=>by
     rw[←hw4,World.putObj_heap_other (by omega),stS.block k (by omega) (fun q=>hn (ownσ hle k q)) (fun q=>?_),old k hk]
     subst hS0
     rcases q with q|q
     ·exact hn (ownσ (St.qI _ _) k (own1 k q))
     ·omega
    have hmark:w4.heap[w.heap.size]?=some (Obj.deferred (some [])):=by
     rw[←hw4,World.putObj_heap_other (by omega),stS.block _ (by omega) ((gr (hi.less hle)).1.mark hD) (fun q=>?_),hD]
     subst hS0
     rcases q with q|q
     ·exact(gr i1).1.mark hD q
     ·omega
    have step4:Step Φ σ w Φc σc w4 :=
     ⟨cs.step.le,by rw[←hw4];exact stS.os.trans eos,by rw[←hw4];exact stS.tape.trans eta,by rw[←hw4];exact stS.output.trans eou,by
      have e:drw w4=drw w3:=by rw[←hw4];rfl
      have:=stS.drawn;omega,by omega,blk,cs.step.snapn,cs.step.locs,cs.step.ownd⟩
    refine⟨w4,hend,i4,step4,.inl ⟨w.heap.size,rfl,by rw[cs.step.le.base];exact hb,hmark,fun y hy e=>?_,hd0 ▸ hd.step hi step4⟩⟩
    -- the mark is a new one
    have:∀(ds:List Deferred) (d:List (FuncId × List MV)),eG Φ w ds d→∀y,y∈ds→y.target≠.collected w.heap.size:=by
     intro ds
     induction ds with
     | nil=>intro d _ y hy;cases hy
     | cons z ds ih =>
      intro d h y hy
      rcases h with⟨D,k1,k2,k3,k4,k5⟩|⟨g,ms,r,cp,k1,k2,k3,k4⟩
      ·rcases List.mem_cons.1 hy with rfl|hy
       ·rw[k1];intro e;cases e
        have:=(Array.getElem?_eq_some_iff.1 k3).1
        omega
       ·exact ih d k5 y hy
      ·rcases List.mem_cons.1 hy with rfl|hy
       ·rw[k2];intro e;cases e
       ·exact ih r k4 y hy
    exact this a.defers f.d hd y hy e
   rcases hy with⟨b,Φc,pb,cs⟩|⟨c,σc,Φc,hc,cs⟩
   ·obtain⟨w4,hend,i4,s4,d4⟩:=fin _ _ _ cs (by rw[hrec];simp)
    refine⟨none,w4,by rw[hend,hrec],f1,_,Φc,d4,cs.frame,i4,s4,done b pb⟩
   ·obtain⟨w4,hend,i4,s4,d4⟩:=fin _ _ _ cs (by rw[hrec];simp)
    refine⟨some c,w4,by rw[hend,hrec],?_⟩
    rcases hc with⟨rfl,q⟩|⟨id,rfl,q⟩
    ·exact wpIn_ret ⟨f1,_,Φc,d4,cs.frame,i4,s4,q⟩
    ·exact wpIn_exit ⟨f1,_,Φc,d4,cs.frame,i4,s4,q⟩
end

section
inductive iP:MV→Prop where
 | flat {m:MV} (h:Flat m):iP m
 | lst {e:Nat} {xs:List (List MV)} {t:Bool} (h:∀x,x∈xs→∀m,m∈x→iP m):iP (.lst e xs t)
 | cptr {cs:List MV} (h:∀m,m∈cs→iP m):iP (.cptr cs)
 | agg {cs:List MV} (h:∀m,m∈cs→iP m):iP (.agg cs)
theorem iP.rel{Φ Φ':Phi}(hs:∀a v,Φ.snap a=some v→Φ'.snap a=some v){m:MV}(h:iP m):∀{v:Value},Rel Φ v m→Rel Φ' v m:=by
 induction h with
 | flat h=>intro v r;exact h.rel r
 | lst h ih =>
  intro v r
  cases r with
  | lstn=>exact .lstn _ _
  | lst0 a _ cap _ ht hm=>exact .lst0 a _ cap _ ht hm
  | lst hl h0 hcap hm ht hx vs hc hr =>
   exact .lst hl h0 hcap hm ht hx vs (fun i x j m a b=>⟨(hc i x j m a b).1,hs _ _ (hc i x j m a b).2⟩) fun i x j m a b=>ih x (List.mem_of_getElem? a) m (List.mem_of_getElem? b) (hr i x j m a b)
 | cptr h ih =>
  intro v r
  cases r with
  | cptr vs hc hr=>exact .cptr vs (fun j m hm=>⟨(hc j m hm).1,hs _ _ (hc j m hm).2⟩) fun j m hm=>ih m (List.mem_of_getElem? hm) (hr j m hm)
 | agg h ih =>
  intro v r
  cases r with
  | agg h1 h2 h3=>exact .agg h1 h2 fun i m hm=>ih m (List.mem_of_getElem? hm) (h3 i m hm)
structure YC where
 l:Nat
 xs:List (List MV)
 Y:Nat→YS→Prop
 Yx:YS→Prop
 Φ0:Phi
 σ0:St
 n0:Nat
def YC.st(C:YC):Option Nat→YS→Prop
 | some i,S=>C.Y i S
 | none,S=>C.Yx S
structure kV (C:YC) (Φ:Phi) (σ:St) (w:World) (S:YS) (t:Option Nat):Prop where
 inv:Inv Φ w σ
 apt:Apt Φ σ S w
 snapn:∀a v,Φ.snap a=some v→C.Φ0.snap a=some v∨C.n0≤a.block∨bA C.Φ0 C.σ0 a.block
 ownd:∀R,bA Φ σ R→bA C.Φ0 C.σ0 R∨C.n0≤R
 size:C.n0≤w.heap.size
 st:C.st t S
abbrev YQ:=Exit→FR→St→Option Nat→Prop
def zH(C:YC)(Φ:Phi)(σ:St)(w:World)(S:YS)(Q:YQ):Exit→Act→World→Prop:=fun e a' w' =>
 ∃f' σ' t' Φ' S',kV C Φ' σ' w' S' t'∧dC Φ' a'.tmps f'∧eG Φ' w' a'.defers f'.d∧eO Φ σ w S Φ' σ' w' S'∧Q e f' σ' t'
def ywp(P:Program)(C:YC)(c:Code)(f:FR)(σ:St)(t:Option Nat)(Q:YQ):Prop :=
 ∀F,FOk F c→∀Φ w a S,kV C Φ σ w S t→dC Φ a.tmps f→eG Φ w a.defers f.d→c.wpIn F 0 P (zH C Φ σ w S Q) a w
section rules
variable {P:Program} {C:YC} {f:FR} {σ:St} {t:Option Nat} {Q:YQ}
theorem uV{Φ Φ1:Phi}{σ σ1:St}{w0 w1:World}{S S1:YS}(h:eO Φ σ w0 S Φ1 σ1 w1 S1){e:Exit}{a:Act}{w:World}(k:zH C Φ1 σ1 w1 S1 Q e a w):zH C Φ σ w0 S Q e a w :=
 let ⟨f',σ',t',Φ',S',h1,h2,h3,h4,h5⟩:=k
 ⟨f',σ',t',Φ',S',h1,h2,h3,h.trans h4,h5⟩
theorem kV.go{Φ Φ':Phi}{σ σ':St}{w w':World}{S:YS}(h:kV C Φ σ w S t)(i:Inv Φ' w' σ')(s:Step Φ σ w Φ' σ' w'):kV C Φ' σ' w' S t :=
 ⟨i,h.apt.step s,fun a v q=>by
  rcases s.snapn a v q with q|q|q
  ·exact h.snapn a v q
  ·exact .inr (.inl (Nat.le_trans h.size q))
  ·rcases h.ownd _ q with q|q
   ·exact .inr (.inr q)
   ·exact .inr (.inl q),fun R hR=>by
  rcases s.ownd R hR with q|q
  ·exact h.ownd R q
  ·exact .inr (Nat.le_trans h.size q),Nat.le_trans h.size s.size,h.st⟩
theorem Ps{c:Code}(h:mwp P c f σ fun e f' σ'=>Q e f' σ' t):ywp P C c f σ t Q :=
 fun F hF Φ w a S hi hr hd=>wpIn_mono (h F hF Φ w a hi.inv hr hd) fun _ _ _ ⟨f',σ',Φ',x1,x2,x3,x4,q⟩=>⟨f',σ',t,Φ',S,hi.go x3 x4,x2,x1,.of S x4,q⟩
def Dx(next:FR→St→Option Nat→Prop)(Q:YQ):YQ
 | .normal,f,σ,t=>next f σ t
 | e,f,σ,t=>Q e f σ t
theorem hJ{x y:Code}(h:ywp P C x f σ t (Dx (fun f' σ' t'=>ywp P C y f' σ' t' Q) Q)):ywp P C (.seq x y) f σ t Q:=by
 intro F hF Φ w a S hi hr hd
 refine wpIn_seq (wpIn_mono (h F hF.seq1 Φ w a S hi hr hd) fun e a' w' ⟨f',σ',t',Φ',S',h1,h2,h3,h4,q⟩=>?_)
 cases e with
 | normal=>exact wpIn_mono (q F hF.P9 Φ' w' a' S' h1 h2 h3) fun _ _ _ hq=>uV h4 hq
 | _=>exact⟨f',σ',t',Φ',S',h1,h2,h3,h4,q⟩
def rG(id:Nat)(Q:YQ):YQ
 | .exit id',f,σ,t=>if id'=id then Q .normal f σ t else Q (.exit id') f σ t
 | e,f,σ,t=>Q e f σ t
theorem oD{id:Nat}{c:Code}(h:ywp P C c f σ t (rG id Q)):ywp P C (.block id c) f σ t Q:=by
 intro F hF Φ w a S hi hr hd
 refine wpIn_block (wpIn_mono (h F hF.block Φ w a S hi hr hd) fun e a' w' ⟨f',σ',t',Φ',S',h1,h2,h3,h4,q⟩=>?_)
 cases e with
 | exit id' =>
  simp only[Exit.inBlock]
  simp only[rG] at q
  split
  ·rw[if_pos (by assumption)] at q;exact⟨f',σ',t',Φ',S',h1,h2,h3,h4,q⟩
  ·rw[if_neg (by assumption)] at q;exact⟨f',σ',t',Φ',S',h1,h2,h3,h4,q⟩
 | _=>exact⟨f',σ',t',Φ',S',h1,h2,h3,h4,q⟩
theorem Pr{c:Code}(h:Gh f σ fun f1 σ1=>ywp P C c f1 σ1 t Q):ywp P C c f σ t Q:=by
 intro F hF Φ w a S hi hr hd
 obtain⟨f1,σ1,Φ1,hf,k1,i1,r1,s1⟩:=h Φ w a.tmps hi.inv hr
 exact wpIn_mono (k1 F hF Φ1 w a S (hi.go i1 s1) r1 (hf ▸ hd.step hi.inv s1)) fun _ _ _ hq=>uV (.of S s1) hq
theorem DG{α:Type}{c:Code}(Fr:α→FR)(Sr:α→St)(T:α→Option Nat)(p:α→Prop)(μ:α→Nat)(h0:Gh f σ fun f1 σ1=>∃a,f1=Fr a∧σ1=Sr a∧t=T a∧p a)
 (round:∀a,p a→ywp P C c (Fr a) (Sr a) (T a) (Dx (fun f' σ' t'=>Gh f' σ' fun f1 σ1=>∃b,f1=Fr b∧σ1=Sr b∧t'=T b∧p b∧μ b<μ a) Q)):ywp P C (.loop c) f σ t Q:=by
 refine Pr (fun Φ w vs hi hr=>?_)
 obtain⟨f1,σ1,Φ1,hf,⟨a0,e1,e2,e3,p0⟩,i1,r1,s1⟩:=h0 Φ w vs hi hr
 subst e1;subst e2;subst e3
 refine⟨_,_,Φ1,hf,?_,i1,r1,s1⟩
 clear h0 hi hr s1 i1 r1 hf
 intro Fe hF Φ w a S hi hr hd b k cs hro hb hroom
 have key:∀n x Φ w a S,μ x=n→p x→kV C Φ (Sr x) w S (T x)→dC Φ a.tmps (Fr x)→eG Φ w a.defers (Fr x).d →
   ∃e a' w',zH C Φ (Sr x) w S Q e a' w'∧ArrivesIn (Machine.fenced P Fe) P (lone (b.atR a (.code c::.inLoop c::k)) cs w) b k cs e a' w':=by
  intro n
  induction n using Nat.strongRecOn with
  | _ n ih =>
   intro x Φ w a S hn hI hi hr hd
   obtain⟨e,a₁,w₁,hq,harr⟩:=round x hI Fe hF.loop Φ w a S hi hr hd b (.inLoop c::k) cs hro hb hroom
   cases e with
   | normal =>
    obtain⟨f',σ',t',Φ',S',y1,y2,y3,y4,g2⟩:=hq
    obtain⟨f2,σ2,Φ2,g0,⟨x2,e1,e2,e3,hI2,hlt⟩,i2,r2,s2⟩:=g2 Φ' w₁ a₁.tmps y1.inv y2
    subst e1;subst e2;subst e3
    obtain⟨e₂,a₂,w₂,hq₂,harr₂⟩:=ih (μ x2) (hn ▸ hlt) x2 Φ2 w₁ a₁ S' rfl hI2 (y1.go i2 s2) r2 (g0 ▸ y3.step y1.inv s2)
    exact⟨e₂,a₂,w₂,uV (y4.trans (.of S' s2)) hq₂,.of_steps (StepsIn.trans harr (.one (fenced_calm hb hroom rfl) stepR_inLoop)) harr₂⟩
   | exit id=>exact⟨_,a₁,w₁,hq,.pass (x:=.inLoop c) rfl (fun _ _=>.inl (by simp)) harr⟩
   | goto l=>exact⟨_,a₁,w₁,hq,.pass (x:=.inLoop c) rfl (fun _ _=>.inl (by simp)) harr⟩
   | ret=>exact⟨_,a₁,w₁,hq,.pass (x:=.inLoop c) rfl (fun _ _=>.inl (by simp)) harr⟩
   | panic ch=>exact⟨_,a₁,w₁,hq,.pass (x:=.inLoop c) rfl (fun _ _=>.inl (by simp)) harr⟩
   | outgrown=>exact⟨_,a₁,w₁,hq,.pass (x:=.inLoop c) rfl (fun _ _=>.inl (by simp)) harr⟩
 obtain⟨e,a',w',hq,harr⟩:=key _ a0 Φ w a S rfl p0 hi hr hd
 exact⟨e,a',w',hq,.of_steps (.one (fenced_calm hb hroom rfl) stepR_loop) harr⟩
theorem CE{ops:Array Oper}{K:FR→St→Prop}{F:Fence}{Qm:Exit→Act→World→Prop}{rest:List Oper}:∀(l:List Oper),(F=Fence.wide∨∃l0,F=Fence.wide.inRound l0)→(∀o,o∈l→∀c,o.op≠.defer c)→∀(f:FR) (σ:St) (Φ:Phi) (w:World) (a:Act),
  gL P ops K l f σ→Inv Φ w σ→dC Φ a.tmps f→eG Φ w a.defers f.d →
  (∀f' σ' Φ' w' a',K f' σ'→Inv Φ' w' σ'→dC Φ' a'.tmps f'→eG Φ' w' a'.defers f'.d→Step Φ σ w Φ' σ' w'→wpListIn F 0 P ops Qm rest a' w')→wpListIn F 0 P ops Qm (l++rest) a w:=by
 intro l hF
 have hfn:∀g,F.fn g:=fun g=>by rcases hF with rfl|⟨l,rfl⟩<;>trivial
 induction l with
 | nil=>intro _ f σ Φ w a h hi hr hd hk;exact hk f σ Φ w a h hi hr hd (.refl _ _ _)
 | cons o r ih =>
  intro hdf f σ Φ w a h hi hr hd hk
  have hdo:∀c,o.op≠.defer c:=hdf o (by simp)
  have ih:=ih fun o ho=>hdf o (by simp[ho])
  have hFo:F=Fence.wide∨∃l0,F=Fence.wide.inRound l0∧∀c,o.op≠.defer c:=hF.imp id fun⟨l0,e⟩=>⟨l0,e,hdo⟩
  simp only[gL] at h
  rw[List.cons_append]
  unfold wpListIn
  rcases dT h hr with⟨hw,hy⟩|⟨hw,hn⟩
  ·rw[if_pos hw]
   refine kA hFo (mX hdo hy Φ w a _ _ hi hr fun v mv σ' Φ' w' r1 i1 s1 hk1=>?_)
   exact ih _ _ Φ' w' (a.put o.dst v) hk1 i1 (eF (hr.mono s1.le) o.dst r1) (by rw[cI,fN];exact hd.step hi s1) fun f' σ' Φ2 w2 a2 k1 k2 k3 k4 k5=>hk f' σ' Φ2 w2 a2 k1 k2 k3 k4 (s1.trans k5)
  ·rw[if_neg (by simp[hw])]
   exact⟨fun f _=>hfn f,ih _ _ Φ w (a.put o.dst undef) hn hi (eF hr o.dst gJ) (by rw[cI,fN];exact hd) hk⟩
theorem oV{F:Fence}(hF:F=Fence.wide∨∃l,F=Fence.wide.inRound l){n:Nat}{l:Nat}{fn:FuncId}{tmps:Array Value}{assign body:Code}{w:World}{R:Ending→World→Prop}(h:RoundIn Fence.wide n P l fn tmps assign body w R):RoundIn F n P l fn tmps assign body w R:=by
 rcases hF with rfl|⟨l0,rfl⟩
 ·exact h
 ·exact h
theorem FZ{id:Nat}{ops:Array Oper}(pre:List Oper)(y:Oper)(post:List Oper)(ho:ops.toList=pre++y::post)(hpre:∀o,o∈pre→∀c,o.op≠.defer c)(hpost:∀o,o∈post→∀c,o.op≠.defer c)
 {o:Operand}{args:Array Operand}{ts:Array TypeId}(hy:y.op=.call ⟨.value o,args,ts⟩)(hg:y.guard=none){i:Nat}(ht:t=some i){x:List MV}(hx:C.xs[i]?=some x)(hno:∀m,m∈x→iP m)
 (hspec:pV P C.l C.xs C.Y C.Yx C.Φ0 C.σ0 C.n0)
 (h:gL P ops (fun f1 σ1=>aK f1 o=.fn (.yield C.l) [] []∧args.toList.map (aK f1)=x∧gL P ops (fun f2 σ2=>Q .normal f2 σ2 (some (i+1))) post (bI f1 y.dst (.bool true)) σ1 ∧
   gL P ops (fun f2 σ2=>Q .normal f2 σ2 none) post (bI f1 y.dst (.bool false)) σ1) pre f σ):ywp P C (.region id ops false) f σ t Q:=by
 intro F hF Φ w a S hi hr hd
 subst ht
 have hF':F=Fence.wide∨∃l0,F=Fence.wide.inRound l0:=Or.imp (fun q=>q) (fun⟨l0,e,_⟩=>⟨l0,e⟩) hF
 have hro:F.room 0:=hF.room 0
 refine wpIn_region_list ?_
 rw[ho]
 refine CE pre hF' hpre f σ Φ w a h hi.inv hr hd fun f1 σ1 Φ1 w1 a1 hk i1 r1 d1 s1=>?_
 obtain⟨hv,hargs,ht,hfl⟩:=hk
 have hi1:=hi.go i1 s1
 unfold wpListIn
 rw[if_pos (by unfold Region.wanted;rw[hg])]
 have rv:=aQ r1 o
 rw[hv] at rv
 obtain⟨first,cap,he,h1,h2⟩:=rv.mP
 have e1:first=#[]:=Array.eq_empty_of_size_eq_zero (by simpa using h1.1)
 have e2:cap=#[]:=Array.eq_empty_of_size_eq_zero (by simpa using h2.1)
 subst e1 e2
 have hrels:=j5 r1 args
 rw[hargs] at hrels
 obtain⟨Ψ,hΨ⟩:∃Ψ:Phi,Ψ=⟨Φ1.snap,fun _=>none,0⟩:=⟨_,rfl⟩
 have hrels':hO Ψ (args.map a1.eval) x:=⟨hrels.1,fun j m hm=>by
  subst hΨ
  exact iP.rel (Φ:=Φ1) (Φ':=⟨Φ1.snap,fun _=>none,0⟩) (fun _ _ q=>q) (hno m (List.mem_of_getElem? hm)) (hrels.2 j m hm)⟩
 obtain⟨fn,tmps,assign,body,hrun,hround⟩:=hspec i x S w1 Ψ (args.map a1.eval) hx hi1.st hi1.apt.agree hi1.size (fun m=>by subst hΨ;rfl) (fun b v q=>by
  subst hΨ
  exact⟨i1.snap b v q,hi1.apt.snap b v q,hi1.snapn b v q⟩) hrels'
 have hsem:(y.semAt F.round a1.eval).run P w1=.ok (.round C.l fn tmps assign body) w1:=by
  rw[Oper.semAt_eq _ _ _ (by rw[hy];intro c e;cases e)]
  unfold execOp
  simp only[hy,resolve,he,Deferred.ofValue,Sem.run_bind,Sem.run_pure,Result.andThen_ok,invoke,Array.empty_append,Array.append_empty]
  exact hrun
 refine⟨fun g _=>hF.fn g,?_⟩
 rw[hsem]
 refine⟨(fun q=>by rw[hF.depth] at q;cases q),?_⟩
 refine(oV hF' hround).mono ?_
 rintro e w2 ⟨b,S',rfl,hS1,hS2,hS3,hS4,hS5,hS6,hS7,hS8,hS9,hS10,hS11⟩
 -- our own side is as it was
 have ow:∀k,bA Φ1 σ1 k→w2.heap[k]?=w1.heap[k]?:=fun k hk=>by
  refine hS8 k ?_ fun q=>hi1.apt.own k q hk
  obtain⟨l,ob,p,q1,q2,q3⟩:=hk
  obtain⟨p',e,hlt⟩:=(i1.own l ob q1).place
  rw[q2] at e;cases e
  exact hlt k q3
 have i2:Inv Φ1 w2 σ1:=⟨fun l ob hl=>(i1.own l ob hl).mono (.refl _) fun p R q1 q2=>ow R ⟨l,ob,p,hl,q1,q2⟩,i1.inj,fun c v q=>by
   have hb:=World.block_lt_of_cell? w1 c (i1.snap c v q)
   rw[World.eK (hS8 c.block hb (hi1.apt.snap c v q))]
   exact i1.snap c v q,i1.apart,i1.fresh⟩
 have apt2:Apt Φ1 σ1 S' w2:=by
  have lt1:∀k,bA Φ1 σ1 k→k<w1.heap.size:=fun k ⟨l,ob,p,q1,q2,q3⟩=>by
   obtain⟨p',e,hlt⟩:=(i1.own l ob q1).place
   rw[q2] at e;cases e
   exact hlt k q3
  refine⟨hS2,fun k hk ho=>?_,fun c v q ho=>?_,fun c v q hk=>?_⟩
  ·rcases hS9 k hk with q|q
   ·exact hi1.apt.own k q ho
   ·have:=lt1 k ho;omega
  ·rcases hS10 c v q with q|q|q|q
   ·exact hi1.apt.snown c v q ho
   ·exact hi1.apt.own _ q ho
   ·have:=lt1 _ ho;omega
   ·subst hΨ
    obtain⟨l,ob,p,q1,q2,q3⟩:=ho
    exact i1.apart l ob p c.block c v q1 q2 q3 q rfl
  ·rcases hS9 _ hk with p|p
   ·exact hi1.apt.snap c v q p
   ·have:=World.block_lt_of_cell? w1 c (i1.snap c v q);omega
 have st2:eO Φ1 σ1 w1 S Φ1 σ1 w2 S':=⟨.refl _,hS3,hS4,hS5,hS6,hS7,fun k hk _ hw=>hS8 k hk hw,fun c v q=>.inl q,fun R q=>.inl q,hS9,fun c v q=>by
  subst hΨ
  rcases hS10 c v q with q|q|q|q
  ·exact .inl q
  ·exact .inr (.inl q)
  ·exact .inr (.inr (.inl q))
  ·exact .inr (.inr (.inr (.inl q)))⟩
 have d2:eG Φ1 w2 a1.defers f1.d:=d1.mono (.refl _) hS7 fun D hD=>by
  rw[hS8 D (Array.getElem?_eq_some_iff.1 hD).1 (fun q=>hi1.apt.agree.nomark D q _ ((hi1.apt.agree.same D q).symm.trans hD))]
  exact hD
 have go:∀(b:Bool) (t':Option Nat),C.st t' S'→gL P ops (fun f2 σ2=>Q .normal f2 σ2 t') post (bI f1 y.dst (.bool b)) σ1→wpListIn F 0 P ops (zH C Φ σ w S Q) post (a1.put y.dst (.bool b)) w2:=by
  intro b t' hst hm
  have hyi:kV C Φ1 σ1 w2 S' t':=⟨i2,apt2,hi1.snapn,hi1.ownd,Nat.le_trans hi1.size hS7,hst⟩
  have:=CE (rest:=[]) (Qm:=zH C Φ σ w S Q) post hF' hpost (bI f1 y.dst (.bool b)) σ1 Φ1 w2 (a1.put y.dst (.bool b)) hm i2 (eF r1 y.dst (.bool b)) (by rw[cI,fN];exact d2) fun f2 σ2 Φ2 w3 a3 k1 k2 k3 k4 k5=>by
   unfold wpListIn
   exact⟨f2,σ2,t',Φ2,S',hyi.go k2 k5,k3,k4,((eO.of S s1).trans st2).trans (.of S' k5),k1⟩
  rwa [List.append_nil] at this
 cases b with
 | true=>exact go true (some (i+1)) (by rw[if_pos rfl] at hS11;exact hS11) ht
 | false=>exact go false none (by rw[if_neg (by decide)] at hS11;exact hS11) hfl
end rules
theorem Apt.putObj{Φ:Phi}{σ:St}{S:YS}{w:World}(h:Apt Φ σ S w){D:Nat}{x:Option (List Deferred)}(o':Obj)(hD:w.heap[D]?=some (Obj.deferred x)):Apt Φ σ S (w.putObj D o'):=by
 have hne:∀k,S.wr k→k≠D:=fun k hk e=>h.agree.nomark k hk x (by rw[←h.agree.same k hk,e];exact hD)
 refine⟨⟨fun k hk=>(World.putObj_heap_other (hne k hk)).trans (h.agree.same k hk),h.agree.lt,h.agree.nomark,fun a v q=>?_,by rw[World.putObj_size];exact h.agree.size,h.agree.os,h.agree.tape,h.agree.output,h.agree.drawn⟩,h.own,h.snown,h.snap⟩
 have hc:=h.agree.sn a v q
 rw[←hc]
 refine World.eK (World.putObj_heap_other fun e=>?_)
 rw[World.cell?,e,hD] at hc
 simp at hc
theorem Gv{P:Program}{fn:Func}{tmps:Array Value}{C:YC}{t:Option Nat}(hrs:fn.results.toList=[]){Φ0:Phi}{σ0:St}{w0:World}{S0:YS}(h0:Φ0.base=w0.heap.size){R:Ending→World→Prop}(hR:∀v Φ' w' σ' S',kV C Φ' σ' w' S' t→eO Φ0 σ0 w0 S0 Φ' σ' w' S'→R (.returned v) w') :
  ∀(ds:List Deferred) (Φ:Phi) (w:World) (σ:St) (S:YS),eG Φ w ds []→kV C Φ σ w S t→eO Φ0 σ0 w0 S0 Φ σ w S→kC P fn tmps R ds w:=by
 intro ds
 induction ds with
 | nil =>
  intro Φ w σ S _ hi hs
  refine⟨.tuple #[],?_,hR _ Φ w σ S hi hs⟩
  rw[pF]
  have:fn.results=#[]:=Array.toList_eq_nil_iff.1 hrs
  simp only[this]
  first|rfl|simp[Sem.run_bind,Sem.run_pure]
 | cons x ds ih =>
  intro Φ w σ S hd hi hs
  rcases hd with⟨D,h1,h2,h3,h4,h5⟩|⟨g,ms,r,cap,h,_⟩
  ·refine .inl ⟨D,_,h1,run_takeDeferred h3,?_⟩
   have hDb:w0.heap.size≤D:=by rw[←h0,←hs.le.base];exact h2
   have i':=hi.inv.putObj (.deferred none) h3 (fun _ _ _ e=>by cases e) (fun _ _ e=>by cases e)
   have s':eO Φ0 σ0 w0 S0 Φ σ (w.putObj D (.deferred none)) S :=
    ⟨hs.le,hs.os,hs.tape,hs.output,hs.drawn,by rw[World.putObj_size];exact hs.size,fun k hk hn hw=>(World.putObj_heap_other (by omega)).trans (hs.block k hk hn hw),hs.snapn,hs.ownd,hs.wr,hs.sn⟩
   refine ih Φ _ σ S ?_ ⟨i',hi.apt.putObj _ h3,hi.snapn,hi.ownd,by rw[World.putObj_size];exact hi.size,hi.st⟩ s'
   have:∀(xs:List Deferred) (d:List (FuncId × List MV)),(∀y,y∈xs→y.target≠.collected D)→eG Φ w xs d→eG Φ (w.putObj D (.deferred none)) xs d:=by
    intro xs
    induction xs with
    | nil=>intro d _ h;exact⟨h.1,by rw[World.putObj_size];exact h.2⟩
    | cons y xs ihx =>
     intro d hy h
     rcases h with⟨D',k1,k2,k3,k4,k5⟩|⟨g,ms,r,cap,k1,k2,k3,k4⟩
     ·refine .inl ⟨D',k1,k2,?_,k4,ihx d (fun z hz=>hy z (by simp[hz])) k5⟩
      rw[World.putObj_heap_other]
      ·exact k3
      ·intro e;exact hy y (by simp) (by rw[k1,e])
     ·exact .inr ⟨g,ms,r,cap,k1,k2,k3,ihx r (fun z hz=>hy z (by simp[hz])) k4⟩
   exact this ds [] h4 h5
  ·cases h
def O5(n:Nat):YQ
 | .normal,f,_,t=>f.d=[]∧(t=some n∨t=none)
 | .ret,f,_,t=>f.d=[]∧(t=some n∨t=none)
 | _,_,_,_=>False
theorem pV.bG{P:Program}{l:Nat}{xs:List (List MV)}{Y:Nat→YS→Prop}{Yx:YS→Prop}{Φ:Phi}{σ:St}{n0:Nat}(h:pV P l xs Y Yx Φ σ n0)(n:Nat):pV P l xs Y Yx (Φ.bG n) σ n0 :=
 fun i x S w' Ψ vs h1 h2 h3 h4 h5 h6 h7=>h i x S w' Ψ vs h1 h2 h3 h4 h5 h6 h7
theorem Apt.bG{Φ:Phi}{σ:St}{S:YS}{w:World}(h:Apt Φ σ S w)(n:Nat):Apt (Φ.bG n) σ S w:=⟨h.agree,h.own,h.snown,h.snap⟩
theorem eO.bG{Φ Φ':Phi}{σ σ':St}{w w':World}{S S':YS}{n:Nat}(h:eO (Φ.bG n) σ w S Φ' σ' w' S'):eO Φ σ w S (Φ'.bG Φ.base) σ' w' S' :=
 ⟨⟨h.le.snap,h.le.obj,rfl⟩,h.os,h.tape,h.output,h.drawn,h.size,h.block,h.snapn,h.ownd,h.wr,h.sn⟩
theorem DH.qL{P:Program}{g:FuncId}{fn:Func}{c:Code}{ns:List MV}{σi:St}{xs:List (List MV)}(n:Nat)(hf:P.funcs[g]?=some fn)(hb:fn.body=some c)(hn:(fn.name == "runtime.NumGoroutine")=false)
 (hn':max fn.ntmps (ns.length+1)=n)(hrs:fn.results.toList=[])
 (h:∀C:YC,C.xs=xs→pV P C.l C.xs C.Y C.Yx C.Φ0 C.σ0 C.n0→ywp P C c ⟨n,kF 0 (.fn (.yield C.l) [] []::ns),[]⟩ σi (some 0) (O5 xs.length)):DH P g ns σi xs:=by
 refine⟨⟨fn,hf,by simp[hb],hn⟩,fun l Y Yx Φ w S vs hspec hi ha h0 hr=>?_⟩
 obtain⟨C,hC⟩:∃C:YC,C=⟨l,xs,Y,Yx,Φ.bG w.heap.size,σi,w.heap.size⟩:=⟨_,rfl⟩
 have hargs:hO (Φ.bG w.heap.size) (#[Value.func (.yield l) #[] #[]]++vs) (.fn (.yield l) [] []::ns):=by
  refine⟨by simp[hr.1];omega,fun i m hm=>?_⟩
  cases i with
  | zero =>
   simp only[List.getElem?_cons_zero,Option.some.injEq] at hm
   subst hm
   have e:(#[Value.func (.yield l) #[] #[]]++vs).getD 0 undef=Value.func (.yield l) #[] #[]:=by
    simp[Array.getD_eq_getD_getElem?,Array.getElem?_append]
   rw[e]
   exact tT _ (.func (.yield l) #[] #[])
  | succ i =>
   have:=(hr.2 i m (by simpa using hm)).bG w.heap.size
   have e:(#[Value.func (.yield l) #[] #[]]++vs).getD (i+1) undef=vs.getD i undef:=by
    simp[Array.getD_eq_getD_getElem?,Array.getElem?_append]
   rw[e];exact this
 have hfr:=y0 (fn:=fn) hargs
 rw[List.length_cons,hn'] at hfr
 have hbody:=h C (by rw[hC]) (by rw[hC];exact hspec.bG _)
 have hst:kV C (Φ.bG w.heap.size) σi w S (some 0):=by
  subst hC
  exact⟨hi.bG _,ha.bG _,fun a v q=>.inl q,fun R q=>.inl q,Nat.le_refl _,h0⟩
 have hl:C.l=l:=by rw[hC]
 rw[hl] at hbody
 refine(p6 (R:=fun e w'=>∃v Φ' σ' S',e=.returned v∧(kV C Φ' σ' w' S' (some xs.length)∨kV C Φ' σ' w' S' none)∧eO (Φ.bG w.heap.size) σi w S Φ' σ' w' S') hf hb (wp_mono (wpIn_wide.1 (hbody _ .wide (Φ.bG w.heap.size) w { tmps:=_,defers:=[] } S hst hfr ⟨rfl,Nat.le_refl _⟩)) ?_)).mono ?_
 ·rintro e a' w' ⟨f',σ',t',Φ',S',q1,q2,q3,q4,q5⟩
  have fin:(t'=some xs.length∨t'=none)→f'.d=[]→kC P fn a'.tmps (fun e w'=>∃v Φ' σ' S',e=.returned v∧(kV C Φ' σ' w' S' (some xs.length)∨kV C Φ' σ' w' S' none)∧eO (Φ.bG w.heap.size) σi w S Φ' σ' w' S') a'.defers w':=by
   intro ht hd
   rw[hd] at q3
   rcases ht with rfl|rfl
   ·exact Gv (P:=P) (fn:=fn) (tmps:=a'.tmps) hrs (Φ0:=Φ.bG w.heap.size) (w0:=w) rfl (fun v Φ'' w'' σ'' S'' q qs=>⟨v,Φ'',σ'',S'',rfl,.inl q,qs⟩) a'.defers Φ' w' σ' S' q3 q1 q4
   ·exact Gv (P:=P) (fn:=fn) (tmps:=a'.tmps) hrs (Φ0:=Φ.bG w.heap.size) (w0:=w) rfl (fun v Φ'' w'' σ'' S'' q qs=>⟨v,Φ'',σ'',S'',rfl,.inr q,qs⟩) a'.defers Φ' w' σ' S' q3 q1 q4
  cases e with
  | normal=>exact⟨.inl rfl,fin q5.2 q5.1⟩
  | ret=>exact⟨.inr rfl,fin q5.2 q5.1⟩
  | _=>exact q5.elim
 ·rintro e w' ⟨v,Φ',σ',S',rfl,q,qs⟩
  subst hC
  rcases q with q|q
  ·exact⟨v,Φ'.bG Φ.base,σ',S',rfl,q.inv.bG _,q.apt.bG _,qs.bG,.inl q.st⟩
  ·exact⟨v,Φ'.bG Φ.base,σ',S',rfl,q.inv.bG _,q.apt.bG _,qs.bG,.inr q.st⟩
end

section
structure C2 (Φ0:Phi) (σ0:St) (n0:Nat) (Φ:Phi) (σ:St):Prop where
 le:Φ0.le Φ
 snapn:∀a v,Φ.snap a=some v→Φ0.snap a=some v∨n0≤a.block∨bA Φ0 σ0 a.block
 ownd:∀R,bA Φ σ R→bA Φ0 σ0 R∨n0≤R
structure xG (C:YC) (Φ0:Phi) (σ0:St) (n0:Nat) (So0:YS) (tmps:Array Value) (fc:FR) (l:Nat) (st:Loop) (σ:St) (S:YS) (Φ:Phi) (So:YS) (t:Option Nat):Prop where
 inv:kV C Φ σ S.w So t
 frame:dC Φ tmps fc
 step:C2 Φ0 σ0 n0 Φ σ
 wr:∀k,S.wr k↔(bA Φ σ k∨k=l∨So.wr k)
 sn:∀a,S.sn a=(match Φ.snap a with|some v=>some v|none=>So.sn a)
 lrec:S.w.heap[l]?=some (.loop st)
 size:n0≤S.w.heap.size
 base:Φ.base≤S.w.heap.size
 owr:∀k,So.wr k→So0.wr k∨n0≤k
 osn:∀a v,So.sn a=some v→So0.sn a=some v∨So0.wr a.block∨n0≤a.block∨Φ0.snap a=some v∨bA Φ0 σ0 a.block
section
variable {C:YC} {Φ0 Φ:Phi} {σ0 σ:St} {n0:Nat} {So0:YS} {tmps:Array Value} {fc:FR} {l:Nat} {st:Loop} {S:YS} {So:YS} {t:Option Nat}
theorem xG.GN(h:xG C Φ0 σ0 n0 So0 tmps fc l st σ S Φ So t){a:Addr}{v:Value}(q:Φ.snap a=some v):S.sn a=some v:=by rw[h.sn a,q]
theorem xG.Qb(h:xG C Φ0 σ0 n0 So0 tmps fc l st σ S Φ So t){a:Addr}{v:Value}(q:So.sn a=some v):S.sn a=some v:=by
 rw[h.sn a]
 cases e:Φ.snap a with
 | none=>exact q
 | some u =>
  have h1:=h.inv.inv.snap a u e
  have h2:=h.inv.apt.agree.sn a v q
  rw[h1] at h2
  simpa using h2
theorem xG.LZ(h:xG C Φ0 σ0 n0 So0 tmps fc l st σ S Φ So t){a:Addr}{v:Value}(q:S.sn a=some v):Φ.snap a=some v∨So.sn a=some v:=by
 rw[h.sn a] at q
 cases e:Φ.snap a with
 | none=>rw[e] at q;exact .inr q
 | some u=>rw[e] at q;exact .inl q
theorem xG.agree(h:xG C Φ0 σ0 n0 So0 tmps fc l st σ S Φ So t):oI S S.w :=
 ⟨fun _ _=>rfl,fun k hk=>by
  rcases (h.wr k).1 hk with q|rfl|q
  ·obtain⟨l',o,p,h1,h2,h3⟩:=q
   obtain⟨p',e,hlt⟩:=(h.inv.inv.own l' o h1).place
   rw[h2] at e;cases e
   exact hlt k h3
  ·exact(Array.getElem?_eq_some_iff.1 h.lrec).1
  ·exact Nat.lt_of_lt_of_le (h.inv.apt.agree.lt k q) h.inv.apt.agree.size,(fun k hk x e=>by
  rcases (h.wr k).1 hk with q|rfl|q
  ·exact h.inv.inv.mark e q
  ·rw[h.lrec] at e;cases e
  ·exact h.inv.apt.agree.nomark k q x ((h.inv.apt.agree.same k q).symm.trans e)),fun a v q=>by
  rcases h.LZ q with q|q
  ·exact h.inv.inv.snap a v q
  ·exact h.inv.apt.agree.sn a v q,Nat.le_refl _,rfl,rfl,rfl,Nat.le_refl _⟩
theorem xG.at(h:xG C Φ0 σ0 n0 So0 tmps fc l st σ S Φ So t)(k1:∀a v,Φ0.snap a=some v→C.Φ0.snap a=some v∨C.n0≤a.block∨bA C.Φ0 C.σ0 a.block)(k2:∀R,bA Φ0 σ0 R→bA C.Φ0 C.σ0 R∨C.n0≤R)(k3:C.n0≤n0)
 {w:World}(ha:oI S w){Ψ:Phi}(ho:∀m,Ψ.obj m=none)
 (hs:∀a v,Ψ.snap a=some v→w.cell? a=some v∧¬S.wr a.block∧(Φ0.snap a=some v∨n0≤a.block∨bA Φ0 σ0 a.block)) :
  ∃Φ',kV C Φ' σ w So t∧dC Φ' tmps fc∧C2 Φ0 σ0 n0 Φ' σ∧(∀k,bA Φ' σ k↔bA Φ σ k)∧(∀a v,Φ'.snap a=some v→Φ.snap a=some v∨Ψ.snap a=some v)∧(∀v m,Rel Ψ v m→Rel Φ' v m)∧w.heap[l]?=some (.loop st)∧Φ'.base≤w.heap.size:=by
 obtain⟨Φ',hΦ⟩:∃Φ':Phi,Φ'={ Φ with snap:=fun a=>match Φ.snap a with|some v=>some v|none=>Ψ.snap a }:=⟨_,rfl⟩
 have hle:Φ.le Φ':=by subst hΦ;exact⟨fun a v q=>by simp[q],fun _ _ q=>q,rfl⟩
 have hobj:Φ'.obj=Φ.obj:=by subst hΦ;rfl
 have hb:Φ'.base=Φ.base:=by subst hΦ;rfl
 have hsn:∀a v,Φ'.snap a=some v→Φ.snap a=some v∨Ψ.snap a=some v:=fun a v q=>by
  subst hΦ
  simp only at q
  cases e:Φ.snap a with
  | none=>rw[e] at q;exact .inr q
  | some u=>rw[e] at q;exact .inl q
 have hwr:∀k,bA Φ σ k→w.heap[k]?=S.w.heap[k]?:=fun k hk=>ha.same k ((h.wr k).2 (.inl hk))
 have hown:∀k,bA Φ' σ k↔bA Φ σ k:=fun k=>by unfold bA;rw[hobj]
 have hinv:Inv Φ' w σ:=by
  refine⟨fun l' o hl=>(h.inv.inv.own l' o hl).mono hle fun p R h1 h2=>hwr R ⟨l',o,p,hl,h1,h2⟩,fun a b o o' p p' R h1 h2 h3 h4=>?_,fun a v q=>?_,fun l' o p R a v h1 h2 h3 q=>?_,?_⟩
  ·rw[hobj] at h3 h4;exact h.inv.inv.inj a b o o' p p' R h1 h2 h3 h4
  ·rcases hsn a v q with q|q
   ·exact ha.sn a v (h.GN q)
   ·exact(hs a v q).1
  ·rw[hobj] at h2
   rcases hsn a v q with q|q
   ·exact h.inv.inv.apart l' o p R a v h1 h2 h3 q
   ·intro e
    exact(hs a v q).2.1 ((h.wr _).2 (.inl ⟨l',o,p,h1,h2,e ▸ h3⟩))
  ·obtain⟨n,hn⟩:=h.inv.inv.fresh.1.1
   exact⟨⟨⟨n,fun k hk=>by rw[hobj];exact hn k hk⟩,fun k p hk=>h.inv.inv.fresh.1.2 k p (by rw[←hobj];exact hk)⟩,fun g i v q=>hle.snap _ _ (h.inv.inv.fresh.2.1 g i v q),h.inv.inv.fresh.2.2.mono hle.snap⟩
 have hag:=h.inv.apt.agree
 have hapt:Apt Φ' σ So w:=by
  refine⟨⟨fun k hk=>(ha.same k ((h.wr k).2 (.inr (.inr hk)))).trans (hag.same k hk),hag.lt,hag.nomark,fun a v q=>ha.sn a v (h.Qb q),Nat.le_trans hag.size ha.size,ha.os.trans hag.os,ha.tape.trans hag.tape,ha.output.trans hag.output,Nat.le_trans hag.drawn ha.drawn⟩,fun k hk q=>h.inv.apt.own k hk ((hown k).1 q),fun a v q ho=>h.inv.apt.snown a v q ((hown _).1 ho),fun a v q hk=>?_⟩
  rcases hsn a v q with q|q
  ·exact h.inv.apt.snap a v q hk
  ·exact(hs a v q).2.1 ((h.wr _).2 (.inr (.inr hk)))
 refine⟨Φ',⟨hinv,hapt,fun a v q=>?_,fun R hR=>h.inv.ownd R ((hown R).1 hR),Nat.le_trans h.inv.size ha.size,h.inv.st⟩,h.frame.mono hle,⟨h.step.le.trans hle,fun a v q=>?_,fun R hR=>h.step.ownd R ((hown R).1 hR)⟩,hown,hsn,fun v m r=>?_,?_,?_⟩
 ·rcases hsn a v q with q|q
  ·exact h.inv.snapn a v q
  ·rcases (hs a v q).2.2 with q|q|q
   ·exact k1 a v q
   ·exact .inr (.inl (Nat.le_trans k3 q))
   ·rcases k2 _ q with q|q
    ·exact .inr (.inr q)
    ·exact .inr (.inl q)
 ·rcases hsn a v q with q|q
  ·exact h.step.snapn a v q
  ·exact(hs a v q).2.2
 ·refine r.GC (fun a u q=>?_) (fun l' p q=>by rw[ho l'] at q;cases q)
  have h1:=(hs a u q).1
  subst hΦ
  simp only
  cases e:Φ.snap a with
  | none=>exact q
  | some u' =>
   have h2:=ha.sn a u' (h.GN e)
   rw[h1] at h2
   simpa using h2.symm
 ·rw[ha.same l ((h.wr l).2 (.inr (.inl rfl)))];exact h.lrec
 ·rw[hb];exact Nat.le_trans h.base ha.size
end
theorem C2.step{Φ0 Φ Φ':Phi}{σ0 σ σ':St}{n0:Nat}{w w':World}{S S':YS}(h:C2 Φ0 σ0 n0 Φ σ)(hn:n0≤w.heap.size)(k:eO Φ σ w S Φ' σ' w' S'):C2 Φ0 σ0 n0 Φ' σ' where
 le:=h.le.trans k.le
 snapn:=fun a v hv=>by
  rcases k.snapn a v hv with q|q|q
  ·exact h.snapn a v q
  ·exact .inr (.inl (Nat.le_trans hn q))
  ·rcases h.ownd _ q with q|q
   ·exact .inr (.inr q)
   ·exact .inr (.inl q)
 ownd:=fun R hR=>by
  rcases k.ownd R hR with q|q
  ·exact h.ownd R q
  ·exact .inr (Nat.le_trans hn q)
theorem kV.putObj{C:YC}{Φ:Phi}{σ:St}{w:World}{S:YS}{t:Option Nat}(h:kV C Φ σ w S t){l:Nat}{r:Loop}(o':Obj)(hl:w.heap[l]?=some (.loop r))(hw:¬S.wr l):kV C Φ σ (w.putObj l o') S t:=by
 have hne:∀k,S.wr k→k≠l:=fun k hk e=>hw (e ▸ hk)
 refine⟨h.inv.putObj _ hl (fun _ _ _ e=>by cases e) (fun _ _ e=>by cases e),⟨⟨fun k hk=>(World.putObj_heap_other (hne k hk)).trans (h.apt.agree.same k hk),h.apt.agree.lt,h.apt.agree.nomark,fun a v q=>?_,by rw[World.putObj_size];exact h.apt.agree.size,h.apt.agree.os,h.apt.agree.tape,h.apt.agree.output,h.apt.agree.drawn⟩,h.apt.own,h.apt.snown,h.apt.snap⟩,h.snapn,h.ownd,by rw[World.putObj_size];exact h.size,h.st⟩
 have hc:=h.apt.agree.sn a v q
 rw[←hc]
 refine World.eK (World.putObj_heap_other fun e=>?_)
 rw[World.cell?,e,hl] at hc
 simp at hc
end

section
def T.depth:T→Nat
 | .leaf _=>1
 | .one _ a=>1+a.depth
 | .two _ a b=>1+max a.depth b.depth
def Dp:List Nat→List Nat
 | []=>[]
 | k::s=>shut ((k - 1)::s)
theorem r0(s:List Nat):shut (0::s)=Dp s:=by
 cases s with
 | nil=>rw[shut];rfl
 | cons k s=>rw[shut];rfl
theorem rZ(n:Nat)(s:List Nat):shut ((n+1)::s)=(n+1)::s:=by rw[shut]
theorem tN:∀{t:T},t.ok→∀(d:Nat) (s:List Nat) (l:List ND),dp d s (t.fl++l)=dp (max d (s.length+t.depth)) (Dp s) l
 | .leaf x,h,d,s,l=>by
  simp only[T.ok] at h
  rw[T.fl,List.cons_append,List.nil_append,dp,h,r0];rfl
 | .one x a,h,d,s,l=>by
  rw[T.fl,List.cons_append,dp,h.1,rZ,tN h.2,Dp,show 0+1 - 1=0 from rfl,r0]
  congr 1
  simp only[List.length_cons,T.depth];omega
 | .two x a b,h,d,s,l=>by
  rw[T.fl,List.cons_append,dp,h.1,rZ,List.append_assoc,tN h.2.1,Dp,show 1+1 - 1=0+1 from rfl,rZ,tN h.2.2,Dp,show 0+1 - 1=0 from rfl,r0]
  congr 1
  simp only[List.length_cons,T.depth];omega
theorem Ed{t:T}(h:t.ok)(he:gK t.fl 0=(t.fl.length:Int)):gN t.fl=t.depth:=by
 have:=tN h 0 [] []
 rw[List.append_nil] at this
 rw[gN,if_neg,this]
 ·simp[dp]
 ·rintro(h1|h1)
  ·have:=t.Aq;rw[h1] at this;simp at this
  ·exact h1 he
end
end Go.Proofs.YtojmhmejdihaaaaGreatDoor
