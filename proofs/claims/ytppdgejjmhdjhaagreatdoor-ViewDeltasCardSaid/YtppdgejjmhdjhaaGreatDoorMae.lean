/- Parts of the proof; conditions: as its theorems name them. -/
import Derived.Test.YtppdgejjmhdjhaaGreatDoorMac
import Derived.Test.YtppdgejjmhdjhaaGreatDoorMad
import Derived.Shelf.Strings.Shaped
import Derived.Test.YtppdgejjmhdjhaaGreatDoorRows
set_option linter.unusedVariables false
set_option linter.unusedSimpArgs false
set_option maxHeartbeats 8000000
set_option maxRecDepth 100000
namespace Go.Proofs.YtppdgejjmhdjhaaGreatDoor
section
class Sfx (bs:BL) (r:RD):Prop where
 h:r.l <:+ bs
instance {bs:BL} {c:Prop} [Decidable c] {r s:RD} [h:Sfx bs r] [k:Sfx bs s]:Sfx bs (if c then r else s):=by
 split
 ·exact h
 ·exact k
theorem Sfx.len{bs:BL}{r:RD}(h:Sfx bs r):r.l.length≤bs.length:=h.h.length_le
theorem Sfx.drop{bs:BL}{r:RD}(h:Sfx bs r):bs.drop (bs.length - r.l.length)=r.l:=by
 obtain⟨a,e⟩:=h.h
 rw[←e]
 simp
theorem cU{P:Program}{g:FuncId}{ms:List MV}{σ:St}{l:Nat}{o o':aT}{r:MV}{k:MV→St→Prop}(hs:σ l=some o)(h:aA P g ms (St.none.set l o) fun v σ'=>v=r∧σ'=St.none.set l o')(hk:R (bT r (σ.set l o') k)):R (cW P g ms σ k):=by
 refine bK h (St.aB (St.none_le _) hs) ?_
 rintro v σ' ⟨rfl,rfl⟩ -
 have e:(St.none.set l o').over (σ.minus (St.none.set l o))=σ.set l o':=by
  funext j
  by_cases h:j=l
  ·subst h;simp[St.over,St.set]
  ·simp[St.over,St.set,St.minus,h,St.none]
 rw[e]
 exact hk
def VL(l:List (Nat × MV))(e k:Nat):List (Nat × MV)→Prop
 | []=>True
 | p::r=>(cQ l p.1=p.2∨(p.2=.vec e k 0 0∧(cQ l p.1=.aM∨cQ l p.1=.lst e [] true)))∧VL l e k r
theorem HJ{l:List (Nat × MV)}{e k:Nat}:∀{l1:List (Nat × MV)},VL l e k l1→∀p,p∈l1→cQ l p.1=p.2∨(p.2=.vec e k 0 0∧(cQ l p.1=.aM∨cQ l p.1=.lst e [] true))
 | [],_,p,hp=>absurd hp (List.not_mem_nil)
 | q::r,h,p,hp=>by
  rcases List.mem_cons.1 hp with rfl|hp
  ·exact h.1
  ·exact HJ h.2 p hp
theorem Gh.AU{n:Nat}{l:List (Nat × MV)}{d:List (FuncId × List MV)}{σ:St}{K:FR→St→Prop}(t:TypeId)(e:Nat)(l1:Nat→List (Nat × MV))(h1:∀k,VL l e k (l1 k))
 (h:∀k,σ k=none→Gh ⟨n,l1 k,d⟩ (σ.set k (.row t e [])) K):Gh ⟨n,l,d⟩ σ K:=Gh.row t e l1 (fun k=>HJ (h1 k)) h
theorem aA.obj{P:Program}{g:FuncId}{ms:List MV}{σ:St}{X:MV}{l:Nat}{o:aT}(h:aA P g ms σ fun v σ'=>v=X∧σ' l=some o):aA P g ms σ fun v σ'=>v=X∧σ'=St.none.set l o :=
 h.less fun v σ' k=>⟨St.none.set l o,St.aB (St.none_le _) k.2,k.1,rfl⟩
end

section
theorem F8.ext{f g:F8}(h:∀i,i<8→f.get i=g.get i):f=g:=by
 obtain⟨a,ha⟩:=f
 obtain⟨b,hb⟩:=g
 have:a=b:=by
  apply List.ext_getElem oM
  intro i h1 h2
  have:=h i oM
  simpa[F8.get,List.getD,h1,h2] using this
 subst this;rfl
theorem F8.Lb(f:F8)(i j:Nat)(v:VA)(hi:i<8):(f.set i v).get j=if i=j then v else f.get j:=by
 have:=f.h
 simp only[F8.get,F8.set,List.getD_eq_getElem?_getD,List.getElem?_set]
 split
 ·rename_i e
  subst e
  rw[if_pos oM];rfl
 ·rfl
theorem F8.KO(f:F8)(p:VA→Bool):f.l.all p=true↔∀i,i<8→p (f.get i)=true:=by
 rw[List.all_eq_true]
 constructor
 ·intro h i hi
  refine h _ ?_
  have:i<f.l.length:=by rw[f.h];exact hi
  rw[F8.get,List.getD_eq_getElem?_getD,List.getElem?_eq_getElem this]
  exact List.getElem_mem _
 ·intro h x hx
  obtain⟨i,hi,rfl⟩:=List.mem_iff_getElem.1 hx
  have:=h i (by rw[←f.h];exact hi)
  rwa [F8.get,List.getD_eq_getElem?_getD,List.getElem?_eq_getElem hi] at this
theorem Uy{v:VA}(h:fF v=true)(h0:v.kd=0):v=va0:=by
 rcases (Sz v).1 h with⟨_,h⟩|⟨h,_⟩|⟨h,_⟩
 ·exact h
 ·omega
 ·omega
theorem Uo{n:Int}(h0:0≤n)(h:n≤4294967295):((UInt32.ofNat n.toNat).toNat:Int)=n:=by
 rw[UInt32.toNat_ofNat',Nat.mod_eq_of_lt oM];omega
end

section
theorem Sk.cond{α:Type}{f:RD→α × RD}(h:Sk f)(d:α)(b:Bool):Sk (fun r=>if b=true then f r else(d,r)):=⟨fun r hr=>by
 cases b
 ·rfl
 ·simpa using h.stk r hr,fun r=>by
 cases b
 ·exact List.suffix_refl _
 ·simpa using h.sfx r⟩
theorem Rt.cond{α:Type}{f:RD→α × RD}{ok:α→Prop}{w:α→BL}(h:Rt f ok w)(d:α)(b:Bool):Rt (fun r=>if b=true then f r else(d,r)) (fun x=>if b=true then ok x else x=d) (fun x=>if b=true then w x else[]) where
 fwd x l hx:=by
  cases b
  ·simp only[Bool.false_eq_true,if_false,List.nil_append] at hx ⊢;rw[hx]
  ·simp only[if_true] at hx ⊢;exact h.fwd x l hx
 bck r hr:=by
  cases b
  ·exact⟨by simpa using hr,by simp,by simp⟩
  ·simp only[if_true] at hr ⊢;exact h.bck r hr
end

section
section
variable {α:Type} {f:RD→α × RD} {ok:α→Prop} {w:α→BL}
end
section
variable {c:Prop} [Decidable c] {e:Int} {r:RD} {l:BL}
end
theorem Ho(l:List ND):cR l=0↔l.length≤31∧l≠[]∧iR l 0=l.length∧l.all fM=true∧iU l≤8:=by
 unfold cR
 by_cases h1:31<l.length
 ·rw[if_pos h1]
  constructor
  ·intro h;cases h
  ·intro h;omega
 ·rw[if_neg h1]
  by_cases h2:l=[]∨iR l 0≠l.length∨l.all fM=false
  ·rw[if_pos h2]
   constructor
   ·intro h;cases h
   ·rintro⟨_,k1,k2,k3,_⟩
    rcases h2 with hc|hc|hc
    ·exact absurd hc k1
    ·exact absurd k2 hc
    ·rw[k3] at hc;cases hc
  ·rw[if_neg h2]
   by_cases h3:8<iU l
   ·rw[if_pos h3]
    constructor
    ·intro h;cases h
    ·rintro⟨_,_,_,_,k⟩;exact absurd h3 (Nat.not_lt.2 k)
   ·rw[if_neg h3]
    refine⟨fun _=>⟨Nat.le_of_not_lt h1,fun h=>h2 (.inl h),Classical.byContradiction fun h=>h2 (.inr (.inl h)),?_,Nat.le_of_not_lt h3⟩,fun _=>rfl⟩
    cases h:l.all fM
    ·exact absurd (.inr (.inr h)) h2
    ·rfl
end

section
def fc(f:F8):List MV:=(f.l.map VA.c).flatten
theorem VZ(l:List VA):(l.map VA.c).flatten.length=3 * l.length:=by
 induction l with
 | nil=>rfl
 | cons v l ih=>simp only[List.map_cons,List.flatten_cons,List.length_append,List.length_cons,List.length_nil,ih];omega
theorem y7:∀(l:List VA) (i:Nat),((l.map VA.c).flatten).drop (i * 3)=((l.drop i).map VA.c).flatten
 | _,0=>by simp
 | [],i+1=>by simp
 | v::l,i+1=>by
  have:=y7 l i
  rw[show(i+1) * 3=i * 3+3 by omega]
  simp only[List.map_cons,List.flatten_cons,List.cons_append,List.nil_append,List.drop_succ_cons]
  exact this
theorem LZ:∀(l:List VA) (i:Nat),((l.map VA.c).flatten).take (i * 3)=((l.take i).map VA.c).flatten
 | _,0=>by simp
 | [],i+1=>by simp
 | v::l,i+1=>by
  have:=LZ l i
  rw[show(i+1) * 3=i * 3+3 by omega]
  simp only[List.map_cons,List.flatten_cons,List.cons_append,List.nil_append,List.take_succ_cons]
  rw[this]
theorem Ux(l:List VA):((l.map VA.c).flatten).all MV.aL=true:=by
 induction l with
 | nil=>rfl
 | cons v l ih =>
  simp only[List.map_cons,List.flatten_cons,List.cons_append,List.nil_append,List.all_cons,ih];rfl
theorem cP(f:F8):(fc f).length=24:=by rw[fc,VZ,f.h]
theorem dP(f:F8):(fc f).all MV.aL=true:=Ux f.l
theorem K4{f:F8}{r:List MV}{n:Nat}(h:24≤n):(fc f++r).take n=fc f++r.take (n - 24):=by
 rw[List.take_append,List.take_of_length_le (by rw[cP];exact h),cP]
theorem kI{f:F8}{n:Nat}(h:24≤n):(fc f).take n=fc f:=List.take_of_length_le (by rw[cP];exact h)
theorem KY{f:F8}{r:List MV}{n:Nat}(h:24≤n):(fc f++r).drop n=r.drop (n - 24):=by
 rw[List.drop_append,List.drop_eq_nil_of_le (by rw[cP];exact h),cP,List.nil_append]
theorem Fz{f:F8}{n:Nat}(h:24≤n):(fc f).drop n=[]:=List.drop_eq_nil_of_le (by rw[cP];exact h)
theorem K3{f:F8}{r:List MV}{n:Nat}{d:MV}(h:24≤n):(fc f++r).getD n d=r.getD (n - 24) d:=by
 rw[List.getD_eq_getElem?_getD,List.getElem?_append_right (by rw[cP];exact h),cP,←List.getD_eq_getElem?_getD]
theorem jK{f:F8}{i:Nat}(h:i<8):(fc f).drop (i * 3)=(f.get i).c++(fc f).drop ((i+1) * 3):=by
 have hl:i<f.l.length:=by rw[f.h];exact h
 rw[fc,y7,y7,List.drop_eq_getElem_cons hl,List.map_cons,List.flatten_cons]
 congr 1
 rw[F8.get,b9 va0 hl]
theorem pJ{f:F8}{i:Nat}(h:i<8):((fc f).drop (i * 3)).take 3=[.int .i64 (f.get i).kd,.int .i64 (f.get i).n,.str (f.get i).s]:=by
 rw[jK h];rfl
theorem Cj{f:F8}{r:List MV}{i:Nat}(h:i<8):((fc f++r).drop (i * 3)).take 3=[.int .i64 (f.get i).kd,.int .i64 (f.get i).n,.str (f.get i).s]:=by
 rw[List.drop_append_of_le_length (by rw[cP];omega),jK h];rfl
theorem getD_drop{α:Type}{l:List α}{n k:Nat}{d:α}:l.getD (n+k) d=(l.drop n).getD k d:=by
 rw[List.getD_eq_getElem?_getD,List.getD_eq_getElem?_getD,List.getElem?_drop]
theorem tF{f:F8}{i:Nat}{d:MV}(h:i<8):(fc f).getD (i * 3) d=.int .i64 (f.get i).kd:=by
 have:=getD_drop (l:=fc f) (n:=i * 3) (k:=0) (d:=d)
 rw[Nat.add_zero] at this
 rw[this,jK h];rfl
theorem K0{f:F8}{i:Nat}{d:MV}(h:i<8):(fc f).getD (i * 3+1) d=.int .i64 (f.get i).n:=by
 rw[getD_drop,jK h];rfl
theorem Dw{f:F8}{i:Nat}{d:MV}(h:i<8):(fc f).getD (i * 3+2) d=.str (f.get i).s:=by
 rw[getD_drop,jK h];rfl
theorem S4{f:F8}{i:Nat}{a b:Int}{s:ByteArray}(h:i<8):laid (fc f) (i * 3) [.int .i64 a,.int .i64 b,.str s]=fc (f.set i ⟨a,b,s⟩):=by
 have hl:i<f.l.length:=by rw[f.h];exact h
 unfold laid
 simp only[List.length_cons,List.length_nil]
 have e:(f.set i ⟨a,b,s⟩).l=f.l.set i ⟨a,b,s⟩:=rfl
 rw[show i * 3+(0+1+1+1)=(i+1) * 3 by omega,fc,fc,LZ,y7,e,List.set_eq_take_append_cons_drop,if_pos hl,List.map_append,List.flatten_append,List.map_cons,List.flatten_cons]
 simp only[List.append_assoc]
theorem KZ{f:F8}{i:Nat}{v:VA}(h:i<8):(fc f).take (i * 3)++v.c++(fc f).drop (3+i * 3)=fc (f.set i v):=by
 have:=S4 (f:=f) (i:=i) (a:=v.kd) (b:=v.n) (s:=v.s) h
 rw[←this,laid,show 3+i * 3=i * 3+3 by omega];rfl
theorem F8.S9{f:F8}{i:Nat}{v:VA}(h:i<8):(f.set i v).get i=v:=by rw[F8.Lb f i i v h,if_pos rfl]
theorem pI{α:Type}{a b:α}{l:List α}{n:Nat}:(a::b::l).drop (2+n)=l.drop n:=by rw[show 2+n=n+1+1 by omega];rfl
theorem zT{α:Type}{a b c:α}{l:List α}{n:Nat}:(a::b::c::l).drop (3+n)=l.drop n:=by rw[show 3+n=n+1+1+1 by omega];rfl
theorem HZ{α:Type}{a b:α}{l:List α}{n:Nat}:(a::b::l).take (2+n)=a::b::l.take n:=by rw[show 2+n=n+1+1 by omega];rfl
theorem Ba{α:Type}{a b c:α}{l:List α}{n:Nat}:(a::b::c::l).take (3+n)=a::b::c::l.take n:=by rw[show 3+n=n+1+1+1 by omega];rfl
theorem zZ{α:Type}{a b c d:α}{l:List α}{n:Nat}:(a::b::c::l).getD (3+n) d=l.getD n d:=by rw[show 3+n=n+1+1+1 by omega];simp
theorem pK{α:Type}{a b d:α}{l:List α}{n:Nat}:(a::b::l).getD (2+n) d=l.getD n d:=by rw[show 2+n=n+1+1 by omega];simp
theorem K5{r:List MV}:(MV.int .i64 0::.int .i64 0::.str ⟨#[]⟩::.int .i64 0::.int .i64 0::.str ⟨#[]⟩::.int .i64 0::.int .i64 0::.str ⟨#[]⟩::.int .i64 0::.int .i64 0::.str ⟨#[]⟩ ::
  .int .i64 0::.int .i64 0::.str ⟨#[]⟩::.int .i64 0::.int .i64 0::.str ⟨#[]⟩::.int .i64 0::.int .i64 0::.str ⟨#[]⟩::.int .i64 0::.int .i64 0::.str ⟨#[]⟩::r)=fc f80++r:=rfl
abbrev PA.c(p:PA):List MV:=.int .u32 (p.mask.toNat:Int)::.int .u32 (p.lab.toNat:Int)::fc p.f
abbrev CA.c(c:CA):List MV:=.int .i64 c.id::.int .i64 c.ver::.int .u32 (c.lab.toNat:Int)::fc c.f
abbrev ED.c(e:ED):List MV:=.int .i64 e.kd::.int .i64 e.id::.int .i64 e.gr::.int .u32 (e.p.mask.toNat:Int)::.int .u32 (e.p.lab.toNat:Int)::fc e.p.f
theorem LQ{a b:UInt32}:((a.toNat:Int)=(b.toNat:Int))↔a=b:=by
 constructor
 ·intro h;exact UInt32.toNat_inj.1 (by exact_mod_cast h)
 ·intro h;rw[h]
end

section
class LB (l:BL) (k:outParam Nat):Prop where
 h:l.length≤k
instance {a b:BL} {i j:Nat} [h:LB a i] [k:LB b j]:LB (a++b) (i+j):=⟨by have:=h.h;have:=k.h;rw[List.length_append];omega⟩
instance:LB [] 0:=⟨Nat.le_refl _⟩
instance {c:Prop} [Decidable c] {a b:BL} {i j:Nat} [h:LB a i] [k:LB b j]:LB (if c then a else b) (i+j):=⟨by have:=h.h;have:=k.h;split<;>omega⟩
theorem LB.le{l:BL}{k n:Nat}[h:LB l k](hk:k≤n):l.length≤n:=Nat.le_trans h.h hk
class Sh (r:RD):Prop where
 h:r.l.length≤1000000
theorem Sh.sk{α:Type}{f:RD→α × RD}(hf:Sk f){r:RD}[h:Sh r]:Sh (f r).2:=⟨Nat.le_trans (hf.sfx r).length_le h.h⟩
instance {c:Prop} [Decidable c] {r s:RD} [h:Sh r] [k:Sh s]:Sh (if c then r else s):=by
 split
 ·exact h
 ·exact k
end

section
inductive Lz (e:Nat) (xs:List (List MV)):MV→Prop where
 | lst (t:Bool):Lz e xs (.lst e xs t)
 | nil (h:xs=[]):Lz e xs .aM
theorem Lz.cell{e:Nat}{xs:List (List MV)}{m:MV}(h:Lz e xs m):m.aL=true:=by cases h<;>rfl
theorem Lz.cells{e:Nat}{xs:List (List MV)}{m:MV}(h:Lz e xs m):m.cells=[m]:=by cases h<;>rfl
theorem Lz.Xc{e:Nat}{xs:List (List MV)}{m:MV}(h:Lz e xs m):oZ m (.lst e xs false):=by
 cases h with
 | lst t=>cases t with
  | false=>exact .same _
  | true=>exact .tight _ _
 | nil h=>subst h;exact .nil _ _
abbrev CM.k(c:CM)(f:MV):List MV:=.int .i64 c.kd::.int .i64 c.e.kd::.int .i64 c.e.id::.int .i64 c.e.gr::.int .u32 (c.e.p.mask.toNat:Int)::.int .u32 (c.e.p.lab.toNat:Int)::(fc c.e.p.f ++
 .int .i64 c.dev::.int .i64 c.req::.int .i64 c.id::.int .i64 c.base::.int .i64 c.Tj::.int .u32 (c.p.mask.toNat:Int)::.int .u32 (c.p.lab.toNat:Int)::(fc c.p.f++[f,.int .u32 (c.mask.toNat:Int)]))
abbrev RE.k(a:RE)(f:MV):List MV:=[.int .i64 a.kd,.int .i64 a.dev,.int .i64 a.req,.int .i64 a.code,.int .i64 a.id,.int .i64 a.ver,.int .i64 a.sq,.int .i64 a.ep,f,.int .u32 (a.mask.toNat:Int)]
abbrev PG.k(p:PG)(i:MV):List MV:=[.int .i64 p.code,.bool p.reset,.int .i64 p.fr.dev,.int .i64 p.fr.ep,.int .i64 p.fr.sq,.int .i64 p.fr.cu,.int .i64 p.to.dev,.int .i64 p.to.ep,.int .i64 p.to.sq,.int .i64 p.to.cu,i]
abbrev MS.k(m:MS)(f g i:MV):List MV:=.int .i64 m.kd::.int .i64 m.size::.int .i64 m.cmd.kd::.int .i64 m.cmd.e.kd::.int .i64 m.cmd.e.id::.int .i64 m.cmd.e.gr::.int .u32 (m.cmd.e.p.mask.toNat:Int)::.int .u32 (m.cmd.e.p.lab.toNat:Int)::(fc m.cmd.e.p.f ++
 .int .i64 m.cmd.dev::.int .i64 m.cmd.req::.int .i64 m.cmd.id::.int .i64 m.cmd.base::.int .i64 m.cmd.Tj::.int .u32 (m.cmd.p.mask.toNat:Int)::.int .u32 (m.cmd.p.lab.toNat:Int)::(fc m.cmd.p.f++f::.int .u32 (m.cmd.mask.toNat:Int) ::
 .int .i64 m.tok.dev::.int .i64 m.tok.ep::.int .i64 m.tok.sq::.int .i64 m.tok.cu ::
 .int .i64 m.rep.kd::.int .i64 m.rep.dev::.int .i64 m.rep.req::.int .i64 m.rep.code::.int .i64 m.rep.id::.int .i64 m.rep.ver::.int .i64 m.rep.sq::.int .i64 m.rep.ep::g::.int .u32 (m.rep.mask.toNat:Int) ::
 .int .i64 m.page.code::.bool m.page.reset::.int .i64 m.page.fr.dev::.int .i64 m.page.fr.ep::.int .i64 m.page.fr.sq::.int .i64 m.page.fr.cu::.int .i64 m.page.to.dev::.int .i64 m.page.to.ep::.int .i64 m.page.to.sq::.int .i64 m.page.to.cu::i ::
 [.int .i64 m.code]))
end

section
def bV(m:Nat):List Nat:=(List.range 8).filter fun i=>bit m i
theorem tA{m i:Nat}(h:i∈bV m):i<8:=List.mem_range.1 (List.mem_filter.1 h).1
theorem vC(m:Nat):(bV m).length≤8:=by
 have:=List.length_filter_le (fun i=>bit m i) (List.range 8)
 rwa [List.length_range] at this
theorem L7(m:Nat):bV (m &&& 255)=bV m:=by
 unfold bV
 apply List.filter_congr
 intro i hi
 have hi:=List.mem_range.1 hi
 unfold bit
 rw[Nat.testBit_and]
 have:(255:Nat).testBit i=true:=by
  have h:∀i,i<8→(255:Nat).testBit i=true:=by decide
  exact h i hi
 rw[this,Bool.and_true]
theorem zH:∀s:Nat,s<256→s≠0→bV s=(bV s).headD 0::bV (s &&& (s - 1)):=by decide +kernel
theorem L8:bV 0=[]:=by decide
end

section
def hasB(s:Nat)(n:Int):Bool:=decide (0≤n∧n≤31∧s / 2 ^ n.toNat % 2=1)
theorem PF(s:Nat)(k:Nat):s / 2 ^ k / 2=s / 2 ^ (k+1):=by
 rw[Nat.pow_succ,Nat.div_div_eq_div_mul]
set_option maxHeartbeats 2000000 in
theorem rD (s:Nat) (n:Int) (h1:s<4294967296):aA Tryz.prog 178 [.int .u32 (s:Int),.int .i64 n] St.none (fun r _=>r=.bool (hasB s n)):=by
 refine(mB 22 [.tmp 4] Tryz.func178 ?_)
 by_cases hn:n<0∨31<n
 ·repeat' first|(refine wY ?_ ?_<;>intro h)|refine wZ1 @Tryz.f178.eq_1 ?_|fail
  all_goals simp only[hasB,MV.bool.injEq,Bool.false_eq,decide_eq_false_iff_not]
  all_goals omega
 ·obtain⟨m,rfl⟩:∃m:Nat,n=m:=⟨n.toNat,by omega⟩
  repeat' first|refine wZ1 @Tryz.f178.eq_1 ?_|fail
  refine aF (α:=Nat) (fun a=>⟨22,[(5,.int .i64 (a:Int)),(0,.int .u32 ((s / 2 ^ a:Nat):Int)),(1,.int .i64 (m:Int))],[]⟩) (fun _=>St.none)
   (fun a=>a≤m) (fun a=>m - a) (.of (.less ?_ (St.le_refl _)) ⟨0,rfl,rfl,Nat.zero_le _⟩) ?_
  ·simp(maxSteps:=4000000) (disch:=first|exact ddL|fail) only[go_sem,simprocAttr,aU,aN,Nat.pow_zero,Nat.div_one]
   all_goals rfl
  ·intro k hk
   have hk:k≤m:=hk
   have hb:s / 2 ^ k<4294967296:=Nat.lt_of_le_of_lt (Nat.div_le_self ..) h1
   by_cases hlt:k<m
   ·repeat' first|refine wZ1 @Nat.add_zero ?_|fail
    refine .of (.less (l1:=[(5,.int .i64 ((k+1:Nat):Int)),(0,.int .u32 ((s / 2 ^ (k+1):Nat):Int)),(1,.int .i64 (m:Int))]) ?_ (St.le_refl _)) ⟨k+1,rfl,rfl,by omega,by omega⟩
    rw[←PF]
    have ew:IntKind.u32.wrap (((s / 2 ^ k:Nat):Int).tdiv 2)=((s / 2 ^ k / 2:Nat):Int):=by
     generalize s / 2 ^ k=w at hb ⊢
     have e2:((w:Int)).tdiv 2=((w / 2:Nat):Int):=by
      rw[Int.tdiv_eq_ediv_of_nonneg oM]
      omega
     rw[e2]
     simp only[IntKind.wrap,IntKind.signed,IntKind.bits]
     simp
     omega
    simp(maxSteps:=4000000) (disch:=first|exact ddL|fail) only[go_sem,simprocAttr,aU,aN,ew]
    all_goals rfl
   ·have:k=m:=by omega
    subst this
    repeat' first|refine wZ0 ?_|fail
    simp only[hasB,Int.toNat_natCast,MV.bool.injEq]
    have e2:(((s / 2 ^ k:Nat):Int).tmod 2)=((s / 2 ^ k % 2:Nat):Int):=by
     generalize s / 2 ^ k=w at hb ⊢
     rw[Int.tmod_eq_emod_of_nonneg oM]
     omega
    refine decide_eq_decide.mpr ?_
    rw[e2]
    generalize s / 2 ^ k % 2=w
    omega
end

section
theorem VY{a b:VA}:a=b↔a.kd=b.kd∧a.n=b.n∧a.s=b.s:=by
 obtain⟨a1,a2,a3⟩:=a
 obtain⟨b1,b2,b3⟩:=b
 simp
theorem pV{P:Program}{d:Nat}{t:TypeId}{fs:List (Nat × TypeId)}{xs ys:List MV}(hk:(td P t).k=.struct fs)(hp:eX P t=true):kK P (d+1) t (.agg xs) (.agg ys)=cF P (kK P d) xs ys fs:=by
 simp only[kK,hk,hp,if_true]
theorem Jl{P:Program}{d n:Nat}{t e:TypeId}{xs ys:List MV}(hk:(td P t).k=.array n e)(hp:(td P e).ok=true):kK P (d+1) t (.agg xs) (.agg ys)=cF P (kK P d) xs ys ((List.range n).map fun i=>(i * (td P e).size,e)):=by
 simp only[kK,hk,hp,if_true]
theorem tU{P:Program}{d:Nat}{t:TypeId}{k k':IntKind}{a b:Int}(hk:(td P t).k=.int k'):kK P (d+1) t (.int k a) (.int k b)=some (decide (a=b)):=by
 simp only[kK,hk,if_true]
theorem Qv{P:Program}{d:Nat}{t:TypeId}{a b:ByteArray}(hk:(td P t).k=.str):kK P (d+1) t (.str a) (.str b)=some (decide (a=b)):=by
 simp only[kK,hk]
theorem W9:(td Tryz.prog 3).k=.int .i64:=by rw[td3]
theorem UQ:(td Tryz.prog 23).k=.int .u32:=by rw[KA]
theorem XI:(td Tryz.prog 9).k=.str:=by rw[td9]
theorem CK{l:List MV}{i:Nat}{f:F8}(hl:l=fc f)(h:i<8):eA (td Tryz.prog 54) l (i * 3)=.agg (f.get i).c:=by
 simp only[eA,Bb,TK.isAgg,if_true,hl]
 exact congrArg MV.agg (pJ h)
theorem Lq(d:Nat)(a b:VA):kK Tryz.prog (d+2) 54 (.agg a.c) (.agg b.c)=some (decide (a=b)):=by
 have hp:eX Tryz.prog 54=true:=by decide +kernel
 rw[pV (by rw[Bb]) hp]
 simp only[cF,td3,td9,eA,TK.isAgg,Bool.false_eq_true,if_false,List.getD_cons_zero,List.getD_cons_succ,List.length_cons,List.length_nil,tU W9,Qv XI]
 simp[VY,Bool.decide_and]
theorem Vc{f g:F8}:f=g↔∀i,i∈List.range 8→f.get i=g.get i :=
 ⟨fun h i _=>by rw[h],fun h=>F8.ext fun i hi=>h i (List.mem_range.2 hi)⟩
theorem Gk(d:Nat)(f g:F8):∀L:List Nat,(∀i,i∈L→i<8)→cF Tryz.prog (kK Tryz.prog (d+2)) (fc f) (fc g) (L.map fun i=>(i * 3,54))=some (decide (∀i,i∈L→f.get i=g.get i))
 | [],_=>by simp[cF]
 | i::L,h=>by
  have hi:=h i (by simp)
  have ih:=Gk d f g L fun j hj=>h j (by simp[hj])
  have h3:(td Tryz.prog 54).size=3:=by rw[Bb]
  have ho:(td Tryz.prog 54).ok=true:=by rw[Bb]
  simp only[List.map_cons,cF]
  rw[CK rfl hi,CK rfl hi,ih,Lq,if_pos ⟨ho,by rw[h3,cP];omega,by rw[h3,cP];omega,by rw[h3];decide⟩]
  simp only[Option.map_some,List.forall_mem_cons]
  rw[Bool.decide_and]
theorem Gl(d:Nat)(f g:F8):kK Tryz.prog (d+3) 55 (.agg (fc f)) (.agg (fc g))=some (decide (f=g)):=by
 have h3:(td Tryz.prog 54).size=3:=by rw[Bb]
 rw[Jl (n:=8) (e:=54) (by rw[KB]) (by rw[Bb]),h3,Gk d f g _ (fun i hi=>List.mem_range.1 hi)]
 congr 1
 exact decide_eq_decide.mpr Vc.symm
theorem VH{a b:PA}:a=b↔a.mask=b.mask∧a.lab=b.lab∧a.f=b.f:=by
 obtain⟨a1,a2,a3⟩:=a
 obtain⟨b1,b2,b3⟩:=b
 simp
theorem U0{a b:CA}:a=b↔a.id=b.id∧a.ver=b.ver∧a.lab=b.lab∧a.f=b.f:=by
 obtain⟨a1,a2,a3,a4⟩:=a
 obtain⟨b1,b2,b3,b4⟩:=b
 simp
theorem Np(d:Nat)(a b:PA):kK Tryz.prog (d+4) 57 (.agg a.c) (.agg b.c)=some (decide (a=b)):=by
 have hp:eX Tryz.prog 57=true:=by decide +kernel
 rw[pV (by rw[Sb]) hp]
 simp only[cF,KA,KB,eA,TK.isAgg,if_true,Bool.false_eq_true,if_false,List.getD_cons_zero,List.getD_cons_succ,List.length_cons,List.length_nil,List.drop_succ_cons,List.drop_zero,kI (Nat.le_refl 24),cP,Gl,tU UQ]
 simp[VH,LQ,Bool.decide_and]
theorem Qu(d:Nat)(a b:CA):kK Tryz.prog (d+4) 126 (.agg a.c) (.agg b.c)=some (decide (a=b)):=by
 have hp:eX Tryz.prog 126=true:=by decide +kernel
 rw[pV (by rw[UO]) hp]
 simp only[cF,KA,td3,KB,eA,TK.isAgg,if_true,Bool.false_eq_true,if_false,List.getD_cons_zero,List.getD_cons_succ,List.length_cons,List.length_nil,List.drop_succ_cons,List.drop_zero,kI (Nat.le_refl 24),cP,Gl,tU UQ,tU W9]
 simp[U0,LQ,Bool.decide_and]
abbrev IT.k(x:IT):List MV:=.int .i64 x.kd::.int .i64 x.c.id::.int .i64 x.c.ver::.int .u32 (x.c.lab.toNat:Int)::fc x.c.f
end

section
open Go.Shelf
def jM:Go.Shelf.Ren:=⟨fun|144=>296|143=>319|219=>331|217=>333|225=>334|224=>335|267=>336|266=>337|314=>338|n=>n,fun|9=>9|4=>4|3=>3|5=>5|46=>263|146=>351|51=>23|n=>n,fun|1=>1|n=>n⟩
theorem tP:Go.Proofs.LaysM.n144 Tryz.prog jM:={
  mixed:=by kernel_rfl
  f143:=Tryz.func319.trans (congrArg some (by kernel_rfl))
  f144:=Tryz.func296.trans (congrArg some (by kernel_rfl))
  f217:=Tryz.func333.trans (congrArg some (by kernel_rfl))
  f219:=Tryz.func331.trans (congrArg some (by kernel_rfl))
  f224:=Tryz.func335.trans (congrArg some (by kernel_rfl))
  f225:=Tryz.func334.trans (congrArg some (by kernel_rfl))
  f266:=Tryz.func337.trans (congrArg some (by kernel_rfl))
  f267:=Tryz.func336.trans (congrArg some (by kernel_rfl))
  f314:=Tryz.func338.trans (congrArg some (by kernel_rfl))
  t3:=Tryz.underlying3
  a3:=Tryz.isAgg3
  z3:=Tryz.sizeOf3
  v3:=Tryz.zeroValue3
  t4:=Tryz.underlying4
  a4:=Tryz.isAgg4
  z4:=Tryz.sizeOf4
  v4:=Tryz.zeroValue4
  t5:=Tryz.underlying5
  a5:=Tryz.isAgg5
  z5:=Tryz.sizeOf5
  v5:=Tryz.zeroValue5
  t9:=Tryz.underlying9
  a9:=Tryz.isAgg9
  z9:=Tryz.sizeOf9
  v9:=Tryz.zeroValue9
  t46:=Tryz.underlying263
  a46:=Tryz.isAgg263
  z46:=Tryz.sizeOf263
  v46:=Tryz.zeroValue263
  t51:=Tryz.underlying23
  a51:=Tryz.isAgg23
  z51:=Tryz.sizeOf23
  v51:=Tryz.zeroValue23
  t146:=Tryz.underlying351
  a146:=Tryz.isAgg351
  z146:=Tryz.sizeOf351
  v146:=Tryz.zeroValue351
  g1:=by kernel_rfl
  i3:=by kernel_rfl
  i4:=by kernel_rfl
  i5:=by kernel_rfl
  i9:=by kernel_rfl
  i46:=by kernel_rfl
  i51:=by kernel_rfl
  i146:=by kernel_rfl
  m1:=by kernel_rfl
  s1_3:=fun w h=>Go.Proofs.cell_of_shapedOpen_int (zero:=#[.int .i64 0]) (t:=3) h (of_decide_eq_true (by kernel_rfl)) (by kernel_rfl) rfl (by kernel_rfl) (by kernel_rfl) Tryz.underlying3 }
end
end Go.Proofs.YtppdgejjmhdjhaaGreatDoor
